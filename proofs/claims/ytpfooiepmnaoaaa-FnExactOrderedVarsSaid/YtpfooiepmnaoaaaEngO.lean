/- OrderedVars and VarBound, the reference's and the program's. -/
import Derived.Test.YtpfooiepmnaoaaaEngI
namespace Go.Proofs.Ytpfooiepmnaoaaa.E
open Go Go.RowKit Go.Proofs.Ytpfooiepmnaoaaa.X
set_option linter.unusedVariables false
set_option linter.unusedSimpArgs false
/-- The terms of a list, where all are valid. -/
theorem AllTOk.terms : ∀ {l : List LT}, AllTOk (l.map er) → ∃ ms : List Tm, l.map er = ms.map Tm.enc ∧ ∀ m ∈ ms, m.Ok ∧ m.size ≤ 5000
  | [], _ => ⟨[], rfl, fun m h => by cases h⟩
  | t :: r, h => by
    obtain ⟨m, hm, he, hz⟩ := h (er t) (by simp)
    obtain ⟨ms, h1, h2⟩ := AllTOk.terms (l := r) (fun x hx => h x (by simp at hx ⊢; exact .inr hx))
    refine ⟨m :: ms, by simp [h1, he], fun x hx => ?_⟩
    rcases List.mem_cons.1 hx with rfl | hx
    · exact ⟨hm, hz⟩
    · exact h2 x hx
theorem er_at {l : List LT} {ms : List Tm} (h : l.map er = ms.map Tm.enc) (k : Nat) (h1 : k < l.length) (h2 : k < ms.length) : er l[k] = (ms[k]).enc := by
  have h3 : (l.map er)[k]? = (ms.map Tm.enc)[k]? := by rw [h]
  simpa [h1, h2] using h3
theorem terms_len {l : List LT} {ms : List Tm} (h : l.map er = ms.map Tm.enc) : l.length = ms.length := by
  have := congrArg List.length h; simpa using this
def ovars (ms : List Tm) : List Int := ms.foldl (fun acc m => addVars acc (vars m)) []
theorem ovars_snoc (ms : List Tm) (k : Nat) (h : k < ms.length) : ovars (ms.take (k + 1)) = addVars (ovars (ms.take k)) (vars ms[k]) := by
  unfold ovars
  rw [List.take_succ_eq_append_getElem h, List.foldl_append]
  rfl
theorem ovars_len (ms : List Tm) (hz : ∀ m ∈ ms, m.Ok ∧ m.size ≤ 5000) : ∀ k, k ≤ ms.length → (ovars (ms.take k)).length ≤ 5000 * k
  | 0, _ => by simp [ovars]
  | k + 1, h => by
    rw [ovars_snoc ms k h]
    have h1 := ovars_len ms hz k (by omega)
    have h2 := addVars_len (vars ms[k]) (ovars (ms.take k))
    have h3 := vars_len ms[k]
    have h4 := (hz ms[k] (List.getElem_mem h)).2
    omega
/-- What a maker of a row of numbers hands back. -/
def RowN (l : List Int) (w : World) (u : Value) (w' : World) : Prop :=
  ∃ b' c' pad', u = .slice (some ⟨b', 0, none⟩) l.length c' ∧ IOwn w' b' c' l pad' ∧ Chg noF w w' ∧ w.heap.size ≤ b'
theorem kid_new {a : Option Addr} {c : Nat} {l : List LT} {w0 : World} {b : Nat} (ht : HT w0 (nod a c l)) (hb : w0.heap.size ≤ b) {t : LT} (h : t ∈ l) : b ∉ ft t := fun hf => by
  have := ht.lt b (tA_kid (t := nod a c l) h b hf)
  omega
set_option maxRecDepth 100000 in
set_option maxHeartbeats 4000000 in
theorem spec_OrderedVars_no (a : Option Addr) (c : Nat) (l : List LT) (w0 : World) (ht : HT w0 (nod a c l)) (hs : SmL l) (hv : ¬ AllTOk (l.map er)) : Fn Try.prog 20 [sl a l.length c] w0 fun u w' => u = .slice none 0 0 ∧ Chg noF w0 w' := by
  refine Fn.body (N := 21) Try.func20 rfl rfl rfl rfl rfl ?_
  have H : SH w0 noF w0 [] [tA (nod a c l)] := SH.start _ _ _ (by simpa [tA] using ht)
  repeat' (first
    | (with_reducible refine WC.seq ?_)
    | (with_reducible refine WC.reg ?_)
    | (with_reducible refine WC.block ?_)
    | (with_reducible refine WC.skip ?_)
    | (with_reducible refine WC.ret ?_)
    | (with_reducible refine WC.exit ?_)
    | ((with_reducible refine is_cond ?_); first | refine WC.ctrue rfl ?_ | refine WC.cfalse rfl ?_ | (refine WC.cbool rfl ?_ ?_ <;> intro hcnd))
    | (with_reducible refine WL.nilK ?_)
    | (with_reducible refine WL.nil ?_)
    | (with_reducible refine AtQ.then_norm ?_)
    | (with_reducible refine AtQ.then_ret ?_)
    | (with_reducible refine AtQ.then_exit ?_)
    | (with_reducible refine AtQ.block_ret ?_)
    | (with_reducible refine AtQ.block_norm ?_)
    | (with_reducible refine AtQ.block_here ?_)
    | (with_reducible refine AtQ.loop_ret ?_)
    | (with_reducible refine AtQ.loop_exit ?_)
    | (with_reducible refine AtQ.out_ret ?_)
    | (with_reducible refine AtQ.out_exit ?_)
    | ((with_reducible refine AtQ.block_other ?_ ?_); · exact rfl)
    | ((with_reducible refine is_call ?_); refine WL.call (vs := [sl a l.length c]) rfl (spec_l02AllOk_fn a c l _ (H.ht _ (by repeat' (first | exact List.mem_cons_self .. | apply List.mem_cons_of_mem))) hs) (by decide) ?_; intro v w hv2; obtain ⟨e1, hc1⟩ := hv2; rw [decide_eq_false hv] at e1; subst e1; have H := H.call hc1)
    | ((with_reducible refine is_move ?_); first | refine WL.y H (Y.move rfl) (by decide) ?_)
    | ((with_reducible refine is_assign ?_); first | refine WL.y H (Y.assign rfl) (by decide) ?_)
    | ((with_reducible refine is_load ?_); first | refine WL.y H (Y.loadX rfl (by repeat' (first | exact List.mem_cons_self .. | apply List.mem_cons_of_mem)) rfl) (by decide) ?_ | refine WL.y H (Y.loadXN rfl (by repeat' (first | exact List.mem_cons_self .. | apply List.mem_cons_of_mem)) rfl rfl) (by decide) ?_)
    | ((with_reducible refine is_idx ?_); first | refine WL.y H (Y.idx rfl rfl (by first | omega | (simp only [List.length_cons, List.length_nil]; done) | (simp only [List.length_cons, List.length_nil]; omega)) (by first | omega | (simp only [List.length_cons, List.length_nil]; done) | (simp only [List.length_cons, List.length_nil]; omega))) (by decide) ?_)
    | ((with_reducible refine is_len ?_); first | refine WL.y H (Y.lenS rfl) (by decide) ?_)
    | ((with_reducible refine is_add ?_); first | refine WL.y H (Y.add rfl rfl (by first | omega | (simp only [List.length_cons, List.length_nil]; done) | (simp only [List.length_cons, List.length_nil]; omega)) (by first | omega | (simp only [List.length_cons, List.length_nil]; done) | (simp only [List.length_cons, List.length_nil]; omega))) (by decide) ?_)
    | ((with_reducible refine is_not ?_); first | refine WL.y H (Y.not rfl) (by decide) ?_)
    | ((with_reducible refine is_lss ?_); first | refine WL.y H ((Y.lss rfl rfl).boolT (by first | omega | (simp only [List.length_cons, List.length_nil]; done) | (simp only [List.length_cons, List.length_nil]; omega))) (by decide) ?_ | refine WL.y H ((Y.lss rfl rfl).boolF (by first | omega | (simp only [List.length_cons, List.length_nil]; done) | (simp only [List.length_cons, List.length_nil]; omega))) (by decide) ?_ | (refine WL.cmp H (Y.lss rfl rfl) (by decide) ?_ ?_ <;> intro hcmp))
    | ((with_reducible refine is_alloc ?_); refine WL.alloc H (by decide) ?_; intro _ w H _ _ _)
    | ((with_reducible refine is_store ?_); first | (refine WL.store1 H rfl rfl rfl (by repeat' (first | exact Upd.here .. | apply Upd.there)) rfl ?_; intro w H _) | (refine WL.storeN H rfl rfl rfl rfl (by repeat' (first | exact Upd.here .. | apply Upd.there)) rfl ?_; intro w H _))
    | ((with_reducible refine is_bslice ?_); refine WL.bslice H rfl rfl rfl (by decide) ?_; intro _ w H _ _ _))
  exact AtQ.r1 (resVal.t rfl) ⟨rfl, H.chg⟩
set_option maxRecDepth 100000 in
set_option maxHeartbeats 4000000 in
theorem spec_OrderedVars_ok (a : Option Addr) (c : Nat) (l : List LT) (ms : List Tm) (w0 : World) (ht : HT w0 (nod a c l)) (hs : SmL l) (hms : l.map er = ms.map Tm.enc) (hz : ∀ m ∈ ms, m.Ok ∧ m.size ≤ 5000) : Fn Try.prog 20 [sl a l.length c] w0 (RowN (ovars ms) w0) := by
  have hv : AllTOk (l.map er) := by rw [hms]; intro x hx; obtain ⟨m, hm, rfl⟩ := List.mem_map.1 hx; exact (TOk_enc (hz m hm).1).2 (hz m hm).2
  have hlen := hs.1
  have hml := terms_len hms
  refine Fn.body (N := 21) Try.func20 rfl rfl rfl rfl rfl ?_
  have H : SH w0 noF w0 [] [tA (nod a c l)] := SH.start _ _ _ (by simpa [tA] using ht)
  repeat' (first
    | (with_reducible refine WC.seq ?_)
    | (with_reducible refine WC.reg ?_)
    | (with_reducible refine WC.block ?_)
    | (with_reducible refine WC.skip ?_)
    | (with_reducible refine WC.ret ?_)
    | (with_reducible refine WC.exit ?_)
    | ((with_reducible refine is_cond ?_); first | refine WC.ctrue rfl ?_ | refine WC.cfalse rfl ?_ | (refine WC.cbool rfl ?_ ?_ <;> intro hcnd))
    | (with_reducible refine WL.nilK ?_)
    | (with_reducible refine WL.nil ?_)
    | (with_reducible refine AtQ.then_norm ?_)
    | (with_reducible refine AtQ.then_ret ?_)
    | (with_reducible refine AtQ.then_exit ?_)
    | (with_reducible refine AtQ.block_ret ?_)
    | (with_reducible refine AtQ.block_norm ?_)
    | (with_reducible refine AtQ.block_here ?_)
    | (with_reducible refine AtQ.loop_ret ?_)
    | (with_reducible refine AtQ.loop_exit ?_)
    | (with_reducible refine AtQ.out_ret ?_)
    | (with_reducible refine AtQ.out_exit ?_)
    | ((with_reducible refine AtQ.block_other ?_ ?_); · exact rfl)
    | ((with_reducible refine is_call ?_); refine WL.call (vs := [sl a l.length c]) rfl (spec_l02AllOk_fn a c l _ (H.ht _ (by repeat' (first | exact List.mem_cons_self .. | apply List.mem_cons_of_mem))) hs) (by decide) ?_; intro v w hv2; obtain ⟨e1, hc1⟩ := hv2; rw [decide_eq_true hv] at e1; subst e1; have hs0 := H.chg.size; have hs1 := hc1.size; have H := H.call hc1)
    | ((with_reducible refine is_bslice ?_); refine WL.bslice H rfl rfl rfl (by decide) ?_; intro b w H hb _ _)
    | ((with_reducible refine is_move ?_); first | refine WL.y H (Y.move rfl) (by decide) ?_)
    | ((with_reducible refine is_assign ?_); first | refine WL.y H (Y.assign rfl) (by decide) ?_)
    | ((with_reducible refine is_load ?_); first | refine WL.y H (Y.loadX rfl (by repeat' (first | exact List.mem_cons_self .. | apply List.mem_cons_of_mem)) rfl) (by decide) ?_ | refine WL.y H (Y.loadXN rfl (by repeat' (first | exact List.mem_cons_self .. | apply List.mem_cons_of_mem)) rfl rfl) (by decide) ?_)
    | ((with_reducible refine is_idx ?_); first | refine WL.y H (Y.idx rfl rfl (by first | omega | (simp only [List.length_cons, List.length_nil]; done) | (simp only [List.length_cons, List.length_nil]; omega)) (by first | omega | (simp only [List.length_cons, List.length_nil]; done) | (simp only [List.length_cons, List.length_nil]; omega))) (by decide) ?_)
    | ((with_reducible refine is_len ?_); first | refine WL.y H (Y.lenS rfl) (by decide) ?_)
    | ((with_reducible refine is_add ?_); first | refine WL.y H (Y.add rfl rfl (by first | omega | (simp only [List.length_cons, List.length_nil]; done) | (simp only [List.length_cons, List.length_nil]; omega)) (by first | omega | (simp only [List.length_cons, List.length_nil]; done) | (simp only [List.length_cons, List.length_nil]; omega))) (by decide) ?_)
    | ((with_reducible refine is_not ?_); first | refine WL.y H (Y.not rfl) (by decide) ?_)
    | ((with_reducible refine is_lss ?_); first | refine WL.y H ((Y.lss rfl rfl).boolT (by first | omega | (simp only [List.length_cons, List.length_nil]; done) | (simp only [List.length_cons, List.length_nil]; omega))) (by decide) ?_ | refine WL.y H ((Y.lss rfl rfl).boolF (by first | omega | (simp only [List.length_cons, List.length_nil]; done) | (simp only [List.length_cons, List.length_nil]; omega))) (by decide) ?_ | (refine WL.cmp H (Y.lss rfl rfl) (by decide) ?_ ?_ <;> intro hcmp))
    | ((with_reducible refine is_alloc ?_); refine WL.alloc H (by decide) ?_; intro _ w H _ _ _)
    | ((with_reducible refine is_store ?_); first | (refine WL.store1 H rfl rfl rfl (by repeat' (first | exact Upd.here .. | apply Upd.there)) rfl ?_; intro w H _) | (refine WL.storeN H rfl rfl rfl rfl (by repeat' (first | exact Upd.here .. | apply Upd.there)) rfl ?_; intro w H _))
    | ((with_reducible refine is_bslice ?_); refine WL.bslice H rfl rfl rfl (by decide) ?_; intro _ w H _ _ _))
  refine WC.loop (σ := Nat × Nat × Nat × List Value) (fun s => [(3, .slice (some ⟨s.2.1, 0, none⟩) (ovars (ms.take s.1)).length s.2.2.1), (10, sl a l.length c), (11, .int .i64 l.length), (12, .int .i64 (s.1 : Nat))])
    (fun s w' => s.1 ≤ l.length ∧ IOwn w' s.2.1 s.2.2.1 (ovars (ms.take s.1)) s.2.2.2 ∧ w0.heap.size ≤ s.2.1 ∧ SH w0 noF w' [(s.2.1, .cells (ic (ovars (ms.take s.1)) ++ s.2.2.2).toArray 3 (0, 0))] [tA (nod a c l)])
    (fun s => l.length - s.1) (0, b, 0, []) (by repeat' (first | exact Sub.nil | refine Sub.cons rfl ?_)) ⟨Nat.zero_le _, ⟨H.blk (by repeat' (first | exact List.mem_cons_self .. | apply List.mem_cons_of_mem)), rfl⟩, (by simp only; omega), H⟩ (fun s w hinv => ?_)
  obtain ⟨k, b1, c1, pad1⟩ := s
  obtain ⟨hk, ho1, hb1, H⟩ := hinv
  simp only at hk ho1 hb1 H
  by_cases hlt : k < l.length
  · obtain ⟨tb, tto, cs, T, fz, ha, _, _⟩ := (H.ht (nod a c l) (by repeat' (first | exact List.mem_cons_self .. | apply List.mem_cons_of_mem))).row (by intro e; rw [show (nod a c l).l = l from rfl] at e; rw [e] at hlt; simp at hlt)
    simp only at ha
    subst ha
    have hmk : k < ms.length := by omega
    have hzk := hz ms[k] (List.getElem_mem hmk)
    have hol := ovars_len ms hz k (by omega)
    repeat' (first
      | (with_reducible refine WC.seq ?_)
      | (with_reducible refine WC.reg ?_)
      | (with_reducible refine WC.block ?_)
      | (with_reducible refine WC.skip ?_)
      | (with_reducible refine WC.ret ?_)
      | (with_reducible refine WC.exit ?_)
      | ((with_reducible refine is_cond ?_); first | refine WC.ctrue rfl ?_ | refine WC.cfalse rfl ?_ | (refine WC.cbool rfl ?_ ?_ <;> intro hcnd))
      | (with_reducible refine WL.nilK ?_)
      | (with_reducible refine WL.nil ?_)
      | (with_reducible refine AtQ.then_norm ?_)
      | (with_reducible refine AtQ.then_ret ?_)
      | (with_reducible refine AtQ.then_exit ?_)
      | (with_reducible refine AtQ.block_ret ?_)
      | (with_reducible refine AtQ.block_norm ?_)
      | (with_reducible refine AtQ.block_here ?_)
      | (with_reducible refine AtQ.loop_ret ?_)
      | (with_reducible refine AtQ.loop_exit ?_)
      | (with_reducible refine AtQ.out_ret ?_)
      | (with_reducible refine AtQ.out_exit ?_)
      | ((with_reducible refine AtQ.block_other ?_ ?_); · exact rfl)
      | ((with_reducible refine is_call ?_); have hs0 := H.chg.size; refine WL.call (vs := [tv l[k], .slice (some ⟨b1, 0, none⟩) (ovars (ms.take k)).length c1]) rfl (spec_l07Order_ok ms[k] l[k] (ovars (ms.take k)) b1 c1 pad1 _ (er_at hms k hlt hmk) ((H.ht (nod _ c l) (by repeat' (first | exact List.mem_cons_self .. | apply List.mem_cons_of_mem))).kid _ (List.getElem_mem hlt)) ⟨H.blk (by repeat' (first | exact List.mem_cons_self .. | apply List.mem_cons_of_mem)), ho1.2⟩ (kid_new ht hb1 (List.getElem_mem hlt)) (by omega)) (by decide) ?_; intro v w2 hv2; rw [← ovars_snoc ms k hmk] at hv2; obtain ⟨b2, c2, pad2, e1, ho2, hc1, hb2⟩ := hv2; subst e1; have hs1 := hc1.size; have H := H.row (by repeat' (first | exact Rem.here .. | apply Rem.there)) hc1 ho2.1 hb2)
      | ((with_reducible refine is_move ?_); first | refine WL.y H (Y.move rfl) (by decide) ?_)
      | ((with_reducible refine is_assign ?_); first | refine WL.y H (Y.assign rfl) (by decide) ?_)
      | ((with_reducible refine is_load ?_); first | refine WL.y H (Y.loadX rfl (by repeat' (first | exact List.mem_cons_self .. | apply List.mem_cons_of_mem)) rfl) (by decide) ?_ | refine WL.y H (Y.loadXN rfl (by repeat' (first | exact List.mem_cons_self .. | apply List.mem_cons_of_mem)) rfl rfl) (by decide) ?_ | refine WL.y H (Y.loadSN (vs := tcs l[k]) rfl (by repeat' (first | exact List.mem_cons_self .. | apply List.mem_cons_of_mem)) (tA_readsK (i := k) l[k] rfl (List.getElem?_eq_getElem hlt)) rfl) (by decide) ?_)
      | ((with_reducible refine is_idx ?_); first | refine WL.y H (Y.idx rfl rfl (by first | omega | (simp only [List.length_cons, List.length_nil]; done) | (simp only [List.length_cons, List.length_nil]; omega)) (by first | omega | (simp only [List.length_cons, List.length_nil]; done) | (simp only [List.length_cons, List.length_nil]; omega))) (by decide) ?_)
      | ((with_reducible refine is_len ?_); first | refine WL.y H (Y.lenS rfl) (by decide) ?_)
      | ((with_reducible refine is_add ?_); first | refine WL.y H (Y.add rfl rfl (by first | omega | (simp only [List.length_cons, List.length_nil]; done) | (simp only [List.length_cons, List.length_nil]; omega)) (by first | omega | (simp only [List.length_cons, List.length_nil]; done) | (simp only [List.length_cons, List.length_nil]; omega))) (by decide) ?_)
      | ((with_reducible refine is_not ?_); first | refine WL.y H (Y.not rfl) (by decide) ?_)
      | ((with_reducible refine is_lss ?_); first | refine WL.y H ((Y.lss rfl rfl).boolT (by first | omega | (simp only [List.length_cons, List.length_nil]; done) | (simp only [List.length_cons, List.length_nil]; omega))) (by decide) ?_ | refine WL.y H ((Y.lss rfl rfl).boolF (by first | omega | (simp only [List.length_cons, List.length_nil]; done) | (simp only [List.length_cons, List.length_nil]; omega))) (by decide) ?_ | (refine WL.cmp H (Y.lss rfl rfl) (by decide) ?_ ?_ <;> intro hcmp))
      | ((with_reducible refine is_alloc ?_); refine WL.alloc H (by decide) ?_; intro _ w H _ _ _)
      | ((with_reducible refine is_store ?_); first | (refine WL.store1 H rfl rfl rfl (by repeat' (first | exact Upd.here .. | apply Upd.there)) rfl ?_; intro w H _) | (refine WL.storeN H rfl rfl rfl rfl (by repeat' (first | exact Upd.here .. | apply Upd.there)) rfl ?_; intro w H _))
      | ((with_reducible refine is_bslice ?_); refine WL.bslice H rfl rfl rfl (by decide) ?_; intro _ w H _ _ _))
    exact AtQ.loop_norm (k + 1, b2, c2, pad2) (by repeat' (first | exact Sub.nil | refine Sub.cons rfl ?_)) ⟨hlt, ho2, (by rcases hb2 with e | e; exact e ▸ hb1; simp only; omega), H.dropX (.cons_cons _ (List.nil_sublist _))⟩ (by simp only; omega)
  · repeat' (first
      | (with_reducible refine WC.seq ?_)
      | (with_reducible refine WC.reg ?_)
      | (with_reducible refine WC.block ?_)
      | (with_reducible refine WC.skip ?_)
      | (with_reducible refine WC.ret ?_)
      | (with_reducible refine WC.exit ?_)
      | ((with_reducible refine is_cond ?_); first | refine WC.ctrue rfl ?_ | refine WC.cfalse rfl ?_ | (refine WC.cbool rfl ?_ ?_ <;> intro hcnd))
      | (with_reducible refine WL.nilK ?_)
      | (with_reducible refine WL.nil ?_)
      | (with_reducible refine AtQ.then_norm ?_)
      | (with_reducible refine AtQ.then_ret ?_)
      | (with_reducible refine AtQ.then_exit ?_)
      | (with_reducible refine AtQ.block_ret ?_)
      | (with_reducible refine AtQ.block_norm ?_)
      | (with_reducible refine AtQ.block_here ?_)
      | (with_reducible refine AtQ.loop_ret ?_)
      | (with_reducible refine AtQ.loop_exit ?_)
      | (with_reducible refine AtQ.out_ret ?_)
      | (with_reducible refine AtQ.out_exit ?_)
      | ((with_reducible refine AtQ.block_other ?_ ?_); · exact rfl)
      | ((with_reducible refine is_move ?_); first | refine WL.y H (Y.move rfl) (by decide) ?_)
      | ((with_reducible refine is_assign ?_); first | refine WL.y H (Y.assign rfl) (by decide) ?_)
      | ((with_reducible refine is_load ?_); first | refine WL.y H (Y.loadX rfl (by repeat' (first | exact List.mem_cons_self .. | apply List.mem_cons_of_mem)) rfl) (by decide) ?_ | refine WL.y H (Y.loadXN rfl (by repeat' (first | exact List.mem_cons_self .. | apply List.mem_cons_of_mem)) rfl rfl) (by decide) ?_)
      | ((with_reducible refine is_idx ?_); first | refine WL.y H (Y.idx rfl rfl (by first | omega | (simp only [List.length_cons, List.length_nil]; done) | (simp only [List.length_cons, List.length_nil]; omega)) (by first | omega | (simp only [List.length_cons, List.length_nil]; done) | (simp only [List.length_cons, List.length_nil]; omega))) (by decide) ?_)
      | ((with_reducible refine is_len ?_); first | refine WL.y H (Y.lenS rfl) (by decide) ?_)
      | ((with_reducible refine is_add ?_); first | refine WL.y H (Y.add rfl rfl (by first | omega | (simp only [List.length_cons, List.length_nil]; done) | (simp only [List.length_cons, List.length_nil]; omega)) (by first | omega | (simp only [List.length_cons, List.length_nil]; done) | (simp only [List.length_cons, List.length_nil]; omega))) (by decide) ?_)
      | ((with_reducible refine is_not ?_); first | refine WL.y H (Y.not rfl) (by decide) ?_)
      | ((with_reducible refine is_lss ?_); first | refine WL.y H ((Y.lss rfl rfl).boolT (by first | omega | (simp only [List.length_cons, List.length_nil]; done) | (simp only [List.length_cons, List.length_nil]; omega))) (by decide) ?_ | refine WL.y H ((Y.lss rfl rfl).boolF (by first | omega | (simp only [List.length_cons, List.length_nil]; done) | (simp only [List.length_cons, List.length_nil]; omega))) (by decide) ?_ | (refine WL.cmp H (Y.lss rfl rfl) (by decide) ?_ ?_ <;> intro hcmp))
      | ((with_reducible refine is_alloc ?_); refine WL.alloc H (by decide) ?_; intro _ w H _ _ _)
      | ((with_reducible refine is_store ?_); first | (refine WL.store1 H rfl rfl rfl (by repeat' (first | exact Upd.here .. | apply Upd.there)) rfl ?_; intro w H _) | (refine WL.storeN H rfl rfl rfl rfl (by repeat' (first | exact Upd.here .. | apply Upd.there)) rfl ?_; intro w H _))
      | ((with_reducible refine is_bslice ?_); refine WL.bslice H rfl rfl rfl (by decide) ?_; intro _ w H _ _ _))
    have e : ms.take k = ms := List.take_of_length_le (by omega)
    rw [e] at ho1 H ⊢
    exact AtQ.r1 (resVal.t rfl) ⟨b1, c1, pad1, rfl, ⟨H.blk (by repeat' (first | exact List.mem_cons_self .. | apply List.mem_cons_of_mem)), ho1.2⟩, H.chg, hb1⟩
/-- One above the greatest, 0 if there is none. -/
def top (l : List Int) : Int := l.foldl (fun n v => max n (v + 1)) 0
theorem top_from : ∀ (l : List Int) (n : Int), l.foldl (fun n v => max n (v + 1)) n = max n (l.foldl (fun n v => max n (v + 1)) n)
  | [], n => by simp
  | v :: r, n => by
    simp only [List.foldl_cons]
    have h1 := top_from r (max n (v + 1))
    omega
theorem top_mem {l : List Int} {v : Int} (h : v ∈ l) (n : Int) : v + 1 ≤ l.foldl (fun n v => max n (v + 1)) n := by
  induction l generalizing n with
  | nil => cases h
  | cons u r ih =>
    simp only [List.foldl_cons]
    rcases List.mem_cons.1 h with rfl | h
    · have := top_from r (max n (v + 1)); omega
    · exact ih h _
theorem top_addVar (l : List Int) (v : Int) : top (addVar l v) = max (top l) (v + 1) := by
  unfold addVar
  split
  · rename_i h
    have := top_mem h 0
    unfold top
    omega
  · simp [top, List.foldl_append]
theorem top_addVars : ∀ (vs l : List Int), top (addVars l vs) = vs.foldl (fun n v => max n (v + 1)) (top l)
  | [], l => rfl
  | v :: r, l => by
    simp only [addVars, List.foldl_cons]
    have := top_addVars r (addVar l v)
    rw [top_addVar] at this
    exact this
theorem vars_rng : ∀ (m : Tm), m.Ok → ∀ v ∈ vars m, 0 ≤ v ∧ v ≤ 100000
  | .var n, h => by intro v hv; simp [vars] at hv; subst hv; exact h
  | .pair a b, h => by
    intro v hv
    rcases List.mem_append.1 hv with hv | hv
    · exact vars_rng a h.1 v hv
    · exact vars_rng b h.2 v hv
  | .nil, _ | .sym _, _ | .int _, _ => by intro v hv; cases hv
theorem addVars_rng : ∀ (vs l : List Int), (∀ v ∈ l, 0 ≤ v ∧ v ≤ 100000) → (∀ v ∈ vs, 0 ≤ v ∧ v ≤ 100000) → ∀ v ∈ addVars l vs, 0 ≤ v ∧ v ≤ 100000
  | [], l, h, _ => h
  | u :: r, l, h, h2 => by
    refine addVars_rng r (addVar l u) ?_ (fun v hv => h2 v (List.mem_cons_of_mem _ hv))
    intro v hv
    unfold addVar at hv
    split at hv
    · exact h v hv
    · rcases List.mem_append.1 hv with hv | hv
      · exact h v hv
      · rw [List.mem_singleton.1 hv]; exact h2 u (List.mem_cons_self ..)
theorem ovars_rng (ms : List Tm) (hz : ∀ m ∈ ms, m.Ok ∧ m.size ≤ 5000) : ∀ k, k ≤ ms.length → ∀ v ∈ ovars (ms.take k), 0 ≤ v ∧ v ≤ 100000
  | 0, _ => by simp [ovars]
  | k + 1, h => by
    rw [ovars_snoc ms k h]
    exact addVars_rng _ _ (ovars_rng ms hz k (by omega)) (vars_rng _ (hz _ (List.getElem_mem h)).1)
theorem top_rng {l : List Int} (h : ∀ v ∈ l, 0 ≤ v ∧ v ≤ 100000) : 0 ≤ top l ∧ top l ≤ 100001 := by
  have key : ∀ (l : List Int) (n : Int), (∀ v ∈ l, 0 ≤ v ∧ v ≤ 100000) → 0 ≤ n → n ≤ 100001 → 0 ≤ l.foldl (fun n v => max n (v + 1)) n ∧ l.foldl (fun n v => max n (v + 1)) n ≤ 100001 := by
    intro l
    induction l with
    | nil => intro n _ h0 h1; exact ⟨h0, h1⟩
    | cons v r ih =>
      intro n h h0 h1
      have hv := h v (List.mem_cons_self ..)
      exact ih _ (fun u hu => h u (List.mem_cons_of_mem _ hu)) (by show 0 ≤ max n (v + 1); omega) (by show max n (v + 1) ≤ 100001; omega)
  exact key l 0 h (by decide) (by decide)
set_option maxRecDepth 100000 in
set_option maxHeartbeats 4000000 in
theorem spec_VarBound_no (a : Option Addr) (c : Nat) (l : List LT) (w0 : World) (ht : HT w0 (nod a c l)) (hs : SmL l) (hv : ¬ AllTOk (l.map er)) : Fn Try.prog 16 [sl a l.length c] w0 fun u w' => u = .int .i64 (-1) ∧ Chg noF w0 w' := by
  refine Fn.body (N := 23) Try.func16 rfl rfl rfl rfl rfl ?_
  have H : SH w0 noF w0 [] [tA (nod a c l)] := SH.start _ _ _ (by simpa [tA] using ht)
  repeat' (first
    | (with_reducible refine WC.seq ?_)
    | (with_reducible refine WC.reg ?_)
    | (with_reducible refine WC.block ?_)
    | (with_reducible refine WC.skip ?_)
    | (with_reducible refine WC.ret ?_)
    | (with_reducible refine WC.exit ?_)
    | ((with_reducible refine is_cond ?_); first | refine WC.ctrue rfl ?_ | refine WC.cfalse rfl ?_ | (refine WC.cbool rfl ?_ ?_ <;> intro hcnd))
    | (with_reducible refine WL.nilK ?_)
    | (with_reducible refine WL.nil ?_)
    | (with_reducible refine AtQ.then_norm ?_)
    | (with_reducible refine AtQ.then_ret ?_)
    | (with_reducible refine AtQ.then_exit ?_)
    | (with_reducible refine AtQ.block_ret ?_)
    | (with_reducible refine AtQ.block_norm ?_)
    | (with_reducible refine AtQ.block_here ?_)
    | (with_reducible refine AtQ.loop_ret ?_)
    | (with_reducible refine AtQ.loop_exit ?_)
    | (with_reducible refine AtQ.out_ret ?_)
    | (with_reducible refine AtQ.out_exit ?_)
    | ((with_reducible refine AtQ.block_other ?_ ?_); · exact rfl)
    | ((with_reducible refine is_call ?_); refine WL.call (vs := [sl a l.length c]) rfl (spec_l02AllOk_fn a c l _ (H.ht _ (by repeat' (first | exact List.mem_cons_self .. | apply List.mem_cons_of_mem))) hs) (by decide) ?_; intro v w hv2; obtain ⟨e1, hc1⟩ := hv2; rw [decide_eq_false hv] at e1; subst e1; have H := H.call hc1)
    | ((with_reducible refine is_move ?_); first | refine WL.y H (Y.move rfl) (by decide) ?_)
    | ((with_reducible refine is_assign ?_); first | refine WL.y H (Y.assign rfl) (by decide) ?_)
    | ((with_reducible refine is_load ?_); first | refine WL.y H (Y.loadX rfl (by repeat' (first | exact List.mem_cons_self .. | apply List.mem_cons_of_mem)) rfl) (by decide) ?_ | refine WL.y H (Y.loadXN rfl (by repeat' (first | exact List.mem_cons_self .. | apply List.mem_cons_of_mem)) rfl rfl) (by decide) ?_)
    | ((with_reducible refine is_idx ?_); first | refine WL.y H (Y.idx rfl rfl (by first | omega | (simp only [List.length_cons, List.length_nil]; done) | (simp only [List.length_cons, List.length_nil]; omega)) (by first | omega | (simp only [List.length_cons, List.length_nil]; done) | (simp only [List.length_cons, List.length_nil]; omega))) (by decide) ?_)
    | ((with_reducible refine is_len ?_); first | refine WL.y H (Y.lenS rfl) (by decide) ?_)
    | ((with_reducible refine is_add ?_); first | refine WL.y H (Y.add rfl rfl (by first | omega | (simp only [List.length_cons, List.length_nil]; done) | (simp only [List.length_cons, List.length_nil]; omega)) (by first | omega | (simp only [List.length_cons, List.length_nil]; done) | (simp only [List.length_cons, List.length_nil]; omega))) (by decide) ?_)
    | ((with_reducible refine is_not ?_); first | refine WL.y H (Y.not rfl) (by decide) ?_)
    | ((with_reducible refine is_lss ?_); first | refine WL.y H ((Y.lss rfl rfl).boolT (by first | omega | (simp only [List.length_cons, List.length_nil]; done) | (simp only [List.length_cons, List.length_nil]; omega))) (by decide) ?_ | refine WL.y H ((Y.lss rfl rfl).boolF (by first | omega | (simp only [List.length_cons, List.length_nil]; done) | (simp only [List.length_cons, List.length_nil]; omega))) (by decide) ?_ | (refine WL.cmp H (Y.lss rfl rfl) (by decide) ?_ ?_ <;> intro hcmp))
    | ((with_reducible refine is_geq ?_); first | refine WL.y H ((Y.geq rfl rfl).boolT (by first | omega | (simp only [List.length_cons, List.length_nil]; done) | (simp only [List.length_cons, List.length_nil]; omega))) (by decide) ?_ | refine WL.y H ((Y.geq rfl rfl).boolF (by first | omega | (simp only [List.length_cons, List.length_nil]; done) | (simp only [List.length_cons, List.length_nil]; omega))) (by decide) ?_ | (refine WL.cmp H (Y.geq rfl rfl) (by decide) ?_ ?_ <;> intro hcmp)))
  exact AtQ.r1 (resVal.t rfl) ⟨rfl, H.chg⟩
set_option maxRecDepth 100000 in
set_option maxHeartbeats 4000000 in
theorem spec_VarBound_ok (a : Option Addr) (c : Nat) (l : List LT) (ms : List Tm) (w0 : World) (ht : HT w0 (nod a c l)) (hs : SmL l) (hms : l.map er = ms.map Tm.enc) (hz : ∀ m ∈ ms, m.Ok ∧ m.size ≤ 5000) : Fn Try.prog 16 [sl a l.length c] w0 fun u w' => u = .int .i64 (top (ovars ms)) ∧ Chg noF w0 w' := by
  have hv : AllTOk (l.map er) := by rw [hms]; intro x hx; obtain ⟨m, hm, rfl⟩ := List.mem_map.1 hx; exact (TOk_enc (hz m hm).1).2 (hz m hm).2
  have hlen := hs.1
  have hml := terms_len hms
  have hol := ovars_len ms hz ms.length (Nat.le_refl _)
  have hrg := ovars_rng ms hz ms.length (Nat.le_refl _)
  rw [List.take_length] at hol hrg
  refine Fn.body (N := 23) Try.func16 rfl rfl rfl rfl rfl ?_
  have H : SH w0 noF w0 [] [tA (nod a c l)] := SH.start _ _ _ (by simpa [tA] using ht)
  repeat' (first
    | (with_reducible refine WC.seq ?_)
    | (with_reducible refine WC.reg ?_)
    | (with_reducible refine WC.block ?_)
    | (with_reducible refine WC.skip ?_)
    | (with_reducible refine WC.ret ?_)
    | (with_reducible refine WC.exit ?_)
    | ((with_reducible refine is_cond ?_); first | refine WC.ctrue rfl ?_ | refine WC.cfalse rfl ?_ | (refine WC.cbool rfl ?_ ?_ <;> intro hcnd))
    | (with_reducible refine WL.nilK ?_)
    | (with_reducible refine WL.nil ?_)
    | (with_reducible refine AtQ.then_norm ?_)
    | (with_reducible refine AtQ.then_ret ?_)
    | (with_reducible refine AtQ.then_exit ?_)
    | (with_reducible refine AtQ.block_ret ?_)
    | (with_reducible refine AtQ.block_norm ?_)
    | (with_reducible refine AtQ.block_here ?_)
    | (with_reducible refine AtQ.loop_ret ?_)
    | (with_reducible refine AtQ.loop_exit ?_)
    | (with_reducible refine AtQ.out_ret ?_)
    | (with_reducible refine AtQ.out_exit ?_)
    | ((with_reducible refine AtQ.block_other ?_ ?_); · exact rfl)
    | ((with_reducible refine is_call ?_); refine WL.call (vs := [sl a l.length c]) rfl (spec_l02AllOk_fn a c l _ (H.ht _ (by repeat' (first | exact List.mem_cons_self .. | apply List.mem_cons_of_mem))) hs) (by decide) ?_; intro v w hv2; obtain ⟨e1, hc1⟩ := hv2; rw [decide_eq_true hv] at e1; subst e1; have H := H.call hc1)
    | ((with_reducible refine is_call ?_); refine WL.call (vs := [sl a l.length c]) rfl (spec_OrderedVars_ok a c l ms _ (H.ht _ (by repeat' (first | exact List.mem_cons_self .. | apply List.mem_cons_of_mem))) hs hms hz) (by decide) ?_; intro v w hv2; obtain ⟨b, c1, pad, e1, ho, hc1, hb⟩ := hv2; subst e1; have H := H.made hc1 (iA (some ⟨b, 0, none⟩) (ovars ms)) ho.iA (fun z hz => by obtain ⟨_, rfl⟩ := hz; exact hb))
    | ((with_reducible refine is_move ?_); first | refine WL.y H (Y.move rfl) (by decide) ?_)
    | ((with_reducible refine is_assign ?_); first | refine WL.y H (Y.assign rfl) (by decide) ?_)
    | ((with_reducible refine is_load ?_); first | refine WL.y H (Y.loadX rfl (by repeat' (first | exact List.mem_cons_self .. | apply List.mem_cons_of_mem)) rfl) (by decide) ?_ | refine WL.y H (Y.loadXN rfl (by repeat' (first | exact List.mem_cons_self .. | apply List.mem_cons_of_mem)) rfl rfl) (by decide) ?_)
    | ((with_reducible refine is_idx ?_); first | refine WL.y H (Y.idx rfl rfl (by first | omega | (simp only [List.length_cons, List.length_nil]; done) | (simp only [List.length_cons, List.length_nil]; omega)) (by first | omega | (simp only [List.length_cons, List.length_nil]; done) | (simp only [List.length_cons, List.length_nil]; omega))) (by decide) ?_)
    | ((with_reducible refine is_len ?_); first | refine WL.y H (Y.lenS rfl) (by decide) ?_)
    | ((with_reducible refine is_add ?_); first | refine WL.y H (Y.add rfl rfl (by first | omega | (simp only [List.length_cons, List.length_nil]; done) | (simp only [List.length_cons, List.length_nil]; omega)) (by first | omega | (simp only [List.length_cons, List.length_nil]; done) | (simp only [List.length_cons, List.length_nil]; omega))) (by decide) ?_)
    | ((with_reducible refine is_not ?_); first | refine WL.y H (Y.not rfl) (by decide) ?_)
    | ((with_reducible refine is_lss ?_); first | refine WL.y H ((Y.lss rfl rfl).boolT (by first | omega | (simp only [List.length_cons, List.length_nil]; done) | (simp only [List.length_cons, List.length_nil]; omega))) (by decide) ?_ | refine WL.y H ((Y.lss rfl rfl).boolF (by first | omega | (simp only [List.length_cons, List.length_nil]; done) | (simp only [List.length_cons, List.length_nil]; omega))) (by decide) ?_ | (refine WL.cmp H (Y.lss rfl rfl) (by decide) ?_ ?_ <;> intro hcmp))
    | ((with_reducible refine is_geq ?_); first | refine WL.y H ((Y.geq rfl rfl).boolT (by first | omega | (simp only [List.length_cons, List.length_nil]; done) | (simp only [List.length_cons, List.length_nil]; omega))) (by decide) ?_ | refine WL.y H ((Y.geq rfl rfl).boolF (by first | omega | (simp only [List.length_cons, List.length_nil]; done) | (simp only [List.length_cons, List.length_nil]; omega))) (by decide) ?_ | (refine WL.cmp H (Y.geq rfl rfl) (by decide) ?_ ?_ <;> intro hcmp)))
  refine WC.loop (σ := Nat) (fun k => [(3, .int .i64 (top ((ovars ms).take k))), (10, .slice (some ⟨b, 0, none⟩) (ovars ms).length c1), (11, .int .i64 (ovars ms).length), (12, .int .i64 (k : Nat))])
    (fun k w' => k ≤ (ovars ms).length ∧ SH w0 noF w' [] [iA (some ⟨b, 0, none⟩) (ovars ms)]) (fun k => (ovars ms).length - k) 0 (by repeat' (first | exact Sub.nil | refine Sub.cons rfl ?_)) ⟨Nat.zero_le _, H.dropS (by intro A hA; simp only [List.mem_cons, List.not_mem_nil, or_false] at hA ⊢; exact .inl hA)⟩ (fun k w hinv => ?_)
  obtain ⟨hk, H⟩ := hinv
  by_cases hlt : k < (ovars ms).length
  · have hr := hrg _ (List.getElem_mem hlt)
    have ht1 := top_rng (l := (ovars ms).take k) (fun v hv => hrg v (List.mem_of_mem_take hv))
    have et : top ((ovars ms).take (k + 1)) = max (top ((ovars ms).take k)) ((ovars ms)[k] + 1) := by
      unfold top; rw [List.take_succ_eq_append_getElem hlt, List.foldl_append]; rfl
    by_cases hge : top ((ovars ms).take k) ≤ (ovars ms)[k]
    · repeat' (first
        | (with_reducible refine WC.seq ?_)
        | (with_reducible refine WC.reg ?_)
        | (with_reducible refine WC.block ?_)
        | (with_reducible refine WC.skip ?_)
        | (with_reducible refine WC.ret ?_)
        | (with_reducible refine WC.exit ?_)
        | ((with_reducible refine is_cond ?_); first | refine WC.ctrue rfl ?_ | refine WC.cfalse rfl ?_ | (refine WC.cbool rfl ?_ ?_ <;> intro hcnd))
        | (with_reducible refine WL.nilK ?_)
        | (with_reducible refine WL.nil ?_)
        | (with_reducible refine AtQ.then_norm ?_)
        | (with_reducible refine AtQ.then_ret ?_)
        | (with_reducible refine AtQ.then_exit ?_)
        | (with_reducible refine AtQ.block_ret ?_)
        | (with_reducible refine AtQ.block_norm ?_)
        | (with_reducible refine AtQ.block_here ?_)
        | (with_reducible refine AtQ.loop_ret ?_)
        | (with_reducible refine AtQ.loop_exit ?_)
        | (with_reducible refine AtQ.out_ret ?_)
        | (with_reducible refine AtQ.out_exit ?_)
        | ((with_reducible refine AtQ.block_other ?_ ?_); · exact rfl)
        | ((with_reducible refine is_move ?_); first | refine WL.y H (Y.move rfl) (by decide) ?_)
        | ((with_reducible refine is_assign ?_); first | refine WL.y H (Y.assign rfl) (by decide) ?_)
        | ((with_reducible refine is_load ?_); first | refine WL.y H (Y.loadX rfl (by repeat' (first | exact List.mem_cons_self .. | apply List.mem_cons_of_mem)) rfl) (by decide) ?_ | refine WL.y H (Y.loadXN rfl (by repeat' (first | exact List.mem_cons_self .. | apply List.mem_cons_of_mem)) rfl rfl) (by decide) ?_ | refine WL.y H (Y.loadS rfl (by repeat' (first | exact List.mem_cons_self .. | apply List.mem_cons_of_mem)) (iA_reads (i := k) (ovars ms)[k] (List.getElem?_eq_getElem hlt))) (by decide) ?_)
        | ((with_reducible refine is_idx ?_); first | refine WL.y H (Y.idx rfl rfl (by first | omega | (simp only [List.length_cons, List.length_nil]; done) | (simp only [List.length_cons, List.length_nil]; omega)) (by first | omega | (simp only [List.length_cons, List.length_nil]; done) | (simp only [List.length_cons, List.length_nil]; omega))) (by decide) ?_)
        | ((with_reducible refine is_len ?_); first | refine WL.y H (Y.lenS rfl) (by decide) ?_)
        | ((with_reducible refine is_add ?_); first | refine WL.y H (Y.add rfl rfl (by first | omega | (simp only [List.length_cons, List.length_nil]; done) | (simp only [List.length_cons, List.length_nil]; omega)) (by first | omega | (simp only [List.length_cons, List.length_nil]; done) | (simp only [List.length_cons, List.length_nil]; omega))) (by decide) ?_)
        | ((with_reducible refine is_not ?_); first | refine WL.y H (Y.not rfl) (by decide) ?_)
        | ((with_reducible refine is_lss ?_); first | refine WL.y H ((Y.lss rfl rfl).boolT (by first | omega | (simp only [List.length_cons, List.length_nil]; done) | (simp only [List.length_cons, List.length_nil]; omega))) (by decide) ?_ | refine WL.y H ((Y.lss rfl rfl).boolF (by first | omega | (simp only [List.length_cons, List.length_nil]; done) | (simp only [List.length_cons, List.length_nil]; omega))) (by decide) ?_ | (refine WL.cmp H (Y.lss rfl rfl) (by decide) ?_ ?_ <;> intro hcmp))
        | ((with_reducible refine is_geq ?_); first | refine WL.y H ((Y.geq rfl rfl).boolT (by first | omega | (simp only [List.length_cons, List.length_nil]; done) | (simp only [List.length_cons, List.length_nil]; omega))) (by decide) ?_ | refine WL.y H ((Y.geq rfl rfl).boolF (by first | omega | (simp only [List.length_cons, List.length_nil]; done) | (simp only [List.length_cons, List.length_nil]; omega))) (by decide) ?_ | (refine WL.cmp H (Y.geq rfl rfl) (by decide) ?_ ?_ <;> intro hcmp)))
      refine AtQ.loop_norm (k + 1) ?_ ⟨hlt, H⟩ (by omega)
      rw [et, show max (top ((ovars ms).take k)) ((ovars ms)[k] + 1) = (ovars ms)[k] + 1 by omega]
      exact (by repeat' (first | exact Sub.nil | refine Sub.cons rfl ?_))
    · repeat' (first
        | (with_reducible refine WC.seq ?_)
        | (with_reducible refine WC.reg ?_)
        | (with_reducible refine WC.block ?_)
        | (with_reducible refine WC.skip ?_)
        | (with_reducible refine WC.ret ?_)
        | (with_reducible refine WC.exit ?_)
        | ((with_reducible refine is_cond ?_); first | refine WC.ctrue rfl ?_ | refine WC.cfalse rfl ?_ | (refine WC.cbool rfl ?_ ?_ <;> intro hcnd))
        | (with_reducible refine WL.nilK ?_)
        | (with_reducible refine WL.nil ?_)
        | (with_reducible refine AtQ.then_norm ?_)
        | (with_reducible refine AtQ.then_ret ?_)
        | (with_reducible refine AtQ.then_exit ?_)
        | (with_reducible refine AtQ.block_ret ?_)
        | (with_reducible refine AtQ.block_norm ?_)
        | (with_reducible refine AtQ.block_here ?_)
        | (with_reducible refine AtQ.loop_ret ?_)
        | (with_reducible refine AtQ.loop_exit ?_)
        | (with_reducible refine AtQ.out_ret ?_)
        | (with_reducible refine AtQ.out_exit ?_)
        | ((with_reducible refine AtQ.block_other ?_ ?_); · exact rfl)
        | ((with_reducible refine is_move ?_); first | refine WL.y H (Y.move rfl) (by decide) ?_)
        | ((with_reducible refine is_assign ?_); first | refine WL.y H (Y.assign rfl) (by decide) ?_)
        | ((with_reducible refine is_load ?_); first | refine WL.y H (Y.loadX rfl (by repeat' (first | exact List.mem_cons_self .. | apply List.mem_cons_of_mem)) rfl) (by decide) ?_ | refine WL.y H (Y.loadXN rfl (by repeat' (first | exact List.mem_cons_self .. | apply List.mem_cons_of_mem)) rfl rfl) (by decide) ?_ | refine WL.y H (Y.loadS rfl (by repeat' (first | exact List.mem_cons_self .. | apply List.mem_cons_of_mem)) (iA_reads (i := k) (ovars ms)[k] (List.getElem?_eq_getElem hlt))) (by decide) ?_)
        | ((with_reducible refine is_idx ?_); first | refine WL.y H (Y.idx rfl rfl (by first | omega | (simp only [List.length_cons, List.length_nil]; done) | (simp only [List.length_cons, List.length_nil]; omega)) (by first | omega | (simp only [List.length_cons, List.length_nil]; done) | (simp only [List.length_cons, List.length_nil]; omega))) (by decide) ?_)
        | ((with_reducible refine is_len ?_); first | refine WL.y H (Y.lenS rfl) (by decide) ?_)
        | ((with_reducible refine is_add ?_); first | refine WL.y H (Y.add rfl rfl (by first | omega | (simp only [List.length_cons, List.length_nil]; done) | (simp only [List.length_cons, List.length_nil]; omega)) (by first | omega | (simp only [List.length_cons, List.length_nil]; done) | (simp only [List.length_cons, List.length_nil]; omega))) (by decide) ?_)
        | ((with_reducible refine is_not ?_); first | refine WL.y H (Y.not rfl) (by decide) ?_)
        | ((with_reducible refine is_lss ?_); first | refine WL.y H ((Y.lss rfl rfl).boolT (by first | omega | (simp only [List.length_cons, List.length_nil]; done) | (simp only [List.length_cons, List.length_nil]; omega))) (by decide) ?_ | refine WL.y H ((Y.lss rfl rfl).boolF (by first | omega | (simp only [List.length_cons, List.length_nil]; done) | (simp only [List.length_cons, List.length_nil]; omega))) (by decide) ?_ | (refine WL.cmp H (Y.lss rfl rfl) (by decide) ?_ ?_ <;> intro hcmp))
        | ((with_reducible refine is_geq ?_); first | refine WL.y H ((Y.geq rfl rfl).boolT (by first | omega | (simp only [List.length_cons, List.length_nil]; done) | (simp only [List.length_cons, List.length_nil]; omega))) (by decide) ?_ | refine WL.y H ((Y.geq rfl rfl).boolF (by first | omega | (simp only [List.length_cons, List.length_nil]; done) | (simp only [List.length_cons, List.length_nil]; omega))) (by decide) ?_ | (refine WL.cmp H (Y.geq rfl rfl) (by decide) ?_ ?_ <;> intro hcmp)))
      refine AtQ.loop_norm (k + 1) ?_ ⟨hlt, H⟩ (by omega)
      rw [et, show max (top ((ovars ms).take k)) ((ovars ms)[k] + 1) = top ((ovars ms).take k) by omega]
      exact (by repeat' (first | exact Sub.nil | refine Sub.cons rfl ?_))
  · repeat' (first
      | (with_reducible refine WC.seq ?_)
      | (with_reducible refine WC.reg ?_)
      | (with_reducible refine WC.block ?_)
      | (with_reducible refine WC.skip ?_)
      | (with_reducible refine WC.ret ?_)
      | (with_reducible refine WC.exit ?_)
      | ((with_reducible refine is_cond ?_); first | refine WC.ctrue rfl ?_ | refine WC.cfalse rfl ?_ | (refine WC.cbool rfl ?_ ?_ <;> intro hcnd))
      | (with_reducible refine WL.nilK ?_)
      | (with_reducible refine WL.nil ?_)
      | (with_reducible refine AtQ.then_norm ?_)
      | (with_reducible refine AtQ.then_ret ?_)
      | (with_reducible refine AtQ.then_exit ?_)
      | (with_reducible refine AtQ.block_ret ?_)
      | (with_reducible refine AtQ.block_norm ?_)
      | (with_reducible refine AtQ.block_here ?_)
      | (with_reducible refine AtQ.loop_ret ?_)
      | (with_reducible refine AtQ.loop_exit ?_)
      | (with_reducible refine AtQ.out_ret ?_)
      | (with_reducible refine AtQ.out_exit ?_)
      | ((with_reducible refine AtQ.block_other ?_ ?_); · exact rfl)
      | ((with_reducible refine is_move ?_); first | refine WL.y H (Y.move rfl) (by decide) ?_)
      | ((with_reducible refine is_assign ?_); first | refine WL.y H (Y.assign rfl) (by decide) ?_)
      | ((with_reducible refine is_load ?_); first | refine WL.y H (Y.loadX rfl (by repeat' (first | exact List.mem_cons_self .. | apply List.mem_cons_of_mem)) rfl) (by decide) ?_ | refine WL.y H (Y.loadXN rfl (by repeat' (first | exact List.mem_cons_self .. | apply List.mem_cons_of_mem)) rfl rfl) (by decide) ?_)
      | ((with_reducible refine is_idx ?_); first | refine WL.y H (Y.idx rfl rfl (by first | omega | (simp only [List.length_cons, List.length_nil]; done) | (simp only [List.length_cons, List.length_nil]; omega)) (by first | omega | (simp only [List.length_cons, List.length_nil]; done) | (simp only [List.length_cons, List.length_nil]; omega))) (by decide) ?_)
      | ((with_reducible refine is_len ?_); first | refine WL.y H (Y.lenS rfl) (by decide) ?_)
      | ((with_reducible refine is_add ?_); first | refine WL.y H (Y.add rfl rfl (by first | omega | (simp only [List.length_cons, List.length_nil]; done) | (simp only [List.length_cons, List.length_nil]; omega)) (by first | omega | (simp only [List.length_cons, List.length_nil]; done) | (simp only [List.length_cons, List.length_nil]; omega))) (by decide) ?_)
      | ((with_reducible refine is_not ?_); first | refine WL.y H (Y.not rfl) (by decide) ?_)
      | ((with_reducible refine is_lss ?_); first | refine WL.y H ((Y.lss rfl rfl).boolT (by first | omega | (simp only [List.length_cons, List.length_nil]; done) | (simp only [List.length_cons, List.length_nil]; omega))) (by decide) ?_ | refine WL.y H ((Y.lss rfl rfl).boolF (by first | omega | (simp only [List.length_cons, List.length_nil]; done) | (simp only [List.length_cons, List.length_nil]; omega))) (by decide) ?_ | (refine WL.cmp H (Y.lss rfl rfl) (by decide) ?_ ?_ <;> intro hcmp))
      | ((with_reducible refine is_geq ?_); first | refine WL.y H ((Y.geq rfl rfl).boolT (by first | omega | (simp only [List.length_cons, List.length_nil]; done) | (simp only [List.length_cons, List.length_nil]; omega))) (by decide) ?_ | refine WL.y H ((Y.geq rfl rfl).boolF (by first | omega | (simp only [List.length_cons, List.length_nil]; done) | (simp only [List.length_cons, List.length_nil]; omega))) (by decide) ?_ | (refine WL.cmp H (Y.geq rfl rfl) (by decide) ?_ ?_ <;> intro hcmp)))
    have e : (ovars ms).take k = ovars ms := List.take_of_length_le (by omega)
    rw [e]
    exact AtQ.r1 (resVal.t rfl) ⟨rfl, H.chg⟩
/-! the program's -/
def cellA (b : Nat) (v : Value) (T : Nat) (p : Prop) : Asn where
  ft k := k = b
  hold w := w.heap[b]? = some (.cells [v].toArray T (0, 0)) ∧ p
  fr w w' h hh := by rw [h b rfl]; exact hh
  lt w h k hk := by subst hk; exact (Array.getElem?_eq_some_iff.1 h.1).1
set_option maxRecDepth 100000 in
set_option maxHeartbeats 4000000 in
theorem impl_VarBound_clo (b : Nat) : Clo 67 [.pointer (some ⟨b, 0, none⟩)] (fun n : Int => cellA b (.int .i64 n) 3 (0 ≤ n ∧ n ≤ 100001)) (fun n v n' => n' = max n (v + 1)) := by
  refine ⟨fun n w v ⟨hi, hn0, hn1⟩ h0 h1 => ?_⟩
  refine Fn.body (N := 7) Try.func67 rfl rfl rfl rfl rfl ?_
  have H : SH w (fun k => k = b) w [(b, .cells [.int .i64 n].toArray 3 (0, 0))] [] := SH.start1 _ _ _ hi rfl (by simp) (by simp)
  repeat' (first
    | (with_reducible refine WC.seq ?_)
    | (with_reducible refine WC.reg ?_)
    | (with_reducible refine WC.skip ?_)
    | (with_reducible refine WC.ret ?_)
    | (with_reducible refine WL.nilK ?_)
    | (with_reducible refine WL.nil ?_)
    | (with_reducible refine AtQ.then_norm ?_)
    | (with_reducible refine AtQ.then_ret ?_)
    | (with_reducible refine AtQ.out_ret ?_)
    | ((with_reducible refine is_move ?_); first | refine WL.y H (Y.move rfl) (by decide) ?_)
    | ((with_reducible refine is_load ?_); first | refine WL.y H (Y.loadX rfl (by repeat' (first | exact List.mem_cons_self .. | apply List.mem_cons_of_mem)) rfl) (by decide) ?_ | refine WL.y H (Y.loadXN rfl (by repeat' (first | exact List.mem_cons_self .. | apply List.mem_cons_of_mem)) rfl rfl) (by decide) ?_)
    | ((with_reducible refine is_add ?_); first | refine WL.y H (Y.add rfl rfl (by first | omega | (simp only [List.length_cons, List.length_nil]; done) | (simp only [List.length_cons, List.length_nil]; omega)) (by first | omega | (simp only [List.length_cons, List.length_nil]; done) | (simp only [List.length_cons, List.length_nil]; omega))) (by decide) ?_)
    | ((with_reducible refine is_max ?_); first | refine WL.y H (Y.max2 rfl rfl) (by decide) ?_)
    | ((with_reducible refine is_store ?_); first | (refine WL.store1 H rfl rfl rfl (by repeat' (first | exact Upd.here .. | apply Upd.there)) rfl ?_; intro w H _) | (refine WL.storeN H rfl rfl rfl rfl (by repeat' (first | exact Upd.here .. | apply Upd.there)) rfl ?_; intro w H _)))
  have e : (if v + 1 > n then v + 1 else n) = max n (v + 1) := by split <;> omega
  refine AtQ.r0' ⟨rfl, _, rfl, ⟨?_, by omega, by omega⟩, H.chg, fun k hk => .inl hk⟩
  rw [← e]
  exact H.blk (by repeat' (first | exact List.mem_cons_self .. | apply List.mem_cons_of_mem))
theorem steps_top {b T : Nat} {vs : List Int} {n n' : Int} (h : Steps (fun (n : Int) v n' => n' = max n (v + 1)) vs n n') : n' = vs.foldl (fun n v => max n (v + 1)) n := by
  induction h with
  | nil => rfl
  | cons h _ ih => subst h; exact ih
set_option maxRecDepth 100000 in
set_option maxHeartbeats 4000000 in
theorem impl_VarBound_no (a : Option Addr) (c : Nat) (l : List LT) (w0 : World) (ht : HT w0 (nod a c l)) (hs : SmL l) (hv : ¬ AllTOk (l.map er)) : Fn Try.prog 18 [sl a l.length c] w0 fun u w' => u = .int .i64 (-1) ∧ Chg noF w0 w' := by
  refine Fn.body (N := 20) Try.func18 rfl rfl rfl rfl rfl ?_
  have H : SH w0 noF w0 [] [tA (nod a c l)] := SH.start _ _ _ (by simpa [tA] using ht)
  repeat' (first
    | (with_reducible refine WC.seq ?_)
    | (with_reducible refine WC.reg ?_)
    | (with_reducible refine WC.block ?_)
    | (with_reducible refine WC.skip ?_)
    | (with_reducible refine WC.ret ?_)
    | (with_reducible refine WC.exit ?_)
    | ((with_reducible refine is_cond ?_); first | refine WC.ctrue rfl ?_ | refine WC.cfalse rfl ?_ | (refine WC.cbool rfl ?_ ?_ <;> intro hcnd))
    | (with_reducible refine WL.nilK ?_)
    | (with_reducible refine WL.nil ?_)
    | (with_reducible refine AtQ.then_norm ?_)
    | (with_reducible refine AtQ.then_ret ?_)
    | (with_reducible refine AtQ.then_exit ?_)
    | (with_reducible refine AtQ.block_ret ?_)
    | (with_reducible refine AtQ.block_norm ?_)
    | (with_reducible refine AtQ.block_here ?_)
    | (with_reducible refine AtQ.loop_ret ?_)
    | (with_reducible refine AtQ.loop_exit ?_)
    | (with_reducible refine AtQ.out_ret ?_)
    | (with_reducible refine AtQ.out_exit ?_)
    | ((with_reducible refine AtQ.block_other ?_ ?_); · exact rfl)
    | ((with_reducible refine is_call ?_); refine WL.call (vs := [sl a l.length c]) rfl (impl_termsOk_fn a c l _ (H.ht _ (by repeat' (first | exact List.mem_cons_self .. | apply List.mem_cons_of_mem))) hs) (by decide) ?_; intro v w hv2; obtain ⟨e1, hc1⟩ := hv2; rw [decide_eq_false hv] at e1; subst e1; have H := H.call hc1)
    | ((with_reducible refine is_move ?_); first | refine WL.y H (Y.move rfl) (by decide) ?_)
    | ((with_reducible refine is_assign ?_); first | refine WL.y H (Y.assign rfl) (by decide) ?_)
    | ((with_reducible refine is_load ?_); first | refine WL.y H (Y.loadX rfl (by repeat' (first | exact List.mem_cons_self .. | apply List.mem_cons_of_mem)) rfl) (by decide) ?_ | refine WL.y H (Y.loadXN rfl (by repeat' (first | exact List.mem_cons_self .. | apply List.mem_cons_of_mem)) rfl rfl) (by decide) ?_)
    | ((with_reducible refine is_idx ?_); first | refine WL.y H (Y.idx rfl rfl (by first | omega | (simp only [List.length_cons, List.length_nil]; done) | (simp only [List.length_cons, List.length_nil]; omega)) (by first | omega | (simp only [List.length_cons, List.length_nil]; done) | (simp only [List.length_cons, List.length_nil]; omega))) (by decide) ?_)
    | ((with_reducible refine is_len ?_); first | refine WL.y H (Y.lenS rfl) (by decide) ?_)
    | ((with_reducible refine is_add ?_); first | refine WL.y H (Y.add rfl rfl (by first | omega | (simp only [List.length_cons, List.length_nil]; done) | (simp only [List.length_cons, List.length_nil]; omega)) (by first | omega | (simp only [List.length_cons, List.length_nil]; done) | (simp only [List.length_cons, List.length_nil]; omega))) (by decide) ?_)
    | ((with_reducible refine is_not ?_); first | refine WL.y H (Y.not rfl) (by decide) ?_)
    | ((with_reducible refine is_func ?_); first | refine WL.y H (Y.func rfl) (by decide) ?_)
    | ((with_reducible refine is_lss ?_); first | refine WL.y H ((Y.lss rfl rfl).boolT (by first | omega | (simp only [List.length_cons, List.length_nil]; done) | (simp only [List.length_cons, List.length_nil]; omega))) (by decide) ?_ | refine WL.y H ((Y.lss rfl rfl).boolF (by first | omega | (simp only [List.length_cons, List.length_nil]; done) | (simp only [List.length_cons, List.length_nil]; omega))) (by decide) ?_ | (refine WL.cmp H (Y.lss rfl rfl) (by decide) ?_ ?_ <;> intro hcmp))
    | ((with_reducible refine is_alloc ?_); refine WL.alloc H (by decide) ?_; intro _ w H _ _ _)
    | ((with_reducible refine is_store ?_); first | (refine WL.store1 H rfl rfl rfl (by repeat' (first | exact Upd.here .. | apply Upd.there)) rfl ?_; intro w H _) | (refine WL.storeN H rfl rfl rfl rfl (by repeat' (first | exact Upd.here .. | apply Upd.there)) rfl ?_; intro w H _)))
  exact AtQ.r1 (resVal.t rfl) ⟨rfl, H.chg⟩
set_option maxRecDepth 100000 in
set_option maxHeartbeats 4000000 in
theorem impl_VarBound_ok (a : Option Addr) (c : Nat) (l : List LT) (ms : List Tm) (w0 : World) (ht : HT w0 (nod a c l)) (hs : SmL l) (hms : l.map er = ms.map Tm.enc) (hz : ∀ m ∈ ms, m.Ok ∧ m.size ≤ 5000) : Fn Try.prog 18 [sl a l.length c] w0 fun u w' => u = .int .i64 (top (ovars ms)) ∧ Chg noF w0 w' := by
  have hv : AllTOk (l.map er) := by rw [hms]; intro x hx; obtain ⟨m, hm, rfl⟩ := List.mem_map.1 hx; exact (TOk_enc (hz m hm).1).2 (hz m hm).2
  have hlen := hs.1
  have hml := terms_len hms
  refine Fn.body (N := 20) Try.func18 rfl rfl rfl rfl rfl ?_
  have H : SH w0 noF w0 [] [tA (nod a c l)] := SH.start _ _ _ (by simpa [tA] using ht)
  repeat' (first
    | (with_reducible refine WC.seq ?_)
    | (with_reducible refine WC.reg ?_)
    | (with_reducible refine WC.block ?_)
    | (with_reducible refine WC.skip ?_)
    | (with_reducible refine WC.ret ?_)
    | (with_reducible refine WC.exit ?_)
    | ((with_reducible refine is_cond ?_); first | refine WC.ctrue rfl ?_ | refine WC.cfalse rfl ?_ | (refine WC.cbool rfl ?_ ?_ <;> intro hcnd))
    | (with_reducible refine WL.nilK ?_)
    | (with_reducible refine WL.nil ?_)
    | (with_reducible refine AtQ.then_norm ?_)
    | (with_reducible refine AtQ.then_ret ?_)
    | (with_reducible refine AtQ.then_exit ?_)
    | (with_reducible refine AtQ.block_ret ?_)
    | (with_reducible refine AtQ.block_norm ?_)
    | (with_reducible refine AtQ.block_here ?_)
    | (with_reducible refine AtQ.loop_ret ?_)
    | (with_reducible refine AtQ.loop_exit ?_)
    | (with_reducible refine AtQ.out_ret ?_)
    | (with_reducible refine AtQ.out_exit ?_)
    | ((with_reducible refine AtQ.block_other ?_ ?_); · exact rfl)
    | ((with_reducible refine is_call ?_); refine WL.call (vs := [sl a l.length c]) rfl (impl_termsOk_fn a c l _ (H.ht _ (by repeat' (first | exact List.mem_cons_self .. | apply List.mem_cons_of_mem))) hs) (by decide) ?_; intro v w hv2; obtain ⟨e1, hc1⟩ := hv2; rw [decide_eq_true hv] at e1; subst e1; have hs0 := H.chg.size; have hs1 := hc1.size; have H := H.call hc1)
    | ((with_reducible refine is_alloc ?_); refine WL.alloc H (by decide) ?_; intro b w H hb hblt _)
    | ((with_reducible refine is_move ?_); first | refine WL.y H (Y.move rfl) (by decide) ?_)
    | ((with_reducible refine is_assign ?_); first | refine WL.y H (Y.assign rfl) (by decide) ?_)
    | ((with_reducible refine is_load ?_); first | refine WL.y H (Y.loadX rfl (by repeat' (first | exact List.mem_cons_self .. | apply List.mem_cons_of_mem)) rfl) (by decide) ?_ | refine WL.y H (Y.loadXN rfl (by repeat' (first | exact List.mem_cons_self .. | apply List.mem_cons_of_mem)) rfl rfl) (by decide) ?_)
    | ((with_reducible refine is_idx ?_); first | refine WL.y H (Y.idx rfl rfl (by first | omega | (simp only [List.length_cons, List.length_nil]; done) | (simp only [List.length_cons, List.length_nil]; omega)) (by first | omega | (simp only [List.length_cons, List.length_nil]; done) | (simp only [List.length_cons, List.length_nil]; omega))) (by decide) ?_)
    | ((with_reducible refine is_len ?_); first | refine WL.y H (Y.lenS rfl) (by decide) ?_)
    | ((with_reducible refine is_add ?_); first | refine WL.y H (Y.add rfl rfl (by first | omega | (simp only [List.length_cons, List.length_nil]; done) | (simp only [List.length_cons, List.length_nil]; omega)) (by first | omega | (simp only [List.length_cons, List.length_nil]; done) | (simp only [List.length_cons, List.length_nil]; omega))) (by decide) ?_)
    | ((with_reducible refine is_not ?_); first | refine WL.y H (Y.not rfl) (by decide) ?_)
    | ((with_reducible refine is_func ?_); first | refine WL.y H (Y.func rfl) (by decide) ?_)
    | ((with_reducible refine is_lss ?_); first | refine WL.y H ((Y.lss rfl rfl).boolT (by first | omega | (simp only [List.length_cons, List.length_nil]; done) | (simp only [List.length_cons, List.length_nil]; omega))) (by decide) ?_ | refine WL.y H ((Y.lss rfl rfl).boolF (by first | omega | (simp only [List.length_cons, List.length_nil]; done) | (simp only [List.length_cons, List.length_nil]; omega))) (by decide) ?_ | (refine WL.cmp H (Y.lss rfl rfl) (by decide) ?_ ?_ <;> intro hcmp))
    | ((with_reducible refine is_alloc ?_); refine WL.alloc H (by decide) ?_; intro _ w H _ _ _)
    | ((with_reducible refine is_store ?_); first | (refine WL.store1 H rfl rfl rfl (by repeat' (first | exact Upd.here .. | apply Upd.there)) rfl ?_; intro w H _) | (refine WL.storeN H rfl rfl rfl rfl (by repeat' (first | exact Upd.here .. | apply Upd.there)) rfl ?_; intro w H _)))
  refine WC.loop (σ := Nat) (fun k => [(3, .pointer (some ⟨b, 0, none⟩)), (9, sl a l.length c), (10, .int .i64 l.length), (11, .int .i64 (k : Nat))])
    (fun k w' => k ≤ l.length ∧ 0 ≤ top (ovars (ms.take k)) ∧ top (ovars (ms.take k)) ≤ 100001 ∧ SH w0 noF w' [(b, .cells [.int .i64 (top (ovars (ms.take k)))].toArray 3 (0, 0))] [tA (nod a c l)])
    (fun k => l.length - k) 0 (by repeat' (first | exact Sub.nil | refine Sub.cons rfl ?_)) ⟨Nat.zero_le _, Int.le_refl _, (by show (0 : Int) ≤ 100001; decide), H⟩ (fun k w hinv => ?_)
  obtain ⟨hk, hn0, hn1, H⟩ := hinv
  by_cases hlt : k < l.length
  · obtain ⟨tb, tto, cs, T, fz, ha, _, _⟩ := (H.ht (nod a c l) (by repeat' (first | exact List.mem_cons_self .. | apply List.mem_cons_of_mem))).row (by intro e; rw [show (nod a c l).l = l from rfl] at e; rw [e] at hlt; simp at hlt)
    simp only at ha
    subst ha
    have hmk : k < ms.length := by omega
    have hzk := hz ms[k] (List.getElem_mem hmk)
    have hnew : ∀ z ∈ ft l[k], z ≠ b := fun z hz e => kid_new ht (by omega) (List.getElem_mem hlt) (e ▸ hz)
    have hrg := top_rng (l := ovars (ms.take (k + 1))) (ovars_rng ms hz (k + 1) hmk)
    have etop : top (ovars (ms.take (k + 1))) = (vars ms[k]).foldl (fun n v => max n (v + 1)) (top (ovars (ms.take k))) := by rw [ovars_snoc ms k hmk, top_addVars]
    repeat' (first
      | (with_reducible refine WC.seq ?_)
      | (with_reducible refine WC.reg ?_)
      | (with_reducible refine WC.block ?_)
      | (with_reducible refine WC.skip ?_)
      | (with_reducible refine WC.ret ?_)
      | (with_reducible refine WC.exit ?_)
      | ((with_reducible refine is_cond ?_); first | refine WC.ctrue rfl ?_ | refine WC.cfalse rfl ?_ | (refine WC.cbool rfl ?_ ?_ <;> intro hcnd))
      | (with_reducible refine WL.nilK ?_)
      | (with_reducible refine WL.nil ?_)
      | (with_reducible refine AtQ.then_norm ?_)
      | (with_reducible refine AtQ.then_ret ?_)
      | (with_reducible refine AtQ.then_exit ?_)
      | (with_reducible refine AtQ.block_ret ?_)
      | (with_reducible refine AtQ.block_norm ?_)
      | (with_reducible refine AtQ.block_here ?_)
      | (with_reducible refine AtQ.loop_ret ?_)
      | (with_reducible refine AtQ.loop_exit ?_)
      | (with_reducible refine AtQ.out_ret ?_)
      | (with_reducible refine AtQ.out_exit ?_)
      | ((with_reducible refine AtQ.block_other ?_ ?_); · exact rfl)
      | ((with_reducible refine is_call ?_); refine WL.call (vs := [tv l[k], _]) rfl (impl_eachVar_ok (impl_VarBound_clo b) ms[k] l[k] (top (ovars (ms.take k))) _ hzk.1 (er_at hms k hlt hmk) ((H.ht (nod _ c l) (by repeat' (first | exact List.mem_cons_self .. | apply List.mem_cons_of_mem))).kid _ (List.getElem_mem hlt)) ⟨H.blk (by repeat' (first | exact List.mem_cons_self .. | apply List.mem_cons_of_mem)), hn0, hn1⟩ hnew) (by decide) ?_; intro v w2 hv2; obtain ⟨e1, n2, hst, hi2, hc2, hf2⟩ := hv2; subst e1; have hn2 := steps_top (b := 0) (T := 0) hst; rw [← etop] at hn2; subst hn2; have H := H.put (by repeat' (first | exact Upd.here .. | apply Upd.there)) hc2 hi2.1)
      | ((with_reducible refine is_move ?_); first | refine WL.y H (Y.move rfl) (by decide) ?_)
      | ((with_reducible refine is_assign ?_); first | refine WL.y H (Y.assign rfl) (by decide) ?_)
      | ((with_reducible refine is_load ?_); first | refine WL.y H (Y.loadX rfl (by repeat' (first | exact List.mem_cons_self .. | apply List.mem_cons_of_mem)) rfl) (by decide) ?_ | refine WL.y H (Y.loadXN rfl (by repeat' (first | exact List.mem_cons_self .. | apply List.mem_cons_of_mem)) rfl rfl) (by decide) ?_ | refine WL.y H (Y.loadSN (vs := tcs l[k]) rfl (by repeat' (first | exact List.mem_cons_self .. | apply List.mem_cons_of_mem)) (tA_readsK (i := k) l[k] rfl (List.getElem?_eq_getElem hlt)) rfl) (by decide) ?_)
      | ((with_reducible refine is_idx ?_); first | refine WL.y H (Y.idx rfl rfl (by first | omega | (simp only [List.length_cons, List.length_nil]; done) | (simp only [List.length_cons, List.length_nil]; omega)) (by first | omega | (simp only [List.length_cons, List.length_nil]; done) | (simp only [List.length_cons, List.length_nil]; omega))) (by decide) ?_)
      | ((with_reducible refine is_len ?_); first | refine WL.y H (Y.lenS rfl) (by decide) ?_)
      | ((with_reducible refine is_add ?_); first | refine WL.y H (Y.add rfl rfl (by first | omega | (simp only [List.length_cons, List.length_nil]; done) | (simp only [List.length_cons, List.length_nil]; omega)) (by first | omega | (simp only [List.length_cons, List.length_nil]; done) | (simp only [List.length_cons, List.length_nil]; omega))) (by decide) ?_)
      | ((with_reducible refine is_not ?_); first | refine WL.y H (Y.not rfl) (by decide) ?_)
      | ((with_reducible refine is_func ?_); first | refine WL.y H (Y.func rfl) (by decide) ?_)
      | ((with_reducible refine is_lss ?_); first | refine WL.y H ((Y.lss rfl rfl).boolT (by first | omega | (simp only [List.length_cons, List.length_nil]; done) | (simp only [List.length_cons, List.length_nil]; omega))) (by decide) ?_ | refine WL.y H ((Y.lss rfl rfl).boolF (by first | omega | (simp only [List.length_cons, List.length_nil]; done) | (simp only [List.length_cons, List.length_nil]; omega))) (by decide) ?_ | (refine WL.cmp H (Y.lss rfl rfl) (by decide) ?_ ?_ <;> intro hcmp))
      | ((with_reducible refine is_alloc ?_); refine WL.alloc H (by decide) ?_; intro _ w H _ _ _)
      | ((with_reducible refine is_store ?_); first | (refine WL.store1 H rfl rfl rfl (by repeat' (first | exact Upd.here .. | apply Upd.there)) rfl ?_; intro w H _) | (refine WL.storeN H rfl rfl rfl rfl (by repeat' (first | exact Upd.here .. | apply Upd.there)) rfl ?_; intro w H _)))
    exact AtQ.loop_norm (k + 1) (by repeat' (first | exact Sub.nil | refine Sub.cons rfl ?_)) ⟨hlt, hrg.1, hrg.2, H.dropX (.cons _ (.refl _))⟩ (by omega)
  · repeat' (first
      | (with_reducible refine WC.seq ?_)
      | (with_reducible refine WC.reg ?_)
      | (with_reducible refine WC.block ?_)
      | (with_reducible refine WC.skip ?_)
      | (with_reducible refine WC.ret ?_)
      | (with_reducible refine WC.exit ?_)
      | ((with_reducible refine is_cond ?_); first | refine WC.ctrue rfl ?_ | refine WC.cfalse rfl ?_ | (refine WC.cbool rfl ?_ ?_ <;> intro hcnd))
      | (with_reducible refine WL.nilK ?_)
      | (with_reducible refine WL.nil ?_)
      | (with_reducible refine AtQ.then_norm ?_)
      | (with_reducible refine AtQ.then_ret ?_)
      | (with_reducible refine AtQ.then_exit ?_)
      | (with_reducible refine AtQ.block_ret ?_)
      | (with_reducible refine AtQ.block_norm ?_)
      | (with_reducible refine AtQ.block_here ?_)
      | (with_reducible refine AtQ.loop_ret ?_)
      | (with_reducible refine AtQ.loop_exit ?_)
      | (with_reducible refine AtQ.out_ret ?_)
      | (with_reducible refine AtQ.out_exit ?_)
      | ((with_reducible refine AtQ.block_other ?_ ?_); · exact rfl)
      | ((with_reducible refine is_move ?_); first | refine WL.y H (Y.move rfl) (by decide) ?_)
      | ((with_reducible refine is_assign ?_); first | refine WL.y H (Y.assign rfl) (by decide) ?_)
      | ((with_reducible refine is_load ?_); first | refine WL.y H (Y.loadX rfl (by repeat' (first | exact List.mem_cons_self .. | apply List.mem_cons_of_mem)) rfl) (by decide) ?_ | refine WL.y H (Y.loadXN rfl (by repeat' (first | exact List.mem_cons_self .. | apply List.mem_cons_of_mem)) rfl rfl) (by decide) ?_)
      | ((with_reducible refine is_idx ?_); first | refine WL.y H (Y.idx rfl rfl (by first | omega | (simp only [List.length_cons, List.length_nil]; done) | (simp only [List.length_cons, List.length_nil]; omega)) (by first | omega | (simp only [List.length_cons, List.length_nil]; done) | (simp only [List.length_cons, List.length_nil]; omega))) (by decide) ?_)
      | ((with_reducible refine is_len ?_); first | refine WL.y H (Y.lenS rfl) (by decide) ?_)
      | ((with_reducible refine is_add ?_); first | refine WL.y H (Y.add rfl rfl (by first | omega | (simp only [List.length_cons, List.length_nil]; done) | (simp only [List.length_cons, List.length_nil]; omega)) (by first | omega | (simp only [List.length_cons, List.length_nil]; done) | (simp only [List.length_cons, List.length_nil]; omega))) (by decide) ?_)
      | ((with_reducible refine is_not ?_); first | refine WL.y H (Y.not rfl) (by decide) ?_)
      | ((with_reducible refine is_func ?_); first | refine WL.y H (Y.func rfl) (by decide) ?_)
      | ((with_reducible refine is_lss ?_); first | refine WL.y H ((Y.lss rfl rfl).boolT (by first | omega | (simp only [List.length_cons, List.length_nil]; done) | (simp only [List.length_cons, List.length_nil]; omega))) (by decide) ?_ | refine WL.y H ((Y.lss rfl rfl).boolF (by first | omega | (simp only [List.length_cons, List.length_nil]; done) | (simp only [List.length_cons, List.length_nil]; omega))) (by decide) ?_ | (refine WL.cmp H (Y.lss rfl rfl) (by decide) ?_ ?_ <;> intro hcmp))
      | ((with_reducible refine is_alloc ?_); refine WL.alloc H (by decide) ?_; intro _ w H _ _ _)
      | ((with_reducible refine is_store ?_); first | (refine WL.store1 H rfl rfl rfl (by repeat' (first | exact Upd.here .. | apply Upd.there)) rfl ?_; intro w H _) | (refine WL.storeN H rfl rfl rfl rfl (by repeat' (first | exact Upd.here .. | apply Upd.there)) rfl ?_; intro w H _)))
    have e : ms.take k = ms := List.take_of_length_le (by omega)
    rw [e]
    exact AtQ.r1 (resVal.t rfl) ⟨rfl, H.chg⟩
end Go.Proofs.Ytpfooiepmnaoaaa.E
