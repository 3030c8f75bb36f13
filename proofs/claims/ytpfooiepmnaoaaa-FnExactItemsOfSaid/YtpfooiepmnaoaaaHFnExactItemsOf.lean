-- OUT HFnExactItemsOf
import Derived.Test.YtpfooiepmnaoaaaEngU
import Derived.Test.YtpfooiepmnaoaaaEngK3
namespace Go.Proofs.Ytpfooiepmnaoaaa.E
open Go Go.RowKit Go.Proofs.Ytpfooiepmnaoaaa.X Go.Proofs.YtpfooiepmnaoaaaW.PrintWords Go.Proofs.Ytpfooiepmnaoaaa.Base
set_option linter.unusedVariables false
set_option linter.unusedSimpArgs false
theorem SH.made2 {w0 w w' : World} {F0 : Nat → Prop} {X : List (Nat × Obj)} {S : List Asn} (H : SH w0 F0 w X S) (hc : Chg noF w w') (A B : Asn) (hA : A.hold w') (hsA : ∀ b, A.ft b → w.heap.size ≤ b) (hB : B.hold w') (hsB : ∀ b, B.ft b → w.heap.size ≤ b) : SH w0 F0 w' X (A :: B :: S) :=
  (H.made hc B hB hsB).add A hA fun p hp hf => by have := hsA _ hf; have := H.lt hp; omega
theorem cn_enc : ∀ (m : Tm) (t : LT), er t = m.enc → cn t ≤ m.size := by
  intro m
  induction m with
  | pair x y ihx ihy =>
    intro t he
    obtain ⟨k, i, s, a, c, l⟩ := t
    rw [er_mk] at he
    simp only [Tm.enc, S47.mk.injEq] at he
    obtain ⟨_, _, _, hl⟩ := he
    have h2 : l.length = 2 := by simpa using congrArg List.length hl
    match l, h2, hl with
    | [p, q], _, hl =>
      simp only [List.map_cons, List.map_nil, List.cons.injEq, and_true] at hl
      have h1 := ihx p hl.1
      have h2 := ihy q hl.2
      have e : (Tm.pair x y).size = 1 + x.size + y.size := rfl
      rw [cn_eq, cnL, cnL, cnL, e]
      omega
  | _ =>
    intro t he
    have hl := (enc_leaf he (fun _ _ h => by cases h)).1
    rw [cn_eq, hl, cnL]
    simp [Tm.size]
def szs : List Tm → Nat
  | [] => 0
  | m :: r => m.size + szs r
theorem cnL_enc : ∀ (ms : List Tm) (ts : List LT), ts.map er = ms.map Tm.enc → cnL ts ≤ szs ms
  | [], ts, h => by
    have : ts = [] := by simpa using h
    rw [this, cnL]; exact Nat.zero_le _
  | m :: r, [], h => by cases h
  | m :: r, t :: ts, h => by
    simp only [List.map_cons, List.cons.injEq] at h
    have h1 := cn_enc m t h.1
    have h2 := cnL_enc r ts h.2
    rw [cnL, szs]; omega
theorem szs_items : ∀ m : Tm, szs (itemsT m) + (tailT m).size ≤ m.size := by
  intro m
  induction m with
  | pair a b _ ih =>
    have e : (Tm.pair a b).size = 1 + a.size + b.size := rfl
    rw [itemsT, tailT, szs, e]; omega
  | _ => simp [itemsT, tailT, szs]
theorem Sm_items : ∀ m : Tm, Sm m.enc → (∀ x ∈ itemsT m, Sm x.enc) ∧ Sm (tailT m).enc := by
  intro m
  induction m with
  | pair a b _ ih =>
    intro h
    have ha : Sm a.enc := h.sub _ (by simp [Tm.enc])
    have hb : Sm b.enc := h.sub _ (by simp [Tm.enc])
    refine ⟨fun x hx => ?_, (ih hb).2⟩
    rcases List.mem_cons.1 hx with rfl | hx
    · exact ha
    · exact (ih hb).1 x hx
  | _ => intro h; exact ⟨(by intro x hx; cases hx), h⟩
theorem items_len : ∀ m : Tm, (itemsT m).length ≤ m.size := by
  intro m
  induction m with
  | pair a b _ ih =>
    have e : (Tm.pair a b).size = 1 + a.size + b.size := rfl
    rw [itemsT, List.length_cons, e]; omega
  | _ => simp [itemsT]
theorem ItemsOf_both (e : ITm) (hs : Sm e) : ∃ (L : List ITm) (T : ITm), (∀ ts : List LT, ts.map er = L → cnL ts ≤ 5000 ∧ SmL ts) ∧ (∀ t : LT, er t = T → cnL t.l ≤ 5000 ∧ Sm (er t)) ∧
    (∀ t w, HT w t → er t = e → Fn Try.prog 34 [tv t] w (ItR L T w)) ∧ (∀ t w, HT w t → er t = e → Fn Try.prog 36 [tv t] w (ItR L T w)) := by
  by_cases h : TOk e
  · obtain ⟨m, hm, rfl, hz⟩ := h
    have hv : TOk m.enc := ⟨m, hm, rfl, hz⟩
    have hsz := szs_items m
    have hsm := Sm_items m hs
    have hil := items_len m
    refine ⟨(itemsT m).map Tm.enc, (tailT m).enc, fun ts h => ⟨?_, ?_, ?_⟩, fun t h => ⟨?_, ?_⟩, fun t w ht he => spec_ItemsOf_ok m t w he ht (he ▸ hs) (he ▸ hv) hz, fun t w ht he => impl_ItemsOf_ok m t w he ht (he ▸ hs) (he ▸ hv) hz⟩
    · have := cnL_enc _ _ h; omega
    · have := congrArg List.length h; simp at this; omega
    · intro t ht
      have : er t ∈ ts.map er := List.mem_map_of_mem ht
      rw [h] at this
      obtain ⟨x, hx, e⟩ := List.mem_map.1 this
      rw [← e]; exact hsm.1 x hx
    · have := cn_enc _ _ h
      rw [cn_eq] at this
      omega
    · rw [h]; exact hsm.2
  · refine ⟨[], er zT, fun ts h => ⟨?_, ?_, ?_⟩, fun t h => ⟨?_, ?_⟩, fun t w ht he => spec_ItemsOf_no t w ht (he ▸ hs) (he ▸ h), fun t w ht he => impl_ItemsOf_no t w ht (he ▸ hs) (he ▸ h)⟩
    · have : ts = [] := by simpa using h
      rw [this, cnL]; exact Nat.zero_le _
    · have : ts = [] := by simpa using h
      rw [this]; simp
    · have : ts = [] := by simpa using h
      rw [this]; intro t ht; cases ht
    · have e := congrArg S47.f3 h
      rw [er_eq, er_mk] at e
      have : t.l = [] := by simpa using e
      rw [this, cnL]; exact Nat.zero_le _
    · rw [h, er_mk]; exact .mk _ (by show (0 : Nat) ≤ _; omega) (by simp) (by simp)
theorem pft_ft {a : Option Addr} {c : Nat} {ts : List LT} {B : Nat} {w : World} (h : OwnP B w a c ts) : ∀ z ∈ ft (nod a c ts), pft a ts z := by
  intro z hz
  rcases h.row with ⟨rfl, rfl, rfl⟩ | ⟨b, pad, rfl, _⟩
  · rw [ft_leaf rfl] at hz; cases hz
  · rw [ft_nd, mem_ftL] at hz
    obtain ⟨_, rfl | ⟨x, hx, hz⟩⟩ := hz
    · exact .inl ⟨0, rfl⟩
    · exact .inr (mem_ftR.2 ⟨x, hx, hz⟩)
set_option maxRecDepth 100000 in
set_option maxHeartbeats 8000000 in
theorem FnExactItemsOf_fn (t : LT) (x : LTm) (w0 : World) (ht : HT w0 t) (hx : er t = conv x) (hb : B44 x) :
    Fn Try.prog 7 [tv t] w0 fun u w' => u = .bool true ∧ Chg noF w0 w' := by
  refine Fn.body (N := 112) Try.func7 rfl rfl rfl rfl rfl ?_
  have H : SH w0 noF w0 [] [tA t] := SH.start _ _ _ (by simpa [tA] using ht)
  repeat' (first
    | (with_reducible refine WC.seq ?_)
    | (with_reducible refine WC.reg ?_)
    | (with_reducible refine WC.skip ?_)
    | (with_reducible refine WC.ret ?_)
    | ((with_reducible refine is_cond ?_); first | refine WC.ctrue rfl ?_ | refine WC.cfalse rfl ?_ | (refine WC.cbool rfl ?_ ?_ <;> intro hcnd))
    | (with_reducible refine WL.nilK ?_)
    | (with_reducible refine WL.nil ?_)
    | (with_reducible refine AtQ.then_norm ?_)
    | (with_reducible refine AtQ.then_ret ?_)
    | (with_reducible refine AtQ.out_ret ?_)
    | ((with_reducible refine is_call (f := 33) ?_); refine WL.call (vs := [tv t, .int .i64 1048576]) rfl (laws_szTerm_fn t x 1048576 _ (H.ht t (by repeat' (first | exact List.mem_cons_self .. | apply List.mem_cons_of_mem))) hx hb (by decide) (by decide)) (by decide) ?_; intro v w hv2; obtain ⟨r, e1, hr1, hr2, hc1⟩ := hv2; subst e1; have H := H.call hc1)
    | ((with_reducible refine is_move ?_); first | refine WL.y H (Y.move rfl) (by decide) ?_)
    | ((with_reducible refine is_assign ?_); first | refine WL.y H (Y.assign rfl) (by decide) ?_)
    | ((with_reducible refine is_load ?_); first | refine WL.y H (Y.loadX rfl (by repeat' (first | exact List.mem_cons_self .. | apply List.mem_cons_of_mem)) rfl) (by decide) ?_ | refine WL.y H (Y.loadXN rfl (by repeat' (first | exact List.mem_cons_self .. | apply List.mem_cons_of_mem)) rfl rfl) (by decide) ?_)
    | ((with_reducible refine is_not ?_); first | refine WL.y H (Y.not rfl) (by decide) ?_)
    | ((with_reducible refine is_pick ?_); first | refine WL.y H (Y.pickT rfl rfl) (by decide) ?_ | refine WL.y H (Y.pickF rfl rfl) (by decide) ?_)
    | ((with_reducible refine is_extract ?_); first | refine WL.y H (Y.extract rfl rfl) (by decide) ?_)
    | ((with_reducible refine is_neq ?_); first | refine WL.y H ((Y.neq rfl rfl).boolT (by first | omega | (simp only [List.length_cons, List.length_nil]; done) | (simp only [List.length_cons, List.length_nil]; omega))) (by decide) ?_ | refine WL.y H ((Y.neq rfl rfl).boolF (by first | omega | (simp only [List.length_cons, List.length_nil]; done) | (simp only [List.length_cons, List.length_nil]; omega))) (by decide) ?_ | (refine WL.cmp H (Y.neq rfl rfl) (by decide) ?_ ?_ <;> intro hcmp))
    | ((with_reducible refine is_lss ?_); first | refine WL.y H ((Y.lss rfl rfl).boolT (by first | omega | (simp only [List.length_cons, List.length_nil]; done) | (simp only [List.length_cons, List.length_nil]; omega))) (by decide) ?_ | refine WL.y H ((Y.lss rfl rfl).boolF (by first | omega | (simp only [List.length_cons, List.length_nil]; done) | (simp only [List.length_cons, List.length_nil]; omega))) (by decide) ?_ | (refine WL.cmp H (Y.lss rfl rfl) (by decide) ?_ ?_ <;> intro hcmp))
    | ((with_reducible refine is_box ?_); first | (refine WL.boxN H rfl (by decide) ?_; intro _ w H _ _ _) | (refine WL.box1 H rfl rfl (by decide) ?_; intro _ w H _ _ _))
    | ((with_reducible refine is_alloc ?_); refine WL.alloc H (by decide) ?_; intro _ w H _ _ _)
    | ((with_reducible refine is_store ?_); first | (refine WL.store1 H rfl rfl rfl (by repeat' (first | exact Upd.here .. | apply Upd.there)) rfl ?_; intro w H _) | (refine WL.storeN H rfl rfl rfl rfl (by repeat' (first | exact Upd.here .. | apply Upd.there)) rfl ?_; intro w H _))
    | ((with_reducible refine is_grd ?_); first | refine WL.grd (Wd.some rfl rfl rfl) rfl ?_ | refine WL.pass (Wd.some rfl rfl rfl) rfl rfl (by decide) ?_ | refine WL.pass0 (Wd.some rfl rfl rfl) rfl rfl ?_))
  · exact AtQ.r1 (resVal.t rfl) ⟨rfl, H.chg⟩
  obtain ⟨hs, hwt⟩ := hr2 (by omega)
  obtain ⟨L, T, hL, hT, hspec, himpl⟩ := ItemsOf_both (er t) hs
  with_reducible refine is_call (f := 35) ?_
  refine WL.call (vs := [tv t]) rfl (laws_toTerm_ok t _ (H.ht t (by repeat' (first | exact List.mem_cons_self .. | apply List.mem_cons_of_mem))) (Sm.lens t hs)) (by decide) ?_; intro v w hv2; obtain ⟨t1, e1, het1, ho1, hc1⟩ := hv2; subst e1; have hsz1 := hc1.size; have H := H.made hc1 (oA _ t1) ho1 ho1.new
  with_reducible refine is_call (f := 34) ?_
  refine WL.call (vs := [tv t1]) rfl (hspec t1 _ (H.own _ t1 (by repeat' (first | exact List.mem_cons_self .. | apply List.mem_cons_of_mem))).ht het1) (by decide) ?_; intro v w hv2; obtain ⟨wa, wc, wts, w1, e1, hew, hew1, how, how1, hwd, hc1⟩ := hv2; subst e1
  have H := H.made2 hc1 (oA _ (nod wa wc wts)) (oA _ w1) how.own how.own.new how1 how1.new
  repeat' (first
    | (with_reducible refine WC.seq ?_)
    | (with_reducible refine WC.reg ?_)
    | (with_reducible refine WC.skip ?_)
    | (with_reducible refine WC.ret ?_)
    | ((with_reducible refine is_cond ?_); first | refine WC.ctrue rfl ?_ | refine WC.cfalse rfl ?_ | (refine WC.cbool rfl ?_ ?_ <;> intro hcnd))
    | (with_reducible refine WL.nilK ?_)
    | (with_reducible refine WL.nil ?_)
    | (with_reducible refine AtQ.then_norm ?_)
    | (with_reducible refine AtQ.then_ret ?_)
    | (with_reducible refine AtQ.out_ret ?_)
    | ((with_reducible refine is_move ?_); first | refine WL.y H (Y.move rfl) (by decide) ?_)
    | ((with_reducible refine is_assign ?_); first | refine WL.y H (Y.assign rfl) (by decide) ?_)
    | ((with_reducible refine is_load ?_); first | refine WL.y H (Y.loadX rfl (by repeat' (first | exact List.mem_cons_self .. | apply List.mem_cons_of_mem)) rfl) (by decide) ?_ | refine WL.y H (Y.loadXN rfl (by repeat' (first | exact List.mem_cons_self .. | apply List.mem_cons_of_mem)) rfl rfl) (by decide) ?_)
    | ((with_reducible refine is_not ?_); first | refine WL.y H (Y.not rfl) (by decide) ?_)
    | ((with_reducible refine is_pick ?_); first | refine WL.y H (Y.pickT rfl rfl) (by decide) ?_ | refine WL.y H (Y.pickF rfl rfl) (by decide) ?_)
    | ((with_reducible refine is_extract ?_); first | refine WL.y H (Y.extract rfl rfl) (by decide) ?_)
    | ((with_reducible refine is_neq ?_); first | refine WL.y H ((Y.neq rfl rfl).boolT (by first | omega | (simp only [List.length_cons, List.length_nil]; done) | (simp only [List.length_cons, List.length_nil]; omega))) (by decide) ?_ | refine WL.y H ((Y.neq rfl rfl).boolF (by first | omega | (simp only [List.length_cons, List.length_nil]; done) | (simp only [List.length_cons, List.length_nil]; omega))) (by decide) ?_ | (refine WL.cmp H (Y.neq rfl rfl) (by decide) ?_ ?_ <;> intro hcmp))
    | ((with_reducible refine is_lss ?_); first | refine WL.y H ((Y.lss rfl rfl).boolT (by first | omega | (simp only [List.length_cons, List.length_nil]; done) | (simp only [List.length_cons, List.length_nil]; omega))) (by decide) ?_ | refine WL.y H ((Y.lss rfl rfl).boolF (by first | omega | (simp only [List.length_cons, List.length_nil]; done) | (simp only [List.length_cons, List.length_nil]; omega))) (by decide) ?_ | (refine WL.cmp H (Y.lss rfl rfl) (by decide) ?_ ?_ <;> intro hcmp))
    | ((with_reducible refine is_box ?_); first | (refine WL.boxN H rfl (by decide) ?_; intro _ w H _ _ _) | (refine WL.box1 H rfl rfl (by decide) ?_; intro _ w H _ _ _))
    | ((with_reducible refine is_alloc ?_); refine WL.alloc H (by decide) ?_; intro _ w H _ _ _)
    | ((with_reducible refine is_store ?_); first | (refine WL.store1 H rfl rfl rfl (by repeat' (first | exact Upd.here .. | apply Upd.there)) rfl ?_; intro w H _) | (refine WL.storeN H rfl rfl rfl rfl (by repeat' (first | exact Upd.here .. | apply Upd.there)) rfl ?_; intro w H _))
    | ((with_reducible refine is_grd ?_); first | refine WL.grd (Wd.some rfl rfl rfl) rfl ?_ | refine WL.pass (Wd.some rfl rfl rfl) rfl rfl (by decide) ?_ | refine WL.pass0 (Wd.some rfl rfl rfl) rfl rfl ?_))
  have hwlt : ∀ z ∈ ft (nod wa wc wts), z < w.heap.size := (H.own _ (nod wa wc wts) (by repeat' (first | exact List.mem_cons_self .. | apply List.mem_cons_of_mem))).ht.lt
  have hw1lt : ∀ z ∈ ft w1, z < w.heap.size := (H.own _ w1 (by repeat' (first | exact List.mem_cons_self .. | apply List.mem_cons_of_mem))).ht.lt
  have hB2 := H.chg.size
  with_reducible refine is_call (f := 35) ?_
  refine WL.call (vs := [tv t]) rfl (laws_toTerm_ok t _ (H.ht t (by repeat' (first | exact List.mem_cons_self .. | apply List.mem_cons_of_mem))) (Sm.lens t hs)) (by decide) ?_; intro v w hv2; obtain ⟨t2, e1, het2, ho1, hc1⟩ := hv2; subst e1; have hsz2 := hc1.size; have H := H.made hc1 (oA _ t2) ho1 ho1.new
  repeat' (first
    | (with_reducible refine WC.seq ?_)
    | (with_reducible refine WC.reg ?_)
    | (with_reducible refine WC.skip ?_)
    | (with_reducible refine WC.ret ?_)
    | ((with_reducible refine is_cond ?_); first | refine WC.ctrue rfl ?_ | refine WC.cfalse rfl ?_ | (refine WC.cbool rfl ?_ ?_ <;> intro hcnd))
    | (with_reducible refine WL.nilK ?_)
    | (with_reducible refine WL.nil ?_)
    | (with_reducible refine AtQ.then_norm ?_)
    | (with_reducible refine AtQ.then_ret ?_)
    | (with_reducible refine AtQ.out_ret ?_)
    | ((with_reducible refine is_move ?_); first | refine WL.y H (Y.move rfl) (by decide) ?_)
    | ((with_reducible refine is_assign ?_); first | refine WL.y H (Y.assign rfl) (by decide) ?_)
    | ((with_reducible refine is_load ?_); first | refine WL.y H (Y.loadX rfl (by repeat' (first | exact List.mem_cons_self .. | apply List.mem_cons_of_mem)) rfl) (by decide) ?_ | refine WL.y H (Y.loadXN rfl (by repeat' (first | exact List.mem_cons_self .. | apply List.mem_cons_of_mem)) rfl rfl) (by decide) ?_)
    | ((with_reducible refine is_not ?_); first | refine WL.y H (Y.not rfl) (by decide) ?_)
    | ((with_reducible refine is_pick ?_); first | refine WL.y H (Y.pickT rfl rfl) (by decide) ?_ | refine WL.y H (Y.pickF rfl rfl) (by decide) ?_)
    | ((with_reducible refine is_extract ?_); first | refine WL.y H (Y.extract rfl rfl) (by decide) ?_)
    | ((with_reducible refine is_neq ?_); first | refine WL.y H ((Y.neq rfl rfl).boolT (by first | omega | (simp only [List.length_cons, List.length_nil]; done) | (simp only [List.length_cons, List.length_nil]; omega))) (by decide) ?_ | refine WL.y H ((Y.neq rfl rfl).boolF (by first | omega | (simp only [List.length_cons, List.length_nil]; done) | (simp only [List.length_cons, List.length_nil]; omega))) (by decide) ?_ | (refine WL.cmp H (Y.neq rfl rfl) (by decide) ?_ ?_ <;> intro hcmp))
    | ((with_reducible refine is_lss ?_); first | refine WL.y H ((Y.lss rfl rfl).boolT (by first | omega | (simp only [List.length_cons, List.length_nil]; done) | (simp only [List.length_cons, List.length_nil]; omega))) (by decide) ?_ | refine WL.y H ((Y.lss rfl rfl).boolF (by first | omega | (simp only [List.length_cons, List.length_nil]; done) | (simp only [List.length_cons, List.length_nil]; omega))) (by decide) ?_ | (refine WL.cmp H (Y.lss rfl rfl) (by decide) ?_ ?_ <;> intro hcmp))
    | ((with_reducible refine is_box ?_); first | (refine WL.boxN H rfl (by decide) ?_; intro _ w H _ _ _) | (refine WL.box1 H rfl rfl (by decide) ?_; intro _ w H _ _ _))
    | ((with_reducible refine is_alloc ?_); refine WL.alloc H (by decide) ?_; intro _ w H _ _ _)
    | ((with_reducible refine is_store ?_); first | (refine WL.store1 H rfl rfl rfl (by repeat' (first | exact Upd.here .. | apply Upd.there)) rfl ?_; intro w H _) | (refine WL.storeN H rfl rfl rfl rfl (by repeat' (first | exact Upd.here .. | apply Upd.there)) rfl ?_; intro w H _))
    | ((with_reducible refine is_grd ?_); first | refine WL.grd (Wd.some rfl rfl rfl) rfl ?_ | refine WL.pass (Wd.some rfl rfl rfl) rfl rfl (by decide) ?_ | refine WL.pass0 (Wd.some rfl rfl rfl) rfl rfl ?_))
  have ht2lt : ∀ z ∈ ft t2, z < w.heap.size := (H.own _ t2 (by repeat' (first | exact List.mem_cons_self .. | apply List.mem_cons_of_mem))).ht.lt
  have hgB := H.chg.size
  with_reducible refine is_call (f := 36) ?_
  refine WL.call (vs := [tv t2]) rfl (himpl t2 _ (H.own _ t2 (by repeat' (first | exact List.mem_cons_self .. | apply List.mem_cons_of_mem))).ht het2) (by decide) ?_; intro v w hv2; obtain ⟨ga, gc, gts, g1, e1, heg, heg1, hog, hog1, hgd, hc1⟩ := hv2; subst e1
  have hgd' : ∀ z ∈ ft (nod ga gc gts), z ∉ ft g1 := fun z hz h => hgd z h (pft_ft hog z hz)
  have hgge := hog.own.new
  have hg1ge := hog1.new
  have H := H.made2 hc1 (oA _ (nod ga gc gts)) (oA _ g1) hog.own hog.own.new hog1 hog1.new
  repeat' (first
    | (with_reducible refine WC.seq ?_)
    | (with_reducible refine WC.reg ?_)
    | (with_reducible refine WC.skip ?_)
    | (with_reducible refine WC.ret ?_)
    | ((with_reducible refine is_cond ?_); first | refine WC.ctrue rfl ?_ | refine WC.cfalse rfl ?_ | (refine WC.cbool rfl ?_ ?_ <;> intro hcnd))
    | (with_reducible refine WL.nilK ?_)
    | (with_reducible refine WL.nil ?_)
    | (with_reducible refine AtQ.then_norm ?_)
    | (with_reducible refine AtQ.then_ret ?_)
    | (with_reducible refine AtQ.out_ret ?_)
    | ((with_reducible refine is_call (f := 19) ?_); refine WL.call (vs := [sl ga gts.length gc, sl wa wts.length wc]) rfl (laws_eqTermS_fn _ _ _ _ gts wts _ (H.own _ (nod ga gc gts) (by repeat' (first | exact List.mem_cons_self .. | apply List.mem_cons_of_mem))).ht (H.own _ (nod wa wc wts) (by repeat' (first | exact List.mem_cons_self .. | apply List.mem_cons_of_mem))).ht (heg.trans hew.symm) (hL gts heg).2) (by decide) ?_; intro v w hv2; obtain ⟨e1, hc1⟩ := hv2; subst e1; have H := H.call hc1)
    | ((with_reducible refine is_call (f := 37) ?_); refine WL.call (vs := [tv g1, tv w1]) rfl (laws_eqTerm_fn g1 w1 _ (H.own _ g1 (by repeat' (first | exact List.mem_cons_self .. | apply List.mem_cons_of_mem))).ht (H.own _ w1 (by repeat' (first | exact List.mem_cons_self .. | apply List.mem_cons_of_mem))).ht (heg1.trans hew1.symm) (hT g1 heg1).2) (by decide) ?_; intro v w hv2; obtain ⟨e1, hc1⟩ := hv2; subst e1; have H := H.call hc1)
    | ((with_reducible refine is_move ?_); first | refine WL.y H (Y.move rfl) (by decide) ?_)
    | ((with_reducible refine is_assign ?_); first | refine WL.y H (Y.assign rfl) (by decide) ?_)
    | ((with_reducible refine is_load ?_); first | refine WL.y H (Y.loadX rfl (by repeat' (first | exact List.mem_cons_self .. | apply List.mem_cons_of_mem)) rfl) (by decide) ?_ | refine WL.y H (Y.loadXN rfl (by repeat' (first | exact List.mem_cons_self .. | apply List.mem_cons_of_mem)) rfl rfl) (by decide) ?_)
    | ((with_reducible refine is_not ?_); first | refine WL.y H (Y.not rfl) (by decide) ?_)
    | ((with_reducible refine is_pick ?_); first | refine WL.y H (Y.pickT rfl rfl) (by decide) ?_ | refine WL.y H (Y.pickF rfl rfl) (by decide) ?_)
    | ((with_reducible refine is_extract ?_); first | refine WL.y H (Y.extract rfl rfl) (by decide) ?_)
    | ((with_reducible refine is_neq ?_); first | refine WL.y H ((Y.neq rfl rfl).boolT (by first | omega | (simp only [List.length_cons, List.length_nil]; done) | (simp only [List.length_cons, List.length_nil]; omega))) (by decide) ?_ | refine WL.y H ((Y.neq rfl rfl).boolF (by first | omega | (simp only [List.length_cons, List.length_nil]; done) | (simp only [List.length_cons, List.length_nil]; omega))) (by decide) ?_ | (refine WL.cmp H (Y.neq rfl rfl) (by decide) ?_ ?_ <;> intro hcmp))
    | ((with_reducible refine is_lss ?_); first | refine WL.y H ((Y.lss rfl rfl).boolT (by first | omega | (simp only [List.length_cons, List.length_nil]; done) | (simp only [List.length_cons, List.length_nil]; omega))) (by decide) ?_ | refine WL.y H ((Y.lss rfl rfl).boolF (by first | omega | (simp only [List.length_cons, List.length_nil]; done) | (simp only [List.length_cons, List.length_nil]; omega))) (by decide) ?_ | (refine WL.cmp H (Y.lss rfl rfl) (by decide) ?_ ?_ <;> intro hcmp))
    | ((with_reducible refine is_box ?_); first | (refine WL.boxN H rfl (by decide) ?_; intro _ w H _ _ _) | (refine WL.box1 H rfl rfl (by decide) ?_; intro _ w H _ _ _))
    | ((with_reducible refine is_alloc ?_); refine WL.alloc H (by decide) ?_; intro _ w H _ _ _)
    | ((with_reducible refine is_store ?_); first | (refine WL.store1 H rfl rfl rfl (by repeat' (first | exact Upd.here .. | apply Upd.there)) rfl ?_; intro w H _) | (refine WL.storeN H rfl rfl rfl rfl (by repeat' (first | exact Upd.here .. | apply Upd.there)) rfl ?_; intro w H _))
    | ((with_reducible refine is_grd ?_); first | refine WL.grd (Wd.some rfl rfl rfl) rfl ?_ | refine WL.pass (Wd.some rfl rfl rfl) rfl rfl (by decide) ?_ | refine WL.pass0 (Wd.some rfl rfl rfl) rfl rfl ?_))
  refine WC.draw mixed H (by repeat' (first | exact .nil | apply Sel.keep)) ?_
  intro w H _
  first
    | refine WR.take 0 (by kernel_rfl) (fun _ _ _ h => h) (H.mi (by repeat' (first | exact Incl.nil _ | refine Incl.cons (by repeat' (first | exact List.mem_cons_self .. | apply List.mem_cons_of_mem)) ?_)) (by repeat' (first | exact Incl.nil _ | refine Incl.cons (by repeat' (first | exact List.mem_cons_self .. | apply List.mem_cons_of_mem)) ?_))) (Nth.get (by repeat' (first | exact Nth.zero .. | apply Nth.succ))) rfl (by decide) (Wd.none rfl) rfl (Y.loadXN rfl (by repeat' (first | exact List.mem_cons_self .. | apply List.mem_cons_of_mem)) rfl rfl) (by kernel_rfl) ?_
  first
    | refine WR.take 1 (by kernel_rfl) (fun _ _ _ h => h) (H.mi (by repeat' (first | exact Incl.nil _ | refine Incl.cons (by repeat' (first | exact List.mem_cons_self .. | apply List.mem_cons_of_mem)) ?_)) (by repeat' (first | exact Incl.nil _ | refine Incl.cons (by repeat' (first | exact List.mem_cons_self .. | apply List.mem_cons_of_mem)) ?_))) (Nth.get (by repeat' (first | exact Nth.zero .. | apply Nth.succ))) rfl (by decide) (Wd.none rfl) rfl (Y.loadXN rfl (by repeat' (first | exact List.mem_cons_self .. | apply List.mem_cons_of_mem)) rfl rfl) (by kernel_rfl) ?_
  refine WR.run 2 (Nth.get (by repeat' (first | exact Nth.zero .. | apply Nth.succ))) (by kernel_rfl) ?_
  repeat' (first
    | ((with_reducible refine is_call (f := 35) ?_); refine WL.call (vs := [tv t]) rfl (laws_toTerm_ok t _ (H.ht t (by repeat' (first | exact List.mem_cons_self .. | apply List.mem_cons_of_mem))) (Sm.lens t hs)) (by decide) ?_; intro v w hv2; obtain ⟨t3, e1, het3, ho1, hc1⟩ := hv2; subst e1; have hsz3 := hc1.size; have H := H.made hc1 (oA _ t3) ho1 ho1.new)
    | ((with_reducible refine is_call (f := 37) ?_); refine WL.call (vs := [tv t2, tv t3]) rfl (laws_eqTerm_fn t2 t3 _ (H.own _ t2 (by repeat' (first | exact List.mem_cons_self .. | apply List.mem_cons_of_mem))).ht (H.own _ t3 (by repeat' (first | exact List.mem_cons_self .. | apply List.mem_cons_of_mem))).ht (het2.trans het3.symm) (het2 ▸ hs)) (by decide) ?_; intro v w hv2; obtain ⟨e1, hc1⟩ := hv2; subst e1; have H := H.call hc1)
    | ((with_reducible refine is_move ?_); first | refine WL.y H (Y.move rfl) (by decide) ?_)
    | ((with_reducible refine is_assign ?_); first | refine WL.y H (Y.assign rfl) (by decide) ?_)
    | ((with_reducible refine is_load ?_); first | refine WL.y H (Y.loadX rfl (by repeat' (first | exact List.mem_cons_self .. | apply List.mem_cons_of_mem)) rfl) (by decide) ?_ | refine WL.y H (Y.loadXN rfl (by repeat' (first | exact List.mem_cons_self .. | apply List.mem_cons_of_mem)) rfl rfl) (by decide) ?_)
    | ((with_reducible refine is_not ?_); first | refine WL.y H (Y.not rfl) (by decide) ?_)
    | ((with_reducible refine is_pick ?_); first | refine WL.y H (Y.pickT rfl rfl) (by decide) ?_ | refine WL.y H (Y.pickF rfl rfl) (by decide) ?_)
    | ((with_reducible refine is_extract ?_); first | refine WL.y H (Y.extract rfl rfl) (by decide) ?_)
    | ((with_reducible refine is_neq ?_); first | refine WL.y H ((Y.neq rfl rfl).boolT (by first | omega | (simp only [List.length_cons, List.length_nil]; done) | (simp only [List.length_cons, List.length_nil]; omega))) (by decide) ?_ | refine WL.y H ((Y.neq rfl rfl).boolF (by first | omega | (simp only [List.length_cons, List.length_nil]; done) | (simp only [List.length_cons, List.length_nil]; omega))) (by decide) ?_)
    | ((with_reducible refine is_lss ?_); first | refine WL.y H ((Y.lss rfl rfl).boolT (by first | omega | (simp only [List.length_cons, List.length_nil]; done) | (simp only [List.length_cons, List.length_nil]; omega))) (by decide) ?_ | refine WL.y H ((Y.lss rfl rfl).boolF (by first | omega | (simp only [List.length_cons, List.length_nil]; done) | (simp only [List.length_cons, List.length_nil]; omega))) (by decide) ?_)
    | ((with_reducible refine is_box ?_); first | (refine WL.boxN H rfl (by decide) ?_; intro _ w H _ _ _) | (refine WL.box1 H rfl rfl (by decide) ?_; intro _ w H _ _ _))
    | ((with_reducible refine is_alloc ?_); refine WL.alloc H (by decide) ?_; intro _ w H _ _ _)
    | ((with_reducible refine is_store ?_); first | (refine WL.store1 H rfl rfl rfl (by repeat' (first | exact Upd.here .. | apply Upd.there)) rfl ?_; intro w H _) | (refine WL.storeN H rfl rfl rfl rfl (by repeat' (first | exact Upd.here .. | apply Upd.there)) rfl ?_; intro w H _))
    | ((with_reducible refine is_grd ?_); first | refine WL.grd (Wd.some rfl rfl rfl) rfl ?_ | refine WL.pass (Wd.some rfl rfl rfl) rfl rfl (by decide) ?_ | refine WL.pass0 (Wd.some rfl rfl rfl) rfl rfl ?_))
  with_reducible refine WL.nilK ?_
  refine ⟨H.mi (by repeat' (first | exact Incl.nil _ | refine Incl.cons (by repeat' (first | exact List.mem_cons_self .. | apply List.mem_cons_of_mem)) ?_)) (by repeat' (first | exact Incl.nil _ | refine Incl.cons (by repeat' (first | exact List.mem_cons_self .. | apply List.mem_cons_of_mem)) ?_)), ?_⟩
  refine WR.run 3 (Nth.get (by repeat' (first | exact Nth.zero .. | apply Nth.succ))) (by kernel_rfl) ?_
  repeat' (first
    | ((with_reducible refine is_call (f := 35) ?_); refine WL.call (vs := [tv t]) rfl (laws_toTerm_ok t _ (H.ht t (by repeat' (first | exact List.mem_cons_self .. | apply List.mem_cons_of_mem))) (Sm.lens t hs)) (by decide) ?_; intro v w hv2; obtain ⟨t3, e1, het3, ho1, hc1⟩ := hv2; subst e1; have hsz3 := hc1.size; have H := H.made hc1 (oA _ t3) ho1 ho1.new)
    | ((with_reducible refine is_call (f := 37) ?_); refine WL.call (vs := [tv t2, tv t3]) rfl (laws_eqTerm_fn t2 t3 _ (H.own _ t2 (by repeat' (first | exact List.mem_cons_self .. | apply List.mem_cons_of_mem))).ht (H.own _ t3 (by repeat' (first | exact List.mem_cons_self .. | apply List.mem_cons_of_mem))).ht (het2.trans het3.symm) (het2 ▸ hs)) (by decide) ?_; intro v w hv2; obtain ⟨e1, hc1⟩ := hv2; subst e1; have H := H.call hc1)
    | ((with_reducible refine is_move ?_); first | refine WL.y H (Y.move rfl) (by decide) ?_)
    | ((with_reducible refine is_assign ?_); first | refine WL.y H (Y.assign rfl) (by decide) ?_)
    | ((with_reducible refine is_load ?_); first | refine WL.y H (Y.loadX rfl (by repeat' (first | exact List.mem_cons_self .. | apply List.mem_cons_of_mem)) rfl) (by decide) ?_ | refine WL.y H (Y.loadXN rfl (by repeat' (first | exact List.mem_cons_self .. | apply List.mem_cons_of_mem)) rfl rfl) (by decide) ?_)
    | ((with_reducible refine is_not ?_); first | refine WL.y H (Y.not rfl) (by decide) ?_)
    | ((with_reducible refine is_pick ?_); first | refine WL.y H (Y.pickT rfl rfl) (by decide) ?_ | refine WL.y H (Y.pickF rfl rfl) (by decide) ?_)
    | ((with_reducible refine is_extract ?_); first | refine WL.y H (Y.extract rfl rfl) (by decide) ?_)
    | ((with_reducible refine is_neq ?_); first | refine WL.y H ((Y.neq rfl rfl).boolT (by first | omega | (simp only [List.length_cons, List.length_nil]; done) | (simp only [List.length_cons, List.length_nil]; omega))) (by decide) ?_ | refine WL.y H ((Y.neq rfl rfl).boolF (by first | omega | (simp only [List.length_cons, List.length_nil]; done) | (simp only [List.length_cons, List.length_nil]; omega))) (by decide) ?_)
    | ((with_reducible refine is_lss ?_); first | refine WL.y H ((Y.lss rfl rfl).boolT (by first | omega | (simp only [List.length_cons, List.length_nil]; done) | (simp only [List.length_cons, List.length_nil]; omega))) (by decide) ?_ | refine WL.y H ((Y.lss rfl rfl).boolF (by first | omega | (simp only [List.length_cons, List.length_nil]; done) | (simp only [List.length_cons, List.length_nil]; omega))) (by decide) ?_)
    | ((with_reducible refine is_box ?_); first | (refine WL.boxN H rfl (by decide) ?_; intro _ w H _ _ _) | (refine WL.box1 H rfl rfl (by decide) ?_; intro _ w H _ _ _))
    | ((with_reducible refine is_alloc ?_); refine WL.alloc H (by decide) ?_; intro _ w H _ _ _)
    | ((with_reducible refine is_store ?_); first | (refine WL.store1 H rfl rfl rfl (by repeat' (first | exact Upd.here .. | apply Upd.there)) rfl ?_; intro w H _) | (refine WL.storeN H rfl rfl rfl rfl (by repeat' (first | exact Upd.here .. | apply Upd.there)) rfl ?_; intro w H _))
    | ((with_reducible refine is_grd ?_); first | refine WL.grd (Wd.some rfl rfl rfl) rfl ?_ | refine WL.pass (Wd.some rfl rfl rfl) rfl rfl (by decide) ?_ | refine WL.pass0 (Wd.some rfl rfl rfl) rfl rfl ?_))
  with_reducible refine WL.nilK ?_
  refine ⟨H.mi (by repeat' (first | exact Incl.nil _ | refine Incl.cons (by repeat' (first | exact List.mem_cons_self .. | apply List.mem_cons_of_mem)) ?_)) (by repeat' (first | exact Incl.nil _ | refine Incl.cons (by repeat' (first | exact List.mem_cons_self .. | apply List.mem_cons_of_mem)) ?_)), ?_⟩
  first
    | refine WR.take 4 (by kernel_rfl) (fun _ _ _ h => h) (H.mi (by repeat' (first | exact Incl.nil _ | refine Incl.cons (by repeat' (first | exact List.mem_cons_self .. | apply List.mem_cons_of_mem)) ?_)) (by repeat' (first | exact Incl.nil _ | refine Incl.cons (by repeat' (first | exact List.mem_cons_self .. | apply List.mem_cons_of_mem)) ?_))) (Nth.get (by repeat' (first | exact Nth.zero .. | apply Nth.succ))) rfl (by decide) (Wd.none rfl) rfl (Y.not rfl) (by kernel_rfl) ?_
  refine WR.done (by kernel_rfl) ?_
  have ho2 := H.own _ t2 (by repeat' (first | exact List.mem_cons_self .. | apply List.mem_cons_of_mem))
  have hcn : cnL t2.l ≤ wt x := cn_wt t2 x (het2.trans hx)
  have hs2 : Sm (er t2) := het2 ▸ hs
  have hgL := (hL gts heg).1
  have hgT := (hT g1 heg1).1
  repeat' (first
    | (with_reducible refine WC.seq ?_)
    | (with_reducible refine WC.reg ?_)
    | (with_reducible refine WC.skip ?_)
    | (with_reducible refine WC.ret ?_)
    | ((with_reducible refine is_cond ?_); first | refine WC.ctrue rfl ?_ | refine WC.cfalse rfl ?_ | (refine WC.cbool rfl ?_ ?_ <;> intro hcnd))
    | (with_reducible refine WL.nilK ?_)
    | (with_reducible refine WL.nil ?_)
    | (with_reducible refine AtQ.then_norm ?_)
    | (with_reducible refine AtQ.then_ret ?_)
    | (with_reducible refine AtQ.out_ret ?_)
    | ((with_reducible refine is_call (f := 38) ?_); refine WL.call (vs := [tv t2, .int .i64 1]) rfl (laws_markTerm_ok 1 ho2 (Sm.lens t2 hs2) (by decide) (by omega)) (by decide) ?_; intro v w hv2; obtain ⟨l2, e1, hm1, hln1, hfr1, ho1, hc1⟩ := hv2; subst e1; have H := H.off (A := oA _ t2) (S' := [oA _ (nod ga gc gts), oA _ g1, oA _ (nod wa wc wts), oA _ w1, tA t]) (by repeat' (first | exact List.mem_cons_self .. | apply List.mem_cons_of_mem)) hc1 (by repeat' (first | exact Incl.nil _ | refine Incl.cons (by repeat' (first | exact List.mem_cons_self .. | apply List.mem_cons_of_mem)) ?_)) (fun z hz => .inr (Nat.le_trans hB2 (ho2.new z hz))) (by intro A hA z hz hz2; simp only [List.mem_cons, List.not_mem_nil, or_false] at hA; have n1 := ho2.new z hz2; have n2 := ht2lt z hz2; rcases hA with rfl | rfl | rfl | rfl | rfl; { have := hgge z hz; omega }; { have := hg1ge z hz; omega }; { have := hwlt z hz; omega }; { have := hw1lt z hz; omega }; { have := ht.lt z hz; omega }))
    | ((with_reducible refine is_call (f := 19) ?_); refine WL.call (vs := [sl ga gts.length gc, sl wa wts.length wc]) rfl (laws_eqTermS_fn _ _ _ _ gts wts _ (H.own _ (nod ga gc gts) (by repeat' (first | exact List.mem_cons_self .. | apply List.mem_cons_of_mem))).ht (H.own _ (nod wa wc wts) (by repeat' (first | exact List.mem_cons_self .. | apply List.mem_cons_of_mem))).ht (heg.trans hew.symm) (hL gts heg).2) (by decide) ?_; intro v w hv2; obtain ⟨e1, hc1⟩ := hv2; subst e1; have H := H.call hc1)
    | ((with_reducible refine is_call (f := 37) ?_); refine WL.call (vs := [tv g1, tv w1]) rfl (laws_eqTerm_fn g1 w1 _ (H.own _ g1 (by repeat' (first | exact List.mem_cons_self .. | apply List.mem_cons_of_mem))).ht (H.own _ w1 (by repeat' (first | exact List.mem_cons_self .. | apply List.mem_cons_of_mem))).ht (heg1.trans hew1.symm) (hT g1 heg1).2) (by decide) ?_; intro v w hv2; obtain ⟨e1, hc1⟩ := hv2; subst e1; have H := H.call hc1)
    | ((with_reducible refine is_move ?_); first | refine WL.y H (Y.move rfl) (by decide) ?_)
    | ((with_reducible refine is_assign ?_); first | refine WL.y H (Y.assign rfl) (by decide) ?_)
    | ((with_reducible refine is_load ?_); first | refine WL.y H (Y.loadX rfl (by repeat' (first | exact List.mem_cons_self .. | apply List.mem_cons_of_mem)) rfl) (by decide) ?_ | refine WL.y H (Y.loadXN rfl (by repeat' (first | exact List.mem_cons_self .. | apply List.mem_cons_of_mem)) rfl rfl) (by decide) ?_)
    | ((with_reducible refine is_not ?_); first | refine WL.y H (Y.not rfl) (by decide) ?_)
    | ((with_reducible refine is_pick ?_); first | refine WL.y H (Y.pickT rfl rfl) (by decide) ?_ | refine WL.y H (Y.pickF rfl rfl) (by decide) ?_)
    | ((with_reducible refine is_extract ?_); first | refine WL.y H (Y.extract rfl rfl) (by decide) ?_)
    | ((with_reducible refine is_neq ?_); first | refine WL.y H ((Y.neq rfl rfl).boolT (by first | omega | (simp only [List.length_cons, List.length_nil]; done) | (simp only [List.length_cons, List.length_nil]; omega))) (by decide) ?_ | refine WL.y H ((Y.neq rfl rfl).boolF (by first | omega | (simp only [List.length_cons, List.length_nil]; done) | (simp only [List.length_cons, List.length_nil]; omega))) (by decide) ?_ | (refine WL.cmp H (Y.neq rfl rfl) (by decide) ?_ ?_ <;> intro hcmp))
    | ((with_reducible refine is_lss ?_); first | refine WL.y H ((Y.lss rfl rfl).boolT (by first | omega | (simp only [List.length_cons, List.length_nil]; done) | (simp only [List.length_cons, List.length_nil]; omega))) (by decide) ?_ | refine WL.y H ((Y.lss rfl rfl).boolF (by first | omega | (simp only [List.length_cons, List.length_nil]; done) | (simp only [List.length_cons, List.length_nil]; omega))) (by decide) ?_ | (refine WL.cmp H (Y.lss rfl rfl) (by decide) ?_ ?_ <;> intro hcmp))
    | ((with_reducible refine is_box ?_); first | (refine WL.boxN H rfl (by decide) ?_; intro _ w H _ _ _) | (refine WL.box1 H rfl rfl (by decide) ?_; intro _ w H _ _ _))
    | ((with_reducible refine is_alloc ?_); refine WL.alloc H (by decide) ?_; intro _ w H _ _ _)
    | ((with_reducible refine is_store ?_); first | (refine WL.store1 H rfl rfl rfl (by repeat' (first | exact Upd.here .. | apply Upd.there)) rfl ?_; intro w H _) | (refine WL.storeN H rfl rfl rfl rfl (by repeat' (first | exact Upd.here .. | apply Upd.there)) rfl ?_; intro w H _))
    | ((with_reducible refine is_grd ?_); first | refine WL.grd (Wd.some rfl rfl rfl) rfl ?_ | refine WL.pass (Wd.some rfl rfl rfl) rfl rfl (by decide) ?_ | refine WL.pass0 (Wd.some rfl rfl rfl) rfl rfl ?_))
  with_reducible refine is_call (f := 23) ?_
  refine WL.call (vs := [sl ga gts.length gc, .int .i64 1]) rfl (laws_markTermS_ok 1 (H.own _ (nod ga gc gts) (by repeat' (first | exact List.mem_cons_self .. | apply List.mem_cons_of_mem))) (SmL.lens (hL gts heg).2) (by decide) (by omega)) (by decide) ?_; intro v w hv2; obtain ⟨l0, e1, hm0, hln0, hfr0, ho0, hc1⟩ := hv2; subst e1
  have hft0 : ft (nod ga gc l0) = ft (nod ga gc gts) := by rw [ft_nd, ft_nd]; exact ftL_len ga hln0 hfr0
  have H := H.markS hgB hln0 hfr0 ho0 hc1 (by intro A hA z hz hz2; simp only [List.mem_cons, List.not_mem_nil, or_false] at hA; have n1 := hgge z hz2; rcases hA with rfl | rfl | rfl | rfl; { exact hgd' z hz2 hz }; { have := hwlt z hz; omega }; { have := hw1lt z hz; omega }; { have := ht.lt z hz; omega })
  have H := H.dropI (S' := [oA _ g1, oA _ (nod ga gc l0), oA _ (nod wa wc wts), oA _ w1, tA t]) (by repeat' (first | exact Incl.nil _ | refine Incl.cons (by repeat' (first | exact List.mem_cons_self .. | apply List.mem_cons_of_mem)) ?_))
  repeat' (first
    | (with_reducible refine WC.seq ?_)
    | (with_reducible refine WC.reg ?_)
    | (with_reducible refine WC.skip ?_)
    | (with_reducible refine WC.ret ?_)
    | ((with_reducible refine is_cond ?_); first | refine WC.ctrue rfl ?_ | refine WC.cfalse rfl ?_ | (refine WC.cbool rfl ?_ ?_ <;> intro hcnd))
    | (with_reducible refine WL.nilK ?_)
    | (with_reducible refine WL.nil ?_)
    | (with_reducible refine AtQ.then_norm ?_)
    | (with_reducible refine AtQ.then_ret ?_)
    | (with_reducible refine AtQ.out_ret ?_)
    | ((with_reducible refine is_move ?_); first | refine WL.y H (Y.move rfl) (by decide) ?_)
    | ((with_reducible refine is_assign ?_); first | refine WL.y H (Y.assign rfl) (by decide) ?_)
    | ((with_reducible refine is_load ?_); first | refine WL.y H (Y.loadX rfl (by repeat' (first | exact List.mem_cons_self .. | apply List.mem_cons_of_mem)) rfl) (by decide) ?_ | refine WL.y H (Y.loadXN rfl (by repeat' (first | exact List.mem_cons_self .. | apply List.mem_cons_of_mem)) rfl rfl) (by decide) ?_)
    | ((with_reducible refine is_not ?_); first | refine WL.y H (Y.not rfl) (by decide) ?_)
    | ((with_reducible refine is_pick ?_); first | refine WL.y H (Y.pickT rfl rfl) (by decide) ?_ | refine WL.y H (Y.pickF rfl rfl) (by decide) ?_)
    | ((with_reducible refine is_extract ?_); first | refine WL.y H (Y.extract rfl rfl) (by decide) ?_)
    | ((with_reducible refine is_neq ?_); first | refine WL.y H ((Y.neq rfl rfl).boolT (by first | omega | (simp only [List.length_cons, List.length_nil]; done) | (simp only [List.length_cons, List.length_nil]; omega))) (by decide) ?_ | refine WL.y H ((Y.neq rfl rfl).boolF (by first | omega | (simp only [List.length_cons, List.length_nil]; done) | (simp only [List.length_cons, List.length_nil]; omega))) (by decide) ?_ | (refine WL.cmp H (Y.neq rfl rfl) (by decide) ?_ ?_ <;> intro hcmp))
    | ((with_reducible refine is_lss ?_); first | refine WL.y H ((Y.lss rfl rfl).boolT (by first | omega | (simp only [List.length_cons, List.length_nil]; done) | (simp only [List.length_cons, List.length_nil]; omega))) (by decide) ?_ | refine WL.y H ((Y.lss rfl rfl).boolF (by first | omega | (simp only [List.length_cons, List.length_nil]; done) | (simp only [List.length_cons, List.length_nil]; omega))) (by decide) ?_ | (refine WL.cmp H (Y.lss rfl rfl) (by decide) ?_ ?_ <;> intro hcmp))
    | ((with_reducible refine is_box ?_); first | (refine WL.boxN H rfl (by decide) ?_; intro _ w H _ _ _) | (refine WL.box1 H rfl rfl (by decide) ?_; intro _ w H _ _ _))
    | ((with_reducible refine is_alloc ?_); refine WL.alloc H (by decide) ?_; intro _ w H _ _ _)
    | ((with_reducible refine is_store ?_); first | (refine WL.store1 H rfl rfl rfl (by repeat' (first | exact Upd.here .. | apply Upd.there)) rfl ?_; intro w H _) | (refine WL.storeN H rfl rfl rfl rfl (by repeat' (first | exact Upd.here .. | apply Upd.there)) rfl ?_; intro w H _))
    | ((with_reducible refine is_grd ?_); first | refine WL.grd (Wd.some rfl rfl rfl) rfl ?_ | refine WL.pass (Wd.some rfl rfl rfl) rfl rfl (by decide) ?_ | refine WL.pass0 (Wd.some rfl rfl rfl) rfl rfl ?_))
  with_reducible refine is_call (f := 38) ?_
  refine WL.call (vs := [tv g1, .int .i64 (1 + 3 * cnL gts)]) rfl (laws_markTerm_ok (1 + 3 * cnL gts) (H.own _ g1 (by repeat' (first | exact List.mem_cons_self .. | apply List.mem_cons_of_mem))) (Sm.lens g1 (hT g1 heg1).2) (by omega) (by omega)) (by decide) ?_; intro v w hv2; obtain ⟨l1, e1, hm1, hln1, hfr1, ho1, hc1⟩ := hv2; subst e1
  have H := H.markT hgB hln1 hfr1 ho1 hc1 (by intro A hA z hz hz2; simp only [List.mem_cons, List.not_mem_nil, or_false] at hA; have n1 := hg1ge z hz2; rcases hA with rfl | rfl | rfl | rfl; { have hz' : z ∈ ft (nod ga gc l0) := hz; rw [hft0] at hz'; exact hgd' z hz' hz2 }; { have := hwlt z hz; omega }; { have := hw1lt z hz; omega }; { have := ht.lt z hz; omega })
  have ev1 : tv g1 = tv ⟨g1.k, g1.i, g1.s, g1.a, g1.c, l1⟩ := by simp only [tv, tcs, hln1]
  have hlen0 : Len (nod ga gc l0) := hm0.lens (by omega) _ _
  have hlen1 : Len (⟨g1.k, g1.i, g1.s, g1.a, g1.c, l1⟩ : LT) := by obtain ⟨_, q1, q2⟩ := hm1.lens (by omega) none 0; exact ⟨_, q1, q2⟩
  repeat' (first
    | (with_reducible refine WC.seq ?_)
    | (with_reducible refine WC.reg ?_)
    | (with_reducible refine WC.skip ?_)
    | (with_reducible refine WC.ret ?_)
    | ((with_reducible refine is_cond ?_); first | refine WC.ctrue rfl ?_ | refine WC.cfalse rfl ?_ | (refine WC.cbool rfl ?_ ?_ <;> intro hcnd))
    | (with_reducible refine WL.nilK ?_)
    | (with_reducible refine WL.nil ?_)
    | (with_reducible refine AtQ.then_norm ?_)
    | (with_reducible refine AtQ.then_ret ?_)
    | (with_reducible refine AtQ.out_ret ?_)
    | ((with_reducible refine is_call (f := 39) ?_); refine WL.call (vs := [sl ga gts.length gc, .int .i64 1]) rfl (by have := laws_heldTermS_ok 1 (1 + 3 * cnL gts) (H.own _ (nod ga gc l0) (by repeat' (first | exact List.mem_cons_self .. | apply List.mem_cons_of_mem))).ht hlen0 hm0 (by decide) (by omega); rw [hln0] at this; exact this) (by decide) ?_; intro v w hv2; obtain ⟨e1, hc1⟩ := hv2; subst e1; have H := H.call hc1)
    | ((with_reducible refine is_call (f := 40) ?_); refine WL.call (vs := [tv g1, .int .i64 (1 + 3 * cnL gts)]) rfl (by rw [ev1]; exact laws_heldTerm_ok (1 + 3 * cnL gts) (1 + 3 * cnL gts + 3 * cnL g1.l) (H.own _ ⟨g1.k, g1.i, g1.s, g1.a, g1.c, l1⟩ (by repeat' (first | exact List.mem_cons_self .. | apply List.mem_cons_of_mem))).ht hlen1 hm1 (by omega) (by omega)) (by decide) ?_; intro v w hv2; obtain ⟨e1, hc1⟩ := hv2; subst e1; have H := H.call hc1)
    | ((with_reducible refine is_move ?_); first | refine WL.y H (Y.move rfl) (by decide) ?_)
    | ((with_reducible refine is_assign ?_); first | refine WL.y H (Y.assign rfl) (by decide) ?_)
    | ((with_reducible refine is_load ?_); first | refine WL.y H (Y.loadX rfl (by repeat' (first | exact List.mem_cons_self .. | apply List.mem_cons_of_mem)) rfl) (by decide) ?_ | refine WL.y H (Y.loadXN rfl (by repeat' (first | exact List.mem_cons_self .. | apply List.mem_cons_of_mem)) rfl rfl) (by decide) ?_)
    | ((with_reducible refine is_not ?_); first | refine WL.y H (Y.not rfl) (by decide) ?_)
    | ((with_reducible refine is_pick ?_); first | refine WL.y H (Y.pickT rfl rfl) (by decide) ?_ | refine WL.y H (Y.pickF rfl rfl) (by decide) ?_)
    | ((with_reducible refine is_extract ?_); first | refine WL.y H (Y.extract rfl rfl) (by decide) ?_)
    | ((with_reducible refine is_neq ?_); first | refine WL.y H ((Y.neq rfl rfl).boolT (by first | omega | (simp only [List.length_cons, List.length_nil]; done) | (simp only [List.length_cons, List.length_nil]; omega))) (by decide) ?_ | refine WL.y H ((Y.neq rfl rfl).boolF (by first | omega | (simp only [List.length_cons, List.length_nil]; done) | (simp only [List.length_cons, List.length_nil]; omega))) (by decide) ?_ | (refine WL.cmp H (Y.neq rfl rfl) (by decide) ?_ ?_ <;> intro hcmp))
    | ((with_reducible refine is_lss ?_); first | refine WL.y H ((Y.lss rfl rfl).boolT (by first | omega | (simp only [List.length_cons, List.length_nil]; done) | (simp only [List.length_cons, List.length_nil]; omega))) (by decide) ?_ | refine WL.y H ((Y.lss rfl rfl).boolF (by first | omega | (simp only [List.length_cons, List.length_nil]; done) | (simp only [List.length_cons, List.length_nil]; omega))) (by decide) ?_ | (refine WL.cmp H (Y.lss rfl rfl) (by decide) ?_ ?_ <;> intro hcmp))
    | ((with_reducible refine is_box ?_); first | (refine WL.boxN H rfl (by decide) ?_; intro _ w H _ _ _) | (refine WL.box1 H rfl rfl (by decide) ?_; intro _ w H _ _ _))
    | ((with_reducible refine is_alloc ?_); refine WL.alloc H (by decide) ?_; intro _ w H _ _ _)
    | ((with_reducible refine is_store ?_); first | (refine WL.store1 H rfl rfl rfl (by repeat' (first | exact Upd.here .. | apply Upd.there)) rfl ?_; intro w H _) | (refine WL.storeN H rfl rfl rfl rfl (by repeat' (first | exact Upd.here .. | apply Upd.there)) rfl ?_; intro w H _))
    | ((with_reducible refine is_grd ?_); first | refine WL.grd (Wd.some rfl rfl rfl) rfl ?_ | refine WL.pass (Wd.some rfl rfl rfl) rfl rfl (by decide) ?_ | refine WL.pass0 (Wd.some rfl rfl rfl) rfl rfl ?_))
  with_reducible refine is_call (f := 35) ?_
  refine WL.call (vs := [tv t]) rfl (laws_toTerm_ok t _ (H.ht t (by repeat' (first | exact List.mem_cons_self .. | apply List.mem_cons_of_mem))) (Sm.lens t hs)) (by decide) ?_; intro v w hv2; obtain ⟨t4, e1, het4, ho1, hc1⟩ := hv2; subst e1; have hsz4 := hc1.size; have H := H.made hc1 (oA _ t4) ho1 ho1.new
  repeat' (first
    | (with_reducible refine WC.seq ?_)
    | (with_reducible refine WC.reg ?_)
    | (with_reducible refine WC.skip ?_)
    | (with_reducible refine WC.ret ?_)
    | ((with_reducible refine is_cond ?_); first | refine WC.ctrue rfl ?_ | refine WC.cfalse rfl ?_ | (refine WC.cbool rfl ?_ ?_ <;> intro hcnd))
    | (with_reducible refine WL.nilK ?_)
    | (with_reducible refine WL.nil ?_)
    | (with_reducible refine AtQ.then_norm ?_)
    | (with_reducible refine AtQ.then_ret ?_)
    | (with_reducible refine AtQ.out_ret ?_)
    | ((with_reducible refine is_call (f := 36) ?_); refine WL.call (vs := [tv t4]) rfl (himpl t4 _ (H.own _ t4 (by repeat' (first | exact List.mem_cons_self .. | apply List.mem_cons_of_mem))).ht het4) (by decide) ?_; intro v w hv2; obtain ⟨ha, hc_, hts, h1, e1, heh, heh1, hoh, hoh1, hhd, hc1⟩ := hv2; subst e1; have H := H.made2 hc1 (oA _ (nod ha hc_ hts)) (oA _ h1) hoh.own hoh.own.new hoh1 hoh1.new)
    | ((with_reducible refine is_call (f := 19) ?_); refine WL.call (vs := [sl ha hts.length hc_, sl wa wts.length wc]) rfl (laws_eqTermS_fn _ _ _ _ hts wts _ (H.own _ (nod ha hc_ hts) (by repeat' (first | exact List.mem_cons_self .. | apply List.mem_cons_of_mem))).ht (H.own _ (nod wa wc wts) (by repeat' (first | exact List.mem_cons_self .. | apply List.mem_cons_of_mem))).ht (heh.trans hew.symm) (hL hts heh).2) (by decide) ?_; intro v w hv2; obtain ⟨e1, hc1⟩ := hv2; subst e1; have H := H.call hc1)
    | ((with_reducible refine is_call (f := 37) ?_); refine WL.call (vs := [tv h1, tv w1]) rfl (laws_eqTerm_fn h1 w1 _ (H.own _ h1 (by repeat' (first | exact List.mem_cons_self .. | apply List.mem_cons_of_mem))).ht (H.own _ w1 (by repeat' (first | exact List.mem_cons_self .. | apply List.mem_cons_of_mem))).ht (heh1.trans hew1.symm) (hT h1 heh1).2) (by decide) ?_; intro v w hv2; obtain ⟨e1, hc1⟩ := hv2; subst e1; have H := H.call hc1)
    | ((with_reducible refine is_call (f := 39) ?_); refine WL.call (vs := [sl ga gts.length gc, .int .i64 1]) rfl (by have := laws_heldTermS_ok 1 (1 + 3 * cnL gts) (H.own _ (nod ga gc l0) (by repeat' (first | exact List.mem_cons_self .. | apply List.mem_cons_of_mem))).ht hlen0 hm0 (by decide) (by omega); rw [hln0] at this; exact this) (by decide) ?_; intro v w hv2; obtain ⟨e1, hc1⟩ := hv2; subst e1; have H := H.call hc1)
    | ((with_reducible refine is_call (f := 40) ?_); refine WL.call (vs := [tv g1, .int .i64 (1 + 3 * cnL gts)]) rfl (by rw [ev1]; exact laws_heldTerm_ok (1 + 3 * cnL gts) (1 + 3 * cnL gts + 3 * cnL g1.l) (H.own _ ⟨g1.k, g1.i, g1.s, g1.a, g1.c, l1⟩ (by repeat' (first | exact List.mem_cons_self .. | apply List.mem_cons_of_mem))).ht hlen1 hm1 (by omega) (by omega)) (by decide) ?_; intro v w hv2; obtain ⟨e1, hc1⟩ := hv2; subst e1; have H := H.call hc1)
    | ((with_reducible refine is_move ?_); first | refine WL.y H (Y.move rfl) (by decide) ?_)
    | ((with_reducible refine is_assign ?_); first | refine WL.y H (Y.assign rfl) (by decide) ?_)
    | ((with_reducible refine is_load ?_); first | refine WL.y H (Y.loadX rfl (by repeat' (first | exact List.mem_cons_self .. | apply List.mem_cons_of_mem)) rfl) (by decide) ?_ | refine WL.y H (Y.loadXN rfl (by repeat' (first | exact List.mem_cons_self .. | apply List.mem_cons_of_mem)) rfl rfl) (by decide) ?_)
    | ((with_reducible refine is_not ?_); first | refine WL.y H (Y.not rfl) (by decide) ?_)
    | ((with_reducible refine is_pick ?_); first | refine WL.y H (Y.pickT rfl rfl) (by decide) ?_ | refine WL.y H (Y.pickF rfl rfl) (by decide) ?_)
    | ((with_reducible refine is_extract ?_); first | refine WL.y H (Y.extract rfl rfl) (by decide) ?_)
    | ((with_reducible refine is_neq ?_); first | refine WL.y H ((Y.neq rfl rfl).boolT (by first | omega | (simp only [List.length_cons, List.length_nil]; done) | (simp only [List.length_cons, List.length_nil]; omega))) (by decide) ?_ | refine WL.y H ((Y.neq rfl rfl).boolF (by first | omega | (simp only [List.length_cons, List.length_nil]; done) | (simp only [List.length_cons, List.length_nil]; omega))) (by decide) ?_ | (refine WL.cmp H (Y.neq rfl rfl) (by decide) ?_ ?_ <;> intro hcmp))
    | ((with_reducible refine is_lss ?_); first | refine WL.y H ((Y.lss rfl rfl).boolT (by first | omega | (simp only [List.length_cons, List.length_nil]; done) | (simp only [List.length_cons, List.length_nil]; omega))) (by decide) ?_ | refine WL.y H ((Y.lss rfl rfl).boolF (by first | omega | (simp only [List.length_cons, List.length_nil]; done) | (simp only [List.length_cons, List.length_nil]; omega))) (by decide) ?_ | (refine WL.cmp H (Y.lss rfl rfl) (by decide) ?_ ?_ <;> intro hcmp))
    | ((with_reducible refine is_box ?_); first | (refine WL.boxN H rfl (by decide) ?_; intro _ w H _ _ _) | (refine WL.box1 H rfl rfl (by decide) ?_; intro _ w H _ _ _))
    | ((with_reducible refine is_alloc ?_); refine WL.alloc H (by decide) ?_; intro _ w H _ _ _)
    | ((with_reducible refine is_store ?_); first | (refine WL.store1 H rfl rfl rfl (by repeat' (first | exact Upd.here .. | apply Upd.there)) rfl ?_; intro w H _) | (refine WL.storeN H rfl rfl rfl rfl (by repeat' (first | exact Upd.here .. | apply Upd.there)) rfl ?_; intro w H _))
    | ((with_reducible refine is_grd ?_); first | refine WL.grd (Wd.some rfl rfl rfl) rfl ?_ | refine WL.pass (Wd.some rfl rfl rfl) rfl rfl (by decide) ?_ | refine WL.pass0 (Wd.some rfl rfl rfl) rfl rfl ?_))
  exact AtQ.r1 (resVal.t rfl) ⟨rfl, H.chg⟩
end Go.Proofs.Ytpfooiepmnaoaaa.E
namespace Go.Proofs.Ytpfooiepmnaoaaa.X
open Go Go.RowKit Go.Proofs.Ytpfooiepmnaoaaa.E Go.Proofs.YtpfooiepmnaoaaaW.PrintWords
set_option linter.unusedVariables false
open Classical in
noncomputable def laws_FnExactItemsOf.f (k : Nat) (f0 f1 : Int) (f2 : ByteArray) (f3 : List LTm) : Option Bool := if B44 ⟨f0, f1, f2, f3⟩ then some true else none
theorem laws_FnExactItemsOf.calls (k : Nat) (f0 f1 : Int) (f2 : ByteArray) (A0 : Option Addr) (c0 : Nat) (l0 : List LTm) (w : World) (h0 : Kd.C k44 w A0 l0.length l0) (hc0 : l0.length ≤ c0) (h : laws_FnExactItemsOf.f k f0 f1 f2 l0 = some true) :
    Calls Try.prog 7 #[.agg #[.int .i64 f0, .int .i64 f1, .string f2, .slice A0 l0.length c0]] w fun e w' => e = .returned (.bool true) ∧ Below w.heap.size w w' := by
  unfold laws_FnExactItemsOf.f at h
  split at h
  · rename_i hb
    obtain ⟨t, g1, g2, g3, g4, g5, g6, hx, ht⟩ := located (w := w) ⟨f0, f1, f2, l0⟩ A0 c0 hc0 h0
    have ev : (.agg #[.int .i64 f0, .int .i64 f1, .string f2, .slice A0 l0.length c0] : Value) = tv t := by rw [← g4, ← g5]; simp only at g1 g2 g3 g6; rw [← g1, ← g2, ← g3, ← g6]
    rw [ev]
    refine (FnExactItemsOf_fn t ⟨f0, f1, f2, l0⟩ w ht hx hb).2.mono fun e w' ⟨v, he, hv, hc⟩ => ?_
    subst hv
    exact ⟨he, hc.below⟩
  · cases h
end Go.Proofs.Ytpfooiepmnaoaaa.X
