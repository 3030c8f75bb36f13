/- ItemsOf on both sides. (Printed by wip/eng/gen_items.py.) -/
import Derived.Test.YtpfooiepmnaoaaaEngS
import Derived.Test.YtpfooiepmnaoaaaEngCopy
import Derived.Test.YtpfooiepmnaoaaaEngX
namespace Go.Proofs.Ytpfooiepmnaoaaa.E
open Go Go.RowKit Go.Proofs.Ytpfooiepmnaoaaa.X Go.Proofs.YtpfooiepmnaoaaaW.PrintWords Go.Proofs.Ytpfooiepmnaoaaa.Base
set_option linter.unusedVariables false
set_option linter.unusedSimpArgs false
/-- The items of a list, and what it ends in. -/
def itemsT : Tm → List Tm
  | .pair a b => a :: itemsT b
  | _ => []
def tailT : Tm → Tm
  | .pair _ b => tailT b
  | m => m
theorem SH.kidA {w0 w : World} {F0 : Nat → Prop} {X : List (Nat × Obj)} {S : List Asn} {t x : LT} (H : SH w0 F0 w X S) (h : tA t ∈ S) (hx : x ∈ t.l) : SH w0 F0 w X (tA x :: S) :=
  H.add (tA x) ((H.ht t h).kid x hx) fun p hp hf => H.sep _ h p hp (tA_kid hx _ hf)
theorem Sm.tok {t : LT} {m : Tm} (he : er t = m.enc) : True := trivial
/-- What ItemsOf hands back. -/
def ItR (L : List ITm) (T : ITm) (w : World) (u : Value) (w' : World) : Prop :=
  ∃ a c ts t', u = .tuple #[.slice a ts.length c, tv t'] ∧ ts.map er = L ∧ er t' = T ∧ OwnP w.heap.size w' a c ts ∧ Own w.heap.size w' t' ∧ (∀ z ∈ ft t', ¬ pft a ts z) ∧ Chg noF w w'
abbrev zT : LT := ⟨0, 0, ⟨#[]⟩, none, 0, []⟩
theorem Tm.lens : ∀ (m : Tm) (t : LT), er t = m.enc → Len t := by
  intro m
  induction m with
  | pair x y ihx ihy =>
    intro t he
    rw [er_eq] at he
    simp only [Tm.enc, S47.mk.injEq] at he
    obtain ⟨_, _, _, hl⟩ := he
    refine ⟨t, ?_, ?_⟩
    · have := congrArg List.length hl; simp at this; omega
    · intro u hu
      have : er u ∈ t.l.map er := List.mem_map_of_mem hu
      rw [hl] at this
      simp only [List.mem_cons, List.not_mem_nil, or_false] at this
      rcases this with h | h
      · exact ihx u h
      · exact ihy u h
  | _ =>
    intro t he
    have hl := (enc_leaf he (fun _ _ h => by cases h)).1
    exact ⟨t, by rw [hl]; simp, by rw [hl]; intro u hu; cases hu⟩
set_option maxRecDepth 100000 in
set_option maxHeartbeats 4000000 in
theorem spec_ItemsOf_no (t : LT) (w0 : World) (ht : HT w0 t) (hs : Sm (er t)) (hv : ¬ TOk (er t)) : Fn Try.prog 34 [tv t] w0 (ItR [] (er zT) w0) := by
  refine Fn.body (N := 28) Try.func34 rfl rfl rfl rfl rfl ?_
  have H : SH w0 noF w0 [] [tA t] := SH.start _ _ _ (by simpa [tA] using ht)
  repeat' (first
    | (with_reducible refine WC.seq ?_)
    | (with_reducible refine WC.reg ?_)
    | (with_reducible refine WC.block ?_)
    | (with_reducible refine WC.skip ?_)
    | (with_reducible refine WC.ret ?_)
    | (with_reducible refine WC.exit ?_)
    | ((with_reducible refine is_cond ?_); first | refine WC.ctrue rfl ?_ | refine WC.cfalse rfl ?_ | (refine WC.cbool rfl ?_ ?_ <;> intro hcnd))
    | (with_reducible refine WL.nilK ?_)
    | (with_reducible refine WL.nil ?_)
    | (with_reducible refine AtQ.then_norm ?_)
    | (with_reducible refine AtQ.then_ret ?_)
    | (with_reducible refine AtQ.then_exit ?_)
    | (with_reducible refine AtQ.block_ret ?_)
    | (with_reducible refine AtQ.block_norm ?_)
    | (with_reducible refine AtQ.block_here ?_)
    | (with_reducible refine AtQ.loop_ret ?_)
    | (with_reducible refine AtQ.loop_exit ?_)
    | (with_reducible refine AtQ.out_ret ?_)
    | (with_reducible refine AtQ.out_exit ?_)
    | ((with_reducible refine AtQ.block_other ?_ ?_); · exact rfl)
    | ((with_reducible refine is_call (f := 82) ?_); refine WL.call (vs := [tv t]) rfl (spec_TermOk_fn t _ (H.ht t (by repeat' (first | exact List.mem_cons_self .. | apply List.mem_cons_of_mem))) hs) (by decide) ?_; intro v w hv2; obtain ⟨e1, hc1⟩ := hv2; rw [decide_eq_false hv] at e1; subst e1; have H := H.call hc1)
    | ((with_reducible refine is_move ?_); first | refine WL.y H (Y.move rfl) (by decide) ?_)
    | ((with_reducible refine is_assign ?_); first | refine WL.y H (Y.assign rfl) (by decide) ?_)
    | ((with_reducible refine is_fld ?_); first | refine WL.y H (Y.fld rfl) (by decide) ?_)
    | ((with_reducible refine is_load ?_); first | refine WL.y H (Y.loadX rfl (by repeat' (first | exact List.mem_cons_self .. | apply List.mem_cons_of_mem)) rfl) (by decide) ?_ | refine WL.y H (Y.loadXN rfl (by repeat' (first | exact List.mem_cons_self .. | apply List.mem_cons_of_mem)) rfl rfl) (by decide) ?_)
    | ((with_reducible refine is_idx ?_); first | refine WL.y H (Y.idx rfl rfl (by first | omega | (simp only [List.length_cons, List.length_nil]; done) | (simp only [List.length_cons, List.length_nil]; omega)) (by first | omega | (simp only [List.length_cons, List.length_nil]; done) | (simp only [List.length_cons, List.length_nil]; omega))) (by decide) ?_)
    | ((with_reducible refine is_not ?_); first | refine WL.y H (Y.not rfl) (by decide) ?_)
    | ((with_reducible refine is_build ?_); first | refine WL.y H (Y.build rfl rfl) (by decide) ?_)
    | ((with_reducible refine is_eql ?_); first | refine WL.y H ((Y.eql rfl rfl).boolT (by first | omega | (simp only [List.length_cons, List.length_nil]; done) | (simp only [List.length_cons, List.length_nil]; omega))) (by decide) ?_ | refine WL.y H ((Y.eql rfl rfl).boolF (by first | omega | (simp only [List.length_cons, List.length_nil]; done) | (simp only [List.length_cons, List.length_nil]; omega))) (by decide) ?_ | (refine WL.cmp H (Y.eql rfl rfl) (by decide) ?_ ?_ <;> intro hcmp))
    | ((with_reducible refine is_box ?_); first | (refine WL.boxN H rfl (by decide) ?_; intro _ w H _ _ _) | (refine WL.box1 H rfl rfl (by decide) ?_; intro _ w H _ _ _))
    | ((with_reducible refine is_alloc ?_); refine WL.alloc H (by decide) ?_; intro _ w H _ _ _)
    | ((with_reducible refine is_store ?_); first | (refine WL.store1 H rfl rfl rfl (by repeat' (first | exact Upd.here .. | apply Upd.there)) rfl ?_; intro w H _) | (refine WL.storeN H rfl rfl rfl rfl (by repeat' (first | exact Upd.here .. | apply Upd.there)) rfl ?_; intro w H _))
    | ((with_reducible refine is_bslice ?_); refine WL.bslice H rfl rfl rfl (by decide) ?_; intro _ w H _ _ _))
  refine AtQ.r2 (resVal.t rfl) (resVal.cN H rfl (by repeat' (first | exact List.mem_cons_self .. | apply List.mem_cons_of_mem)) rfl) ⟨none, 0, [], zT, rfl, rfl, rfl, pA_nil _ _, Own.leaf rfl, (by rw [ft_leaf rfl]; intro z hz; cases hz), H.chg⟩
set_option maxRecDepth 100000 in
set_option maxHeartbeats 4000000 in
theorem spec_ItemsOf_ok (m : Tm) (t : LT) (w0 : World) (he : er t = m.enc) (ht : HT w0 t) (hs : Sm (er t)) (hv : TOk (er t)) (hz : m.size ≤ 5000) : Fn Try.prog 34 [tv t] w0 (ItR ((itemsT m).map Tm.enc) (tailT m).enc w0) := by
  refine Fn.body (N := 28) Try.func34 rfl rfl rfl rfl rfl ?_
  have H : SH w0 noF w0 [] [tA t] := SH.start _ _ _ (by simpa [tA] using ht)
  repeat' (first
    | (with_reducible refine WC.seq ?_)
    | (with_reducible refine WC.reg ?_)
    | (with_reducible refine WC.block ?_)
    | (with_reducible refine WC.skip ?_)
    | (with_reducible refine WC.ret ?_)
    | (with_reducible refine WC.exit ?_)
    | ((with_reducible refine is_cond ?_); first | refine WC.ctrue rfl ?_ | refine WC.cfalse rfl ?_ | (refine WC.cbool rfl ?_ ?_ <;> intro hcnd))
    | (with_reducible refine WL.nilK ?_)
    | (with_reducible refine WL.nil ?_)
    | (with_reducible refine AtQ.then_norm ?_)
    | (with_reducible refine AtQ.then_ret ?_)
    | (with_reducible refine AtQ.then_exit ?_)
    | (with_reducible refine AtQ.block_ret ?_)
    | (with_reducible refine AtQ.block_norm ?_)
    | (with_reducible refine AtQ.block_here ?_)
    | (with_reducible refine AtQ.loop_ret ?_)
    | (with_reducible refine AtQ.loop_exit ?_)
    | (with_reducible refine AtQ.out_ret ?_)
    | (with_reducible refine AtQ.out_exit ?_)
    | ((with_reducible refine AtQ.block_other ?_ ?_); · exact rfl)
    | ((with_reducible refine is_box ?_); refine WL.boxN H rfl (by decide) ?_; intro b1 w H hb1 _ _)
    | ((with_reducible refine is_move ?_); first | refine WL.y H (Y.move rfl) (by decide) ?_)
    | ((with_reducible refine is_assign ?_); first | refine WL.y H (Y.assign rfl) (by decide) ?_)
    | ((with_reducible refine is_fld ?_); first | refine WL.y H (Y.fld rfl) (by decide) ?_)
    | ((with_reducible refine is_load ?_); first | refine WL.y H (Y.loadX rfl (by repeat' (first | exact List.mem_cons_self .. | apply List.mem_cons_of_mem)) rfl) (by decide) ?_ | refine WL.y H (Y.loadXN rfl (by repeat' (first | exact List.mem_cons_self .. | apply List.mem_cons_of_mem)) rfl rfl) (by decide) ?_)
    | ((with_reducible refine is_idx ?_); first | refine WL.y H (Y.idx rfl rfl (by first | omega | (simp only [List.length_cons, List.length_nil]; done) | (simp only [List.length_cons, List.length_nil]; omega)) (by first | omega | (simp only [List.length_cons, List.length_nil]; done) | (simp only [List.length_cons, List.length_nil]; omega))) (by decide) ?_)
    | ((with_reducible refine is_not ?_); first | refine WL.y H (Y.not rfl) (by decide) ?_)
    | ((with_reducible refine is_build ?_); first | refine WL.y H (Y.build rfl rfl) (by decide) ?_)
    | ((with_reducible refine is_eql ?_); first | refine WL.y H ((Y.eql rfl rfl).boolT (by first | omega | (simp only [List.length_cons, List.length_nil]; done) | (simp only [List.length_cons, List.length_nil]; omega))) (by decide) ?_ | refine WL.y H ((Y.eql rfl rfl).boolF (by first | omega | (simp only [List.length_cons, List.length_nil]; done) | (simp only [List.length_cons, List.length_nil]; omega))) (by decide) ?_ | (refine WL.cmp H (Y.eql rfl rfl) (by decide) ?_ ?_ <;> intro hcmp)))
  repeat' (first
    | (with_reducible refine WC.seq ?_)
    | (with_reducible refine WC.reg ?_)
    | (with_reducible refine WC.block ?_)
    | (with_reducible refine WC.skip ?_)
    | (with_reducible refine WC.ret ?_)
    | (with_reducible refine WC.exit ?_)
    | ((with_reducible refine is_cond ?_); first | refine WC.ctrue rfl ?_ | refine WC.cfalse rfl ?_ | (refine WC.cbool rfl ?_ ?_ <;> intro hcnd))
    | (with_reducible refine WL.nilK ?_)
    | (with_reducible refine WL.nil ?_)
    | (with_reducible refine AtQ.then_norm ?_)
    | (with_reducible refine AtQ.then_ret ?_)
    | (with_reducible refine AtQ.then_exit ?_)
    | (with_reducible refine AtQ.block_ret ?_)
    | (with_reducible refine AtQ.block_norm ?_)
    | (with_reducible refine AtQ.block_here ?_)
    | (with_reducible refine AtQ.loop_ret ?_)
    | (with_reducible refine AtQ.loop_exit ?_)
    | (with_reducible refine AtQ.out_ret ?_)
    | (with_reducible refine AtQ.out_exit ?_)
    | ((with_reducible refine AtQ.block_other ?_ ?_); · exact rfl)
    | ((with_reducible refine is_alloc ?_); refine WL.alloc H (by decide) ?_; intro b3 w H hb3 _ _)
    | ((with_reducible refine is_call (f := 82) ?_); refine WL.call (vs := [tv t]) rfl (spec_TermOk_fn t _ (H.ht t (by repeat' (first | exact List.mem_cons_self .. | apply List.mem_cons_of_mem))) hs) (by decide) ?_; intro v w hv2; obtain ⟨e1, hc1⟩ := hv2; rw [decide_eq_true hv] at e1; subst e1; have H := H.call hc1)
    | ((with_reducible refine is_bslice ?_); have hs2 := H.chg.size; refine WL.bslice H rfl rfl rfl (by decide) ?_; intro bs w H hbs _ _)
    | ((with_reducible refine is_move ?_); first | refine WL.y H (Y.move rfl) (by decide) ?_)
    | ((with_reducible refine is_assign ?_); first | refine WL.y H (Y.assign rfl) (by decide) ?_)
    | ((with_reducible refine is_fld ?_); first | refine WL.y H (Y.fld rfl) (by decide) ?_)
    | ((with_reducible refine is_load ?_); first | refine WL.y H (Y.loadX rfl (by repeat' (first | exact List.mem_cons_self .. | apply List.mem_cons_of_mem)) rfl) (by decide) ?_ | refine WL.y H (Y.loadXN rfl (by repeat' (first | exact List.mem_cons_self .. | apply List.mem_cons_of_mem)) rfl rfl) (by decide) ?_)
    | ((with_reducible refine is_idx ?_); first | refine WL.y H (Y.idx rfl rfl (by first | omega | (simp only [List.length_cons, List.length_nil]; done) | (simp only [List.length_cons, List.length_nil]; omega)) (by first | omega | (simp only [List.length_cons, List.length_nil]; done) | (simp only [List.length_cons, List.length_nil]; omega))) (by decide) ?_)
    | ((with_reducible refine is_not ?_); first | refine WL.y H (Y.not rfl) (by decide) ?_)
    | ((with_reducible refine is_build ?_); first | refine WL.y H (Y.build rfl rfl) (by decide) ?_)
    | ((with_reducible refine is_eql ?_); first | refine WL.y H ((Y.eql rfl rfl).boolT (by first | omega | (simp only [List.length_cons, List.length_nil]; done) | (simp only [List.length_cons, List.length_nil]; omega))) (by decide) ?_ | refine WL.y H ((Y.eql rfl rfl).boolF (by first | omega | (simp only [List.length_cons, List.length_nil]; done) | (simp only [List.length_cons, List.length_nil]; omega))) (by decide) ?_ | (refine WL.cmp H (Y.eql rfl rfl) (by decide) ?_ ?_ <;> intro hcmp))
    | ((with_reducible refine is_box ?_); first | (refine WL.boxN H rfl (by decide) ?_; intro _ w H _ _ _) | (refine WL.box1 H rfl rfl (by decide) ?_; intro _ w H _ _ _))
    | ((with_reducible refine is_alloc ?_); refine WL.alloc H (by decide) ?_; intro _ w H _ _ _)
    | ((with_reducible refine is_store ?_); first | (refine WL.store1 H rfl rfl rfl (by repeat' (first | exact Upd.here .. | apply Upd.there)) rfl ?_; intro w H _) | (refine WL.storeN H rfl rfl rfl rfl (by repeat' (first | exact Upd.here .. | apply Upd.there)) rfl ?_; intro w H _))
    | ((with_reducible refine is_bslice ?_); refine WL.bslice H rfl rfl rfl (by decide) ?_; intro _ w H _ _ _))
  have hs3 := H.chg.size
  have hbs' : w0.heap.size ≤ bs := by omega
  have H := (H.dropX (.cons _ (.refl _))).add (pA w0.heap.size (some ⟨bs, 0, none⟩) 0 []) ⟨OwnL.nil _ _, .inr ⟨bs, [], rfl, H.blk (by repeat' (first | exact List.mem_cons_self .. | apply List.mem_cons_of_mem)), rfl, hbs', by rw [ftR]; intro h; cases h⟩⟩ (by
    have hnd := H.nd
    simp only [List.map_cons, List.map_nil, List.nodup_cons, List.mem_cons, List.not_mem_nil, or_false, not_or] at hnd
    intro p hp hf
    rcases hf with ⟨o, e⟩ | hf
    · obtain ⟨e, _, _⟩ := Addr.mk.inj (Option.some.inj e)
      simp only [List.mem_cons, List.not_mem_nil, or_false] at hp
      rcases hp with rfl | rfl
      · exact hnd.1.1 e
      · exact hnd.1.2 e
    · rw [ftR] at hf; cases hf)
  refine WC.loop (σ := LT × Tm × List LT × Option Addr × Nat) (fun s => [(1, .pointer (some ⟨b1, 0, none⟩)), (3, .pointer (some ⟨b3, 0, none⟩)), (4, .slice s.2.2.2.1 s.2.2.1.length s.2.2.2.2)])
    (fun s w' => er s.1 = s.2.1.enc ∧ s.2.1.size ≤ 5000 ∧ (∃ dn, s.2.2.1.map er = dn.map Tm.enc ∧ itemsT m = dn ++ itemsT s.2.1) ∧ s.2.2.1.length + s.2.1.size ≤ 5000 ∧ tailT m = tailT s.2.1 ∧ (∀ z ∈ ft s.1, z < w0.heap.size) ∧ SH w0 noF w' [(b3, .cells zt.toArray 47 (0, 0)), (b1, .cells (tcs s.1).toArray 47 (0, 0))] [pA w0.heap.size s.2.2.2.1 s.2.2.2.2 s.2.2.1, tA s.1])
    (fun s => s.2.1.size) (t, m, [], some ⟨bs, 0, none⟩, 0) (by repeat' (first | exact Sub.nil | refine Sub.cons rfl ?_)) ⟨he, hz, ⟨[], rfl, rfl⟩, (by simp only [List.length_nil]; omega), rfl, ht.lt, H⟩ (fun s w hinv => ?_)
  obtain ⟨cur, cm, ts, pa, pc⟩ := s
  obtain ⟨hec, hcz, ⟨dn, hdn1, hdn2⟩, hln, htl, hclt, H⟩ := hinv
  simp only at hec hcz hdn1 hdn2 hln htl hclt H ⊢
  have hwsz := H.chg.size
  by_cases hp : ∃ x y, cm = .pair x y
  · obtain ⟨x, y, rfl⟩ := hp
    obtain ⟨tb, tto, tc, p, q, rfl, hpe, hqe, _, _⟩ := enc_pair hec (H.ht cur (by repeat' (first | exact List.mem_cons_self .. | apply List.mem_cons_of_mem)))
    have hsz1 : (Tm.pair x y).size = 1 + x.size + y.size := rfl
    repeat' (first
      | (with_reducible refine WC.seq ?_)
      | (with_reducible refine WC.reg ?_)
      | (with_reducible refine WC.block ?_)
      | (with_reducible refine WC.skip ?_)
      | (with_reducible refine WC.ret ?_)
      | (with_reducible refine WC.exit ?_)
      | ((with_reducible refine is_cond ?_); first | refine WC.ctrue rfl ?_ | refine WC.cfalse rfl ?_ | (refine WC.cbool rfl ?_ ?_ <;> intro hcnd))
      | (with_reducible refine WL.nilK ?_)
      | (with_reducible refine WL.nil ?_)
      | (with_reducible refine AtQ.then_norm ?_)
      | (with_reducible refine AtQ.then_ret ?_)
      | (with_reducible refine AtQ.then_exit ?_)
      | (with_reducible refine AtQ.block_ret ?_)
      | (with_reducible refine AtQ.block_norm ?_)
      | (with_reducible refine AtQ.block_here ?_)
      | (with_reducible refine AtQ.loop_ret ?_)
      | (with_reducible refine AtQ.loop_exit ?_)
      | (with_reducible refine AtQ.out_ret ?_)
      | (with_reducible refine AtQ.out_exit ?_)
      | ((with_reducible refine AtQ.block_other ?_ ?_); · exact rfl)
      | ((with_reducible refine is_call (f := 83) ?_); have hplt := (pA w0.heap.size pa pc ts).lt _ (H.of (A := pA _ pa pc ts) (by repeat' (first | exact List.mem_cons_self .. | apply List.mem_cons_of_mem))); refine WL.call (vs := [tv p]) rfl (spec_l02Copy_ok p _ ((H.ht ⟨4, 0, ⟨#[]⟩, some ⟨tb, tto, none⟩, tc, [p, q]⟩ (by repeat' (first | exact List.mem_cons_self .. | apply List.mem_cons_of_mem))).kid p (by simp)) (Tm.lens x p hpe)) (by decide) ?_; intro v w hv2; obtain ⟨t1, e1, he1, ho1, hc1⟩ := hv2; subst e1; have hs1 := hc1.size; have hlo1 := ho1.new; have H := H.made hc1 (oA _ t1) ho1 hlo1)
      | ((with_reducible refine is_append ?_); have hs4 := H.chg.size; have H := H.dropI (S' := [pA _ pa pc ts, oA _ t1, tA ⟨4, 0, ⟨#[]⟩, some ⟨tb, tto, none⟩, tc, [p, q]⟩]) (by repeat' (first | exact Incl.nil _ | refine Incl.cons (by repeat' (first | exact List.mem_cons_self .. | apply List.mem_cons_of_mem)) ?_)); refine WL.appendT H rfl rfl (by repeat' (first | exact List.mem_cons_self .. | apply List.mem_cons_of_mem)) (by omega) (Nat.le_refl _) (by omega) (fun z hz h => by have := hlo1 z hz; have := hplt z h; omega) (by intro A hA z hz h; rw [List.mem_singleton.1 hA] at hz; have := hclt z hz; have := pA_new (H.of (A := pA _ pa pc ts) (by repeat' (first | exact List.mem_cons_self .. | apply List.mem_cons_of_mem))) z h; omega) (by omega) rfl (by decide) ?_; intro a' c' w H hsz hk)
      | ((with_reducible refine is_move ?_); first | refine WL.y H (Y.move rfl) (by decide) ?_)
      | ((with_reducible refine is_assign ?_); first | refine WL.y H (Y.assign rfl) (by decide) ?_)
      | ((with_reducible refine is_fld ?_); first | refine WL.y H (Y.fld rfl) (by decide) ?_)
      | ((with_reducible refine is_load ?_); first | refine WL.y H (Y.loadX rfl (by repeat' (first | exact List.mem_cons_self .. | apply List.mem_cons_of_mem)) rfl) (by decide) ?_ | refine WL.y H (Y.loadXN rfl (by repeat' (first | exact List.mem_cons_self .. | apply List.mem_cons_of_mem)) rfl rfl) (by decide) ?_ | refine WL.y H (Y.loadSN (vs := tcs p) rfl (by repeat' (first | exact List.mem_cons_self .. | apply List.mem_cons_of_mem)) (tA_readsK (i := 0) p rfl rfl) rfl) (by decide) ?_ | refine WL.y H (Y.loadSN (vs := tcs q) rfl (by repeat' (first | exact List.mem_cons_self .. | apply List.mem_cons_of_mem)) (tA_readsK (i := 1) q rfl rfl) rfl) (by decide) ?_)
      | ((with_reducible refine is_idx ?_); first | refine WL.y H (Y.idx rfl rfl (by first | omega | (simp only [List.length_cons, List.length_nil]; done) | (simp only [List.length_cons, List.length_nil]; omega)) (by first | omega | (simp only [List.length_cons, List.length_nil]; done) | (simp only [List.length_cons, List.length_nil]; omega))) (by decide) ?_)
      | ((with_reducible refine is_not ?_); first | refine WL.y H (Y.not rfl) (by decide) ?_)
      | ((with_reducible refine is_build ?_); first | refine WL.y H (Y.build rfl rfl) (by decide) ?_)
      | ((with_reducible refine is_eql ?_); first | refine WL.y H ((Y.eql rfl rfl).boolT (by first | omega | (simp only [List.length_cons, List.length_nil]; done) | (simp only [List.length_cons, List.length_nil]; omega))) (by decide) ?_ | refine WL.y H ((Y.eql rfl rfl).boolF (by first | omega | (simp only [List.length_cons, List.length_nil]; done) | (simp only [List.length_cons, List.length_nil]; omega))) (by decide) ?_ | (refine WL.cmp H (Y.eql rfl rfl) (by decide) ?_ ?_ <;> intro hcmp))
      | ((with_reducible refine is_box ?_); first | (refine WL.boxN H rfl (by decide) ?_; intro _ w H _ _ _) | (refine WL.box1 H rfl rfl (by decide) ?_; intro _ w H _ _ _))
      | ((with_reducible refine is_alloc ?_); refine WL.alloc H (by decide) ?_; intro _ w H _ _ _)
      | ((with_reducible refine is_store ?_); first | (refine WL.store1 H rfl rfl rfl (by repeat' (first | exact Upd.here .. | apply Upd.there)) rfl ?_; intro w H _) | (refine WL.storeN H rfl rfl rfl rfl (by repeat' (first | exact Upd.here .. | apply Upd.there)) rfl ?_; intro w H _))
      | ((with_reducible refine is_bslice ?_); refine WL.bslice H rfl rfl rfl (by decide) ?_; intro _ w H _ _ _))
    have H := H.kidA (t := ⟨4, 0, ⟨#[]⟩, some ⟨tb, tto, none⟩, tc, [p, q]⟩) (x := q) (by repeat' (first | exact List.mem_cons_self .. | apply List.mem_cons_of_mem)) (by simp)
    have H := H.dropI (S' := [pA _ a' c' (ts ++ [t1]), tA q]) (by repeat' (first | exact Incl.nil _ | refine Incl.cons (by repeat' (first | exact List.mem_cons_self .. | apply List.mem_cons_of_mem)) ?_))
    refine AtQ.loop_norm (q, y, ts ++ [t1], a', c') (by rw [List.length_append]; exact (by repeat' (first | exact Sub.nil | refine Sub.cons rfl ?_))) ⟨hqe, by simp only; omega, ⟨dn ++ [x], by simp [hdn1, he1, hpe], by simp only; rw [hdn2]; simp [itemsT]⟩, by simp; omega, by simp only; rw [htl]; rfl, fun z hz => hclt z (tA_kid (t := ⟨4, 0, ⟨#[]⟩, some ⟨tb, tto, none⟩, tc, [p, q]⟩) (by simp) z hz), ?_⟩ (by simp only; omega)
    exact H.dropX (.cons _ (.refl _))
  · have hnp : ∀ x y, cm ≠ .pair x y := fun x y e => hp ⟨x, y, e⟩
    obtain ⟨hl, hk4, _, _⟩ := enc_leaf hec hnp
    have hi0 : itemsT cm = [] := by cases cm <;> first | rfl | exact absurd rfl (hnp _ _)
    have ht0 : tailT cm = cm := by cases cm <;> first | rfl | exact absurd rfl (hnp _ _)
    repeat' (first
      | (with_reducible refine WC.seq ?_)
      | (with_reducible refine WC.reg ?_)
      | (with_reducible refine WC.block ?_)
      | (with_reducible refine WC.skip ?_)
      | (with_reducible refine WC.ret ?_)
      | (with_reducible refine WC.exit ?_)
      | ((with_reducible refine is_cond ?_); first | refine WC.ctrue rfl ?_ | refine WC.cfalse rfl ?_ | (refine WC.cbool rfl ?_ ?_ <;> intro hcnd))
      | (with_reducible refine WL.nilK ?_)
      | (with_reducible refine WL.nil ?_)
      | (with_reducible refine AtQ.then_norm ?_)
      | (with_reducible refine AtQ.then_ret ?_)
      | (with_reducible refine AtQ.then_exit ?_)
      | (with_reducible refine AtQ.block_ret ?_)
      | (with_reducible refine AtQ.block_norm ?_)
      | (with_reducible refine AtQ.block_here ?_)
      | (with_reducible refine AtQ.loop_ret ?_)
      | (with_reducible refine AtQ.loop_exit ?_)
      | (with_reducible refine AtQ.out_ret ?_)
      | (with_reducible refine AtQ.out_exit ?_)
      | ((with_reducible refine AtQ.block_other ?_ ?_); · exact rfl)
      | ((with_reducible refine is_call (f := 83) ?_); have hplt := (pA w0.heap.size pa pc ts).lt _ (H.of (A := pA _ pa pc ts) (by repeat' (first | exact List.mem_cons_self .. | apply List.mem_cons_of_mem))); refine WL.call (vs := [tv cur]) rfl (spec_l02Copy_ok cur _ (H.ht cur (by repeat' (first | exact List.mem_cons_self .. | apply List.mem_cons_of_mem))) (Tm.lens cm cur hec)) (by decide) ?_; intro v w hv2; obtain ⟨t1, e1, he1, ho1, hc1⟩ := hv2; subst e1; have hs1 := hc1.size; have hlo1 := ho1.new; have H := H.made hc1 (oA _ t1) ho1 hlo1)
      | ((with_reducible refine is_move ?_); first | refine WL.y H (Y.move rfl) (by decide) ?_)
      | ((with_reducible refine is_assign ?_); first | refine WL.y H (Y.assign rfl) (by decide) ?_)
      | ((with_reducible refine is_fld ?_); first | refine WL.y H (Y.fld rfl) (by decide) ?_)
      | ((with_reducible refine is_load ?_); first | refine WL.y H (Y.loadX rfl (by repeat' (first | exact List.mem_cons_self .. | apply List.mem_cons_of_mem)) rfl) (by decide) ?_ | refine WL.y H (Y.loadXN rfl (by repeat' (first | exact List.mem_cons_self .. | apply List.mem_cons_of_mem)) rfl rfl) (by decide) ?_)
      | ((with_reducible refine is_idx ?_); first | refine WL.y H (Y.idx rfl rfl (by first | omega | (simp only [List.length_cons, List.length_nil]; done) | (simp only [List.length_cons, List.length_nil]; omega)) (by first | omega | (simp only [List.length_cons, List.length_nil]; done) | (simp only [List.length_cons, List.length_nil]; omega))) (by decide) ?_)
      | ((with_reducible refine is_not ?_); first | refine WL.y H (Y.not rfl) (by decide) ?_)
      | ((with_reducible refine is_build ?_); first | refine WL.y H (Y.build rfl rfl) (by decide) ?_)
      | ((with_reducible refine is_eql ?_); first | refine WL.y H ((Y.eql rfl rfl).boolT (by first | omega | (simp only [List.length_cons, List.length_nil]; done) | (simp only [List.length_cons, List.length_nil]; omega))) (by decide) ?_ | refine WL.y H ((Y.eql rfl rfl).boolF (by first | omega | (simp only [List.length_cons, List.length_nil]; done) | (simp only [List.length_cons, List.length_nil]; omega))) (by decide) ?_ | (refine WL.cmp H (Y.eql rfl rfl) (by decide) ?_ ?_ <;> intro hcmp))
      | ((with_reducible refine is_box ?_); first | (refine WL.boxN H rfl (by decide) ?_; intro _ w H _ _ _) | (refine WL.box1 H rfl rfl (by decide) ?_; intro _ w H _ _ _))
      | ((with_reducible refine is_alloc ?_); refine WL.alloc H (by decide) ?_; intro _ w H _ _ _)
      | ((with_reducible refine is_store ?_); first | (refine WL.store1 H rfl rfl rfl (by repeat' (first | exact Upd.here .. | apply Upd.there)) rfl ?_; intro w H _) | (refine WL.storeN H rfl rfl rfl rfl (by repeat' (first | exact Upd.here .. | apply Upd.there)) rfl ?_; intro w H _))
      | ((with_reducible refine is_bslice ?_); refine WL.bslice H rfl rfl rfl (by decide) ?_; intro _ w H _ _ _))
    refine AtQ.r2 (resVal.t rfl) (resVal.cN H rfl (by repeat' (first | exact List.mem_cons_self .. | apply List.mem_cons_of_mem)) rfl) ⟨pa, pc, ts, t1, rfl, ?_, ?_, H.of (A := pA w0.heap.size pa pc ts) (by repeat' (first | exact List.mem_cons_self .. | apply List.mem_cons_of_mem)), (H.own _ t1 (by repeat' (first | exact List.mem_cons_self .. | apply List.mem_cons_of_mem))).mono hwsz, fun z hz h => by have := hlo1 z hz; have := hplt z h; omega, H.chg⟩
    · rw [hdn1, hdn2, hi0, List.append_nil]
    · rw [he1, htl, ht0]; exact hec
set_option maxRecDepth 100000 in
set_option maxHeartbeats 4000000 in
theorem impl_ItemsOf_no (t : LT) (w0 : World) (ht : HT w0 t) (hs : Sm (er t)) (hv : ¬ TOk (er t)) : Fn Try.prog 36 [tv t] w0 (ItR [] (er zT) w0) := by
  refine Fn.body (N := 28) Try.func36 rfl rfl rfl rfl rfl ?_
  have H : SH w0 noF w0 [] [tA t] := SH.start _ _ _ (by simpa [tA] using ht)
  repeat' (first
    | (with_reducible refine WC.seq ?_)
    | (with_reducible refine WC.reg ?_)
    | (with_reducible refine WC.block ?_)
    | (with_reducible refine WC.skip ?_)
    | (with_reducible refine WC.ret ?_)
    | (with_reducible refine WC.exit ?_)
    | ((with_reducible refine is_cond ?_); first | refine WC.ctrue rfl ?_ | refine WC.cfalse rfl ?_ | (refine WC.cbool rfl ?_ ?_ <;> intro hcnd))
    | (with_reducible refine WL.nilK ?_)
    | (with_reducible refine WL.nil ?_)
    | (with_reducible refine AtQ.then_norm ?_)
    | (with_reducible refine AtQ.then_ret ?_)
    | (with_reducible refine AtQ.then_exit ?_)
    | (with_reducible refine AtQ.block_ret ?_)
    | (with_reducible refine AtQ.block_norm ?_)
    | (with_reducible refine AtQ.block_here ?_)
    | (with_reducible refine AtQ.loop_ret ?_)
    | (with_reducible refine AtQ.loop_exit ?_)
    | (with_reducible refine AtQ.out_ret ?_)
    | (with_reducible refine AtQ.out_exit ?_)
    | ((with_reducible refine AtQ.block_other ?_ ?_); · exact rfl)
    | ((with_reducible refine is_call (f := 63) ?_); refine WL.call (vs := [tv t]) rfl (impl_TermOk_fn t _ (H.ht t (by repeat' (first | exact List.mem_cons_self .. | apply List.mem_cons_of_mem))) hs) (by decide) ?_; intro v w hv2; obtain ⟨e1, hc1⟩ := hv2; rw [decide_eq_false hv] at e1; subst e1; have H := H.call hc1)
    | ((with_reducible refine is_move ?_); first | refine WL.y H (Y.move rfl) (by decide) ?_)
    | ((with_reducible refine is_assign ?_); first | refine WL.y H (Y.assign rfl) (by decide) ?_)
    | ((with_reducible refine is_fld ?_); first | refine WL.y H (Y.fld rfl) (by decide) ?_)
    | ((with_reducible refine is_load ?_); first | refine WL.y H (Y.loadX rfl (by repeat' (first | exact List.mem_cons_self .. | apply List.mem_cons_of_mem)) rfl) (by decide) ?_ | refine WL.y H (Y.loadXN rfl (by repeat' (first | exact List.mem_cons_self .. | apply List.mem_cons_of_mem)) rfl rfl) (by decide) ?_)
    | ((with_reducible refine is_idx ?_); first | refine WL.y H (Y.idx rfl rfl (by first | omega | (simp only [List.length_cons, List.length_nil]; done) | (simp only [List.length_cons, List.length_nil]; omega)) (by first | omega | (simp only [List.length_cons, List.length_nil]; done) | (simp only [List.length_cons, List.length_nil]; omega))) (by decide) ?_)
    | ((with_reducible refine is_not ?_); first | refine WL.y H (Y.not rfl) (by decide) ?_)
    | ((with_reducible refine is_build ?_); first | refine WL.y H (Y.build rfl rfl) (by decide) ?_)
    | ((with_reducible refine is_eql ?_); first | refine WL.y H ((Y.eql rfl rfl).boolT (by first | omega | (simp only [List.length_cons, List.length_nil]; done) | (simp only [List.length_cons, List.length_nil]; omega))) (by decide) ?_ | refine WL.y H ((Y.eql rfl rfl).boolF (by first | omega | (simp only [List.length_cons, List.length_nil]; done) | (simp only [List.length_cons, List.length_nil]; omega))) (by decide) ?_ | (refine WL.cmp H (Y.eql rfl rfl) (by decide) ?_ ?_ <;> intro hcmp))
    | ((with_reducible refine is_box ?_); first | (refine WL.boxN H rfl (by decide) ?_; intro _ w H _ _ _) | (refine WL.box1 H rfl rfl (by decide) ?_; intro _ w H _ _ _))
    | ((with_reducible refine is_alloc ?_); refine WL.alloc H (by decide) ?_; intro _ w H _ _ _)
    | ((with_reducible refine is_store ?_); first | (refine WL.store1 H rfl rfl rfl (by repeat' (first | exact Upd.here .. | apply Upd.there)) rfl ?_; intro w H _) | (refine WL.storeN H rfl rfl rfl rfl (by repeat' (first | exact Upd.here .. | apply Upd.there)) rfl ?_; intro w H _))
    | ((with_reducible refine is_bslice ?_); refine WL.bslice H rfl rfl rfl (by decide) ?_; intro _ w H _ _ _))
  refine AtQ.r2 (resVal.t rfl) (resVal.cN H rfl (by repeat' (first | exact List.mem_cons_self .. | apply List.mem_cons_of_mem)) rfl) ⟨none, 0, [], zT, rfl, rfl, rfl, pA_nil _ _, Own.leaf rfl, (by rw [ft_leaf rfl]; intro z hz; cases hz), H.chg⟩
set_option maxRecDepth 100000 in
set_option maxHeartbeats 4000000 in
theorem impl_ItemsOf_ok (m : Tm) (t : LT) (w0 : World) (he : er t = m.enc) (ht : HT w0 t) (hs : Sm (er t)) (hv : TOk (er t)) (hz : m.size ≤ 5000) : Fn Try.prog 36 [tv t] w0 (ItR ((itemsT m).map Tm.enc) (tailT m).enc w0) := by
  refine Fn.body (N := 28) Try.func36 rfl rfl rfl rfl rfl ?_
  have H : SH w0 noF w0 [] [tA t] := SH.start _ _ _ (by simpa [tA] using ht)
  repeat' (first
    | (with_reducible refine WC.seq ?_)
    | (with_reducible refine WC.reg ?_)
    | (with_reducible refine WC.block ?_)
    | (with_reducible refine WC.skip ?_)
    | (with_reducible refine WC.ret ?_)
    | (with_reducible refine WC.exit ?_)
    | ((with_reducible refine is_cond ?_); first | refine WC.ctrue rfl ?_ | refine WC.cfalse rfl ?_ | (refine WC.cbool rfl ?_ ?_ <;> intro hcnd))
    | (with_reducible refine WL.nilK ?_)
    | (with_reducible refine WL.nil ?_)
    | (with_reducible refine AtQ.then_norm ?_)
    | (with_reducible refine AtQ.then_ret ?_)
    | (with_reducible refine AtQ.then_exit ?_)
    | (with_reducible refine AtQ.block_ret ?_)
    | (with_reducible refine AtQ.block_norm ?_)
    | (with_reducible refine AtQ.block_here ?_)
    | (with_reducible refine AtQ.loop_ret ?_)
    | (with_reducible refine AtQ.loop_exit ?_)
    | (with_reducible refine AtQ.out_ret ?_)
    | (with_reducible refine AtQ.out_exit ?_)
    | ((with_reducible refine AtQ.block_other ?_ ?_); · exact rfl)
    | ((with_reducible refine is_box ?_); refine WL.boxN H rfl (by decide) ?_; intro b1 w H hb1 _ _)
    | ((with_reducible refine is_move ?_); first | refine WL.y H (Y.move rfl) (by decide) ?_)
    | ((with_reducible refine is_assign ?_); first | refine WL.y H (Y.assign rfl) (by decide) ?_)
    | ((with_reducible refine is_fld ?_); first | refine WL.y H (Y.fld rfl) (by decide) ?_)
    | ((with_reducible refine is_load ?_); first | refine WL.y H (Y.loadX rfl (by repeat' (first | exact List.mem_cons_self .. | apply List.mem_cons_of_mem)) rfl) (by decide) ?_ | refine WL.y H (Y.loadXN rfl (by repeat' (first | exact List.mem_cons_self .. | apply List.mem_cons_of_mem)) rfl rfl) (by decide) ?_)
    | ((with_reducible refine is_idx ?_); first | refine WL.y H (Y.idx rfl rfl (by first | omega | (simp only [List.length_cons, List.length_nil]; done) | (simp only [List.length_cons, List.length_nil]; omega)) (by first | omega | (simp only [List.length_cons, List.length_nil]; done) | (simp only [List.length_cons, List.length_nil]; omega))) (by decide) ?_)
    | ((with_reducible refine is_not ?_); first | refine WL.y H (Y.not rfl) (by decide) ?_)
    | ((with_reducible refine is_build ?_); first | refine WL.y H (Y.build rfl rfl) (by decide) ?_)
    | ((with_reducible refine is_eql ?_); first | refine WL.y H ((Y.eql rfl rfl).boolT (by first | omega | (simp only [List.length_cons, List.length_nil]; done) | (simp only [List.length_cons, List.length_nil]; omega))) (by decide) ?_ | refine WL.y H ((Y.eql rfl rfl).boolF (by first | omega | (simp only [List.length_cons, List.length_nil]; done) | (simp only [List.length_cons, List.length_nil]; omega))) (by decide) ?_ | (refine WL.cmp H (Y.eql rfl rfl) (by decide) ?_ ?_ <;> intro hcmp)))
  repeat' (first
    | (with_reducible refine WC.seq ?_)
    | (with_reducible refine WC.reg ?_)
    | (with_reducible refine WC.block ?_)
    | (with_reducible refine WC.skip ?_)
    | (with_reducible refine WC.ret ?_)
    | (with_reducible refine WC.exit ?_)
    | ((with_reducible refine is_cond ?_); first | refine WC.ctrue rfl ?_ | refine WC.cfalse rfl ?_ | (refine WC.cbool rfl ?_ ?_ <;> intro hcnd))
    | (with_reducible refine WL.nilK ?_)
    | (with_reducible refine WL.nil ?_)
    | (with_reducible refine AtQ.then_norm ?_)
    | (with_reducible refine AtQ.then_ret ?_)
    | (with_reducible refine AtQ.then_exit ?_)
    | (with_reducible refine AtQ.block_ret ?_)
    | (with_reducible refine AtQ.block_norm ?_)
    | (with_reducible refine AtQ.block_here ?_)
    | (with_reducible refine AtQ.loop_ret ?_)
    | (with_reducible refine AtQ.loop_exit ?_)
    | (with_reducible refine AtQ.out_ret ?_)
    | (with_reducible refine AtQ.out_exit ?_)
    | ((with_reducible refine AtQ.block_other ?_ ?_); · exact rfl)
    | ((with_reducible refine is_alloc ?_); refine WL.alloc H (by decide) ?_; intro b3 w H hb3 _ _)
    | ((with_reducible refine is_call (f := 63) ?_); refine WL.call (vs := [tv t]) rfl (impl_TermOk_fn t _ (H.ht t (by repeat' (first | exact List.mem_cons_self .. | apply List.mem_cons_of_mem))) hs) (by decide) ?_; intro v w hv2; obtain ⟨e1, hc1⟩ := hv2; rw [decide_eq_true hv] at e1; subst e1; have H := H.call hc1)
    | ((with_reducible refine is_bslice ?_); have hs2 := H.chg.size; refine WL.bslice H rfl rfl rfl (by decide) ?_; intro bs w H hbs _ _)
    | ((with_reducible refine is_move ?_); first | refine WL.y H (Y.move rfl) (by decide) ?_)
    | ((with_reducible refine is_assign ?_); first | refine WL.y H (Y.assign rfl) (by decide) ?_)
    | ((with_reducible refine is_fld ?_); first | refine WL.y H (Y.fld rfl) (by decide) ?_)
    | ((with_reducible refine is_load ?_); first | refine WL.y H (Y.loadX rfl (by repeat' (first | exact List.mem_cons_self .. | apply List.mem_cons_of_mem)) rfl) (by decide) ?_ | refine WL.y H (Y.loadXN rfl (by repeat' (first | exact List.mem_cons_self .. | apply List.mem_cons_of_mem)) rfl rfl) (by decide) ?_)
    | ((with_reducible refine is_idx ?_); first | refine WL.y H (Y.idx rfl rfl (by first | omega | (simp only [List.length_cons, List.length_nil]; done) | (simp only [List.length_cons, List.length_nil]; omega)) (by first | omega | (simp only [List.length_cons, List.length_nil]; done) | (simp only [List.length_cons, List.length_nil]; omega))) (by decide) ?_)
    | ((with_reducible refine is_not ?_); first | refine WL.y H (Y.not rfl) (by decide) ?_)
    | ((with_reducible refine is_build ?_); first | refine WL.y H (Y.build rfl rfl) (by decide) ?_)
    | ((with_reducible refine is_eql ?_); first | refine WL.y H ((Y.eql rfl rfl).boolT (by first | omega | (simp only [List.length_cons, List.length_nil]; done) | (simp only [List.length_cons, List.length_nil]; omega))) (by decide) ?_ | refine WL.y H ((Y.eql rfl rfl).boolF (by first | omega | (simp only [List.length_cons, List.length_nil]; done) | (simp only [List.length_cons, List.length_nil]; omega))) (by decide) ?_ | (refine WL.cmp H (Y.eql rfl rfl) (by decide) ?_ ?_ <;> intro hcmp))
    | ((with_reducible refine is_box ?_); first | (refine WL.boxN H rfl (by decide) ?_; intro _ w H _ _ _) | (refine WL.box1 H rfl rfl (by decide) ?_; intro _ w H _ _ _))
    | ((with_reducible refine is_alloc ?_); refine WL.alloc H (by decide) ?_; intro _ w H _ _ _)
    | ((with_reducible refine is_store ?_); first | (refine WL.store1 H rfl rfl rfl (by repeat' (first | exact Upd.here .. | apply Upd.there)) rfl ?_; intro w H _) | (refine WL.storeN H rfl rfl rfl rfl (by repeat' (first | exact Upd.here .. | apply Upd.there)) rfl ?_; intro w H _))
    | ((with_reducible refine is_bslice ?_); refine WL.bslice H rfl rfl rfl (by decide) ?_; intro _ w H _ _ _))
  have hs3 := H.chg.size
  have hbs' : w0.heap.size ≤ bs := by omega
  have H := (H.dropX (.cons _ (.refl _))).add (pA w0.heap.size (some ⟨bs, 0, none⟩) 0 []) ⟨OwnL.nil _ _, .inr ⟨bs, [], rfl, H.blk (by repeat' (first | exact List.mem_cons_self .. | apply List.mem_cons_of_mem)), rfl, hbs', by rw [ftR]; intro h; cases h⟩⟩ (by
    have hnd := H.nd
    simp only [List.map_cons, List.map_nil, List.nodup_cons, List.mem_cons, List.not_mem_nil, or_false, not_or] at hnd
    intro p hp hf
    rcases hf with ⟨o, e⟩ | hf
    · obtain ⟨e, _, _⟩ := Addr.mk.inj (Option.some.inj e)
      simp only [List.mem_cons, List.not_mem_nil, or_false] at hp
      rcases hp with rfl | rfl
      · exact hnd.1.1 e
      · exact hnd.1.2 e
    · rw [ftR] at hf; cases hf)
  refine WC.loop (σ := LT × Tm × List LT × Option Addr × Nat) (fun s => [(1, .pointer (some ⟨b1, 0, none⟩)), (3, .pointer (some ⟨b3, 0, none⟩)), (4, .slice s.2.2.2.1 s.2.2.1.length s.2.2.2.2)])
    (fun s w' => er s.1 = s.2.1.enc ∧ s.2.1.size ≤ 5000 ∧ (∃ dn, s.2.2.1.map er = dn.map Tm.enc ∧ itemsT m = dn ++ itemsT s.2.1) ∧ s.2.2.1.length + s.2.1.size ≤ 5000 ∧ tailT m = tailT s.2.1 ∧ (∀ z ∈ ft s.1, z < w0.heap.size) ∧ SH w0 noF w' [(b3, .cells zt.toArray 47 (0, 0)), (b1, .cells (tcs s.1).toArray 47 (0, 0))] [pA w0.heap.size s.2.2.2.1 s.2.2.2.2 s.2.2.1, tA s.1])
    (fun s => s.2.1.size) (t, m, [], some ⟨bs, 0, none⟩, 0) (by repeat' (first | exact Sub.nil | refine Sub.cons rfl ?_)) ⟨he, hz, ⟨[], rfl, rfl⟩, (by simp only [List.length_nil]; omega), rfl, ht.lt, H⟩ (fun s w hinv => ?_)
  obtain ⟨cur, cm, ts, pa, pc⟩ := s
  obtain ⟨hec, hcz, ⟨dn, hdn1, hdn2⟩, hln, htl, hclt, H⟩ := hinv
  simp only at hec hcz hdn1 hdn2 hln htl hclt H ⊢
  have hwsz := H.chg.size
  by_cases hp : ∃ x y, cm = .pair x y
  · obtain ⟨x, y, rfl⟩ := hp
    obtain ⟨tb, tto, tc, p, q, rfl, hpe, hqe, _, _⟩ := enc_pair hec (H.ht cur (by repeat' (first | exact List.mem_cons_self .. | apply List.mem_cons_of_mem)))
    have hsz1 : (Tm.pair x y).size = 1 + x.size + y.size := rfl
    repeat' (first
      | (with_reducible refine WC.seq ?_)
      | (with_reducible refine WC.reg ?_)
      | (with_reducible refine WC.block ?_)
      | (with_reducible refine WC.skip ?_)
      | (with_reducible refine WC.ret ?_)
      | (with_reducible refine WC.exit ?_)
      | ((with_reducible refine is_cond ?_); first | refine WC.ctrue rfl ?_ | refine WC.cfalse rfl ?_ | (refine WC.cbool rfl ?_ ?_ <;> intro hcnd))
      | (with_reducible refine WL.nilK ?_)
      | (with_reducible refine WL.nil ?_)
      | (with_reducible refine AtQ.then_norm ?_)
      | (with_reducible refine AtQ.then_ret ?_)
      | (with_reducible refine AtQ.then_exit ?_)
      | (with_reducible refine AtQ.block_ret ?_)
      | (with_reducible refine AtQ.block_norm ?_)
      | (with_reducible refine AtQ.block_here ?_)
      | (with_reducible refine AtQ.loop_ret ?_)
      | (with_reducible refine AtQ.loop_exit ?_)
      | (with_reducible refine AtQ.out_ret ?_)
      | (with_reducible refine AtQ.out_exit ?_)
      | ((with_reducible refine AtQ.block_other ?_ ?_); · exact rfl)
      | ((with_reducible refine is_call (f := 84) ?_); have hplt := (pA w0.heap.size pa pc ts).lt _ (H.of (A := pA _ pa pc ts) (by repeat' (first | exact List.mem_cons_self .. | apply List.mem_cons_of_mem))); refine WL.call (vs := [tv p]) rfl (impl_copyTerm_ok x p _ hpe ((H.ht ⟨4, 0, ⟨#[]⟩, some ⟨tb, tto, none⟩, tc, [p, q]⟩ (by repeat' (first | exact List.mem_cons_self .. | apply List.mem_cons_of_mem))).kid p (by simp))) (by decide) ?_; intro v w hv2; obtain ⟨t1, e1, he1, ho1, hc1⟩ := hv2; subst e1; have hs1 := hc1.size; have hlo1 := ho1.new; have H := H.made hc1 (oA _ t1) ho1 hlo1)
      | ((with_reducible refine is_append ?_); have hs4 := H.chg.size; have H := H.dropI (S' := [pA _ pa pc ts, oA _ t1, tA ⟨4, 0, ⟨#[]⟩, some ⟨tb, tto, none⟩, tc, [p, q]⟩]) (by repeat' (first | exact Incl.nil _ | refine Incl.cons (by repeat' (first | exact List.mem_cons_self .. | apply List.mem_cons_of_mem)) ?_)); refine WL.appendT H rfl rfl (by repeat' (first | exact List.mem_cons_self .. | apply List.mem_cons_of_mem)) (by omega) (Nat.le_refl _) (by omega) (fun z hz h => by have := hlo1 z hz; have := hplt z h; omega) (by intro A hA z hz h; rw [List.mem_singleton.1 hA] at hz; have := hclt z hz; have := pA_new (H.of (A := pA _ pa pc ts) (by repeat' (first | exact List.mem_cons_self .. | apply List.mem_cons_of_mem))) z h; omega) (by omega) rfl (by decide) ?_; intro a' c' w H hsz hk)
      | ((with_reducible refine is_move ?_); first | refine WL.y H (Y.move rfl) (by decide) ?_)
      | ((with_reducible refine is_assign ?_); first | refine WL.y H (Y.assign rfl) (by decide) ?_)
      | ((with_reducible refine is_fld ?_); first | refine WL.y H (Y.fld rfl) (by decide) ?_)
      | ((with_reducible refine is_load ?_); first | refine WL.y H (Y.loadX rfl (by repeat' (first | exact List.mem_cons_self .. | apply List.mem_cons_of_mem)) rfl) (by decide) ?_ | refine WL.y H (Y.loadXN rfl (by repeat' (first | exact List.mem_cons_self .. | apply List.mem_cons_of_mem)) rfl rfl) (by decide) ?_ | refine WL.y H (Y.loadSN (vs := tcs p) rfl (by repeat' (first | exact List.mem_cons_self .. | apply List.mem_cons_of_mem)) (tA_readsK (i := 0) p rfl rfl) rfl) (by decide) ?_ | refine WL.y H (Y.loadSN (vs := tcs q) rfl (by repeat' (first | exact List.mem_cons_self .. | apply List.mem_cons_of_mem)) (tA_readsK (i := 1) q rfl rfl) rfl) (by decide) ?_)
      | ((with_reducible refine is_idx ?_); first | refine WL.y H (Y.idx rfl rfl (by first | omega | (simp only [List.length_cons, List.length_nil]; done) | (simp only [List.length_cons, List.length_nil]; omega)) (by first | omega | (simp only [List.length_cons, List.length_nil]; done) | (simp only [List.length_cons, List.length_nil]; omega))) (by decide) ?_)
      | ((with_reducible refine is_not ?_); first | refine WL.y H (Y.not rfl) (by decide) ?_)
      | ((with_reducible refine is_build ?_); first | refine WL.y H (Y.build rfl rfl) (by decide) ?_)
      | ((with_reducible refine is_eql ?_); first | refine WL.y H ((Y.eql rfl rfl).boolT (by first | omega | (simp only [List.length_cons, List.length_nil]; done) | (simp only [List.length_cons, List.length_nil]; omega))) (by decide) ?_ | refine WL.y H ((Y.eql rfl rfl).boolF (by first | omega | (simp only [List.length_cons, List.length_nil]; done) | (simp only [List.length_cons, List.length_nil]; omega))) (by decide) ?_ | (refine WL.cmp H (Y.eql rfl rfl) (by decide) ?_ ?_ <;> intro hcmp))
      | ((with_reducible refine is_box ?_); first | (refine WL.boxN H rfl (by decide) ?_; intro _ w H _ _ _) | (refine WL.box1 H rfl rfl (by decide) ?_; intro _ w H _ _ _))
      | ((with_reducible refine is_alloc ?_); refine WL.alloc H (by decide) ?_; intro _ w H _ _ _)
      | ((with_reducible refine is_store ?_); first | (refine WL.store1 H rfl rfl rfl (by repeat' (first | exact Upd.here .. | apply Upd.there)) rfl ?_; intro w H _) | (refine WL.storeN H rfl rfl rfl rfl (by repeat' (first | exact Upd.here .. | apply Upd.there)) rfl ?_; intro w H _))
      | ((with_reducible refine is_bslice ?_); refine WL.bslice H rfl rfl rfl (by decide) ?_; intro _ w H _ _ _))
    have H := H.kidA (t := ⟨4, 0, ⟨#[]⟩, some ⟨tb, tto, none⟩, tc, [p, q]⟩) (x := q) (by repeat' (first | exact List.mem_cons_self .. | apply List.mem_cons_of_mem)) (by simp)
    have H := H.dropI (S' := [pA _ a' c' (ts ++ [t1]), tA q]) (by repeat' (first | exact Incl.nil _ | refine Incl.cons (by repeat' (first | exact List.mem_cons_self .. | apply List.mem_cons_of_mem)) ?_))
    refine AtQ.loop_norm (q, y, ts ++ [t1], a', c') (by rw [List.length_append]; exact (by repeat' (first | exact Sub.nil | refine Sub.cons rfl ?_))) ⟨hqe, by simp only; omega, ⟨dn ++ [x], by simp [hdn1, he1, hpe], by simp only; rw [hdn2]; simp [itemsT]⟩, by simp; omega, by simp only; rw [htl]; rfl, fun z hz => hclt z (tA_kid (t := ⟨4, 0, ⟨#[]⟩, some ⟨tb, tto, none⟩, tc, [p, q]⟩) (by simp) z hz), ?_⟩ (by simp only; omega)
    exact H.dropX (.cons _ (.refl _))
  · have hnp : ∀ x y, cm ≠ .pair x y := fun x y e => hp ⟨x, y, e⟩
    obtain ⟨hl, hk4, _, _⟩ := enc_leaf hec hnp
    have hi0 : itemsT cm = [] := by cases cm <;> first | rfl | exact absurd rfl (hnp _ _)
    have ht0 : tailT cm = cm := by cases cm <;> first | rfl | exact absurd rfl (hnp _ _)
    repeat' (first
      | (with_reducible refine WC.seq ?_)
      | (with_reducible refine WC.reg ?_)
      | (with_reducible refine WC.block ?_)
      | (with_reducible refine WC.skip ?_)
      | (with_reducible refine WC.ret ?_)
      | (with_reducible refine WC.exit ?_)
      | ((with_reducible refine is_cond ?_); first | refine WC.ctrue rfl ?_ | refine WC.cfalse rfl ?_ | (refine WC.cbool rfl ?_ ?_ <;> intro hcnd))
      | (with_reducible refine WL.nilK ?_)
      | (with_reducible refine WL.nil ?_)
      | (with_reducible refine AtQ.then_norm ?_)
      | (with_reducible refine AtQ.then_ret ?_)
      | (with_reducible refine AtQ.then_exit ?_)
      | (with_reducible refine AtQ.block_ret ?_)
      | (with_reducible refine AtQ.block_norm ?_)
      | (with_reducible refine AtQ.block_here ?_)
      | (with_reducible refine AtQ.loop_ret ?_)
      | (with_reducible refine AtQ.loop_exit ?_)
      | (with_reducible refine AtQ.out_ret ?_)
      | (with_reducible refine AtQ.out_exit ?_)
      | ((with_reducible refine AtQ.block_other ?_ ?_); · exact rfl)
      | ((with_reducible refine is_call (f := 84) ?_); have hplt := (pA w0.heap.size pa pc ts).lt _ (H.of (A := pA _ pa pc ts) (by repeat' (first | exact List.mem_cons_self .. | apply List.mem_cons_of_mem))); refine WL.call (vs := [tv cur]) rfl (impl_copyTerm_ok cm cur _ hec (H.ht cur (by repeat' (first | exact List.mem_cons_self .. | apply List.mem_cons_of_mem)))) (by decide) ?_; intro v w hv2; obtain ⟨t1, e1, he1, ho1, hc1⟩ := hv2; subst e1; have hs1 := hc1.size; have hlo1 := ho1.new; have H := H.made hc1 (oA _ t1) ho1 hlo1)
      | ((with_reducible refine is_move ?_); first | refine WL.y H (Y.move rfl) (by decide) ?_)
      | ((with_reducible refine is_assign ?_); first | refine WL.y H (Y.assign rfl) (by decide) ?_)
      | ((with_reducible refine is_fld ?_); first | refine WL.y H (Y.fld rfl) (by decide) ?_)
      | ((with_reducible refine is_load ?_); first | refine WL.y H (Y.loadX rfl (by repeat' (first | exact List.mem_cons_self .. | apply List.mem_cons_of_mem)) rfl) (by decide) ?_ | refine WL.y H (Y.loadXN rfl (by repeat' (first | exact List.mem_cons_self .. | apply List.mem_cons_of_mem)) rfl rfl) (by decide) ?_)
      | ((with_reducible refine is_idx ?_); first | refine WL.y H (Y.idx rfl rfl (by first | omega | (simp only [List.length_cons, List.length_nil]; done) | (simp only [List.length_cons, List.length_nil]; omega)) (by first | omega | (simp only [List.length_cons, List.length_nil]; done) | (simp only [List.length_cons, List.length_nil]; omega))) (by decide) ?_)
      | ((with_reducible refine is_not ?_); first | refine WL.y H (Y.not rfl) (by decide) ?_)
      | ((with_reducible refine is_build ?_); first | refine WL.y H (Y.build rfl rfl) (by decide) ?_)
      | ((with_reducible refine is_eql ?_); first | refine WL.y H ((Y.eql rfl rfl).boolT (by first | omega | (simp only [List.length_cons, List.length_nil]; done) | (simp only [List.length_cons, List.length_nil]; omega))) (by decide) ?_ | refine WL.y H ((Y.eql rfl rfl).boolF (by first | omega | (simp only [List.length_cons, List.length_nil]; done) | (simp only [List.length_cons, List.length_nil]; omega))) (by decide) ?_ | (refine WL.cmp H (Y.eql rfl rfl) (by decide) ?_ ?_ <;> intro hcmp))
      | ((with_reducible refine is_box ?_); first | (refine WL.boxN H rfl (by decide) ?_; intro _ w H _ _ _) | (refine WL.box1 H rfl rfl (by decide) ?_; intro _ w H _ _ _))
      | ((with_reducible refine is_alloc ?_); refine WL.alloc H (by decide) ?_; intro _ w H _ _ _)
      | ((with_reducible refine is_store ?_); first | (refine WL.store1 H rfl rfl rfl (by repeat' (first | exact Upd.here .. | apply Upd.there)) rfl ?_; intro w H _) | (refine WL.storeN H rfl rfl rfl rfl (by repeat' (first | exact Upd.here .. | apply Upd.there)) rfl ?_; intro w H _))
      | ((with_reducible refine is_bslice ?_); refine WL.bslice H rfl rfl rfl (by decide) ?_; intro _ w H _ _ _))
    refine AtQ.r2 (resVal.t rfl) (resVal.cN H rfl (by repeat' (first | exact List.mem_cons_self .. | apply List.mem_cons_of_mem)) rfl) ⟨pa, pc, ts, t1, rfl, ?_, ?_, H.of (A := pA w0.heap.size pa pc ts) (by repeat' (first | exact List.mem_cons_self .. | apply List.mem_cons_of_mem)), (H.own _ t1 (by repeat' (first | exact List.mem_cons_self .. | apply List.mem_cons_of_mem))).mono hwsz, fun z hz h => by have := hlo1 z hz; have := hplt z h; omega, H.chg⟩
    · rw [hdn1, hdn2, hi0, List.append_nil]
    · rw [he1, htl, ht0]; skip
end Go.Proofs.Ytpfooiepmnaoaaa.E
