/- ListTerm on both sides. -/
import Derived.Test.YtpfooiepmnaoaaaEngY
import Derived.Test.YtpfooiepmnaoaaaEngCopy
import Derived.Test.YtpfooiepmnaoaaaTermSizeI
namespace Go.Proofs.Ytpfooiepmnaoaaa.E
open Go Go.RowKit Go.Proofs.Ytpfooiepmnaoaaa.X Go.Proofs.YtpfooiepmnaoaaaW.PrintWords Go.Proofs.Ytpfooiepmnaoaaa.Base
set_option linter.unusedVariables false
set_option linter.unusedSimpArgs false
/-- What ListTerm hands back. -/
def LtR (ok : Bool) (T : ITm) (w : World) (u : Value) (w' : World) : Prop := ∃ t', u = .tuple #[tv t', .bool ok] ∧ er t' = T ∧ Own w.heap.size w' t' ∧ Chg noF w w'
theorem lstT_size : ∀ (ms : List Tm) (m : Tm), (lstT ms m).size = ms.length + (ms.map Tm.size).sum + m.size
  | [], m => by simp [lstT]
  | x :: r, m => by
    have := lstT_size r m
    rw [lstT, Tm.size, this]
    simp only [List.length_cons, List.map_cons, List.sum_cons]
    omega
theorem impl_TermSize_fn (t : LT) (w : World) (ht : HT w t) (hs : Sm (er t)) : Fn Try.prog 59 [tv t] w fun u w' => u = .int .i64 (tsz (er t)) ∧ Chg noF w w' := by
  obtain ⟨k, hk⟩ := (impl_TermSize_ev hs).rounds
  rw [tv_er]
  exact (Fn.of ⟨_, Try.func59, rfl, rfl⟩ (impl_TermSize.calls k _ _ _ _ _ _ _ w (ht.C hs) ht.capE hk)).mono fun u w' ⟨h1, h2⟩ => ⟨h1, .ofB h2⟩
theorem SH.pairO {w0 w w' : World} {F0 : Nat → Prop} {X : List (Nat × Obj)} {S : List Asn} {B B1 B2 b : Nat} {x y : LT} (H : SH w0 F0 w X S) (hc : Chg noF w w') (hb : w'.heap[b]? = some (.cells (tcs x ++ tcs y).toArray 47 (0, 0))) (hge : w.heap.size ≤ b) (hx : oA B1 x ∈ S) (hy : oA B2 y ∈ S) (h1 : B ≤ B1) (h2 : B ≤ B2) (hB : B ≤ w.heap.size) (hd : ∀ z ∈ ft x, z ∉ ft y) : SH w0 F0 w' X (oA B ⟨4, 0, ⟨#[]⟩, some ⟨b, 0, none⟩, 2, [x, y]⟩ :: S) := by
  have lx := (H.own _ x hx).ht.lt
  have ly := (H.own _ y hy).ht.lt
  have H1 := H.call hc
  refine H1.add (oA B _) (Own.pair hb (by omega) (Nat.le_refl _) ((H1.own _ x hx).mono h1) ((H1.own _ y hy).mono h2) (fun h => by have := lx _ h; omega) (fun h => by have := ly _ h; omega) hd) fun p hp hf => ?_
  have hf' : p.1 ∈ ft (⟨4, 0, ⟨#[]⟩, some ⟨b, 0, none⟩, 2, [x, y]⟩ : LT) := hf
  rw [ft_pair] at hf'
  rcases List.mem_cons.1 hf' with h | h
  · have := H.lt hp; omega
  · rcases List.mem_append.1 h with h | h
    · exact H.sep _ hx p hp h
    · exact H.sep _ hy p hp h
def szl (ms : List Tm) : Nat := ms.length + (ms.map Tm.size).sum
section spec
variable (a : Option Addr) (c : Nat) (l : List LT) (t : LT) (w0 : World) (ht : HT w0 (nod a c l)) (htl : HT w0 t) (hs : SmL l) (hst : Sm (er t))
include ht htl hs hst
set_option maxRecDepth 100000 in
set_option maxHeartbeats 4000000 in
theorem spec_ListTerm_A (hv : ¬ AllTOk (l.map er)) : Fn Try.prog 41 [sl a l.length c, tv t] w0 (LtR false (er zT) w0) := by
  have _ := hst
  refine Fn.body (N := 26) Try.func41 rfl rfl rfl rfl rfl ?_
  have H : SH w0 noF w0 [] [tA t, tA (nod a c l)] := SH.startL _ _ (by intro A hA; simp only [List.mem_cons, List.not_mem_nil, or_false] at hA; rcases hA with rfl | rfl; exact htl; exact ht)
  repeat' (first
    | (with_reducible refine WC.seq ?_)
    | (with_reducible refine WC.reg ?_)
    | (with_reducible refine WC.skip ?_)
    | (with_reducible refine WC.ret ?_)
    | ((with_reducible refine is_cond ?_); first | refine WC.ctrue rfl ?_ | refine WC.cfalse rfl ?_ | (refine WC.cbool rfl ?_ ?_ <;> intro hcnd))
    | (with_reducible refine WL.nilK ?_)
    | (with_reducible refine WL.nil ?_)
    | (with_reducible refine AtQ.then_norm ?_)
    | (with_reducible refine AtQ.then_ret ?_)
    | (with_reducible refine AtQ.out_ret ?_)
    | ((with_reducible refine is_call (f := 64) ?_); refine WL.call (vs := [sl a l.length c]) rfl (spec_l02AllOk_fn a c l _ (H.ht (nod a c l) (by repeat' (first | exact List.mem_cons_self .. | apply List.mem_cons_of_mem))) hs) (by decide) ?_; intro v w hv2; obtain ⟨e1, hc1⟩ := hv2; rw [decide_eq_false hv] at e1; subst e1; have H := H.call hc1)
    | ((with_reducible refine is_move ?_); first | refine WL.y H (Y.move rfl) (by decide) ?_)
    | ((with_reducible refine is_assign ?_); first | refine WL.y H (Y.assign rfl) (by decide) ?_)
    | ((with_reducible refine is_load ?_); first | refine WL.y H (Y.loadX rfl (by repeat' (first | exact List.mem_cons_self .. | apply List.mem_cons_of_mem)) rfl) (by decide) ?_ | refine WL.y H (Y.loadXN rfl (by repeat' (first | exact List.mem_cons_self .. | apply List.mem_cons_of_mem)) rfl rfl) (by decide) ?_)
    | ((with_reducible refine is_not ?_); first | refine WL.y H (Y.not rfl) (by decide) ?_)
    | ((with_reducible refine is_pick ?_); first | refine WL.y H (Y.pickT rfl rfl) (by decide) ?_ | refine WL.y H (Y.pickF rfl rfl) (by decide) ?_)
    | ((with_reducible refine is_build ?_); first | refine WL.y H (Y.build rfl rfl) (by decide) ?_)
    | ((with_reducible refine is_box ?_); first | (refine WL.boxN H rfl (by decide) ?_; intro _ w H _ _ _) | (refine WL.box1 H rfl rfl (by decide) ?_; intro _ w H _ _ _))
    | ((with_reducible refine is_alloc ?_); refine WL.alloc H (by decide) ?_; intro _ w H _ _ _)
    | ((with_reducible refine is_store ?_); first | (refine WL.store1 H rfl rfl rfl (by repeat' (first | exact Upd.here .. | apply Upd.there)) rfl ?_; intro w H _) | (refine WL.storeN H rfl rfl rfl rfl (by repeat' (first | exact Upd.here .. | apply Upd.there)) rfl ?_; intro w H _))
    | ((with_reducible refine is_grd ?_); first | refine WL.grd (Wd.some rfl rfl rfl) rfl ?_ | refine WL.pass (Wd.some rfl rfl rfl) rfl rfl (by decide) ?_ | refine WL.pass0 (Wd.some rfl rfl rfl) rfl rfl ?_))
  exact AtQ.r2 (resVal.cN H rfl (by repeat' (first | exact List.mem_cons_self .. | apply List.mem_cons_of_mem)) rfl) (resVal.t rfl) ⟨zT, rfl, rfl, Own.leaf rfl, H.chg⟩
set_option maxRecDepth 100000 in
set_option maxHeartbeats 4000000 in
theorem spec_ListTerm_B (hv : AllTOk (l.map er)) (hvt : ¬ TOk (er t)) : Fn Try.prog 41 [sl a l.length c, tv t] w0 (LtR false (er zT) w0) := by
  refine Fn.body (N := 26) Try.func41 rfl rfl rfl rfl rfl ?_
  have H : SH w0 noF w0 [] [tA t, tA (nod a c l)] := SH.startL _ _ (by intro A hA; simp only [List.mem_cons, List.not_mem_nil, or_false] at hA; rcases hA with rfl | rfl; exact htl; exact ht)
  repeat' (first
    | (with_reducible refine WC.seq ?_)
    | (with_reducible refine WC.reg ?_)
    | (with_reducible refine WC.skip ?_)
    | (with_reducible refine WC.ret ?_)
    | ((with_reducible refine is_cond ?_); first | refine WC.ctrue rfl ?_ | refine WC.cfalse rfl ?_ | (refine WC.cbool rfl ?_ ?_ <;> intro hcnd))
    | (with_reducible refine WL.nilK ?_)
    | (with_reducible refine WL.nil ?_)
    | (with_reducible refine AtQ.then_norm ?_)
    | (with_reducible refine AtQ.then_ret ?_)
    | (with_reducible refine AtQ.out_ret ?_)
    | ((with_reducible refine is_call (f := 64) ?_); refine WL.call (vs := [sl a l.length c]) rfl (spec_l02AllOk_fn a c l _ (H.ht (nod a c l) (by repeat' (first | exact List.mem_cons_self .. | apply List.mem_cons_of_mem))) hs) (by decide) ?_; intro v w hv2; obtain ⟨e1, hc1⟩ := hv2; rw [decide_eq_true hv] at e1; subst e1; have H := H.call hc1)
    | ((with_reducible refine is_call (f := 82) ?_); refine WL.call (vs := [tv t]) rfl (spec_TermOk_fn t _ (H.ht t (by repeat' (first | exact List.mem_cons_self .. | apply List.mem_cons_of_mem))) hst) (by decide) ?_; intro v w hv2; obtain ⟨e1, hc1⟩ := hv2; rw [decide_eq_false hvt] at e1; subst e1; have H := H.call hc1)
    | ((with_reducible refine is_move ?_); first | refine WL.y H (Y.move rfl) (by decide) ?_)
    | ((with_reducible refine is_assign ?_); first | refine WL.y H (Y.assign rfl) (by decide) ?_)
    | ((with_reducible refine is_load ?_); first | refine WL.y H (Y.loadX rfl (by repeat' (first | exact List.mem_cons_self .. | apply List.mem_cons_of_mem)) rfl) (by decide) ?_ | refine WL.y H (Y.loadXN rfl (by repeat' (first | exact List.mem_cons_self .. | apply List.mem_cons_of_mem)) rfl rfl) (by decide) ?_)
    | ((with_reducible refine is_not ?_); first | refine WL.y H (Y.not rfl) (by decide) ?_)
    | ((with_reducible refine is_pick ?_); first | refine WL.y H (Y.pickT rfl rfl) (by decide) ?_ | refine WL.y H (Y.pickF rfl rfl) (by decide) ?_)
    | ((with_reducible refine is_build ?_); first | refine WL.y H (Y.build rfl rfl) (by decide) ?_)
    | ((with_reducible refine is_box ?_); first | (refine WL.boxN H rfl (by decide) ?_; intro _ w H _ _ _) | (refine WL.box1 H rfl rfl (by decide) ?_; intro _ w H _ _ _))
    | ((with_reducible refine is_alloc ?_); refine WL.alloc H (by decide) ?_; intro _ w H _ _ _)
    | ((with_reducible refine is_store ?_); first | (refine WL.store1 H rfl rfl rfl (by repeat' (first | exact Upd.here .. | apply Upd.there)) rfl ?_; intro w H _) | (refine WL.storeN H rfl rfl rfl rfl (by repeat' (first | exact Upd.here .. | apply Upd.there)) rfl ?_; intro w H _))
    | ((with_reducible refine is_grd ?_); first | refine WL.grd (Wd.some rfl rfl rfl) rfl ?_ | refine WL.pass (Wd.some rfl rfl rfl) rfl rfl (by decide) ?_ | refine WL.pass0 (Wd.some rfl rfl rfl) rfl rfl ?_))
  exact AtQ.r2 (resVal.cN H rfl (by repeat' (first | exact List.mem_cons_self .. | apply List.mem_cons_of_mem)) rfl) (resVal.t rfl) ⟨zT, rfl, rfl, Own.leaf rfl, H.chg⟩
set_option maxRecDepth 100000 in
set_option maxHeartbeats 4000000 in
theorem spec_ListTerm_C (ms : List Tm) (m : Tm) (hms : l.map er = ms.map Tm.enc) (hm : er t = m.enc) (hv : AllTOk (l.map er)) (hvt : TOk (er t)) (hz : ¬ (lstT ms m).size ≤ 5000) : Fn Try.prog 41 [sl a l.length c, tv t] w0 (LtR false (er zT) w0) := by
  have hsl : Sm (lstI (l.map er) (er t)) := lstI_sm _ _ (fun x hx => by obtain ⟨y, hy, rfl⟩ := List.mem_map.1 hx; exact hs.2 y hy) hst
  have henc : lstI (l.map er) (er t) = (lstT ms m).enc := by rw [hms, hm, lstT_enc]
  refine Fn.body (N := 26) Try.func41 rfl rfl rfl rfl rfl ?_
  have H : SH w0 noF w0 [] [tA t, tA (nod a c l)] := SH.startL _ _ (by intro A hA; simp only [List.mem_cons, List.not_mem_nil, or_false] at hA; rcases hA with rfl | rfl; exact htl; exact ht)
  repeat' (first
    | (with_reducible refine WC.seq ?_)
    | (with_reducible refine WC.reg ?_)
    | (with_reducible refine WC.skip ?_)
    | (with_reducible refine WC.ret ?_)
    | ((with_reducible refine is_cond ?_); first | refine WC.ctrue rfl ?_ | refine WC.cfalse rfl ?_ | (refine WC.cbool rfl ?_ ?_ <;> intro hcnd))
    | (with_reducible refine WL.nilK ?_)
    | (with_reducible refine WL.nil ?_)
    | (with_reducible refine AtQ.then_norm ?_)
    | (with_reducible refine AtQ.then_ret ?_)
    | (with_reducible refine AtQ.out_ret ?_)
    | ((with_reducible refine is_call (f := 64) ?_); refine WL.call (vs := [sl a l.length c]) rfl (spec_l02AllOk_fn a c l _ (H.ht (nod a c l) (by repeat' (first | exact List.mem_cons_self .. | apply List.mem_cons_of_mem))) hs) (by decide) ?_; intro v w hv2; obtain ⟨e1, hc1⟩ := hv2; rw [decide_eq_true hv] at e1; subst e1; have H := H.call hc1)
    | ((with_reducible refine is_call (f := 82) ?_); refine WL.call (vs := [tv t]) rfl (spec_TermOk_fn t _ (H.ht t (by repeat' (first | exact List.mem_cons_self .. | apply List.mem_cons_of_mem))) hst) (by decide) ?_; intro v w hv2; obtain ⟨e1, hc1⟩ := hv2; rw [decide_eq_true hvt] at e1; subst e1; have H := H.call hc1)
    | ((with_reducible refine is_call (f := 86) ?_); refine WL.call (vs := [sl a l.length c, tv t]) rfl (spec_l02List_ok a c l t _ (H.ht (nod a c l) (by repeat' (first | exact List.mem_cons_self .. | apply List.mem_cons_of_mem))) (H.ht t (by repeat' (first | exact List.mem_cons_self .. | apply List.mem_cons_of_mem))) hs.1) (by decide) ?_; intro v w hv2; obtain ⟨t1, e1, het1, ht1, hc1⟩ := hv2; subst e1; have H := H.call hc1)
    | ((with_reducible refine is_call (f := 85) ?_); refine WL.call (vs := [tv t1]) rfl (spec_l02Fits_ok (lstT ms m) t1 _ (het1.trans henc) ht1 (het1 ▸ hsl)) (by decide) ?_; intro v w hv2; obtain ⟨e1, hc1⟩ := hv2; rw [decide_eq_false hz] at e1; subst e1; have H := H.call hc1)
    | ((with_reducible refine is_move ?_); first | refine WL.y H (Y.move rfl) (by decide) ?_)
    | ((with_reducible refine is_assign ?_); first | refine WL.y H (Y.assign rfl) (by decide) ?_)
    | ((with_reducible refine is_load ?_); first | refine WL.y H (Y.loadX rfl (by repeat' (first | exact List.mem_cons_self .. | apply List.mem_cons_of_mem)) rfl) (by decide) ?_ | refine WL.y H (Y.loadXN rfl (by repeat' (first | exact List.mem_cons_self .. | apply List.mem_cons_of_mem)) rfl rfl) (by decide) ?_)
    | ((with_reducible refine is_not ?_); first | refine WL.y H (Y.not rfl) (by decide) ?_)
    | ((with_reducible refine is_pick ?_); first | refine WL.y H (Y.pickT rfl rfl) (by decide) ?_ | refine WL.y H (Y.pickF rfl rfl) (by decide) ?_)
    | ((with_reducible refine is_build ?_); first | refine WL.y H (Y.build rfl rfl) (by decide) ?_)
    | ((with_reducible refine is_box ?_); first | (refine WL.boxN H rfl (by decide) ?_; intro _ w H _ _ _) | (refine WL.box1 H rfl rfl (by decide) ?_; intro _ w H _ _ _))
    | ((with_reducible refine is_alloc ?_); refine WL.alloc H (by decide) ?_; intro _ w H _ _ _)
    | ((with_reducible refine is_store ?_); first | (refine WL.store1 H rfl rfl rfl (by repeat' (first | exact Upd.here .. | apply Upd.there)) rfl ?_; intro w H _) | (refine WL.storeN H rfl rfl rfl rfl (by repeat' (first | exact Upd.here .. | apply Upd.there)) rfl ?_; intro w H _))
    | ((with_reducible refine is_grd ?_); first | refine WL.grd (Wd.some rfl rfl rfl) rfl ?_ | refine WL.pass (Wd.some rfl rfl rfl) rfl rfl (by decide) ?_ | refine WL.pass0 (Wd.some rfl rfl rfl) rfl rfl ?_))
  exact AtQ.r2 (resVal.cN H rfl (by repeat' (first | exact List.mem_cons_self .. | apply List.mem_cons_of_mem)) rfl) (resVal.t rfl) ⟨zT, rfl, rfl, Own.leaf rfl, H.chg⟩
set_option maxRecDepth 100000 in
set_option maxHeartbeats 4000000 in
theorem spec_ListTerm_D (ms : List Tm) (m : Tm) (hms : l.map er = ms.map Tm.enc) (hm : er t = m.enc) (hv : AllTOk (l.map er)) (hvt : TOk (er t)) (hz : (lstT ms m).size ≤ 5000) : Fn Try.prog 41 [sl a l.length c, tv t] w0 (LtR true (lstT ms m).enc w0) := by
  have hsl : Sm (lstI (l.map er) (er t)) := lstI_sm _ _ (fun x hx => by obtain ⟨y, hy, rfl⟩ := List.mem_map.1 hx; exact hs.2 y hy) hst
  have henc : lstI (l.map er) (er t) = (lstT ms m).enc := by rw [hms, hm, lstT_enc]
  refine Fn.body (N := 26) Try.func41 rfl rfl rfl rfl rfl ?_
  have H : SH w0 noF w0 [] [tA t, tA (nod a c l)] := SH.startL _ _ (by intro A hA; simp only [List.mem_cons, List.not_mem_nil, or_false] at hA; rcases hA with rfl | rfl; exact htl; exact ht)
  repeat' (first
    | (with_reducible refine WC.seq ?_)
    | (with_reducible refine WC.reg ?_)
    | (with_reducible refine WC.skip ?_)
    | (with_reducible refine WC.ret ?_)
    | ((with_reducible refine is_cond ?_); first | refine WC.ctrue rfl ?_ | refine WC.cfalse rfl ?_ | (refine WC.cbool rfl ?_ ?_ <;> intro hcnd))
    | (with_reducible refine WL.nilK ?_)
    | (with_reducible refine WL.nil ?_)
    | (with_reducible refine AtQ.then_norm ?_)
    | (with_reducible refine AtQ.then_ret ?_)
    | (with_reducible refine AtQ.out_ret ?_)
    | ((with_reducible refine is_call (f := 64) ?_); refine WL.call (vs := [sl a l.length c]) rfl (spec_l02AllOk_fn a c l _ (H.ht (nod a c l) (by repeat' (first | exact List.mem_cons_self .. | apply List.mem_cons_of_mem))) hs) (by decide) ?_; intro v w hv2; obtain ⟨e1, hc1⟩ := hv2; rw [decide_eq_true hv] at e1; subst e1; have H := H.call hc1)
    | ((with_reducible refine is_call (f := 82) ?_); refine WL.call (vs := [tv t]) rfl (spec_TermOk_fn t _ (H.ht t (by repeat' (first | exact List.mem_cons_self .. | apply List.mem_cons_of_mem))) hst) (by decide) ?_; intro v w hv2; obtain ⟨e1, hc1⟩ := hv2; rw [decide_eq_true hvt] at e1; subst e1; have H := H.call hc1)
    | ((with_reducible refine is_call (f := 86) ?_); refine WL.call (vs := [sl a l.length c, tv t]) rfl (spec_l02List_ok a c l t _ (H.ht (nod a c l) (by repeat' (first | exact List.mem_cons_self .. | apply List.mem_cons_of_mem))) (H.ht t (by repeat' (first | exact List.mem_cons_self .. | apply List.mem_cons_of_mem))) hs.1) (by decide) ?_; intro v w hv2; obtain ⟨t1, e1, het1, ht1, hc1⟩ := hv2; subst e1; have H := H.call hc1)
    | ((with_reducible refine is_call (f := 85) ?_); refine WL.call (vs := [tv t1]) rfl (spec_l02Fits_ok (lstT ms m) t1 _ (het1.trans henc) ht1 (het1 ▸ hsl)) (by decide) ?_; intro v w hv2; obtain ⟨e1, hc1⟩ := hv2; rw [decide_eq_true hz] at e1; subst e1; have H := H.call hc1)
    | ((with_reducible refine is_call (f := 83) ?_); have hs1 := H.chg.size; refine WL.call (vs := [tv t1]) rfl (spec_l02Copy_ok t1 _ ht1 (Tm.lens _ t1 (het1.trans henc))) (by decide) ?_; intro v w hv2; obtain ⟨t2, e1, het2, ho2, hc1⟩ := hv2; subst e1; have H := H.made hc1 (oA _ t2) ho2 ho2.new)
    | ((with_reducible refine is_move ?_); first | refine WL.y H (Y.move rfl) (by decide) ?_)
    | ((with_reducible refine is_assign ?_); first | refine WL.y H (Y.assign rfl) (by decide) ?_)
    | ((with_reducible refine is_load ?_); first | refine WL.y H (Y.loadX rfl (by repeat' (first | exact List.mem_cons_self .. | apply List.mem_cons_of_mem)) rfl) (by decide) ?_ | refine WL.y H (Y.loadXN rfl (by repeat' (first | exact List.mem_cons_self .. | apply List.mem_cons_of_mem)) rfl rfl) (by decide) ?_)
    | ((with_reducible refine is_not ?_); first | refine WL.y H (Y.not rfl) (by decide) ?_)
    | ((with_reducible refine is_pick ?_); first | refine WL.y H (Y.pickT rfl rfl) (by decide) ?_ | refine WL.y H (Y.pickF rfl rfl) (by decide) ?_)
    | ((with_reducible refine is_build ?_); first | refine WL.y H (Y.build rfl rfl) (by decide) ?_)
    | ((with_reducible refine is_box ?_); first | (refine WL.boxN H rfl (by decide) ?_; intro _ w H _ _ _) | (refine WL.box1 H rfl rfl (by decide) ?_; intro _ w H _ _ _))
    | ((with_reducible refine is_alloc ?_); refine WL.alloc H (by decide) ?_; intro _ w H _ _ _)
    | ((with_reducible refine is_store ?_); first | (refine WL.store1 H rfl rfl rfl (by repeat' (first | exact Upd.here .. | apply Upd.there)) rfl ?_; intro w H _) | (refine WL.storeN H rfl rfl rfl rfl (by repeat' (first | exact Upd.here .. | apply Upd.there)) rfl ?_; intro w H _))
    | ((with_reducible refine is_grd ?_); first | refine WL.grd (Wd.some rfl rfl rfl) rfl ?_ | refine WL.pass (Wd.some rfl rfl rfl) rfl rfl (by decide) ?_ | refine WL.pass0 (Wd.some rfl rfl rfl) rfl rfl ?_))
  exact AtQ.r2 (resVal.cN H rfl (by repeat' (first | exact List.mem_cons_self .. | apply List.mem_cons_of_mem)) rfl) (resVal.t rfl) ⟨t2, rfl, het2.trans (het1.trans henc), (H.own _ t2 (by repeat' (first | exact List.mem_cons_self .. | apply List.mem_cons_of_mem))).mono hs1, H.chg⟩
set_option maxRecDepth 100000 in
set_option maxHeartbeats 4000000 in
theorem impl_ListTerm_B (hvt : ¬ TOk (er t)) : Fn Try.prog 42 [sl a l.length c, tv t] w0 (LtR false (er zT) w0) := by
  have _ := hs
  refine Fn.body (N := 55) Try.func42 rfl rfl rfl rfl rfl ?_
  have H : SH w0 noF w0 [] [tA t, tA (nod a c l)] := SH.startL _ _ (by intro A hA; simp only [List.mem_cons, List.not_mem_nil, or_false] at hA; rcases hA with rfl | rfl; exact htl; exact ht)
  repeat' (first
    | (with_reducible refine WC.seq ?_)
    | (with_reducible refine WC.reg ?_)
    | (with_reducible refine WC.block ?_)
    | (with_reducible refine WC.skip ?_)
    | (with_reducible refine WC.ret ?_)
    | (with_reducible refine WC.exit ?_)
    | ((with_reducible refine is_cond ?_); first | refine WC.ctrue rfl ?_ | refine WC.cfalse rfl ?_ | (refine WC.cbool rfl ?_ ?_ <;> intro hcnd))
    | (with_reducible refine WL.nilK ?_)
    | (with_reducible refine WL.nil ?_)
    | (with_reducible refine AtQ.then_norm ?_)
    | (with_reducible refine AtQ.then_ret ?_)
    | (with_reducible refine AtQ.then_exit ?_)
    | (with_reducible refine AtQ.block_ret ?_)
    | (with_reducible refine AtQ.block_norm ?_)
    | (with_reducible refine AtQ.block_here ?_)
    | (with_reducible refine AtQ.loop_ret ?_)
    | (with_reducible refine AtQ.loop_exit ?_)
    | (with_reducible refine AtQ.out_ret ?_)
    | (with_reducible refine AtQ.out_exit ?_)
    | ((with_reducible refine AtQ.block_other ?_ ?_); · exact rfl)
    | ((with_reducible refine is_call (f := 63) ?_); refine WL.call (vs := [tv t]) rfl (impl_TermOk_fn t _ (H.ht t (by repeat' (first | exact List.mem_cons_self .. | apply List.mem_cons_of_mem))) hst) (by decide) ?_; intro v w hv2; obtain ⟨e1, hc1⟩ := hv2; rw [decide_eq_false hvt] at e1; subst e1; have H := H.call hc1)
    | ((with_reducible refine is_move ?_); first | refine WL.y H (Y.move rfl) (by decide) ?_)
    | ((with_reducible refine is_assign ?_); first | refine WL.y H (Y.assign rfl) (by decide) ?_)
    | ((with_reducible refine is_load ?_); first | refine WL.y H (Y.loadX rfl (by repeat' (first | exact List.mem_cons_self .. | apply List.mem_cons_of_mem)) rfl) (by decide) ?_ | refine WL.y H (Y.loadXN rfl (by repeat' (first | exact List.mem_cons_self .. | apply List.mem_cons_of_mem)) rfl rfl) (by decide) ?_)
    | ((with_reducible refine is_idx ?_); first | refine WL.y H (Y.idx rfl rfl (by first | omega | (simp only [List.length_cons, List.length_nil]; done) | (simp only [List.length_cons, List.length_nil]; omega)) (by first | omega | (simp only [List.length_cons, List.length_nil]; done) | (simp only [List.length_cons, List.length_nil]; omega))) (by decide) ?_)
    | ((with_reducible refine is_len ?_); first | refine WL.y H (Y.lenS rfl) (by decide) ?_)
    | ((with_reducible refine is_add ?_); first | refine WL.y H (Y.add rfl rfl (by first | omega | (simp only [List.length_cons, List.length_nil]; done) | (simp only [List.length_cons, List.length_nil]; omega)) (by first | omega | (simp only [List.length_cons, List.length_nil]; done) | (simp only [List.length_cons, List.length_nil]; omega))) (by decide) ?_)
    | ((with_reducible refine is_sub ?_); first | refine WL.y H (Y.sub rfl rfl (by first | omega | (simp only [List.length_cons, List.length_nil]; done) | (simp only [List.length_cons, List.length_nil]; omega)) (by first | omega | (simp only [List.length_cons, List.length_nil]; done) | (simp only [List.length_cons, List.length_nil]; omega))) (by decide) ?_)
    | ((with_reducible refine is_not ?_); first | refine WL.y H (Y.not rfl) (by decide) ?_)
    | ((with_reducible refine is_build ?_); first | refine WL.y H (Y.build rfl rfl) (by decide) ?_)
    | ((with_reducible refine is_min ?_); first | refine WL.y H (Y.min2 rfl rfl) (by decide) ?_)
    | ((with_reducible refine is_lss ?_); first | refine WL.y H ((Y.lss rfl rfl).boolT (by first | omega | (simp only [List.length_cons, List.length_nil]; done) | (simp only [List.length_cons, List.length_nil]; omega))) (by decide) ?_ | refine WL.y H ((Y.lss rfl rfl).boolF (by first | omega | (simp only [List.length_cons, List.length_nil]; done) | (simp only [List.length_cons, List.length_nil]; omega))) (by decide) ?_ | (refine WL.cmp H (Y.lss rfl rfl) (by decide) ?_ ?_ <;> intro hcmp))
    | ((with_reducible refine is_gtr ?_); first | refine WL.y H ((Y.gtr rfl rfl).boolT (by first | omega | (simp only [List.length_cons, List.length_nil]; done) | (simp only [List.length_cons, List.length_nil]; omega))) (by decide) ?_ | refine WL.y H ((Y.gtr rfl rfl).boolF (by first | omega | (simp only [List.length_cons, List.length_nil]; done) | (simp only [List.length_cons, List.length_nil]; omega))) (by decide) ?_ | (refine WL.cmp H (Y.gtr rfl rfl) (by decide) ?_ ?_ <;> intro hcmp))
    | ((with_reducible refine is_geq ?_); first | refine WL.y H ((Y.geq rfl rfl).boolT (by first | omega | (simp only [List.length_cons, List.length_nil]; done) | (simp only [List.length_cons, List.length_nil]; omega))) (by decide) ?_ | refine WL.y H ((Y.geq rfl rfl).boolF (by first | omega | (simp only [List.length_cons, List.length_nil]; done) | (simp only [List.length_cons, List.length_nil]; omega))) (by decide) ?_ | (refine WL.cmp H (Y.geq rfl rfl) (by decide) ?_ ?_ <;> intro hcmp))
    | ((with_reducible refine is_box ?_); first | (refine WL.boxN H rfl (by decide) ?_; intro _ w H _ _ _) | (refine WL.box1 H rfl rfl (by decide) ?_; intro _ w H _ _ _))
    | ((with_reducible refine is_alloc ?_); refine WL.alloc H (by decide) ?_; intro _ w H _ _ _)
    | ((with_reducible refine is_store ?_); first | (refine WL.store1 H rfl rfl rfl (by repeat' (first | exact Upd.here .. | apply Upd.there)) rfl ?_; intro w H _) | (refine WL.storeN H rfl rfl rfl rfl (by repeat' (first | exact Upd.here .. | apply Upd.there)) rfl ?_; intro w H _)))
  exact AtQ.r2 (resVal.cN H rfl (by repeat' (first | exact List.mem_cons_self .. | apply List.mem_cons_of_mem)) rfl) (resVal.t rfl) ⟨zT, rfl, rfl, Own.leaf rfl, H.chg⟩
set_option maxRecDepth 100000 in
set_option maxHeartbeats 4000000 in
theorem impl_ListTerm_A (hv : ¬ AllTOk (l.map er)) (hvt : TOk (er t)) : Fn Try.prog 42 [sl a l.length c, tv t] w0 (LtR false (er zT) w0) := by
  have hln := hs.1
  have htz := (tsz_pos (er t)).resolve_right (fun h => h.1 hvt)
  refine Fn.body (N := 55) Try.func42 rfl rfl rfl rfl rfl ?_
  have H : SH w0 noF w0 [] [tA t, tA (nod a c l)] := SH.startL _ _ (by intro A hA; simp only [List.mem_cons, List.not_mem_nil, or_false] at hA; rcases hA with rfl | rfl; exact htl; exact ht)
  repeat' (first
    | (with_reducible refine WC.seq ?_)
    | (with_reducible refine WC.reg ?_)
    | (with_reducible refine WC.block ?_)
    | (with_reducible refine WC.skip ?_)
    | (with_reducible refine WC.ret ?_)
    | (with_reducible refine WC.exit ?_)
    | ((with_reducible refine is_cond ?_); first | refine WC.ctrue rfl ?_ | refine WC.cfalse rfl ?_ | (refine WC.cbool rfl ?_ ?_ <;> intro hcnd))
    | (with_reducible refine WL.nilK ?_)
    | (with_reducible refine WL.nil ?_)
    | (with_reducible refine AtQ.then_norm ?_)
    | (with_reducible refine AtQ.then_ret ?_)
    | (with_reducible refine AtQ.then_exit ?_)
    | (with_reducible refine AtQ.block_ret ?_)
    | (with_reducible refine AtQ.block_norm ?_)
    | (with_reducible refine AtQ.block_here ?_)
    | (with_reducible refine AtQ.loop_ret ?_)
    | (with_reducible refine AtQ.loop_exit ?_)
    | (with_reducible refine AtQ.out_ret ?_)
    | (with_reducible refine AtQ.out_exit ?_)
    | ((with_reducible refine AtQ.block_other ?_ ?_); · exact rfl)
    | ((with_reducible refine is_box ?_); refine WL.boxN H rfl (by decide) ?_; intro b3 w H hb3 _ _)
    | ((with_reducible refine is_move ?_); first | refine WL.y H (Y.move rfl) (by decide) ?_)
    | ((with_reducible refine is_assign ?_); first | refine WL.y H (Y.assign rfl) (by decide) ?_)
    | ((with_reducible refine is_load ?_); first | refine WL.y H (Y.loadX rfl (by repeat' (first | exact List.mem_cons_self .. | apply List.mem_cons_of_mem)) rfl) (by decide) ?_ | refine WL.y H (Y.loadXN rfl (by repeat' (first | exact List.mem_cons_self .. | apply List.mem_cons_of_mem)) rfl rfl) (by decide) ?_)
    | ((with_reducible refine is_idx ?_); first | refine WL.y H (Y.idx rfl rfl (by first | omega | (simp only [List.length_cons, List.length_nil]; done) | (simp only [List.length_cons, List.length_nil]; omega)) (by first | omega | (simp only [List.length_cons, List.length_nil]; done) | (simp only [List.length_cons, List.length_nil]; omega))) (by decide) ?_)
    | ((with_reducible refine is_len ?_); first | refine WL.y H (Y.lenS rfl) (by decide) ?_)
    | ((with_reducible refine is_add ?_); first | refine WL.y H (Y.add rfl rfl (by first | omega | (simp only [List.length_cons, List.length_nil]; done) | (simp only [List.length_cons, List.length_nil]; omega)) (by first | omega | (simp only [List.length_cons, List.length_nil]; done) | (simp only [List.length_cons, List.length_nil]; omega))) (by decide) ?_)
    | ((with_reducible refine is_sub ?_); first | refine WL.y H (Y.sub rfl rfl (by first | omega | (simp only [List.length_cons, List.length_nil]; done) | (simp only [List.length_cons, List.length_nil]; omega)) (by first | omega | (simp only [List.length_cons, List.length_nil]; done) | (simp only [List.length_cons, List.length_nil]; omega))) (by decide) ?_)
    | ((with_reducible refine is_not ?_); first | refine WL.y H (Y.not rfl) (by decide) ?_)
    | ((with_reducible refine is_build ?_); first | refine WL.y H (Y.build rfl rfl) (by decide) ?_)
    | ((with_reducible refine is_min ?_); first | refine WL.y H (Y.min2 rfl rfl) (by decide) ?_)
    | ((with_reducible refine is_lss ?_); first | refine WL.y H ((Y.lss rfl rfl).boolT (by first | omega | (simp only [List.length_cons, List.length_nil]; done) | (simp only [List.length_cons, List.length_nil]; omega))) (by decide) ?_ | refine WL.y H ((Y.lss rfl rfl).boolF (by first | omega | (simp only [List.length_cons, List.length_nil]; done) | (simp only [List.length_cons, List.length_nil]; omega))) (by decide) ?_ | (refine WL.cmp H (Y.lss rfl rfl) (by decide) ?_ ?_ <;> intro hcmp))
    | ((with_reducible refine is_gtr ?_); first | refine WL.y H ((Y.gtr rfl rfl).boolT (by first | omega | (simp only [List.length_cons, List.length_nil]; done) | (simp only [List.length_cons, List.length_nil]; omega))) (by decide) ?_ | refine WL.y H ((Y.gtr rfl rfl).boolF (by first | omega | (simp only [List.length_cons, List.length_nil]; done) | (simp only [List.length_cons, List.length_nil]; omega))) (by decide) ?_ | (refine WL.cmp H (Y.gtr rfl rfl) (by decide) ?_ ?_ <;> intro hcmp))
    | ((with_reducible refine is_geq ?_); first | refine WL.y H ((Y.geq rfl rfl).boolT (by first | omega | (simp only [List.length_cons, List.length_nil]; done) | (simp only [List.length_cons, List.length_nil]; omega))) (by decide) ?_ | refine WL.y H ((Y.geq rfl rfl).boolF (by first | omega | (simp only [List.length_cons, List.length_nil]; done) | (simp only [List.length_cons, List.length_nil]; omega))) (by decide) ?_ | (refine WL.cmp H (Y.geq rfl rfl) (by decide) ?_ ?_ <;> intro hcmp)))
  repeat' (first
    | (with_reducible refine WC.seq ?_)
    | (with_reducible refine WC.reg ?_)
    | (with_reducible refine WC.block ?_)
    | (with_reducible refine WC.skip ?_)
    | (with_reducible refine WC.ret ?_)
    | (with_reducible refine WC.exit ?_)
    | ((with_reducible refine is_cond ?_); first | refine WC.ctrue rfl ?_ | refine WC.cfalse rfl ?_ | (refine WC.cbool rfl ?_ ?_ <;> intro hcnd))
    | (with_reducible refine WL.nilK ?_)
    | (with_reducible refine WL.nil ?_)
    | (with_reducible refine AtQ.then_norm ?_)
    | (with_reducible refine AtQ.then_ret ?_)
    | (with_reducible refine AtQ.then_exit ?_)
    | (with_reducible refine AtQ.block_ret ?_)
    | (with_reducible refine AtQ.block_norm ?_)
    | (with_reducible refine AtQ.block_here ?_)
    | (with_reducible refine AtQ.loop_ret ?_)
    | (with_reducible refine AtQ.loop_exit ?_)
    | (with_reducible refine AtQ.out_ret ?_)
    | (with_reducible refine AtQ.out_exit ?_)
    | ((with_reducible refine AtQ.block_other ?_ ?_); · exact rfl)
    | ((with_reducible refine is_alloc ?_); refine WL.alloc H (by decide) ?_; intro b4 w H hb4 _ _)
    | ((with_reducible refine is_call (f := 63) ?_); refine WL.call (vs := [tv t]) rfl (impl_TermOk_fn t _ (H.ht t (by repeat' (first | exact List.mem_cons_self .. | apply List.mem_cons_of_mem))) hst) (by decide) ?_; intro v w hv2; obtain ⟨e1, hc1⟩ := hv2; rw [decide_eq_true hvt] at e1; subst e1; have H := H.call hc1)
    | ((with_reducible refine is_call (f := 59) ?_); refine WL.call (vs := [tv t]) rfl (impl_TermSize_fn t _ (H.ht t (by repeat' (first | exact List.mem_cons_self .. | apply List.mem_cons_of_mem))) hst) (by decide) ?_; intro v w hv2; obtain ⟨e1, hc1⟩ := hv2; subst e1; have H := H.call hc1)
    | ((with_reducible refine is_move ?_); first | refine WL.y H (Y.move rfl) (by decide) ?_)
    | ((with_reducible refine is_assign ?_); first | refine WL.y H (Y.assign rfl) (by decide) ?_)
    | ((with_reducible refine is_load ?_); first | refine WL.y H (Y.loadX rfl (by repeat' (first | exact List.mem_cons_self .. | apply List.mem_cons_of_mem)) rfl) (by decide) ?_ | refine WL.y H (Y.loadXN rfl (by repeat' (first | exact List.mem_cons_self .. | apply List.mem_cons_of_mem)) rfl rfl) (by decide) ?_)
    | ((with_reducible refine is_idx ?_); first | refine WL.y H (Y.idx rfl rfl (by first | omega | (simp only [List.length_cons, List.length_nil]; done) | (simp only [List.length_cons, List.length_nil]; omega)) (by first | omega | (simp only [List.length_cons, List.length_nil]; done) | (simp only [List.length_cons, List.length_nil]; omega))) (by decide) ?_)
    | ((with_reducible refine is_len ?_); first | refine WL.y H (Y.lenS rfl) (by decide) ?_)
    | ((with_reducible refine is_add ?_); first | refine WL.y H (Y.add rfl rfl (by first | omega | (simp only [List.length_cons, List.length_nil]; done) | (simp only [List.length_cons, List.length_nil]; omega)) (by first | omega | (simp only [List.length_cons, List.length_nil]; done) | (simp only [List.length_cons, List.length_nil]; omega))) (by decide) ?_)
    | ((with_reducible refine is_sub ?_); first | refine WL.y H (Y.sub rfl rfl (by first | omega | (simp only [List.length_cons, List.length_nil]; done) | (simp only [List.length_cons, List.length_nil]; omega)) (by first | omega | (simp only [List.length_cons, List.length_nil]; done) | (simp only [List.length_cons, List.length_nil]; omega))) (by decide) ?_)
    | ((with_reducible refine is_not ?_); first | refine WL.y H (Y.not rfl) (by decide) ?_)
    | ((with_reducible refine is_build ?_); first | refine WL.y H (Y.build rfl rfl) (by decide) ?_)
    | ((with_reducible refine is_min ?_); first | refine WL.y H (Y.min2 rfl rfl) (by decide) ?_)
    | ((with_reducible refine is_lss ?_); first | refine WL.y H ((Y.lss rfl rfl).boolT (by first | omega | (simp only [List.length_cons, List.length_nil]; done) | (simp only [List.length_cons, List.length_nil]; omega))) (by decide) ?_ | refine WL.y H ((Y.lss rfl rfl).boolF (by first | omega | (simp only [List.length_cons, List.length_nil]; done) | (simp only [List.length_cons, List.length_nil]; omega))) (by decide) ?_ | (refine WL.cmp H (Y.lss rfl rfl) (by decide) ?_ ?_ <;> intro hcmp))
    | ((with_reducible refine is_gtr ?_); first | refine WL.y H ((Y.gtr rfl rfl).boolT (by first | omega | (simp only [List.length_cons, List.length_nil]; done) | (simp only [List.length_cons, List.length_nil]; omega))) (by decide) ?_ | refine WL.y H ((Y.gtr rfl rfl).boolF (by first | omega | (simp only [List.length_cons, List.length_nil]; done) | (simp only [List.length_cons, List.length_nil]; omega))) (by decide) ?_ | (refine WL.cmp H (Y.gtr rfl rfl) (by decide) ?_ ?_ <;> intro hcmp))
    | ((with_reducible refine is_geq ?_); first | refine WL.y H ((Y.geq rfl rfl).boolT (by first | omega | (simp only [List.length_cons, List.length_nil]; done) | (simp only [List.length_cons, List.length_nil]; omega))) (by decide) ?_ | refine WL.y H ((Y.geq rfl rfl).boolF (by first | omega | (simp only [List.length_cons, List.length_nil]; done) | (simp only [List.length_cons, List.length_nil]; omega))) (by decide) ?_ | (refine WL.cmp H (Y.geq rfl rfl) (by decide) ?_ ?_ <;> intro hcmp))
    | ((with_reducible refine is_box ?_); first | (refine WL.boxN H rfl (by decide) ?_; intro _ w H _ _ _) | (refine WL.box1 H rfl rfl (by decide) ?_; intro _ w H _ _ _))
    | ((with_reducible refine is_alloc ?_); refine WL.alloc H (by decide) ?_; intro _ w H _ _ _)
    | ((with_reducible refine is_store ?_); first | (refine WL.store1 H rfl rfl rfl (by repeat' (first | exact Upd.here .. | apply Upd.there)) rfl ?_; intro w H _) | (refine WL.storeN H rfl rfl rfl rfl (by repeat' (first | exact Upd.here .. | apply Upd.there)) rfl ?_; intro w H _)))
  refine WC.loop (σ := Nat × Int) (fun s => [(0, sl a l.length c), (3, .pointer (some ⟨b3, 0, none⟩)), (4, .pointer (some ⟨b4, 0, none⟩)), (6, .int .i64 s.2), (18, sl a l.length c), (19, .int .i64 l.length), (20, .int .i64 (s.1 : Nat))])
    (fun s w' => s.1 ≤ l.length ∧ 0 ≤ s.2 ∧ s.2 ≤ 5001 ∧ (∀ i (h : i < l.length), i < s.1 → TOk (er l[i])) ∧ SH w0 noF w' [(b4, .cells zt.toArray 47 (0, 0)), (b3, .cells (tcs t).toArray 47 (0, 0))] [tA t, tA (nod a c l)])
    (fun s => l.length - s.1) (0, tsz (er t)) (by repeat' (first | exact Sub.nil | refine Sub.cons rfl ?_)) ⟨Nat.zero_le _, (by simp only; omega), (by simp only; omega), (fun _ _ h => absurd h (Nat.not_lt_zero _)), H⟩ (fun s w hinv => ?_)
  obtain ⟨k, n⟩ := s
  obtain ⟨hk, hn0, hn1, hall, H⟩ := hinv
  simp only at hk hn0 hn1 hall H ⊢
  by_cases hlt : k < l.length
  · obtain ⟨tb, tto, cs, T, fz, ha, _, _⟩ := (H.ht (nod a c l) (by repeat' (first | exact List.mem_cons_self .. | apply List.mem_cons_of_mem))).row (by intro e; rw [show (nod a c l).l = l from rfl] at e; rw [e] at hlt; simp at hlt)
    simp only at ha
    subst ha
    have hsk := hs.2 _ (List.getElem_mem hlt)
    rcases tsz_pos (er l[k]) with hzk | hzk
    · repeat' (first
        | (with_reducible refine WC.seq ?_)
        | (with_reducible refine WC.reg ?_)
        | (with_reducible refine WC.block ?_)
        | (with_reducible refine WC.skip ?_)
        | (with_reducible refine WC.ret ?_)
        | (with_reducible refine WC.exit ?_)
        | ((with_reducible refine is_cond ?_); first | refine WC.ctrue rfl ?_ | refine WC.cfalse rfl ?_ | (refine WC.cbool rfl ?_ ?_ <;> intro hcnd))
        | (with_reducible refine WL.nilK ?_)
        | (with_reducible refine WL.nil ?_)
        | (with_reducible refine AtQ.then_norm ?_)
        | (with_reducible refine AtQ.then_ret ?_)
        | (with_reducible refine AtQ.then_exit ?_)
        | (with_reducible refine AtQ.block_ret ?_)
        | (with_reducible refine AtQ.block_norm ?_)
        | (with_reducible refine AtQ.block_here ?_)
        | (with_reducible refine AtQ.loop_ret ?_)
        | (with_reducible refine AtQ.loop_exit ?_)
        | (with_reducible refine AtQ.out_ret ?_)
        | (with_reducible refine AtQ.out_exit ?_)
        | ((with_reducible refine AtQ.block_other ?_ ?_); · exact rfl)
        | ((with_reducible refine is_call (f := 59) ?_); refine WL.call (vs := [tv l[k]]) rfl (impl_TermSize_fn l[k] _ ((H.ht (nod (some ⟨tb, tto, none⟩) c l) (by repeat' (first | exact List.mem_cons_self .. | apply List.mem_cons_of_mem))).kid _ (List.getElem_mem hlt)) hsk) (by decide) ?_; intro v w hv2; obtain ⟨e1, hc1⟩ := hv2; subst e1; have H := H.call hc1)
        | ((with_reducible refine is_move ?_); first | refine WL.y H (Y.move rfl) (by decide) ?_)
        | ((with_reducible refine is_assign ?_); first | refine WL.y H (Y.assign rfl) (by decide) ?_)
        | ((with_reducible refine is_load ?_); first | refine WL.y H (Y.loadX rfl (by repeat' (first | exact List.mem_cons_self .. | apply List.mem_cons_of_mem)) rfl) (by decide) ?_ | refine WL.y H (Y.loadXN rfl (by repeat' (first | exact List.mem_cons_self .. | apply List.mem_cons_of_mem)) rfl rfl) (by decide) ?_ | refine WL.y H (Y.loadSN (vs := tcs l[k]) rfl (by repeat' (first | exact List.mem_cons_self .. | apply List.mem_cons_of_mem)) (tA_readsK (t := nod (some ⟨tb, tto, none⟩) c l) (i := k) l[k] rfl (List.getElem?_eq_getElem hlt)) rfl) (by decide) ?_)
        | ((with_reducible refine is_idx ?_); first | refine WL.y H (Y.idx rfl rfl (by first | omega | (simp only [List.length_cons, List.length_nil]; done) | (simp only [List.length_cons, List.length_nil]; omega)) (by first | omega | (simp only [List.length_cons, List.length_nil]; done) | (simp only [List.length_cons, List.length_nil]; omega))) (by decide) ?_)
        | ((with_reducible refine is_len ?_); first | refine WL.y H (Y.lenS rfl) (by decide) ?_)
        | ((with_reducible refine is_add ?_); first | refine WL.y H (Y.add rfl rfl (by first | omega | (simp only [List.length_cons, List.length_nil]; done) | (simp only [List.length_cons, List.length_nil]; omega)) (by first | omega | (simp only [List.length_cons, List.length_nil]; done) | (simp only [List.length_cons, List.length_nil]; omega))) (by decide) ?_)
        | ((with_reducible refine is_sub ?_); first | refine WL.y H (Y.sub rfl rfl (by first | omega | (simp only [List.length_cons, List.length_nil]; done) | (simp only [List.length_cons, List.length_nil]; omega)) (by first | omega | (simp only [List.length_cons, List.length_nil]; done) | (simp only [List.length_cons, List.length_nil]; omega))) (by decide) ?_)
        | ((with_reducible refine is_not ?_); first | refine WL.y H (Y.not rfl) (by decide) ?_)
        | ((with_reducible refine is_build ?_); first | refine WL.y H (Y.build rfl rfl) (by decide) ?_)
        | ((with_reducible refine is_min ?_); first | refine WL.y H (Y.min2 rfl rfl) (by decide) ?_)
        | ((with_reducible refine is_lss ?_); first | refine WL.y H ((Y.lss rfl rfl).boolT (by first | omega | (simp only [List.length_cons, List.length_nil]; done) | (simp only [List.length_cons, List.length_nil]; omega))) (by decide) ?_ | refine WL.y H ((Y.lss rfl rfl).boolF (by first | omega | (simp only [List.length_cons, List.length_nil]; done) | (simp only [List.length_cons, List.length_nil]; omega))) (by decide) ?_)
        | ((with_reducible refine is_gtr ?_); first | refine WL.y H ((Y.gtr rfl rfl).boolT (by first | omega | (simp only [List.length_cons, List.length_nil]; done) | (simp only [List.length_cons, List.length_nil]; omega))) (by decide) ?_ | refine WL.y H ((Y.gtr rfl rfl).boolF (by first | omega | (simp only [List.length_cons, List.length_nil]; done) | (simp only [List.length_cons, List.length_nil]; omega))) (by decide) ?_)
        | ((with_reducible refine is_geq ?_); first | refine WL.y H ((Y.geq rfl rfl).boolT (by first | omega | (simp only [List.length_cons, List.length_nil]; done) | (simp only [List.length_cons, List.length_nil]; omega))) (by decide) ?_ | refine WL.y H ((Y.geq rfl rfl).boolF (by first | omega | (simp only [List.length_cons, List.length_nil]; done) | (simp only [List.length_cons, List.length_nil]; omega))) (by decide) ?_)
        | ((with_reducible refine is_box ?_); first | (refine WL.boxN H rfl (by decide) ?_; intro _ w H _ _ _) | (refine WL.box1 H rfl rfl (by decide) ?_; intro _ w H _ _ _))
        | ((with_reducible refine is_alloc ?_); refine WL.alloc H (by decide) ?_; intro _ w H _ _ _)
        | ((with_reducible refine is_store ?_); first | (refine WL.store1 H rfl rfl rfl (by repeat' (first | exact Upd.here .. | apply Upd.there)) rfl ?_; intro w H _) | (refine WL.storeN H rfl rfl rfl rfl (by repeat' (first | exact Upd.here .. | apply Upd.there)) rfl ?_; intro w H _)))
      refine AtQ.loop_norm (k + 1, if 5001 < n + 1 + tsz (er l[k]) then 5001 else n + 1 + tsz (er l[k])) (by repeat' (first | exact Sub.nil | refine Sub.cons rfl ?_)) ⟨hlt, (by simp only; split <;> omega), (by simp only; split <;> omega), fun i h hi => ?_, H.dropX (.cons _ (.refl _))⟩ (by simp only; omega)
      by_cases e : i = k
      · subst e; exact hzk.1
      · exact hall i h (by simp only at hi; omega)
    · repeat' (first
        | (with_reducible refine WC.seq ?_)
        | (with_reducible refine WC.reg ?_)
        | (with_reducible refine WC.block ?_)
        | (with_reducible refine WC.skip ?_)
        | (with_reducible refine WC.ret ?_)
        | (with_reducible refine WC.exit ?_)
        | ((with_reducible refine is_cond ?_); first | refine WC.ctrue rfl ?_ | refine WC.cfalse rfl ?_ | (refine WC.cbool rfl ?_ ?_ <;> intro hcnd))
        | (with_reducible refine WL.nilK ?_)
        | (with_reducible refine WL.nil ?_)
        | (with_reducible refine AtQ.then_norm ?_)
        | (with_reducible refine AtQ.then_ret ?_)
        | (with_reducible refine AtQ.then_exit ?_)
        | (with_reducible refine AtQ.block_ret ?_)
        | (with_reducible refine AtQ.block_norm ?_)
        | (with_reducible refine AtQ.block_here ?_)
        | (with_reducible refine AtQ.loop_ret ?_)
        | (with_reducible refine AtQ.loop_exit ?_)
        | (with_reducible refine AtQ.out_ret ?_)
        | (with_reducible refine AtQ.out_exit ?_)
        | ((with_reducible refine AtQ.block_other ?_ ?_); · exact rfl)
        | ((with_reducible refine is_call (f := 59) ?_); refine WL.call (vs := [tv l[k]]) rfl (impl_TermSize_fn l[k] _ ((H.ht (nod (some ⟨tb, tto, none⟩) c l) (by repeat' (first | exact List.mem_cons_self .. | apply List.mem_cons_of_mem))).kid _ (List.getElem_mem hlt)) hsk) (by decide) ?_; intro v w hv2; obtain ⟨e1, hc1⟩ := hv2; subst e1; have H := H.call hc1)
        | ((with_reducible refine is_move ?_); first | refine WL.y H (Y.move rfl) (by decide) ?_)
        | ((with_reducible refine is_assign ?_); first | refine WL.y H (Y.assign rfl) (by decide) ?_)
        | ((with_reducible refine is_load ?_); first | refine WL.y H (Y.loadX rfl (by repeat' (first | exact List.mem_cons_self .. | apply List.mem_cons_of_mem)) rfl) (by decide) ?_ | refine WL.y H (Y.loadXN rfl (by repeat' (first | exact List.mem_cons_self .. | apply List.mem_cons_of_mem)) rfl rfl) (by decide) ?_ | refine WL.y H (Y.loadSN (vs := tcs l[k]) rfl (by repeat' (first | exact List.mem_cons_self .. | apply List.mem_cons_of_mem)) (tA_readsK (t := nod (some ⟨tb, tto, none⟩) c l) (i := k) l[k] rfl (List.getElem?_eq_getElem hlt)) rfl) (by decide) ?_)
        | ((with_reducible refine is_idx ?_); first | refine WL.y H (Y.idx rfl rfl (by first | omega | (simp only [List.length_cons, List.length_nil]; done) | (simp only [List.length_cons, List.length_nil]; omega)) (by first | omega | (simp only [List.length_cons, List.length_nil]; done) | (simp only [List.length_cons, List.length_nil]; omega))) (by decide) ?_)
        | ((with_reducible refine is_len ?_); first | refine WL.y H (Y.lenS rfl) (by decide) ?_)
        | ((with_reducible refine is_add ?_); first | refine WL.y H (Y.add rfl rfl (by first | omega | (simp only [List.length_cons, List.length_nil]; done) | (simp only [List.length_cons, List.length_nil]; omega)) (by first | omega | (simp only [List.length_cons, List.length_nil]; done) | (simp only [List.length_cons, List.length_nil]; omega))) (by decide) ?_)
        | ((with_reducible refine is_sub ?_); first | refine WL.y H (Y.sub rfl rfl (by first | omega | (simp only [List.length_cons, List.length_nil]; done) | (simp only [List.length_cons, List.length_nil]; omega)) (by first | omega | (simp only [List.length_cons, List.length_nil]; done) | (simp only [List.length_cons, List.length_nil]; omega))) (by decide) ?_)
        | ((with_reducible refine is_not ?_); first | refine WL.y H (Y.not rfl) (by decide) ?_)
        | ((with_reducible refine is_build ?_); first | refine WL.y H (Y.build rfl rfl) (by decide) ?_)
        | ((with_reducible refine is_min ?_); first | refine WL.y H (Y.min2 rfl rfl) (by decide) ?_)
        | ((with_reducible refine is_lss ?_); first | refine WL.y H ((Y.lss rfl rfl).boolT (by first | omega | (simp only [List.length_cons, List.length_nil]; done) | (simp only [List.length_cons, List.length_nil]; omega))) (by decide) ?_ | refine WL.y H ((Y.lss rfl rfl).boolF (by first | omega | (simp only [List.length_cons, List.length_nil]; done) | (simp only [List.length_cons, List.length_nil]; omega))) (by decide) ?_)
        | ((with_reducible refine is_gtr ?_); first | refine WL.y H ((Y.gtr rfl rfl).boolT (by first | omega | (simp only [List.length_cons, List.length_nil]; done) | (simp only [List.length_cons, List.length_nil]; omega))) (by decide) ?_ | refine WL.y H ((Y.gtr rfl rfl).boolF (by first | omega | (simp only [List.length_cons, List.length_nil]; done) | (simp only [List.length_cons, List.length_nil]; omega))) (by decide) ?_)
        | ((with_reducible refine is_geq ?_); first | refine WL.y H ((Y.geq rfl rfl).boolT (by first | omega | (simp only [List.length_cons, List.length_nil]; done) | (simp only [List.length_cons, List.length_nil]; omega))) (by decide) ?_ | refine WL.y H ((Y.geq rfl rfl).boolF (by first | omega | (simp only [List.length_cons, List.length_nil]; done) | (simp only [List.length_cons, List.length_nil]; omega))) (by decide) ?_)
        | ((with_reducible refine is_box ?_); first | (refine WL.boxN H rfl (by decide) ?_; intro _ w H _ _ _) | (refine WL.box1 H rfl rfl (by decide) ?_; intro _ w H _ _ _))
        | ((with_reducible refine is_alloc ?_); refine WL.alloc H (by decide) ?_; intro _ w H _ _ _)
        | ((with_reducible refine is_store ?_); first | (refine WL.store1 H rfl rfl rfl (by repeat' (first | exact Upd.here .. | apply Upd.there)) rfl ?_; intro w H _) | (refine WL.storeN H rfl rfl rfl rfl (by repeat' (first | exact Upd.here .. | apply Upd.there)) rfl ?_; intro w H _)))
      exact AtQ.r2 (resVal.cN H rfl (by repeat' (first | exact List.mem_cons_self .. | apply List.mem_cons_of_mem)) rfl) (resVal.t rfl) ⟨zT, rfl, rfl, Own.leaf rfl, H.chg⟩
  · refine absurd (fun x hx => ?_) hv
    obtain ⟨y, hy, rfl⟩ := List.mem_map.1 hx
    obtain ⟨i, hi, rfl⟩ := List.getElem_of_mem hy
    exact hall i hi (by omega)
set_option maxRecDepth 100000 in
set_option maxHeartbeats 4000000 in
theorem impl_ListTerm_CD (ms : List Tm) (m : Tm) (hms : l.map er = ms.map Tm.enc) (hm : er t = m.enc) (hok : ∀ x ∈ ms, x.Ok ∧ x.size ≤ 5000) (hmo : m.Ok ∧ m.size ≤ 5000) : Fn Try.prog 42 [sl a l.length c, tv t] w0 (LtR (decide ((lstT ms m).size ≤ 5000)) (if (lstT ms m).size ≤ 5000 then (lstT ms m).enc else er zT) w0) := by
  have hln := hs.1
  have hml := terms_len hms
  have hvt : TOk (er t) := ⟨m, hmo.1, hm.symm, hmo.2⟩
  have htz : tsz (er t) = m.size := by rw [hm]; exact tsz_enc hmo.1 hmo.2
  have htlz : ∀ k (h : k < l.length) (h2 : k < ms.length), tsz (er l[k]) = ms[k].size := fun k h h2 => by rw [er_at hms k h h2]; exact tsz_enc (hok _ (List.getElem_mem h2)).1 (hok _ (List.getElem_mem h2)).2
  have hsz : (lstT ms m).size = szl ms + m.size := lstT_size ms m
  refine Fn.body (N := 55) Try.func42 rfl rfl rfl rfl rfl ?_
  have H : SH w0 noF w0 [] [tA t, tA (nod a c l)] := SH.startL _ _ (by intro A hA; simp only [List.mem_cons, List.not_mem_nil, or_false] at hA; rcases hA with rfl | rfl; exact htl; exact ht)
  repeat' (first
    | (with_reducible refine WC.seq ?_)
    | (with_reducible refine WC.reg ?_)
    | (with_reducible refine WC.block ?_)
    | (with_reducible refine WC.skip ?_)
    | (with_reducible refine WC.ret ?_)
    | (with_reducible refine WC.exit ?_)
    | ((with_reducible refine is_cond ?_); first | refine WC.ctrue rfl ?_ | refine WC.cfalse rfl ?_ | (refine WC.cbool rfl ?_ ?_ <;> intro hcnd))
    | (with_reducible refine WL.nilK ?_)
    | (with_reducible refine WL.nil ?_)
    | (with_reducible refine AtQ.then_norm ?_)
    | (with_reducible refine AtQ.then_ret ?_)
    | (with_reducible refine AtQ.then_exit ?_)
    | (with_reducible refine AtQ.block_ret ?_)
    | (with_reducible refine AtQ.block_norm ?_)
    | (with_reducible refine AtQ.block_here ?_)
    | (with_reducible refine AtQ.loop_ret ?_)
    | (with_reducible refine AtQ.loop_exit ?_)
    | (with_reducible refine AtQ.out_ret ?_)
    | (with_reducible refine AtQ.out_exit ?_)
    | ((with_reducible refine AtQ.block_other ?_ ?_); · exact rfl)
    | ((with_reducible refine is_box ?_); refine WL.boxN H rfl (by decide) ?_; intro b3 w H hb3 _ _)
    | ((with_reducible refine is_move ?_); first | refine WL.y H (Y.move rfl) (by decide) ?_)
    | ((with_reducible refine is_assign ?_); first | refine WL.y H (Y.assign rfl) (by decide) ?_)
    | ((with_reducible refine is_load ?_); first | refine WL.y H (Y.loadX rfl (by repeat' (first | exact List.mem_cons_self .. | apply List.mem_cons_of_mem)) rfl) (by decide) ?_ | refine WL.y H (Y.loadXN rfl (by repeat' (first | exact List.mem_cons_self .. | apply List.mem_cons_of_mem)) rfl rfl) (by decide) ?_)
    | ((with_reducible refine is_idx ?_); first | refine WL.y H (Y.idx rfl rfl (by first | omega | (simp only [List.length_cons, List.length_nil]; done) | (simp only [List.length_cons, List.length_nil]; omega)) (by first | omega | (simp only [List.length_cons, List.length_nil]; done) | (simp only [List.length_cons, List.length_nil]; omega))) (by decide) ?_)
    | ((with_reducible refine is_len ?_); first | refine WL.y H (Y.lenS rfl) (by decide) ?_)
    | ((with_reducible refine is_add ?_); first | refine WL.y H (Y.add rfl rfl (by first | omega | (simp only [List.length_cons, List.length_nil]; done) | (simp only [List.length_cons, List.length_nil]; omega)) (by first | omega | (simp only [List.length_cons, List.length_nil]; done) | (simp only [List.length_cons, List.length_nil]; omega))) (by decide) ?_)
    | ((with_reducible refine is_sub ?_); first | refine WL.y H (Y.sub rfl rfl (by first | omega | (simp only [List.length_cons, List.length_nil]; done) | (simp only [List.length_cons, List.length_nil]; omega)) (by first | omega | (simp only [List.length_cons, List.length_nil]; done) | (simp only [List.length_cons, List.length_nil]; omega))) (by decide) ?_)
    | ((with_reducible refine is_not ?_); first | refine WL.y H (Y.not rfl) (by decide) ?_)
    | ((with_reducible refine is_build ?_); first | refine WL.y H (Y.build rfl rfl) (by decide) ?_)
    | ((with_reducible refine is_min ?_); first | refine WL.y H (Y.min2 rfl rfl) (by decide) ?_)
    | ((with_reducible refine is_lss ?_); first | refine WL.y H ((Y.lss rfl rfl).boolT (by first | omega | (simp only [List.length_cons, List.length_nil]; done) | (simp only [List.length_cons, List.length_nil]; omega))) (by decide) ?_ | refine WL.y H ((Y.lss rfl rfl).boolF (by first | omega | (simp only [List.length_cons, List.length_nil]; done) | (simp only [List.length_cons, List.length_nil]; omega))) (by decide) ?_ | (refine WL.cmp H (Y.lss rfl rfl) (by decide) ?_ ?_ <;> intro hcmp))
    | ((with_reducible refine is_gtr ?_); first | refine WL.y H ((Y.gtr rfl rfl).boolT (by first | omega | (simp only [List.length_cons, List.length_nil]; done) | (simp only [List.length_cons, List.length_nil]; omega))) (by decide) ?_ | refine WL.y H ((Y.gtr rfl rfl).boolF (by first | omega | (simp only [List.length_cons, List.length_nil]; done) | (simp only [List.length_cons, List.length_nil]; omega))) (by decide) ?_ | (refine WL.cmp H (Y.gtr rfl rfl) (by decide) ?_ ?_ <;> intro hcmp))
    | ((with_reducible refine is_geq ?_); first | refine WL.y H ((Y.geq rfl rfl).boolT (by first | omega | (simp only [List.length_cons, List.length_nil]; done) | (simp only [List.length_cons, List.length_nil]; omega))) (by decide) ?_ | refine WL.y H ((Y.geq rfl rfl).boolF (by first | omega | (simp only [List.length_cons, List.length_nil]; done) | (simp only [List.length_cons, List.length_nil]; omega))) (by decide) ?_ | (refine WL.cmp H (Y.geq rfl rfl) (by decide) ?_ ?_ <;> intro hcmp)))
  repeat' (first
    | (with_reducible refine WC.seq ?_)
    | (with_reducible refine WC.reg ?_)
    | (with_reducible refine WC.block ?_)
    | (with_reducible refine WC.skip ?_)
    | (with_reducible refine WC.ret ?_)
    | (with_reducible refine WC.exit ?_)
    | ((with_reducible refine is_cond ?_); first | refine WC.ctrue rfl ?_ | refine WC.cfalse rfl ?_ | (refine WC.cbool rfl ?_ ?_ <;> intro hcnd))
    | (with_reducible refine WL.nilK ?_)
    | (with_reducible refine WL.nil ?_)
    | (with_reducible refine AtQ.then_norm ?_)
    | (with_reducible refine AtQ.then_ret ?_)
    | (with_reducible refine AtQ.then_exit ?_)
    | (with_reducible refine AtQ.block_ret ?_)
    | (with_reducible refine AtQ.block_norm ?_)
    | (with_reducible refine AtQ.block_here ?_)
    | (with_reducible refine AtQ.loop_ret ?_)
    | (with_reducible refine AtQ.loop_exit ?_)
    | (with_reducible refine AtQ.out_ret ?_)
    | (with_reducible refine AtQ.out_exit ?_)
    | ((with_reducible refine AtQ.block_other ?_ ?_); · exact rfl)
    | ((with_reducible refine is_alloc ?_); refine WL.alloc H (by decide) ?_; intro b4 w H hb4 _ _)
    | ((with_reducible refine is_call (f := 63) ?_); refine WL.call (vs := [tv t]) rfl (impl_TermOk_fn t _ (H.ht t (by repeat' (first | exact List.mem_cons_self .. | apply List.mem_cons_of_mem))) hst) (by decide) ?_; intro v w hv2; obtain ⟨e1, hc1⟩ := hv2; rw [decide_eq_true hvt] at e1; subst e1; have H := H.call hc1)
    | ((with_reducible refine is_call (f := 59) ?_); refine WL.call (vs := [tv t]) rfl (impl_TermSize_fn t _ (H.ht t (by repeat' (first | exact List.mem_cons_self .. | apply List.mem_cons_of_mem))) hst) (by decide) ?_; intro v w hv2; obtain ⟨e1, hc1⟩ := hv2; rw [htz] at e1; subst e1; have H := H.call hc1)
    | ((with_reducible refine is_move ?_); first | refine WL.y H (Y.move rfl) (by decide) ?_)
    | ((with_reducible refine is_assign ?_); first | refine WL.y H (Y.assign rfl) (by decide) ?_)
    | ((with_reducible refine is_load ?_); first | refine WL.y H (Y.loadX rfl (by repeat' (first | exact List.mem_cons_self .. | apply List.mem_cons_of_mem)) rfl) (by decide) ?_ | refine WL.y H (Y.loadXN rfl (by repeat' (first | exact List.mem_cons_self .. | apply List.mem_cons_of_mem)) rfl rfl) (by decide) ?_)
    | ((with_reducible refine is_idx ?_); first | refine WL.y H (Y.idx rfl rfl (by first | omega | (simp only [List.length_cons, List.length_nil]; done) | (simp only [List.length_cons, List.length_nil]; omega)) (by first | omega | (simp only [List.length_cons, List.length_nil]; done) | (simp only [List.length_cons, List.length_nil]; omega))) (by decide) ?_)
    | ((with_reducible refine is_len ?_); first | refine WL.y H (Y.lenS rfl) (by decide) ?_)
    | ((with_reducible refine is_add ?_); first | refine WL.y H (Y.add rfl rfl (by first | omega | (simp only [List.length_cons, List.length_nil]; done) | (simp only [List.length_cons, List.length_nil]; omega)) (by first | omega | (simp only [List.length_cons, List.length_nil]; done) | (simp only [List.length_cons, List.length_nil]; omega))) (by decide) ?_)
    | ((with_reducible refine is_sub ?_); first | refine WL.y H (Y.sub rfl rfl (by first | omega | (simp only [List.length_cons, List.length_nil]; done) | (simp only [List.length_cons, List.length_nil]; omega)) (by first | omega | (simp only [List.length_cons, List.length_nil]; done) | (simp only [List.length_cons, List.length_nil]; omega))) (by decide) ?_)
    | ((with_reducible refine is_not ?_); first | refine WL.y H (Y.not rfl) (by decide) ?_)
    | ((with_reducible refine is_build ?_); first | refine WL.y H (Y.build rfl rfl) (by decide) ?_)
    | ((with_reducible refine is_min ?_); first | refine WL.y H (Y.min2 rfl rfl) (by decide) ?_)
    | ((with_reducible refine is_lss ?_); first | refine WL.y H ((Y.lss rfl rfl).boolT (by first | omega | (simp only [List.length_cons, List.length_nil]; done) | (simp only [List.length_cons, List.length_nil]; omega))) (by decide) ?_ | refine WL.y H ((Y.lss rfl rfl).boolF (by first | omega | (simp only [List.length_cons, List.length_nil]; done) | (simp only [List.length_cons, List.length_nil]; omega))) (by decide) ?_ | (refine WL.cmp H (Y.lss rfl rfl) (by decide) ?_ ?_ <;> intro hcmp))
    | ((with_reducible refine is_gtr ?_); first | refine WL.y H ((Y.gtr rfl rfl).boolT (by first | omega | (simp only [List.length_cons, List.length_nil]; done) | (simp only [List.length_cons, List.length_nil]; omega))) (by decide) ?_ | refine WL.y H ((Y.gtr rfl rfl).boolF (by first | omega | (simp only [List.length_cons, List.length_nil]; done) | (simp only [List.length_cons, List.length_nil]; omega))) (by decide) ?_ | (refine WL.cmp H (Y.gtr rfl rfl) (by decide) ?_ ?_ <;> intro hcmp))
    | ((with_reducible refine is_geq ?_); first | refine WL.y H ((Y.geq rfl rfl).boolT (by first | omega | (simp only [List.length_cons, List.length_nil]; done) | (simp only [List.length_cons, List.length_nil]; omega))) (by decide) ?_ | refine WL.y H ((Y.geq rfl rfl).boolF (by first | omega | (simp only [List.length_cons, List.length_nil]; done) | (simp only [List.length_cons, List.length_nil]; omega))) (by decide) ?_ | (refine WL.cmp H (Y.geq rfl rfl) (by decide) ?_ ?_ <;> intro hcmp))
    | ((with_reducible refine is_box ?_); first | (refine WL.boxN H rfl (by decide) ?_; intro _ w H _ _ _) | (refine WL.box1 H rfl rfl (by decide) ?_; intro _ w H _ _ _))
    | ((with_reducible refine is_alloc ?_); refine WL.alloc H (by decide) ?_; intro _ w H _ _ _)
    | ((with_reducible refine is_store ?_); first | (refine WL.store1 H rfl rfl rfl (by repeat' (first | exact Upd.here .. | apply Upd.there)) rfl ?_; intro w H _) | (refine WL.storeN H rfl rfl rfl rfl (by repeat' (first | exact Upd.here .. | apply Upd.there)) rfl ?_; intro w H _)))
  refine WC.loop (σ := Nat) (fun s => [(0, sl a l.length c), (3, .pointer (some ⟨b3, 0, none⟩)), (4, .pointer (some ⟨b4, 0, none⟩)), (5, .bool false), (6, .int .i64 (min ((szl (ms.take s) + m.size : Nat) : Int) 5001)), (18, sl a l.length c), (19, .int .i64 l.length), (20, .int .i64 (s : Nat))])
    (fun s w' => s ≤ l.length ∧ SH w0 noF w' [(b4, .cells zt.toArray 47 (0, 0)), (b3, .cells (tcs t).toArray 47 (0, 0))] [tA t, tA (nod a c l)])
    (fun s => l.length - s) 0 ?_ ⟨Nat.zero_le _, H⟩ (fun k w hinv => ?_)
  · have e : min ((szl (ms.take 0) + m.size : Nat) : Int) 5001 = m.size := by have := hmo.2; simp [szl]; omega
    rw [e]
    exact (by repeat' (first | exact Sub.nil | refine Sub.cons rfl ?_))
  obtain ⟨hk, H⟩ := hinv
  by_cases hlt : k < l.length
  · obtain ⟨tb, tto, cs, T, fz, ha, _, _⟩ := (H.ht (nod a c l) (by repeat' (first | exact List.mem_cons_self .. | apply List.mem_cons_of_mem))).row (by intro e; rw [show (nod a c l).l = l from rfl] at e; rw [e] at hlt; simp at hlt)
    simp only at ha
    subst ha
    have hsk := hs.2 _ (List.getElem_mem hlt)
    have hmk : k < ms.length := by omega
    have hzk := htlz k hlt hmk
    have hzb := (hok _ (List.getElem_mem hmk)).2
    have estep : szl (ms.take (k + 1)) = szl (ms.take k) + 1 + ms[k].size := by
      unfold szl; rw [List.take_succ_eq_append_getElem hmk, List.map_append, List.sum_append, List.length_append]; simp only [List.map_cons, List.map_nil, List.sum_cons, List.sum_nil, List.length_singleton]; omega
    repeat' (first
      | (with_reducible refine WC.seq ?_)
      | (with_reducible refine WC.reg ?_)
      | (with_reducible refine WC.block ?_)
      | (with_reducible refine WC.skip ?_)
      | (with_reducible refine WC.ret ?_)
      | (with_reducible refine WC.exit ?_)
      | ((with_reducible refine is_cond ?_); first | refine WC.ctrue rfl ?_ | refine WC.cfalse rfl ?_ | (refine WC.cbool rfl ?_ ?_ <;> intro hcnd))
      | (with_reducible refine WL.nilK ?_)
      | (with_reducible refine WL.nil ?_)
      | (with_reducible refine AtQ.then_norm ?_)
      | (with_reducible refine AtQ.then_ret ?_)
      | (with_reducible refine AtQ.then_exit ?_)
      | (with_reducible refine AtQ.block_ret ?_)
      | (with_reducible refine AtQ.block_norm ?_)
      | (with_reducible refine AtQ.block_here ?_)
      | (with_reducible refine AtQ.loop_ret ?_)
      | (with_reducible refine AtQ.loop_exit ?_)
      | (with_reducible refine AtQ.out_ret ?_)
      | (with_reducible refine AtQ.out_exit ?_)
      | ((with_reducible refine AtQ.block_other ?_ ?_); · exact rfl)
      | ((with_reducible refine is_call (f := 59) ?_); refine WL.call (vs := [tv l[k]]) rfl (impl_TermSize_fn l[k] _ ((H.ht (nod (some ⟨tb, tto, none⟩) c l) (by repeat' (first | exact List.mem_cons_self .. | apply List.mem_cons_of_mem))).kid _ (List.getElem_mem hlt)) hsk) (by decide) ?_; intro v w hv2; obtain ⟨e1, hc1⟩ := hv2; rw [hzk] at e1; subst e1; have H := H.call hc1)
      | ((with_reducible refine is_move ?_); first | refine WL.y H (Y.move rfl) (by decide) ?_)
      | ((with_reducible refine is_assign ?_); first | refine WL.y H (Y.assign rfl) (by decide) ?_)
      | ((with_reducible refine is_load ?_); first | refine WL.y H (Y.loadX rfl (by repeat' (first | exact List.mem_cons_self .. | apply List.mem_cons_of_mem)) rfl) (by decide) ?_ | refine WL.y H (Y.loadXN rfl (by repeat' (first | exact List.mem_cons_self .. | apply List.mem_cons_of_mem)) rfl rfl) (by decide) ?_ | refine WL.y H (Y.loadSN (vs := tcs l[k]) rfl (by repeat' (first | exact List.mem_cons_self .. | apply List.mem_cons_of_mem)) (tA_readsK (t := nod (some ⟨tb, tto, none⟩) c l) (i := k) l[k] rfl (List.getElem?_eq_getElem hlt)) rfl) (by decide) ?_)
      | ((with_reducible refine is_idx ?_); first | refine WL.y H (Y.idx rfl rfl (by first | omega | (simp only [List.length_cons, List.length_nil]; done) | (simp only [List.length_cons, List.length_nil]; omega)) (by first | omega | (simp only [List.length_cons, List.length_nil]; done) | (simp only [List.length_cons, List.length_nil]; omega))) (by decide) ?_)
      | ((with_reducible refine is_len ?_); first | refine WL.y H (Y.lenS rfl) (by decide) ?_)
      | ((with_reducible refine is_add ?_); first | refine WL.y H (Y.add rfl rfl (by first | omega | (simp only [List.length_cons, List.length_nil]; done) | (simp only [List.length_cons, List.length_nil]; omega)) (by first | omega | (simp only [List.length_cons, List.length_nil]; done) | (simp only [List.length_cons, List.length_nil]; omega))) (by decide) ?_)
      | ((with_reducible refine is_sub ?_); first | refine WL.y H (Y.sub rfl rfl (by first | omega | (simp only [List.length_cons, List.length_nil]; done) | (simp only [List.length_cons, List.length_nil]; omega)) (by first | omega | (simp only [List.length_cons, List.length_nil]; done) | (simp only [List.length_cons, List.length_nil]; omega))) (by decide) ?_)
      | ((with_reducible refine is_not ?_); first | refine WL.y H (Y.not rfl) (by decide) ?_)
      | ((with_reducible refine is_build ?_); first | refine WL.y H (Y.build rfl rfl) (by decide) ?_)
      | ((with_reducible refine is_min ?_); first | refine WL.y H (Y.min2 rfl rfl) (by decide) ?_)
      | ((with_reducible refine is_lss ?_); first | refine WL.y H ((Y.lss rfl rfl).boolT (by first | omega | (simp only [List.length_cons, List.length_nil]; done) | (simp only [List.length_cons, List.length_nil]; omega))) (by decide) ?_ | refine WL.y H ((Y.lss rfl rfl).boolF (by first | omega | (simp only [List.length_cons, List.length_nil]; done) | (simp only [List.length_cons, List.length_nil]; omega))) (by decide) ?_)
      | ((with_reducible refine is_gtr ?_); first | refine WL.y H ((Y.gtr rfl rfl).boolT (by first | omega | (simp only [List.length_cons, List.length_nil]; done) | (simp only [List.length_cons, List.length_nil]; omega))) (by decide) ?_ | refine WL.y H ((Y.gtr rfl rfl).boolF (by first | omega | (simp only [List.length_cons, List.length_nil]; done) | (simp only [List.length_cons, List.length_nil]; omega))) (by decide) ?_)
      | ((with_reducible refine is_geq ?_); first | refine WL.y H ((Y.geq rfl rfl).boolT (by first | omega | (simp only [List.length_cons, List.length_nil]; done) | (simp only [List.length_cons, List.length_nil]; omega))) (by decide) ?_ | refine WL.y H ((Y.geq rfl rfl).boolF (by first | omega | (simp only [List.length_cons, List.length_nil]; done) | (simp only [List.length_cons, List.length_nil]; omega))) (by decide) ?_)
      | ((with_reducible refine is_box ?_); first | (refine WL.boxN H rfl (by decide) ?_; intro _ w H _ _ _) | (refine WL.box1 H rfl rfl (by decide) ?_; intro _ w H _ _ _))
      | ((with_reducible refine is_alloc ?_); refine WL.alloc H (by decide) ?_; intro _ w H _ _ _)
      | ((with_reducible refine is_store ?_); first | (refine WL.store1 H rfl rfl rfl (by repeat' (first | exact Upd.here .. | apply Upd.there)) rfl ?_; intro w H _) | (refine WL.storeN H rfl rfl rfl rfl (by repeat' (first | exact Upd.here .. | apply Upd.there)) rfl ?_; intro w H _)))
    refine AtQ.loop_norm (k + 1) ?_ ⟨hlt, H.dropX (.cons _ (.refl _))⟩ (by omega)
    have e : min ((szl (ms.take (k + 1)) + m.size : Nat) : Int) 5001 = if 5001 < min ((szl (ms.take k) + m.size : Nat) : Int) 5001 + 1 + (ms[k].size : Int) then 5001 else min ((szl (ms.take k) + m.size : Nat) : Int) 5001 + 1 + (ms[k].size : Int) := by
      rw [estep]; split <;> omega
    rw [e]
    exact (by repeat' (first | exact Sub.nil | refine Sub.cons rfl ?_))
  · obtain rfl : k = l.length := by omega
    have et : ms.take l.length = ms := List.take_of_length_le (by omega)
    rw [et, ← hsz]
    by_cases hz : (lstT ms m).size ≤ 5000
    · have e : min (((lstT ms m).size : Nat) : Int) 5001 = (lstT ms m).size := by omega
      rw [e, if_pos hz, decide_eq_true hz]
      repeat' (first
        | (with_reducible refine WC.seq ?_)
        | (with_reducible refine WC.reg ?_)
        | (with_reducible refine WC.block ?_)
        | (with_reducible refine WC.skip ?_)
        | (with_reducible refine WC.ret ?_)
        | (with_reducible refine WC.exit ?_)
        | ((with_reducible refine is_cond ?_); first | refine WC.ctrue rfl ?_ | refine WC.cfalse rfl ?_ | (refine WC.cbool rfl ?_ ?_ <;> intro hcnd))
        | (with_reducible refine WL.nilK ?_)
        | (with_reducible refine WL.nil ?_)
        | (with_reducible refine AtQ.then_norm ?_)
        | (with_reducible refine AtQ.then_ret ?_)
        | (with_reducible refine AtQ.then_exit ?_)
        | (with_reducible refine AtQ.block_ret ?_)
        | (with_reducible refine AtQ.block_norm ?_)
        | (with_reducible refine AtQ.block_here ?_)
        | (with_reducible refine AtQ.loop_ret ?_)
        | (with_reducible refine AtQ.loop_exit ?_)
        | (with_reducible refine AtQ.out_ret ?_)
        | (with_reducible refine AtQ.out_exit ?_)
        | ((with_reducible refine AtQ.block_other ?_ ?_); · exact rfl)
        | ((with_reducible refine is_call (f := 84) ?_); have hcs := H.chg.size; refine WL.call (vs := [tv t]) rfl (impl_copyTerm_ok m t _ hm (H.ht t (by repeat' (first | exact List.mem_cons_self .. | apply List.mem_cons_of_mem)))) (by decide) ?_; intro v w hv2; obtain ⟨t0, e1, het0, ho0, hc1⟩ := hv2; subst e1; have H := H.made hc1 (oA _ t0) ho0 ho0.new)
        | ((with_reducible refine is_alloc ?_); refine WL.alloc H (by decide) ?_; intro b10 w H hb10 _ _)
        | ((with_reducible refine is_move ?_); first | refine WL.y H (Y.move rfl) (by decide) ?_)
        | ((with_reducible refine is_assign ?_); first | refine WL.y H (Y.assign rfl) (by decide) ?_)
        | ((with_reducible refine is_load ?_); first | refine WL.y H (Y.loadX rfl (by repeat' (first | exact List.mem_cons_self .. | apply List.mem_cons_of_mem)) rfl) (by decide) ?_ | refine WL.y H (Y.loadXN rfl (by repeat' (first | exact List.mem_cons_self .. | apply List.mem_cons_of_mem)) rfl rfl) (by decide) ?_)
        | ((with_reducible refine is_idx ?_); first | refine WL.y H (Y.idx rfl rfl (by first | omega | (simp only [List.length_cons, List.length_nil]; done) | (simp only [List.length_cons, List.length_nil]; omega)) (by first | omega | (simp only [List.length_cons, List.length_nil]; done) | (simp only [List.length_cons, List.length_nil]; omega))) (by decide) ?_)
        | ((with_reducible refine is_len ?_); first | refine WL.y H (Y.lenS rfl) (by decide) ?_)
        | ((with_reducible refine is_add ?_); first | refine WL.y H (Y.add rfl rfl (by first | omega | (simp only [List.length_cons, List.length_nil]; done) | (simp only [List.length_cons, List.length_nil]; omega)) (by first | omega | (simp only [List.length_cons, List.length_nil]; done) | (simp only [List.length_cons, List.length_nil]; omega))) (by decide) ?_)
        | ((with_reducible refine is_sub ?_); first | refine WL.y H (Y.sub rfl rfl (by first | omega | (simp only [List.length_cons, List.length_nil]; done) | (simp only [List.length_cons, List.length_nil]; omega)) (by first | omega | (simp only [List.length_cons, List.length_nil]; done) | (simp only [List.length_cons, List.length_nil]; omega))) (by decide) ?_)
        | ((with_reducible refine is_not ?_); first | refine WL.y H (Y.not rfl) (by decide) ?_)
        | ((with_reducible refine is_build ?_); first | refine WL.y H (Y.build rfl rfl) (by decide) ?_)
        | ((with_reducible refine is_min ?_); first | refine WL.y H (Y.min2 rfl rfl) (by decide) ?_)
        | ((with_reducible refine is_lss ?_); first | refine WL.y H ((Y.lss rfl rfl).boolT (by first | omega | (simp only [List.length_cons, List.length_nil]; done) | (simp only [List.length_cons, List.length_nil]; omega))) (by decide) ?_ | refine WL.y H ((Y.lss rfl rfl).boolF (by first | omega | (simp only [List.length_cons, List.length_nil]; done) | (simp only [List.length_cons, List.length_nil]; omega))) (by decide) ?_ | (refine WL.cmp H (Y.lss rfl rfl) (by decide) ?_ ?_ <;> intro hcmp))
        | ((with_reducible refine is_gtr ?_); first | refine WL.y H ((Y.gtr rfl rfl).boolT (by first | omega | (simp only [List.length_cons, List.length_nil]; done) | (simp only [List.length_cons, List.length_nil]; omega))) (by decide) ?_ | refine WL.y H ((Y.gtr rfl rfl).boolF (by first | omega | (simp only [List.length_cons, List.length_nil]; done) | (simp only [List.length_cons, List.length_nil]; omega))) (by decide) ?_ | (refine WL.cmp H (Y.gtr rfl rfl) (by decide) ?_ ?_ <;> intro hcmp))
        | ((with_reducible refine is_geq ?_); first | refine WL.y H ((Y.geq rfl rfl).boolT (by first | omega | (simp only [List.length_cons, List.length_nil]; done) | (simp only [List.length_cons, List.length_nil]; omega))) (by decide) ?_ | refine WL.y H ((Y.geq rfl rfl).boolF (by first | omega | (simp only [List.length_cons, List.length_nil]; done) | (simp only [List.length_cons, List.length_nil]; omega))) (by decide) ?_ | (refine WL.cmp H (Y.geq rfl rfl) (by decide) ?_ ?_ <;> intro hcmp))
        | ((with_reducible refine is_box ?_); first | (refine WL.boxN H rfl (by decide) ?_; intro _ w H _ _ _) | (refine WL.box1 H rfl rfl (by decide) ?_; intro _ w H _ _ _))
        | ((with_reducible refine is_alloc ?_); refine WL.alloc H (by decide) ?_; intro _ w H _ _ _)
        | ((with_reducible refine is_store ?_); first | (refine WL.store1 H rfl rfl rfl (by repeat' (first | exact Upd.here .. | apply Upd.there)) rfl ?_; intro w H _) | (refine WL.storeN H rfl rfl rfl rfl (by repeat' (first | exact Upd.here .. | apply Upd.there)) rfl ?_; intro w H _)))
      have hcs2 := H.chg.size
      refine WC.loop (σ := Nat × LT) (fun s => [(0, sl a l.length c), (4, .pointer (some ⟨b4, 0, none⟩)), (10, .pointer (some ⟨b10, 0, none⟩)), (11, .int .i64 ((s.1 : Int) - 1))])
        (fun s w' => s.1 ≤ l.length ∧ er s.2 = lstI ((l.drop s.1).map er) (er t) ∧ SH w0 noF w' [(b10, .cells (tcs s.2).toArray 47 (0, 0)), (b4, .cells zt.toArray 47 (0, 0))] [oA w0.heap.size s.2, tA (nod a c l)])
        (fun s => s.1) (l.length, t0) (by repeat' (first | exact Sub.nil | refine Sub.cons rfl ?_)) ⟨Nat.le_refl _, (by simp only; rw [List.drop_length, het0, hm]; rfl), ?_⟩ (fun s w hinv => ?_)
      · have H := (H.dropX (X' := [(b10, .cells (tcs t0).toArray 47 (0, 0)), (b4, .cells zt.toArray 47 (0, 0))]) (.cons_cons _ (.cons_cons _ (List.nil_sublist _))))
        have hsp := H.sep (oA _ t0) (by repeat' (first | exact List.mem_cons_self .. | apply List.mem_cons_of_mem))
        exact (H.add (oA w0.heap.size t0) ((H.own _ t0 (by repeat' (first | exact List.mem_cons_self .. | apply List.mem_cons_of_mem))).mono hcs) (fun p hp hf => hsp p hp hf)).dropI (by repeat' (first | exact Incl.nil _ | refine Incl.cons (by repeat' (first | exact List.mem_cons_self .. | apply List.mem_cons_of_mem)) ?_))
      obtain ⟨j, cur⟩ := s
      obtain ⟨hj, hecur, H⟩ := hinv
      simp only at hj hecur H ⊢
      have hcs3 := H.chg.size
      cases j with
      | zero =>
        repeat' (first
          | (with_reducible refine WC.seq ?_)
          | (with_reducible refine WC.reg ?_)
          | (with_reducible refine WC.block ?_)
          | (with_reducible refine WC.skip ?_)
          | (with_reducible refine WC.ret ?_)
          | (with_reducible refine WC.exit ?_)
          | ((with_reducible refine is_cond ?_); first | refine WC.ctrue rfl ?_ | refine WC.cfalse rfl ?_ | (refine WC.cbool rfl ?_ ?_ <;> intro hcnd))
          | (with_reducible refine WL.nilK ?_)
          | (with_reducible refine WL.nil ?_)
          | (with_reducible refine AtQ.then_norm ?_)
          | (with_reducible refine AtQ.then_ret ?_)
          | (with_reducible refine AtQ.then_exit ?_)
          | (with_reducible refine AtQ.block_ret ?_)
          | (with_reducible refine AtQ.block_norm ?_)
          | (with_reducible refine AtQ.block_here ?_)
          | (with_reducible refine AtQ.loop_ret ?_)
          | (with_reducible refine AtQ.loop_exit ?_)
          | (with_reducible refine AtQ.out_ret ?_)
          | (with_reducible refine AtQ.out_exit ?_)
          | ((with_reducible refine AtQ.block_other ?_ ?_); · exact rfl)
          | ((with_reducible refine is_move ?_); first | refine WL.y H (Y.move rfl) (by decide) ?_)
          | ((with_reducible refine is_assign ?_); first | refine WL.y H (Y.assign rfl) (by decide) ?_)
          | ((with_reducible refine is_load ?_); first | refine WL.y H (Y.loadX rfl (by repeat' (first | exact List.mem_cons_self .. | apply List.mem_cons_of_mem)) rfl) (by decide) ?_ | refine WL.y H (Y.loadXN rfl (by repeat' (first | exact List.mem_cons_self .. | apply List.mem_cons_of_mem)) rfl rfl) (by decide) ?_)
          | ((with_reducible refine is_idx ?_); first | refine WL.y H (Y.idx rfl rfl (by first | omega | (simp only [List.length_cons, List.length_nil]; done) | (simp only [List.length_cons, List.length_nil]; omega)) (by first | omega | (simp only [List.length_cons, List.length_nil]; done) | (simp only [List.length_cons, List.length_nil]; omega))) (by decide) ?_)
          | ((with_reducible refine is_len ?_); first | refine WL.y H (Y.lenS rfl) (by decide) ?_)
          | ((with_reducible refine is_add ?_); first | refine WL.y H (Y.add rfl rfl (by first | omega | (simp only [List.length_cons, List.length_nil]; done) | (simp only [List.length_cons, List.length_nil]; omega)) (by first | omega | (simp only [List.length_cons, List.length_nil]; done) | (simp only [List.length_cons, List.length_nil]; omega))) (by decide) ?_)
          | ((with_reducible refine is_sub ?_); first | refine WL.y H (Y.sub rfl rfl (by first | omega | (simp only [List.length_cons, List.length_nil]; done) | (simp only [List.length_cons, List.length_nil]; omega)) (by first | omega | (simp only [List.length_cons, List.length_nil]; done) | (simp only [List.length_cons, List.length_nil]; omega))) (by decide) ?_)
          | ((with_reducible refine is_not ?_); first | refine WL.y H (Y.not rfl) (by decide) ?_)
          | ((with_reducible refine is_build ?_); first | refine WL.y H (Y.build rfl rfl) (by decide) ?_)
          | ((with_reducible refine is_min ?_); first | refine WL.y H (Y.min2 rfl rfl) (by decide) ?_)
          | ((with_reducible refine is_lss ?_); first | refine WL.y H ((Y.lss rfl rfl).boolT (by first | omega | (simp only [List.length_cons, List.length_nil]; done) | (simp only [List.length_cons, List.length_nil]; omega))) (by decide) ?_ | refine WL.y H ((Y.lss rfl rfl).boolF (by first | omega | (simp only [List.length_cons, List.length_nil]; done) | (simp only [List.length_cons, List.length_nil]; omega))) (by decide) ?_ | (refine WL.cmp H (Y.lss rfl rfl) (by decide) ?_ ?_ <;> intro hcmp))
          | ((with_reducible refine is_gtr ?_); first | refine WL.y H ((Y.gtr rfl rfl).boolT (by first | omega | (simp only [List.length_cons, List.length_nil]; done) | (simp only [List.length_cons, List.length_nil]; omega))) (by decide) ?_ | refine WL.y H ((Y.gtr rfl rfl).boolF (by first | omega | (simp only [List.length_cons, List.length_nil]; done) | (simp only [List.length_cons, List.length_nil]; omega))) (by decide) ?_ | (refine WL.cmp H (Y.gtr rfl rfl) (by decide) ?_ ?_ <;> intro hcmp))
          | ((with_reducible refine is_geq ?_); first | refine WL.y H ((Y.geq rfl rfl).boolT (by first | omega | (simp only [List.length_cons, List.length_nil]; done) | (simp only [List.length_cons, List.length_nil]; omega))) (by decide) ?_ | refine WL.y H ((Y.geq rfl rfl).boolF (by first | omega | (simp only [List.length_cons, List.length_nil]; done) | (simp only [List.length_cons, List.length_nil]; omega))) (by decide) ?_ | (refine WL.cmp H (Y.geq rfl rfl) (by decide) ?_ ?_ <;> intro hcmp))
          | ((with_reducible refine is_box ?_); first | (refine WL.boxN H rfl (by decide) ?_; intro _ w H _ _ _) | (refine WL.box1 H rfl rfl (by decide) ?_; intro _ w H _ _ _))
          | ((with_reducible refine is_alloc ?_); refine WL.alloc H (by decide) ?_; intro _ w H _ _ _)
          | ((with_reducible refine is_store ?_); first | (refine WL.store1 H rfl rfl rfl (by repeat' (first | exact Upd.here .. | apply Upd.there)) rfl ?_; intro w H _) | (refine WL.storeN H rfl rfl rfl rfl (by repeat' (first | exact Upd.here .. | apply Upd.there)) rfl ?_; intro w H _)))
        refine AtQ.r2 (resVal.cN H rfl (by repeat' (first | exact List.mem_cons_self .. | apply List.mem_cons_of_mem)) rfl) (resVal.t rfl) ⟨cur, rfl, ?_, H.own _ cur (by repeat' (first | exact List.mem_cons_self .. | apply List.mem_cons_of_mem)), H.chg⟩
        rw [hecur, List.drop_zero, hms, hm, lstT_enc]
      | succ j =>
        have hlt : j < l.length := by omega
        have hmj : j < ms.length := by omega
        obtain ⟨tb, tto, cs, T, fz, ha, _, _⟩ := (H.ht (nod a c l) (by repeat' (first | exact List.mem_cons_self .. | apply List.mem_cons_of_mem))).row (by intro e; rw [show (nod a c l).l = l from rfl] at e; rw [e] at hlt; simp at hlt)
        simp only at ha
        subst ha
        have ek : ((j + 1 : Nat) : Int) - 1 = (j : Nat) := by omega
        rw [ek]
        repeat' (first
          | (with_reducible refine WC.seq ?_)
          | (with_reducible refine WC.reg ?_)
          | (with_reducible refine WC.block ?_)
          | (with_reducible refine WC.skip ?_)
          | (with_reducible refine WC.ret ?_)
          | (with_reducible refine WC.exit ?_)
          | ((with_reducible refine is_cond ?_); first | refine WC.ctrue rfl ?_ | refine WC.cfalse rfl ?_ | (refine WC.cbool rfl ?_ ?_ <;> intro hcnd))
          | (with_reducible refine WL.nilK ?_)
          | (with_reducible refine WL.nil ?_)
          | (with_reducible refine AtQ.then_norm ?_)
          | (with_reducible refine AtQ.then_ret ?_)
          | (with_reducible refine AtQ.then_exit ?_)
          | (with_reducible refine AtQ.block_ret ?_)
          | (with_reducible refine AtQ.block_norm ?_)
          | (with_reducible refine AtQ.block_here ?_)
          | (with_reducible refine AtQ.loop_ret ?_)
          | (with_reducible refine AtQ.loop_exit ?_)
          | (with_reducible refine AtQ.out_ret ?_)
          | (with_reducible refine AtQ.out_exit ?_)
          | ((with_reducible refine AtQ.block_other ?_ ?_); · exact rfl)
          | ((with_reducible refine is_move ?_); first | refine WL.y H (Y.move rfl) (by decide) ?_)
          | ((with_reducible refine is_assign ?_); first | refine WL.y H (Y.assign rfl) (by decide) ?_)
          | ((with_reducible refine is_load ?_); first | refine WL.y H (Y.loadX rfl (by repeat' (first | exact List.mem_cons_self .. | apply List.mem_cons_of_mem)) rfl) (by decide) ?_ | refine WL.y H (Y.loadXN rfl (by repeat' (first | exact List.mem_cons_self .. | apply List.mem_cons_of_mem)) rfl rfl) (by decide) ?_)
          | ((with_reducible refine is_idx ?_); first | refine WL.y H (Y.idx rfl rfl (by first | omega | (simp only [List.length_cons, List.length_nil]; done) | (simp only [List.length_cons, List.length_nil]; omega)) (by first | omega | (simp only [List.length_cons, List.length_nil]; done) | (simp only [List.length_cons, List.length_nil]; omega))) (by decide) ?_)
          | ((with_reducible refine is_len ?_); first | refine WL.y H (Y.lenS rfl) (by decide) ?_)
          | ((with_reducible refine is_add ?_); first | refine WL.y H (Y.add rfl rfl (by first | omega | (simp only [List.length_cons, List.length_nil]; done) | (simp only [List.length_cons, List.length_nil]; omega)) (by first | omega | (simp only [List.length_cons, List.length_nil]; done) | (simp only [List.length_cons, List.length_nil]; omega))) (by decide) ?_)
          | ((with_reducible refine is_sub ?_); first | refine WL.y H (Y.sub rfl rfl (by first | omega | (simp only [List.length_cons, List.length_nil]; done) | (simp only [List.length_cons, List.length_nil]; omega)) (by first | omega | (simp only [List.length_cons, List.length_nil]; done) | (simp only [List.length_cons, List.length_nil]; omega))) (by decide) ?_)
          | ((with_reducible refine is_not ?_); first | refine WL.y H (Y.not rfl) (by decide) ?_)
          | ((with_reducible refine is_build ?_); first | refine WL.y H (Y.build rfl rfl) (by decide) ?_)
          | ((with_reducible refine is_min ?_); first | refine WL.y H (Y.min2 rfl rfl) (by decide) ?_)
          | ((with_reducible refine is_lss ?_); first | refine WL.y H ((Y.lss rfl rfl).boolT (by first | omega | (simp only [List.length_cons, List.length_nil]; done) | (simp only [List.length_cons, List.length_nil]; omega))) (by decide) ?_ | refine WL.y H ((Y.lss rfl rfl).boolF (by first | omega | (simp only [List.length_cons, List.length_nil]; done) | (simp only [List.length_cons, List.length_nil]; omega))) (by decide) ?_ | (refine WL.cmp H (Y.lss rfl rfl) (by decide) ?_ ?_ <;> intro hcmp))
          | ((with_reducible refine is_gtr ?_); first | refine WL.y H ((Y.gtr rfl rfl).boolT (by first | omega | (simp only [List.length_cons, List.length_nil]; done) | (simp only [List.length_cons, List.length_nil]; omega))) (by decide) ?_ | refine WL.y H ((Y.gtr rfl rfl).boolF (by first | omega | (simp only [List.length_cons, List.length_nil]; done) | (simp only [List.length_cons, List.length_nil]; omega))) (by decide) ?_ | (refine WL.cmp H (Y.gtr rfl rfl) (by decide) ?_ ?_ <;> intro hcmp))
          | ((with_reducible refine is_geq ?_); first | refine WL.y H ((Y.geq rfl rfl).boolT (by first | omega | (simp only [List.length_cons, List.length_nil]; done) | (simp only [List.length_cons, List.length_nil]; omega))) (by decide) ?_ | refine WL.y H ((Y.geq rfl rfl).boolF (by first | omega | (simp only [List.length_cons, List.length_nil]; done) | (simp only [List.length_cons, List.length_nil]; omega))) (by decide) ?_ | (refine WL.cmp H (Y.geq rfl rfl) (by decide) ?_ ?_ <;> intro hcmp))
          | ((with_reducible refine is_box ?_); first | (refine WL.boxN H rfl (by decide) ?_; intro _ w H _ _ _) | (refine WL.box1 H rfl rfl (by decide) ?_; intro _ w H _ _ _))
          | ((with_reducible refine is_alloc ?_); refine WL.alloc H (by decide) ?_; intro _ w H _ _ _)
          | ((with_reducible refine is_store ?_); first | (refine WL.store1 H rfl rfl rfl (by repeat' (first | exact Upd.here .. | apply Upd.there)) rfl ?_; intro w H _) | (refine WL.storeN H rfl rfl rfl rfl (by repeat' (first | exact Upd.here .. | apply Upd.there)) rfl ?_; intro w H _)))
        refine WC.draw2 [7] mixed H (.keep (.keep (.nil))) (.keep (.keep (.nil))) ?_
        intro w H _
        first
          | refine WT.take 0 (by kernel_rfl) (fun _ _ _ h => h) (H.mi (by repeat' (first | exact Incl.nil _ | refine Incl.cons (by repeat' (first | exact List.mem_cons_self .. | apply List.mem_cons_of_mem)) ?_)) (by repeat' (first | exact Incl.nil _ | refine Incl.cons (by repeat' (first | exact List.mem_cons_self .. | apply List.mem_cons_of_mem)) ?_))) (Nth.get (by repeat' (first | exact Nth.zero .. | apply Nth.succ))) rfl (by decide) (Wd.none rfl) rfl (Y.move rfl) (by kernel_rfl) ?_
        first
          | refine WT.take 1 (by kernel_rfl) (fun _ _ _ h => h) (H.mi (by repeat' (first | exact Incl.nil _ | refine Incl.cons (by repeat' (first | exact List.mem_cons_self .. | apply List.mem_cons_of_mem)) ?_)) (by repeat' (first | exact Incl.nil _ | refine Incl.cons (by repeat' (first | exact List.mem_cons_self .. | apply List.mem_cons_of_mem)) ?_))) (Nth.get (by repeat' (first | exact Nth.zero .. | apply Nth.succ))) rfl (by decide) (Wd.none rfl) rfl (Y.move rfl) (by kernel_rfl) ?_
        first
          | refine WT.take 2 (by kernel_rfl) (fun _ _ _ h => h) (H.mi (by repeat' (first | exact Incl.nil _ | refine Incl.cons (by repeat' (first | exact List.mem_cons_self .. | apply List.mem_cons_of_mem)) ?_)) (by repeat' (first | exact Incl.nil _ | refine Incl.cons (by repeat' (first | exact List.mem_cons_self .. | apply List.mem_cons_of_mem)) ?_))) (Nth.get (by repeat' (first | exact Nth.zero .. | apply Nth.succ))) rfl (by decide) (Wd.none rfl) rfl (Y.idx rfl rfl (by first | omega | (simp only [List.length_cons, List.length_nil]; done) | (simp only [List.length_cons, List.length_nil]; omega)) (by first | omega | (simp only [List.length_cons, List.length_nil]; done) | (simp only [List.length_cons, List.length_nil]; omega))) (by kernel_rfl) ?_
        first
          | refine WT.take 3 (by kernel_rfl) (fun _ _ _ h => h) (H.mi (by repeat' (first | exact Incl.nil _ | refine Incl.cons (by repeat' (first | exact List.mem_cons_self .. | apply List.mem_cons_of_mem)) ?_)) (by repeat' (first | exact Incl.nil _ | refine Incl.cons (by repeat' (first | exact List.mem_cons_self .. | apply List.mem_cons_of_mem)) ?_))) (Nth.get (by repeat' (first | exact Nth.zero .. | apply Nth.succ))) rfl (by decide) (Wd.none rfl) rfl (Y.loadSN (vs := tcs l[j]) rfl (by repeat' (first | exact List.mem_cons_self .. | apply List.mem_cons_of_mem)) (tA_readsK (t := nod (some ⟨tb, tto, none⟩) c l) (i := j) l[j] rfl (List.getElem?_eq_getElem hlt)) rfl) (by kernel_rfl) ?_
          | refine WT.take 3 (by kernel_rfl) (fun _ _ _ h => h) (H.mi (by repeat' (first | exact Incl.nil _ | refine Incl.cons (by repeat' (first | exact List.mem_cons_self .. | apply List.mem_cons_of_mem)) ?_)) (by repeat' (first | exact Incl.nil _ | refine Incl.cons (by repeat' (first | exact List.mem_cons_self .. | apply List.mem_cons_of_mem)) ?_))) (Nth.get (by repeat' (first | exact Nth.zero .. | apply Nth.succ))) rfl (by decide) (Wd.none rfl) rfl (Y.loadXN rfl (by repeat' (first | exact List.mem_cons_self .. | apply List.mem_cons_of_mem)) rfl rfl) (by kernel_rfl) ?_
        first
          | refine WT.take 5 (by kernel_rfl) (fun _ _ _ h => h) (H.mi (by repeat' (first | exact Incl.nil _ | refine Incl.cons (by repeat' (first | exact List.mem_cons_self .. | apply List.mem_cons_of_mem)) ?_)) (by repeat' (first | exact Incl.nil _ | refine Incl.cons (by repeat' (first | exact List.mem_cons_self .. | apply List.mem_cons_of_mem)) ?_))) (Nth.get (by repeat' (first | exact Nth.zero .. | apply Nth.succ))) rfl (by decide) (Wd.none rfl) rfl (Y.loadSN (vs := tcs l[j]) rfl (by repeat' (first | exact List.mem_cons_self .. | apply List.mem_cons_of_mem)) (tA_readsK (t := nod (some ⟨tb, tto, none⟩) c l) (i := j) l[j] rfl (List.getElem?_eq_getElem hlt)) rfl) (by kernel_rfl) ?_
          | refine WT.take 5 (by kernel_rfl) (fun _ _ _ h => h) (H.mi (by repeat' (first | exact Incl.nil _ | refine Incl.cons (by repeat' (first | exact List.mem_cons_self .. | apply List.mem_cons_of_mem)) ?_)) (by repeat' (first | exact Incl.nil _ | refine Incl.cons (by repeat' (first | exact List.mem_cons_self .. | apply List.mem_cons_of_mem)) ?_))) (Nth.get (by repeat' (first | exact Nth.zero .. | apply Nth.succ))) rfl (by decide) (Wd.none rfl) rfl (Y.loadXN rfl (by repeat' (first | exact List.mem_cons_self .. | apply List.mem_cons_of_mem)) rfl rfl) (by kernel_rfl) ?_
        refine WT.run 4 (Nth.get (by repeat' (first | exact Nth.zero .. | apply Nth.succ))) (by kernel_rfl) ?_
        repeat' (first
          | ((with_reducible refine is_call (f := 84) ?_); have hclt := (H.own _ cur (by repeat' (first | exact List.mem_cons_self .. | apply List.mem_cons_of_mem))).ht.lt; have hcs4 := H.chg.size; refine WL.call (vs := [tv l[j]]) rfl (impl_copyTerm_ok ms[j] l[j] _ (er_at hms j hlt hmj) ((H.ht (nod (some ⟨tb, tto, none⟩) c l) (by repeat' (first | exact List.mem_cons_self .. | apply List.mem_cons_of_mem))).kid _ (List.getElem_mem hlt))) (by decide) ?_; intro v w hv; obtain ⟨t1, e1, he1, ho1, hc1⟩ := hv; subst e1; have hlo1 := ho1.new; have H := H.made hc1 (oA _ t1) ho1 hlo1; have hcs5 := H.chg.size))
        with_reducible refine WL.nilK ?_
        refine ⟨H.mi (by repeat' (first | exact Incl.nil _ | refine Incl.cons (by repeat' (first | exact List.mem_cons_self .. | apply List.mem_cons_of_mem)) ?_)) (by repeat' (first | exact Incl.nil _ | refine Incl.cons (by repeat' (first | exact List.mem_cons_self .. | apply List.mem_cons_of_mem)) ?_)), ?_⟩
        refine WT.run 6 (Nth.get (by repeat' (first | exact Nth.zero .. | apply Nth.succ))) (by kernel_rfl) ?_
        repeat' (first
          | ((with_reducible refine is_call (f := 87) ?_); refine WL.call (vs := [tv t1, tv cur]) rfl (impl_pair_ok t1 cur _) (by decide) ?_; intro v w hv; obtain ⟨bp, e1, hbp, hbge, hc1⟩ := hv; subst e1; have H := H.pairO (B := w0.heap.size) (x := t1) (y := cur) hc1 hbp hbge (by repeat' (first | exact List.mem_cons_self .. | apply List.mem_cons_of_mem)) (by repeat' (first | exact List.mem_cons_self .. | apply List.mem_cons_of_mem)) (by omega) (Nat.le_refl _) (by omega) (fun z h1 h2 => by have := hlo1 z h1; have := hclt z h2; omega)))
        with_reducible refine WL.nilK ?_
        refine ⟨H.mi (by repeat' (first | exact Incl.nil _ | refine Incl.cons (by repeat' (first | exact List.mem_cons_self .. | apply List.mem_cons_of_mem)) ?_)) (by repeat' (first | exact Incl.nil _ | refine Incl.cons (by repeat' (first | exact List.mem_cons_self .. | apply List.mem_cons_of_mem)) ?_)), ?_⟩
        refine WT.last 7 (Nth.get (by repeat' (first | exact Nth.zero .. | apply Nth.succ))) (by kernel_rfl) ?_
        repeat' (first
          | ((with_reducible refine is_store ?_); first | (refine WL.store1 H rfl rfl rfl (by repeat' (first | exact Upd.here .. | apply Upd.there)) rfl ?_; intro w H _) | (refine WL.storeN H rfl rfl rfl rfl (by repeat' (first | exact Upd.here .. | apply Upd.there)) rfl ?_; intro w H _)))
        with_reducible refine WL.nilK ?_
        skip
        refine WT.done (by kernel_rfl) ?_
        repeat' (first
          | (with_reducible refine WC.seq ?_)
          | (with_reducible refine WC.reg ?_)
          | (with_reducible refine WC.block ?_)
          | (with_reducible refine WC.skip ?_)
          | (with_reducible refine WC.ret ?_)
          | (with_reducible refine WC.exit ?_)
          | ((with_reducible refine is_cond ?_); first | refine WC.ctrue rfl ?_ | refine WC.cfalse rfl ?_ | (refine WC.cbool rfl ?_ ?_ <;> intro hcnd))
          | (with_reducible refine WL.nilK ?_)
          | (with_reducible refine WL.nil ?_)
          | (with_reducible refine AtQ.then_norm ?_)
          | (with_reducible refine AtQ.then_ret ?_)
          | (with_reducible refine AtQ.then_exit ?_)
          | (with_reducible refine AtQ.block_ret ?_)
          | (with_reducible refine AtQ.block_norm ?_)
          | (with_reducible refine AtQ.block_here ?_)
          | (with_reducible refine AtQ.loop_ret ?_)
          | (with_reducible refine AtQ.loop_exit ?_)
          | (with_reducible refine AtQ.out_ret ?_)
          | (with_reducible refine AtQ.out_exit ?_)
          | ((with_reducible refine AtQ.block_other ?_ ?_); · exact rfl)
          | ((with_reducible refine is_move ?_); first | refine WL.y H (Y.move rfl) (by decide) ?_)
          | ((with_reducible refine is_assign ?_); first | refine WL.y H (Y.assign rfl) (by decide) ?_)
          | ((with_reducible refine is_load ?_); first | refine WL.y H (Y.loadX rfl (by repeat' (first | exact List.mem_cons_self .. | apply List.mem_cons_of_mem)) rfl) (by decide) ?_ | refine WL.y H (Y.loadXN rfl (by repeat' (first | exact List.mem_cons_self .. | apply List.mem_cons_of_mem)) rfl rfl) (by decide) ?_)
          | ((with_reducible refine is_idx ?_); first | refine WL.y H (Y.idx rfl rfl (by first | omega | (simp only [List.length_cons, List.length_nil]; done) | (simp only [List.length_cons, List.length_nil]; omega)) (by first | omega | (simp only [List.length_cons, List.length_nil]; done) | (simp only [List.length_cons, List.length_nil]; omega))) (by decide) ?_)
          | ((with_reducible refine is_len ?_); first | refine WL.y H (Y.lenS rfl) (by decide) ?_)
          | ((with_reducible refine is_add ?_); first | refine WL.y H (Y.add rfl rfl (by first | omega | (simp only [List.length_cons, List.length_nil]; done) | (simp only [List.length_cons, List.length_nil]; omega)) (by first | omega | (simp only [List.length_cons, List.length_nil]; done) | (simp only [List.length_cons, List.length_nil]; omega))) (by decide) ?_)
          | ((with_reducible refine is_sub ?_); first | refine WL.y H (Y.sub rfl rfl (by first | omega | (simp only [List.length_cons, List.length_nil]; done) | (simp only [List.length_cons, List.length_nil]; omega)) (by first | omega | (simp only [List.length_cons, List.length_nil]; done) | (simp only [List.length_cons, List.length_nil]; omega))) (by decide) ?_)
          | ((with_reducible refine is_not ?_); first | refine WL.y H (Y.not rfl) (by decide) ?_)
          | ((with_reducible refine is_build ?_); first | refine WL.y H (Y.build rfl rfl) (by decide) ?_)
          | ((with_reducible refine is_min ?_); first | refine WL.y H (Y.min2 rfl rfl) (by decide) ?_)
          | ((with_reducible refine is_lss ?_); first | refine WL.y H ((Y.lss rfl rfl).boolT (by first | omega | (simp only [List.length_cons, List.length_nil]; done) | (simp only [List.length_cons, List.length_nil]; omega))) (by decide) ?_ | refine WL.y H ((Y.lss rfl rfl).boolF (by first | omega | (simp only [List.length_cons, List.length_nil]; done) | (simp only [List.length_cons, List.length_nil]; omega))) (by decide) ?_ | (refine WL.cmp H (Y.lss rfl rfl) (by decide) ?_ ?_ <;> intro hcmp))
          | ((with_reducible refine is_gtr ?_); first | refine WL.y H ((Y.gtr rfl rfl).boolT (by first | omega | (simp only [List.length_cons, List.length_nil]; done) | (simp only [List.length_cons, List.length_nil]; omega))) (by decide) ?_ | refine WL.y H ((Y.gtr rfl rfl).boolF (by first | omega | (simp only [List.length_cons, List.length_nil]; done) | (simp only [List.length_cons, List.length_nil]; omega))) (by decide) ?_ | (refine WL.cmp H (Y.gtr rfl rfl) (by decide) ?_ ?_ <;> intro hcmp))
          | ((with_reducible refine is_geq ?_); first | refine WL.y H ((Y.geq rfl rfl).boolT (by first | omega | (simp only [List.length_cons, List.length_nil]; done) | (simp only [List.length_cons, List.length_nil]; omega))) (by decide) ?_ | refine WL.y H ((Y.geq rfl rfl).boolF (by first | omega | (simp only [List.length_cons, List.length_nil]; done) | (simp only [List.length_cons, List.length_nil]; omega))) (by decide) ?_ | (refine WL.cmp H (Y.geq rfl rfl) (by decide) ?_ ?_ <;> intro hcmp))
          | ((with_reducible refine is_box ?_); first | (refine WL.boxN H rfl (by decide) ?_; intro _ w H _ _ _) | (refine WL.box1 H rfl rfl (by decide) ?_; intro _ w H _ _ _))
          | ((with_reducible refine is_alloc ?_); refine WL.alloc H (by decide) ?_; intro _ w H _ _ _)
          | ((with_reducible refine is_store ?_); first | (refine WL.store1 H rfl rfl rfl (by repeat' (first | exact Upd.here .. | apply Upd.there)) rfl ?_; intro w H _) | (refine WL.storeN H rfl rfl rfl rfl (by repeat' (first | exact Upd.here .. | apply Upd.there)) rfl ?_; intro w H _)))
        refine AtQ.loop_norm (j, ⟨4, 0, ⟨#[]⟩, some ⟨bp, 0, none⟩, 2, [t1, cur]⟩) (by repeat' (first | exact Sub.nil | refine Sub.cons rfl ?_)) ⟨by omega, ?_, H.dropI (by repeat' (first | exact Incl.nil _ | refine Incl.cons (by repeat' (first | exact List.mem_cons_self .. | apply List.mem_cons_of_mem)) ?_))⟩ (by simp only; omega)
        rw [List.drop_eq_getElem_cons hlt, List.map_cons, lstI, er_mk, er_at hms j hlt hmj]
        simp [hecur, he1]
    · have e : min (((lstT ms m).size : Nat) : Int) 5001 = 5001 := by omega
      rw [e, if_neg hz, decide_eq_false hz]
      repeat' (first
        | (with_reducible refine WC.seq ?_)
        | (with_reducible refine WC.reg ?_)
        | (with_reducible refine WC.block ?_)
        | (with_reducible refine WC.skip ?_)
        | (with_reducible refine WC.ret ?_)
        | (with_reducible refine WC.exit ?_)
        | ((with_reducible refine is_cond ?_); first | refine WC.ctrue rfl ?_ | refine WC.cfalse rfl ?_ | (refine WC.cbool rfl ?_ ?_ <;> intro hcnd))
        | (with_reducible refine WL.nilK ?_)
        | (with_reducible refine WL.nil ?_)
        | (with_reducible refine AtQ.then_norm ?_)
        | (with_reducible refine AtQ.then_ret ?_)
        | (with_reducible refine AtQ.then_exit ?_)
        | (with_reducible refine AtQ.block_ret ?_)
        | (with_reducible refine AtQ.block_norm ?_)
        | (with_reducible refine AtQ.block_here ?_)
        | (with_reducible refine AtQ.loop_ret ?_)
        | (with_reducible refine AtQ.loop_exit ?_)
        | (with_reducible refine AtQ.out_ret ?_)
        | (with_reducible refine AtQ.out_exit ?_)
        | ((with_reducible refine AtQ.block_other ?_ ?_); · exact rfl)
        | ((with_reducible refine is_move ?_); first | refine WL.y H (Y.move rfl) (by decide) ?_)
        | ((with_reducible refine is_assign ?_); first | refine WL.y H (Y.assign rfl) (by decide) ?_)
        | ((with_reducible refine is_load ?_); first | refine WL.y H (Y.loadX rfl (by repeat' (first | exact List.mem_cons_self .. | apply List.mem_cons_of_mem)) rfl) (by decide) ?_ | refine WL.y H (Y.loadXN rfl (by repeat' (first | exact List.mem_cons_self .. | apply List.mem_cons_of_mem)) rfl rfl) (by decide) ?_)
        | ((with_reducible refine is_idx ?_); first | refine WL.y H (Y.idx rfl rfl (by first | omega | (simp only [List.length_cons, List.length_nil]; done) | (simp only [List.length_cons, List.length_nil]; omega)) (by first | omega | (simp only [List.length_cons, List.length_nil]; done) | (simp only [List.length_cons, List.length_nil]; omega))) (by decide) ?_)
        | ((with_reducible refine is_len ?_); first | refine WL.y H (Y.lenS rfl) (by decide) ?_)
        | ((with_reducible refine is_add ?_); first | refine WL.y H (Y.add rfl rfl (by first | omega | (simp only [List.length_cons, List.length_nil]; done) | (simp only [List.length_cons, List.length_nil]; omega)) (by first | omega | (simp only [List.length_cons, List.length_nil]; done) | (simp only [List.length_cons, List.length_nil]; omega))) (by decide) ?_)
        | ((with_reducible refine is_sub ?_); first | refine WL.y H (Y.sub rfl rfl (by first | omega | (simp only [List.length_cons, List.length_nil]; done) | (simp only [List.length_cons, List.length_nil]; omega)) (by first | omega | (simp only [List.length_cons, List.length_nil]; done) | (simp only [List.length_cons, List.length_nil]; omega))) (by decide) ?_)
        | ((with_reducible refine is_not ?_); first | refine WL.y H (Y.not rfl) (by decide) ?_)
        | ((with_reducible refine is_build ?_); first | refine WL.y H (Y.build rfl rfl) (by decide) ?_)
        | ((with_reducible refine is_min ?_); first | refine WL.y H (Y.min2 rfl rfl) (by decide) ?_)
        | ((with_reducible refine is_lss ?_); first | refine WL.y H ((Y.lss rfl rfl).boolT (by first | omega | (simp only [List.length_cons, List.length_nil]; done) | (simp only [List.length_cons, List.length_nil]; omega))) (by decide) ?_ | refine WL.y H ((Y.lss rfl rfl).boolF (by first | omega | (simp only [List.length_cons, List.length_nil]; done) | (simp only [List.length_cons, List.length_nil]; omega))) (by decide) ?_ | (refine WL.cmp H (Y.lss rfl rfl) (by decide) ?_ ?_ <;> intro hcmp))
        | ((with_reducible refine is_gtr ?_); first | refine WL.y H ((Y.gtr rfl rfl).boolT (by first | omega | (simp only [List.length_cons, List.length_nil]; done) | (simp only [List.length_cons, List.length_nil]; omega))) (by decide) ?_ | refine WL.y H ((Y.gtr rfl rfl).boolF (by first | omega | (simp only [List.length_cons, List.length_nil]; done) | (simp only [List.length_cons, List.length_nil]; omega))) (by decide) ?_ | (refine WL.cmp H (Y.gtr rfl rfl) (by decide) ?_ ?_ <;> intro hcmp))
        | ((with_reducible refine is_geq ?_); first | refine WL.y H ((Y.geq rfl rfl).boolT (by first | omega | (simp only [List.length_cons, List.length_nil]; done) | (simp only [List.length_cons, List.length_nil]; omega))) (by decide) ?_ | refine WL.y H ((Y.geq rfl rfl).boolF (by first | omega | (simp only [List.length_cons, List.length_nil]; done) | (simp only [List.length_cons, List.length_nil]; omega))) (by decide) ?_ | (refine WL.cmp H (Y.geq rfl rfl) (by decide) ?_ ?_ <;> intro hcmp))
        | ((with_reducible refine is_box ?_); first | (refine WL.boxN H rfl (by decide) ?_; intro _ w H _ _ _) | (refine WL.box1 H rfl rfl (by decide) ?_; intro _ w H _ _ _))
        | ((with_reducible refine is_alloc ?_); refine WL.alloc H (by decide) ?_; intro _ w H _ _ _)
        | ((with_reducible refine is_store ?_); first | (refine WL.store1 H rfl rfl rfl (by repeat' (first | exact Upd.here .. | apply Upd.there)) rfl ?_; intro w H _) | (refine WL.storeN H rfl rfl rfl rfl (by repeat' (first | exact Upd.here .. | apply Upd.there)) rfl ?_; intro w H _)))
      exact AtQ.r2 (resVal.cN H rfl (by repeat' (first | exact List.mem_cons_self .. | apply List.mem_cons_of_mem)) rfl) (resVal.t rfl) ⟨zT, rfl, rfl, Own.leaf rfl, H.chg⟩
end spec
end Go.Proofs.Ytpfooiepmnaoaaa.E
