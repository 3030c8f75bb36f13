-- OUT HFnExactOrderedVars
import Derived.Test.YtpfooiepmnaoaaaEngP
import Derived.Test.YtpfooiepmnaoaaaEngQ
import Derived.Test.YtpfooiepmnaoaaaEngK3
namespace Go.Proofs.Ytpfooiepmnaoaaa.E
open Go Go.RowKit Go.Proofs.Ytpfooiepmnaoaaa.X Go.Proofs.YtpfooiepmnaoaaaW.PrintWords Go.Proofs.Ytpfooiepmnaoaaa.Base
set_option linter.unusedVariables false
set_option linter.unusedSimpArgs false
/-- A row of numbers that a call has made. -/
def RV (L : List Int) (w : World) (u : Value) (w' : World) : Prop := ∃ a c, u = .slice a L.length c ∧ (rA w.heap.size a L).hold w' ∧ Chg noF w w'
theorem RowN.rv {L : List Int} {w w' : World} {u : Value} (h : RowN L w u w') : RV L w u w' := by
  obtain ⟨b, c, pad, e, ho, hc, hb⟩ := h
  exact ⟨_, c, e, ho.r hb, hc⟩
theorem OrderedVars_both (L : List ITm) : ∃ R : List Int, (∀ v ∈ R, 0 ≤ v ∧ v ≤ 100000) ∧ R.length ≤ 1000000000000 ∧ (∀ a c l w, HT w (nod a c l) → SmL l → l.map er = L → Fn Try.prog 20 [sl a l.length c] w (RV R w)) ∧ (∀ a c l w, HT w (nod a c l) → SmL l → l.map er = L → Fn Try.prog 21 [sl a l.length c] w (RV R w)) := by
  by_cases h : ∃ l : List LT, SmL l ∧ l.map er = L ∧ AllTOk L
  · obtain ⟨l, hsm, h1, h2⟩ := h
    obtain ⟨ms, h3, h4⟩ := AllTOk.terms (l := l) (by rw [h1]; exact h2)
    have hln := ovars_len ms h4 ms.length (Nat.le_refl _)
    rw [List.take_length] at hln
    have hml := terms_len h3
    have := hsm.1
    rw [h1] at h3
    exact ⟨ovars ms, by have := ovars_rng ms h4 ms.length (Nat.le_refl _); rwa [List.take_length] at this, by omega, fun a c l w g1 g2 g3 => (spec_OrderedVars_ok a c l ms w g1 g2 (g3.trans h3) h4).mono fun _ _ h => h.rv, fun a c l w g1 g2 g3 => (OrderedVars_impl_ok a c l ms w g1 g2 (g3.trans h3) h4).mono fun _ _ h => h.rv⟩
  · have k : ∀ {w w' : World} {u : Value}, u = .slice none 0 0 ∧ Chg noF w w' → RV [] w u w' := fun ⟨e, hc⟩ => ⟨none, 0, e, rA_nil _ _ _, hc⟩
    exact ⟨[], by simp, by simp, fun a c l w g1 g2 g3 => (spec_OrderedVars_no a c l w g1 g2 (fun h2 => h ⟨l, g2, g3, g3 ▸ h2⟩)).mono fun _ _ h => k h, fun a c l w g1 g2 g3 => (OrderedVars_impl_no a c l w g1 g2 (fun h2 => h ⟨l, g2, g3, g3 ▸ h2⟩)).mono fun _ _ h => k h⟩
set_option maxRecDepth 100000 in
set_option maxHeartbeats 4000000 in
theorem FnExactOrderedVars_fn (a : Option Addr) (c : Nat) (l : List LT) (xs : List LTm) (w0 : World) (ht : HT w0 (nod a c l)) (hx : l.map er = xs.map conv) (hB : xs.length * 56 ≤ 140737488351232) (hb : ∀ y ∈ xs, B44 y) :
    Fn Try.prog 4 [sl a l.length c] w0 fun u w' => u = .bool true ∧ Chg noF w0 w' := by
  refine Fn.body (N := 69) Try.func4 rfl rfl rfl rfl rfl ?_
  have H : SH w0 noF w0 [] [tA (nod a c l)] := SH.start _ _ _ (by simpa [tA] using ht)
  obtain ⟨R, hrg, hRl, hspec, himpl⟩ := OrderedVars_both (l.map er)
  repeat' (first
    | (with_reducible refine WC.seq ?_)
    | (with_reducible refine WC.reg ?_)
    | (with_reducible refine WC.skip ?_)
    | (with_reducible refine WC.ret ?_)
    | ((with_reducible refine is_cond ?_); first | refine WC.ctrue rfl ?_ | refine WC.cfalse rfl ?_ | (refine WC.cbool rfl ?_ ?_ <;> intro hcnd))
    | (with_reducible refine WL.nilK ?_)
    | (with_reducible refine WL.nil ?_)
    | (with_reducible refine AtQ.then_norm ?_)
    | (with_reducible refine AtQ.then_ret ?_)
    | (with_reducible refine AtQ.out_ret ?_)
    | ((with_reducible refine is_call (f := 15) ?_); refine WL.call (vs := [sl a l.length c, .int .i64 1048576]) rfl (laws_szTermS_fn a c l xs 1048576 _ (H.ht (nod a c l) (by repeat' (first | exact List.mem_cons_self .. | apply List.mem_cons_of_mem))) hx hB hb (by decide) (by decide)) (by decide) ?_; intro v w hv2; obtain ⟨r, e1, hr1, hr2, hc1⟩ := hv2; subst e1; have H := H.call hc1)
    | ((with_reducible refine is_move ?_); first | refine WL.y H (Y.move rfl) (by decide) ?_)
    | ((with_reducible refine is_assign ?_); first | refine WL.y H (Y.assign rfl) (by decide) ?_)
    | ((with_reducible refine is_not ?_); first | refine WL.y H (Y.not rfl) (by decide) ?_)
    | ((with_reducible refine is_pick ?_); first | refine WL.y H (Y.pickT rfl rfl) (by decide) ?_ | refine WL.y H (Y.pickF rfl rfl) (by decide) ?_)
    | ((with_reducible refine is_neq ?_); first | refine WL.y H ((Y.neq rfl rfl).boolT (by first | omega | (simp only [List.length_cons, List.length_nil]; done) | (simp only [List.length_cons, List.length_nil]; omega))) (by decide) ?_ | refine WL.y H ((Y.neq rfl rfl).boolF (by first | omega | (simp only [List.length_cons, List.length_nil]; done) | (simp only [List.length_cons, List.length_nil]; omega))) (by decide) ?_ | (refine WL.cmp H (Y.neq rfl rfl) (by decide) ?_ ?_ <;> intro hcmp))
    | ((with_reducible refine is_lss ?_); first | refine WL.y H ((Y.lss rfl rfl).boolT (by first | omega | (simp only [List.length_cons, List.length_nil]; done) | (simp only [List.length_cons, List.length_nil]; omega))) (by decide) ?_ | refine WL.y H ((Y.lss rfl rfl).boolF (by first | omega | (simp only [List.length_cons, List.length_nil]; done) | (simp only [List.length_cons, List.length_nil]; omega))) (by decide) ?_ | (refine WL.cmp H (Y.lss rfl rfl) (by decide) ?_ ?_ <;> intro hcmp))
    | ((with_reducible refine is_grd ?_); first | refine WL.grd (Wd.some rfl rfl rfl) rfl ?_ | refine WL.pass (Wd.some rfl rfl rfl) rfl rfl (by decide) ?_ | refine WL.pass0 (Wd.some rfl rfl rfl) rfl rfl ?_))
  · exact AtQ.r1 (resVal.t rfl) ⟨rfl, H.chg⟩
  obtain ⟨hs, hwt⟩ := hr2 (by omega)
  with_reducible refine is_call (f := 17) ?_
  refine WL.call (vs := [sl _ l.length _]) rfl (laws_toTermS_ok _ _ l _ (H.ht (nod _ _ l) (by repeat' (first | exact List.mem_cons_self .. | apply List.mem_cons_of_mem))) (SmL.lens hs)) (by decide) ?_; intro v w hv2; obtain ⟨b1, t1, e1, en1, het1, ho1, hc1, hb1⟩ := hv2; subst e1; have hsz1 := hc1.size; have H := H.made hc1 (oA _ (nod _ _ t1)) ho1 ho1.new
  with_reducible refine is_call (f := 20) ?_
  refine WL.call (vs := [sl _ t1.length _]) rfl (hspec _ _ t1 _ (H.own _ (nod _ _ t1) (by repeat' (first | exact List.mem_cons_self .. | apply List.mem_cons_of_mem))).ht (hs.by_map het1) het1) (by decide) ?_; intro v w hv2; obtain ⟨aw, cw, e1, hrw, hc1⟩ := hv2; subst e1; have H := H.made hc1 (rA _ aw R) hrw (rA_new hrw)
  repeat' (first
    | (with_reducible refine WC.seq ?_)
    | (with_reducible refine WC.reg ?_)
    | (with_reducible refine WC.skip ?_)
    | (with_reducible refine WC.ret ?_)
    | ((with_reducible refine is_cond ?_); first | refine WC.ctrue rfl ?_ | refine WC.cfalse rfl ?_ | (refine WC.cbool rfl ?_ ?_ <;> intro hcnd))
    | (with_reducible refine WL.nilK ?_)
    | (with_reducible refine WL.nil ?_)
    | (with_reducible refine AtQ.then_norm ?_)
    | (with_reducible refine AtQ.then_ret ?_)
    | (with_reducible refine AtQ.out_ret ?_)
    | ((with_reducible refine is_move ?_); first | refine WL.y H (Y.move rfl) (by decide) ?_)
    | ((with_reducible refine is_assign ?_); first | refine WL.y H (Y.assign rfl) (by decide) ?_)
    | ((with_reducible refine is_not ?_); first | refine WL.y H (Y.not rfl) (by decide) ?_)
    | ((with_reducible refine is_pick ?_); first | refine WL.y H (Y.pickT rfl rfl) (by decide) ?_ | refine WL.y H (Y.pickF rfl rfl) (by decide) ?_)
    | ((with_reducible refine is_neq ?_); first | refine WL.y H ((Y.neq rfl rfl).boolT (by first | omega | (simp only [List.length_cons, List.length_nil]; done) | (simp only [List.length_cons, List.length_nil]; omega))) (by decide) ?_ | refine WL.y H ((Y.neq rfl rfl).boolF (by first | omega | (simp only [List.length_cons, List.length_nil]; done) | (simp only [List.length_cons, List.length_nil]; omega))) (by decide) ?_ | (refine WL.cmp H (Y.neq rfl rfl) (by decide) ?_ ?_ <;> intro hcmp))
    | ((with_reducible refine is_lss ?_); first | refine WL.y H ((Y.lss rfl rfl).boolT (by first | omega | (simp only [List.length_cons, List.length_nil]; done) | (simp only [List.length_cons, List.length_nil]; omega))) (by decide) ?_ | refine WL.y H ((Y.lss rfl rfl).boolF (by first | omega | (simp only [List.length_cons, List.length_nil]; done) | (simp only [List.length_cons, List.length_nil]; omega))) (by decide) ?_ | (refine WL.cmp H (Y.lss rfl rfl) (by decide) ?_ ?_ <;> intro hcmp))
    | ((with_reducible refine is_grd ?_); first | refine WL.grd (Wd.some rfl rfl rfl) rfl ?_ | refine WL.pass (Wd.some rfl rfl rfl) rfl rfl (by decide) ?_ | refine WL.pass0 (Wd.some rfl rfl rfl) rfl rfl ?_))
  have hawlt : ∀ b, (rA _ aw R).ft b → b < w.heap.size := (rA _ aw R).lt w (H.of (A := rA _ aw R) (by repeat' (first | exact List.mem_cons_self .. | apply List.mem_cons_of_mem)))
  have hB2 := H.chg.size
  with_reducible refine is_call (f := 17) ?_
  refine WL.call (vs := [sl _ l.length _]) rfl (laws_toTermS_ok _ _ l _ (H.ht (nod _ _ l) (by repeat' (first | exact List.mem_cons_self .. | apply List.mem_cons_of_mem))) (SmL.lens hs)) (by decide) ?_; intro v w hv2; obtain ⟨b2, t2, e1, en2, het2, ho1, hc1, hb1⟩ := hv2; subst e1; have hsz2 := hc1.size; have H := H.made hc1 (oA _ (nod _ _ t2)) ho1 ho1.new
  repeat' (first
    | (with_reducible refine WC.seq ?_)
    | (with_reducible refine WC.reg ?_)
    | (with_reducible refine WC.skip ?_)
    | (with_reducible refine WC.ret ?_)
    | ((with_reducible refine is_cond ?_); first | refine WC.ctrue rfl ?_ | refine WC.cfalse rfl ?_ | (refine WC.cbool rfl ?_ ?_ <;> intro hcnd))
    | (with_reducible refine WL.nilK ?_)
    | (with_reducible refine WL.nil ?_)
    | (with_reducible refine AtQ.then_norm ?_)
    | (with_reducible refine AtQ.then_ret ?_)
    | (with_reducible refine AtQ.out_ret ?_)
    | ((with_reducible refine is_move ?_); first | refine WL.y H (Y.move rfl) (by decide) ?_)
    | ((with_reducible refine is_assign ?_); first | refine WL.y H (Y.assign rfl) (by decide) ?_)
    | ((with_reducible refine is_not ?_); first | refine WL.y H (Y.not rfl) (by decide) ?_)
    | ((with_reducible refine is_pick ?_); first | refine WL.y H (Y.pickT rfl rfl) (by decide) ?_ | refine WL.y H (Y.pickF rfl rfl) (by decide) ?_)
    | ((with_reducible refine is_neq ?_); first | refine WL.y H ((Y.neq rfl rfl).boolT (by first | omega | (simp only [List.length_cons, List.length_nil]; done) | (simp only [List.length_cons, List.length_nil]; omega))) (by decide) ?_ | refine WL.y H ((Y.neq rfl rfl).boolF (by first | omega | (simp only [List.length_cons, List.length_nil]; done) | (simp only [List.length_cons, List.length_nil]; omega))) (by decide) ?_ | (refine WL.cmp H (Y.neq rfl rfl) (by decide) ?_ ?_ <;> intro hcmp))
    | ((with_reducible refine is_lss ?_); first | refine WL.y H ((Y.lss rfl rfl).boolT (by first | omega | (simp only [List.length_cons, List.length_nil]; done) | (simp only [List.length_cons, List.length_nil]; omega))) (by decide) ?_ | refine WL.y H ((Y.lss rfl rfl).boolF (by first | omega | (simp only [List.length_cons, List.length_nil]; done) | (simp only [List.length_cons, List.length_nil]; omega))) (by decide) ?_ | (refine WL.cmp H (Y.lss rfl rfl) (by decide) ?_ ?_ <;> intro hcmp))
    | ((with_reducible refine is_grd ?_); first | refine WL.grd (Wd.some rfl rfl rfl) rfl ?_ | refine WL.pass (Wd.some rfl rfl rfl) rfl rfl (by decide) ?_ | refine WL.pass0 (Wd.some rfl rfl rfl) rfl rfl ?_))
  have ht2lt : ∀ b ∈ ft (nod (some ⟨b2, 0, none⟩) t2.length t2), b < w.heap.size := (H.own _ (nod _ _ t2) (by repeat' (first | exact List.mem_cons_self .. | apply List.mem_cons_of_mem))).ht.lt
  have hs2 := hs.by_map het2
  with_reducible refine is_call (f := 21) ?_
  have hgb := H.chg.size
  refine WL.call (vs := [sl _ t2.length _]) rfl (himpl _ _ t2 _ (H.own _ (nod _ _ t2) (by repeat' (first | exact List.mem_cons_self .. | apply List.mem_cons_of_mem))).ht hs2 het2) (by decide) ?_; intro v w hv2; obtain ⟨ag, cg, e1, hrg', hc1⟩ := hv2; subst e1; have H := H.made hc1 (rA _ ag R) hrg' (rA_new hrg')
  repeat' (first
    | (with_reducible refine WC.seq ?_)
    | (with_reducible refine WC.reg ?_)
    | (with_reducible refine WC.skip ?_)
    | (with_reducible refine WC.ret ?_)
    | ((with_reducible refine is_cond ?_); first | refine WC.ctrue rfl ?_ | refine WC.cfalse rfl ?_ | (refine WC.cbool rfl ?_ ?_ <;> intro hcnd))
    | (with_reducible refine WL.nilK ?_)
    | (with_reducible refine WL.nil ?_)
    | (with_reducible refine AtQ.then_norm ?_)
    | (with_reducible refine AtQ.then_ret ?_)
    | (with_reducible refine AtQ.out_ret ?_)
    | ((with_reducible refine is_call (f := 22) ?_); refine WL.call (vs := [.slice ag R.length cg, .slice aw R.length cw]) rfl (laws_eqIntS_ok _ _ _ _ R _ (rA_i (H.of (A := rA _ ag R) (by repeat' (first | exact List.mem_cons_self .. | apply List.mem_cons_of_mem)))) (rA_i (H.of (A := rA _ aw R) (by repeat' (first | exact List.mem_cons_self .. | apply List.mem_cons_of_mem)))) hRl) (by decide) ?_; intro v w hv2; obtain ⟨e1, hc1⟩ := hv2; subst e1; have H := H.call hc1)
    | ((with_reducible refine is_move ?_); first | refine WL.y H (Y.move rfl) (by decide) ?_)
    | ((with_reducible refine is_assign ?_); first | refine WL.y H (Y.assign rfl) (by decide) ?_)
    | ((with_reducible refine is_not ?_); first | refine WL.y H (Y.not rfl) (by decide) ?_)
    | ((with_reducible refine is_pick ?_); first | refine WL.y H (Y.pickT rfl rfl) (by decide) ?_ | refine WL.y H (Y.pickF rfl rfl) (by decide) ?_)
    | ((with_reducible refine is_neq ?_); first | refine WL.y H ((Y.neq rfl rfl).boolT (by first | omega | (simp only [List.length_cons, List.length_nil]; done) | (simp only [List.length_cons, List.length_nil]; omega))) (by decide) ?_ | refine WL.y H ((Y.neq rfl rfl).boolF (by first | omega | (simp only [List.length_cons, List.length_nil]; done) | (simp only [List.length_cons, List.length_nil]; omega))) (by decide) ?_ | (refine WL.cmp H (Y.neq rfl rfl) (by decide) ?_ ?_ <;> intro hcmp))
    | ((with_reducible refine is_lss ?_); first | refine WL.y H ((Y.lss rfl rfl).boolT (by first | omega | (simp only [List.length_cons, List.length_nil]; done) | (simp only [List.length_cons, List.length_nil]; omega))) (by decide) ?_ | refine WL.y H ((Y.lss rfl rfl).boolF (by first | omega | (simp only [List.length_cons, List.length_nil]; done) | (simp only [List.length_cons, List.length_nil]; omega))) (by decide) ?_ | (refine WL.cmp H (Y.lss rfl rfl) (by decide) ?_ ?_ <;> intro hcmp))
    | ((with_reducible refine is_grd ?_); first | refine WL.grd (Wd.some rfl rfl rfl) rfl ?_ | refine WL.pass (Wd.some rfl rfl rfl) rfl rfl (by decide) ?_ | refine WL.pass0 (Wd.some rfl rfl rfl) rfl rfl ?_))
  with_reducible refine is_call (f := 17) ?_
  refine WL.call (vs := [sl _ l.length _]) rfl (laws_toTermS_ok _ _ l _ (H.ht (nod _ _ l) (by repeat' (first | exact List.mem_cons_self .. | apply List.mem_cons_of_mem))) (SmL.lens hs)) (by decide) ?_; intro v w hv2; obtain ⟨b3, t3, e1, en3, het3, ho1, hc1, hb1⟩ := hv2; subst e1; have hsz3 := hc1.size; have H := H.made hc1 (oA _ (nod _ _ t3)) ho1 ho1.new
  repeat' (first
    | (with_reducible refine WC.seq ?_)
    | (with_reducible refine WC.reg ?_)
    | (with_reducible refine WC.skip ?_)
    | (with_reducible refine WC.ret ?_)
    | ((with_reducible refine is_cond ?_); first | refine WC.ctrue rfl ?_ | refine WC.cfalse rfl ?_ | (refine WC.cbool rfl ?_ ?_ <;> intro hcnd))
    | (with_reducible refine WL.nilK ?_)
    | (with_reducible refine WL.nil ?_)
    | (with_reducible refine AtQ.then_norm ?_)
    | (with_reducible refine AtQ.then_ret ?_)
    | (with_reducible refine AtQ.out_ret ?_)
    | ((with_reducible refine is_call (f := 19) ?_); refine WL.call (vs := [sl _ t2.length _, sl _ t3.length _]) rfl (laws_eqTermS_fn _ _ _ _ t2 t3 _ (H.own _ (nod _ _ t2) (by repeat' (first | exact List.mem_cons_self .. | apply List.mem_cons_of_mem))).ht (H.own _ (nod _ _ t3) (by repeat' (first | exact List.mem_cons_self .. | apply List.mem_cons_of_mem))).ht (het2.trans het3.symm) hs2) (by decide) ?_; intro v w hv2; obtain ⟨e1, hc1⟩ := hv2; subst e1; have H := H.call hc1)
    | ((with_reducible refine is_move ?_); first | refine WL.y H (Y.move rfl) (by decide) ?_)
    | ((with_reducible refine is_assign ?_); first | refine WL.y H (Y.assign rfl) (by decide) ?_)
    | ((with_reducible refine is_not ?_); first | refine WL.y H (Y.not rfl) (by decide) ?_)
    | ((with_reducible refine is_pick ?_); first | refine WL.y H (Y.pickT rfl rfl) (by decide) ?_ | refine WL.y H (Y.pickF rfl rfl) (by decide) ?_)
    | ((with_reducible refine is_neq ?_); first | refine WL.y H ((Y.neq rfl rfl).boolT (by first | omega | (simp only [List.length_cons, List.length_nil]; done) | (simp only [List.length_cons, List.length_nil]; omega))) (by decide) ?_ | refine WL.y H ((Y.neq rfl rfl).boolF (by first | omega | (simp only [List.length_cons, List.length_nil]; done) | (simp only [List.length_cons, List.length_nil]; omega))) (by decide) ?_ | (refine WL.cmp H (Y.neq rfl rfl) (by decide) ?_ ?_ <;> intro hcmp))
    | ((with_reducible refine is_lss ?_); first | refine WL.y H ((Y.lss rfl rfl).boolT (by first | omega | (simp only [List.length_cons, List.length_nil]; done) | (simp only [List.length_cons, List.length_nil]; omega))) (by decide) ?_ | refine WL.y H ((Y.lss rfl rfl).boolF (by first | omega | (simp only [List.length_cons, List.length_nil]; done) | (simp only [List.length_cons, List.length_nil]; omega))) (by decide) ?_ | (refine WL.cmp H (Y.lss rfl rfl) (by decide) ?_ ?_ <;> intro hcmp))
    | ((with_reducible refine is_grd ?_); first | refine WL.grd (Wd.some rfl rfl rfl) rfl ?_ | refine WL.pass (Wd.some rfl rfl rfl) rfl rfl (by decide) ?_ | refine WL.pass0 (Wd.some rfl rfl rfl) rfl rfl ?_))
  have ho2 := H.own _ (nod _ _ t2) (by repeat' (first | exact List.mem_cons_self .. | apply List.mem_cons_of_mem))
  have hag := H.of (A := rA _ ag R) (by repeat' (first | exact List.mem_cons_self .. | apply List.mem_cons_of_mem))
  have H := H.dropI (S' := [rA _ ag R, rA _ aw R, tA (nod a c l)]) (by repeat' (first | exact Incl.nil _ | refine Incl.cons (by repeat' (first | exact List.mem_cons_self .. | apply List.mem_cons_of_mem)) ?_))
  have hcn : cnL t2 ≤ wtL xs := cnL_wt (het2.trans hx)
  repeat' (first
    | (with_reducible refine WC.seq ?_)
    | (with_reducible refine WC.reg ?_)
    | (with_reducible refine WC.skip ?_)
    | (with_reducible refine WC.ret ?_)
    | ((with_reducible refine is_cond ?_); first | refine WC.ctrue rfl ?_ | refine WC.cfalse rfl ?_ | (refine WC.cbool rfl ?_ ?_ <;> intro hcnd))
    | (with_reducible refine WL.nilK ?_)
    | (with_reducible refine WL.nil ?_)
    | (with_reducible refine AtQ.then_norm ?_)
    | (with_reducible refine AtQ.then_ret ?_)
    | (with_reducible refine AtQ.out_ret ?_)
    | ((with_reducible refine is_call (f := 23) ?_); refine WL.call (vs := [sl _ t2.length _, .int .i64 1]) rfl (laws_markTermS_ok 1 ho2 (SmL.lens hs2) (by decide) (by omega)) (by decide) ?_; intro v w hv2; obtain ⟨l', e1, hm1, hln1, hfr1, ho1, hc1⟩ := hv2; subst e1; have H := (H.away hc1 (fun z hz => .inr (Nat.le_trans hB2 (ho2.new z hz))) (fun p hp => by cases hp) (by intro A hA z hz hz2; simp only [List.mem_cons, List.not_mem_nil, or_false] at hA; have n1 := ho2.new z hz2; have n2 := ht2lt z hz2; rcases hA with rfl | rfl | rfl; { have := rA_new hag z hz; omega }; { have := hawlt z hz; omega }; { have := ht.lt z hz; omega })))
    | ((with_reducible refine is_call (f := 22) ?_); refine WL.call (vs := [.slice ag R.length cg, .slice aw R.length cw]) rfl (laws_eqIntS_ok _ _ _ _ R _ (rA_i (H.of (A := rA _ ag R) (by repeat' (first | exact List.mem_cons_self .. | apply List.mem_cons_of_mem)))) (rA_i (H.of (A := rA _ aw R) (by repeat' (first | exact List.mem_cons_self .. | apply List.mem_cons_of_mem)))) hRl) (by decide) ?_; intro v w hv2; obtain ⟨e1, hc1⟩ := hv2; subst e1; have H := H.call hc1)
    | ((with_reducible refine is_move ?_); first | refine WL.y H (Y.move rfl) (by decide) ?_)
    | ((with_reducible refine is_assign ?_); first | refine WL.y H (Y.assign rfl) (by decide) ?_)
    | ((with_reducible refine is_not ?_); first | refine WL.y H (Y.not rfl) (by decide) ?_)
    | ((with_reducible refine is_pick ?_); first | refine WL.y H (Y.pickT rfl rfl) (by decide) ?_ | refine WL.y H (Y.pickF rfl rfl) (by decide) ?_)
    | ((with_reducible refine is_neq ?_); first | refine WL.y H ((Y.neq rfl rfl).boolT (by first | omega | (simp only [List.length_cons, List.length_nil]; done) | (simp only [List.length_cons, List.length_nil]; omega))) (by decide) ?_ | refine WL.y H ((Y.neq rfl rfl).boolF (by first | omega | (simp only [List.length_cons, List.length_nil]; done) | (simp only [List.length_cons, List.length_nil]; omega))) (by decide) ?_ | (refine WL.cmp H (Y.neq rfl rfl) (by decide) ?_ ?_ <;> intro hcmp))
    | ((with_reducible refine is_lss ?_); first | refine WL.y H ((Y.lss rfl rfl).boolT (by first | omega | (simp only [List.length_cons, List.length_nil]; done) | (simp only [List.length_cons, List.length_nil]; omega))) (by decide) ?_ | refine WL.y H ((Y.lss rfl rfl).boolF (by first | omega | (simp only [List.length_cons, List.length_nil]; done) | (simp only [List.length_cons, List.length_nil]; omega))) (by decide) ?_ | (refine WL.cmp H (Y.lss rfl rfl) (by decide) ?_ ?_ <;> intro hcmp))
    | ((with_reducible refine is_grd ?_); first | refine WL.grd (Wd.some rfl rfl rfl) rfl ?_ | refine WL.pass (Wd.some rfl rfl rfl) rfl rfl (by decide) ?_ | refine WL.pass0 (Wd.some rfl rfl rfl) rfl rfl ?_))
  have hagge : ∀ z, (rA _ ag R).ft z → _ ≤ z := rA_new hag
  have hag := H.of (A := rA _ ag R) (by repeat' (first | exact List.mem_cons_self .. | apply List.mem_cons_of_mem))
  with_reducible refine is_call (f := 24) ?_
  refine WL.call (vs := [.slice ag R.length cg, .int .i64 1]) rfl (laws_markIntS_ok _ ag cg R 1 _ hag hRl (by decide) (by decide)) (by decide) ?_; intro v w hv2; obtain ⟨e1, hmr, hc1⟩ := hv2; subst e1
  have H := H.eff (A' := rA _ ag (mkI 1 R.length)) hc1 hmr (fun z hz => .inl (rA_ft_mk z hz)) (fun z hz => .inr (by have := hagge z hz; omega)) (by intro A hA z hz hz2; simp only [List.mem_cons, List.not_mem_nil, or_false] at hA; have n1 := hagge z hz2; rcases hA with rfl | rfl; { have := hawlt z hz; omega }; { have := ht.lt z hz; omega })
  have hRn := mkI_length 1 R.length
  repeat' (first
    | (with_reducible refine WC.seq ?_)
    | (with_reducible refine WC.reg ?_)
    | (with_reducible refine WC.skip ?_)
    | (with_reducible refine WC.ret ?_)
    | ((with_reducible refine is_cond ?_); first | refine WC.ctrue rfl ?_ | refine WC.cfalse rfl ?_ | (refine WC.cbool rfl ?_ ?_ <;> intro hcnd))
    | (with_reducible refine WL.nilK ?_)
    | (with_reducible refine WL.nil ?_)
    | (with_reducible refine AtQ.then_norm ?_)
    | (with_reducible refine AtQ.then_ret ?_)
    | (with_reducible refine AtQ.out_ret ?_)
    | ((with_reducible refine is_call (f := 25) ?_); refine WL.call (vs := [.slice ag R.length cg, .int .i64 1]) rfl (laws_heldIntS_ok ag cg R.length 1 _ (rA_i (H.of (A := rA _ ag (mkI 1 R.length)) (by repeat' (first | exact List.mem_cons_self .. | apply List.mem_cons_of_mem)))) hRl (by decide) (by decide)) (by decide) ?_; intro v w hv2; obtain ⟨e1, hc1⟩ := hv2; subst e1; have H := H.call hc1)
    | ((with_reducible refine is_move ?_); first | refine WL.y H (Y.move rfl) (by decide) ?_)
    | ((with_reducible refine is_assign ?_); first | refine WL.y H (Y.assign rfl) (by decide) ?_)
    | ((with_reducible refine is_not ?_); first | refine WL.y H (Y.not rfl) (by decide) ?_)
    | ((with_reducible refine is_pick ?_); first | refine WL.y H (Y.pickT rfl rfl) (by decide) ?_ | refine WL.y H (Y.pickF rfl rfl) (by decide) ?_)
    | ((with_reducible refine is_neq ?_); first | refine WL.y H ((Y.neq rfl rfl).boolT (by first | omega | (simp only [List.length_cons, List.length_nil]; done) | (simp only [List.length_cons, List.length_nil]; omega))) (by decide) ?_ | refine WL.y H ((Y.neq rfl rfl).boolF (by first | omega | (simp only [List.length_cons, List.length_nil]; done) | (simp only [List.length_cons, List.length_nil]; omega))) (by decide) ?_ | (refine WL.cmp H (Y.neq rfl rfl) (by decide) ?_ ?_ <;> intro hcmp))
    | ((with_reducible refine is_lss ?_); first | refine WL.y H ((Y.lss rfl rfl).boolT (by first | omega | (simp only [List.length_cons, List.length_nil]; done) | (simp only [List.length_cons, List.length_nil]; omega))) (by decide) ?_ | refine WL.y H ((Y.lss rfl rfl).boolF (by first | omega | (simp only [List.length_cons, List.length_nil]; done) | (simp only [List.length_cons, List.length_nil]; omega))) (by decide) ?_ | (refine WL.cmp H (Y.lss rfl rfl) (by decide) ?_ ?_ <;> intro hcmp))
    | ((with_reducible refine is_grd ?_); first | refine WL.grd (Wd.some rfl rfl rfl) rfl ?_ | refine WL.pass (Wd.some rfl rfl rfl) rfl rfl (by decide) ?_ | refine WL.pass0 (Wd.some rfl rfl rfl) rfl rfl ?_))
  with_reducible refine is_call (f := 17) ?_
  refine WL.call (vs := [sl _ l.length _]) rfl (laws_toTermS_ok _ _ l _ (H.ht (nod _ _ l) (by repeat' (first | exact List.mem_cons_self .. | apply List.mem_cons_of_mem))) (SmL.lens hs)) (by decide) ?_; intro v w hv2; obtain ⟨b4, t4, e1, en4, het4, ho1, hc1, hb1⟩ := hv2; subst e1; have hsz4 := hc1.size; have H := H.made hc1 (oA _ (nod _ _ t4)) ho1 ho1.new
  repeat' (first
    | (with_reducible refine WC.seq ?_)
    | (with_reducible refine WC.reg ?_)
    | (with_reducible refine WC.skip ?_)
    | (with_reducible refine WC.ret ?_)
    | ((with_reducible refine is_cond ?_); first | refine WC.ctrue rfl ?_ | refine WC.cfalse rfl ?_ | (refine WC.cbool rfl ?_ ?_ <;> intro hcnd))
    | (with_reducible refine WL.nilK ?_)
    | (with_reducible refine WL.nil ?_)
    | (with_reducible refine AtQ.then_norm ?_)
    | (with_reducible refine AtQ.then_ret ?_)
    | (with_reducible refine AtQ.out_ret ?_)
    | ((with_reducible refine is_call (f := 21) ?_); refine WL.call (vs := [sl _ t4.length _]) rfl (himpl _ _ t4 _ (H.own _ (nod _ _ t4) (by repeat' (first | exact List.mem_cons_self .. | apply List.mem_cons_of_mem))).ht (hs.by_map het4) het4) (by decide) ?_; intro v w hv2; obtain ⟨ah, ch, e1, hrh, hc1⟩ := hv2; subst e1; have H := H.made hc1 (rA _ ah R) hrh (rA_new hrh))
    | ((with_reducible refine is_call (f := 22) ?_); refine WL.call (vs := [.slice ah R.length ch, .slice aw R.length cw]) rfl (laws_eqIntS_ok _ _ _ _ R _ (rA_i (H.of (A := rA _ ah R) (by repeat' (first | exact List.mem_cons_self .. | apply List.mem_cons_of_mem)))) (rA_i (H.of (A := rA _ aw R) (by repeat' (first | exact List.mem_cons_self .. | apply List.mem_cons_of_mem)))) hRl) (by decide) ?_; intro v w hv2; obtain ⟨e1, hc1⟩ := hv2; subst e1; have H := H.call hc1)
    | ((with_reducible refine is_call (f := 25) ?_); refine WL.call (vs := [.slice ag R.length cg, .int .i64 1]) rfl (laws_heldIntS_ok ag cg R.length 1 _ (rA_i (H.of (A := rA _ ag (mkI 1 R.length)) (by repeat' (first | exact List.mem_cons_self .. | apply List.mem_cons_of_mem)))) hRl (by decide) (by decide)) (by decide) ?_; intro v w hv2; obtain ⟨e1, hc1⟩ := hv2; subst e1; have H := H.call hc1)
    | ((with_reducible refine is_move ?_); first | refine WL.y H (Y.move rfl) (by decide) ?_)
    | ((with_reducible refine is_assign ?_); first | refine WL.y H (Y.assign rfl) (by decide) ?_)
    | ((with_reducible refine is_not ?_); first | refine WL.y H (Y.not rfl) (by decide) ?_)
    | ((with_reducible refine is_pick ?_); first | refine WL.y H (Y.pickT rfl rfl) (by decide) ?_ | refine WL.y H (Y.pickF rfl rfl) (by decide) ?_)
    | ((with_reducible refine is_neq ?_); first | refine WL.y H ((Y.neq rfl rfl).boolT (by first | omega | (simp only [List.length_cons, List.length_nil]; done) | (simp only [List.length_cons, List.length_nil]; omega))) (by decide) ?_ | refine WL.y H ((Y.neq rfl rfl).boolF (by first | omega | (simp only [List.length_cons, List.length_nil]; done) | (simp only [List.length_cons, List.length_nil]; omega))) (by decide) ?_ | (refine WL.cmp H (Y.neq rfl rfl) (by decide) ?_ ?_ <;> intro hcmp))
    | ((with_reducible refine is_lss ?_); first | refine WL.y H ((Y.lss rfl rfl).boolT (by first | omega | (simp only [List.length_cons, List.length_nil]; done) | (simp only [List.length_cons, List.length_nil]; omega))) (by decide) ?_ | refine WL.y H ((Y.lss rfl rfl).boolF (by first | omega | (simp only [List.length_cons, List.length_nil]; done) | (simp only [List.length_cons, List.length_nil]; omega))) (by decide) ?_ | (refine WL.cmp H (Y.lss rfl rfl) (by decide) ?_ ?_ <;> intro hcmp))
    | ((with_reducible refine is_grd ?_); first | refine WL.grd (Wd.some rfl rfl rfl) rfl ?_ | refine WL.pass (Wd.some rfl rfl rfl) rfl rfl (by decide) ?_ | refine WL.pass0 (Wd.some rfl rfl rfl) rfl rfl ?_))
  exact AtQ.r1 (resVal.t rfl) ⟨rfl, H.chg⟩
end Go.Proofs.Ytpfooiepmnaoaaa.E
namespace Go.Proofs.Ytpfooiepmnaoaaa.X
open Go Go.RowKit Go.Proofs.Ytpfooiepmnaoaaa.E Go.Proofs.YtpfooiepmnaoaaaW.PrintWords
set_option linter.unusedVariables false
open Classical in
noncomputable def laws_FnExactOrderedVars.f (k : Nat) (x0 : List LTm) : Option Bool := if x0.length * 56 ≤ 140737488351232 ∧ ∀ x ∈ x0, B44 x then some true else none
theorem laws_FnExactOrderedVars.calls (k : Nat) (A0 : Option Addr) (c0 : Nat) (l0 : List LTm) (w : World) (h0 : Kd.C k44 w A0 l0.length l0) (hc0 : l0.length ≤ c0) (h : laws_FnExactOrderedVars.f k l0 = some true) :
    Calls Try.prog 4 #[.slice A0 l0.length c0] w fun e w' => e = .returned (.bool true) ∧ Below w.heap.size w w' := by
  unfold laws_FnExactOrderedVars.f at h
  split at h
  · rename_i hb
    obtain ⟨l, hl, hx, ht⟩ := locatedS hc0 h0
    rw [← hl]
    refine (FnExactOrderedVars_fn A0 c0 l l0 w ht hx hb.1 hb.2).2.mono fun e w' ⟨v, he, hv, hc⟩ => ?_
    subst hv
    exact ⟨he, hc.below⟩
  · cases h
end Go.Proofs.Ytpfooiepmnaoaaa.X
