/- The program's IsRelName and the reference's IsRelName answer the same at every string. No condition beyond the row's own. -/
-- OUT PureFnExactIsRelName
import Derived.Test.YtaoabfhabejmgaaIsName
import Derived.Test.YtaoabfhabejmgaaX17
import Derived.Test.YtaoabfhabejmgaaX18
import Derived.Test.YtaoabfhabejmgaaPu5
namespace Go.Proofs.Ytaoabfhabejmgaa.X
open Go.RowKit Go.Proofs.YtaoabfhabejmgaaW.PrintWords Go.Proofs.Ytaoabfhabejmgaa.Base
set_option linter.unusedVariables false
set_option linter.unusedSimpArgs false
theorem relName_loop (s : ByteArray) (hs : s.size ≤ 140737488351232) (ws : List ByteArray) (hw : ws.length ≤ 100) : ∀ (d i : Nat), ws.length - i = d → i ≤ ws.length →
    Ev (fun k => spec_IsRelName.l0 k s ws (ws.length : Int) (i : Int)) (!(ws.drop i).any (fun w => decide (s.toList = w.toList)) && isNm s) := by
  intro d
  induction d with
  | zero =>
    intro i hi hl
    rw [List.drop_of_length_le (by omega)]
    exact Ev.eq (Ev.step (fun k => by rw [spec_IsRelName.l0, if_neg (by omega)]) (Ev.bind (Ev.of (spec_IsName.mono _) (spec_IsName_ev s hs)) (Ev.now _))) (by simp)
  | succ d ihd =>
    intro i hi hl
    rw [List.drop_eq_getElem_cons (by omega), List.any_cons]
    refine Ev.step (fun k => by rw [spec_IsRelName.l0, if_pos (by omega), if_pos (by omega), if_pos (by omega), rdOf_at _ ws i (by omega), w64s (by omega)]) ?_
    refine Ev.ite (fun h => Ev.eq (Ev.now _) (by simp [show s.toList = ws[i].toList from h.symm])) (fun h => Ev.eq (ihd (i + 1) (by omega) (by omega)) (by simp [show ¬ s.toList = ws[i].toList from fun e => h e.symm]))
end Go.Proofs.Ytaoabfhabejmgaa.X
namespace Go.Proofs.Ytaoabfhabejmgaa.Pure
open Go.RowKit Go.Proofs.YtaoabfhabejmgaaW.PrintWords Go.Proofs.Ytaoabfhabejmgaa.Base Go.Proofs.Ytaoabfhabejmgaa.X
set_option linter.unusedVariables false
set_option linter.unusedSimpArgs false
theorem FnExactIsRelName : laws_FnExactIsRelName.Pure := by
  intro s hs
  refine Ev.ends ?_
  unfold laws_FnExactIsRelName.f
  refine Ev.ite (fun _ => Ev.now _) (fun _ => ?_)
  refine Ev.bind (a := !([[116, 114, 117, 101], [102, 97, 105, 108], [115, 121, 109, 98, 111, 108], [110, 117, 109, 98, 101, 114], [97, 98, 115, 101, 110, 116], [97, 110, 100], [111, 114], [110, 111, 116], [100, 101, 102, 105, 110, 101]] : List (List UInt8)).any (fun w => decide (s.toList = w)) && isNm s) ?_ ?_
  · unfold spec_IsRelName.f
    simp only [Option.bind_some]
    refine Ev.eq (relName_loop s hs _ (by decide) 9 0 rfl (by decide)) ?_
    simp only [List.drop_zero, List.any_cons, List.any_nil, ByteArray.toList_eq]
  · refine Ev.bind (a := !([[116, 114, 117, 101], [102, 97, 105, 108], [115, 121, 109, 98, 111, 108], [110, 117, 109, 98, 101, 114], [97, 98, 115, 101, 110, 116], [97, 110, 100], [111, 114], [110, 111, 116], [100, 101, 102, 105, 110, 101]] : List (List UInt8)).any (fun w => decide (s.toList = w)) && isNm s) ?_ (Ev.neg (by simp) (Ev.now _))
    unfold impl_IsRelName.f
    simp only [List.any_cons, List.any_nil]
    repeat (refine Ev.ite (fun h => Ev.eq (Ev.now _) (by simp [h])) (fun h => ?_); simp only [h, decide_false, Bool.false_or])
    exact Ev.eq (Ev.bind (Ev.of (impl_IsName.mono _) (impl_IsName_ev s hs)) (Ev.now _)) (by simp)
end Go.Proofs.Ytaoabfhabejmgaa.Pure
