/- The program's SplitLines and the reference's SplitLines answer the same at every string; what they return shares no memory. No condition beyond the row's own. -/
-- OUT PureFnExactSplitLines
import Derived.Test.YtaoabfhabejmgaaSplitLines
import Derived.Test.YtaoabfhabejmgaaStr
import Derived.Test.YtaoabfhabejmgaaPu8
namespace Go.Proofs.Ytaoabfhabejmgaa.Pure
open Go.RowKit Go.Proofs.YtaoabfhabejmgaaW.PrintWords Go.Proofs.Ytaoabfhabejmgaa.Base Go.Proofs.Ytaoabfhabejmgaa.X
set_option linter.unusedVariables false
set_option linter.unusedSimpArgs false
theorem FnExactSplitLines : laws_FnExactSplitLines.Pure := by
  intro s hs
  refine Ev.ends ?_
  unfold laws_FnExactSplitLines.f
  refine Ev.ite (fun _ => Ev.now _) (fun hn => ?_)
  obtain ⟨r, hr, he⟩ := SplitLines_ends s (by omega)
  have hi : Ev (fun k => impl_SplitLines.f k s) r := by
    have : (fun k => impl_SplitLines.f k s) = fun k => spec_SplitLines.f k s := funext fun k => SplitLines_same k s _ _ _
    rw [this]; exact he
  obtain ⟨l', h1, h2, h3⟩ := markStringS_ev r 1 (by omega) (by omega)
  have hq := heldStringS_ev l' 1 (by omega) (by omega) h2
  rw [h1] at hq
  refine Ev.bind he (Ev.bind hi (Ev.bind (eqStringS_refl r (by omega)) (Ev.pos rfl (Ev.bind h3 (Ev.bind hq (Ev.neg (by omega) (Ev.pos rfl ?_)))))))
  exact Ev.bind hi (Ev.bind (eqStringS_refl r (by omega)) (Ev.pos rfl (Ev.bind hq (Ev.neg (by omega) (Ev.pos rfl (Ev.now _))))))
end Go.Proofs.Ytaoabfhabejmgaa.Pure
