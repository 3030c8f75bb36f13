/- The program's IsGround and the reference's IsGround answer the same at every term, and the argument is left as it was. No condition beyond the row's own. -/
-- OUT PureFnExactIsGround
import Derived.Test.YtkpaomcnjnojcaaConv
import Derived.Test.YtkpaomcnjnojcaaGround
import Derived.Test.YtkpaomcnjnojcaaPu4
namespace Go.Proofs.Ytkpaomcnjnojcaa.Pure
open Go.RowKit Go.Proofs.YtkpaomcnjnojcaaW.PrintWords Go.Proofs.Ytkpaomcnjnojcaa.Base Go.Proofs.Ytkpaomcnjnojcaa.X
set_option linter.unusedVariables false
set_option linter.unusedSimpArgs false
theorem FnExactIsGround : laws_FnExactIsGround.Pure := by
  intro x hB
  refine Ev.ends ?_
  unfold laws_FnExactIsGround.f
  refine szTerm_guard hB (by omega) (by omega) (fun n hn => Ev.pos hn (Ev.now _)) (fun n h0 h1 hs => Ev.neg (by omega) ?_)
  obtain ⟨b, e1, e2, _⟩ := IsGround_ev hs
  refine Ev.bind (toTerm_ev hB) (Ev.bind e1 (Ev.bind (toTerm_ev hB) (Ev.bind e2 ?_)))
  refine Ev.neg (by simp) (Ev.bind (toTerm_ev hB) (Ev.bind (eqTerm_refl (Lg_conv hB)) (Ev.pos rfl (Ev.now _))))
end Go.Proofs.Ytkpaomcnjnojcaa.Pure
