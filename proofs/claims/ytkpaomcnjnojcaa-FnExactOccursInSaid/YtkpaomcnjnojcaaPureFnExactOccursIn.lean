/- The program's OccursIn and the reference's OccursIn answer the same at every variable and term, and the argument is left as it was. No condition beyond the row's own. -/
-- OUT PureFnExactOccursIn
import Derived.Test.YtkpaomcnjnojcaaConv
import Derived.Test.YtkpaomcnjnojcaaOccurs
import Derived.Test.YtkpaomcnjnojcaaPu3
namespace Go.Proofs.Ytkpaomcnjnojcaa.Pure
open Go.RowKit Go.Proofs.YtkpaomcnjnojcaaW.PrintWords Go.Proofs.Ytkpaomcnjnojcaa.Base Go.Proofs.Ytkpaomcnjnojcaa.X
set_option linter.unusedVariables false
set_option linter.unusedSimpArgs false
theorem FnExactOccursIn : laws_FnExactOccursIn.Pure := by
  intro v x _ hB
  refine Ev.ends ?_
  unfold laws_FnExactOccursIn.f
  refine szTerm_guard hB (by omega) (by omega) (fun n hn => Ev.pos hn (Ev.now _)) (fun n h0 h1 hs => Ev.neg (by omega) ?_)
  obtain ⟨b, h1, h2⟩ := OccursIn_ev hs v
  refine Ev.bind (toTerm_ev hB) (Ev.bind h1 (Ev.bind (toTerm_ev hB) (Ev.bind h2 ?_)))
  refine Ev.neg (by simp) (Ev.bind (toTerm_ev hB) (Ev.bind (eqTerm_refl (Lg_conv hB)) (Ev.pos rfl (Ev.now _))))
end Go.Proofs.Ytkpaomcnjnojcaa.Pure
