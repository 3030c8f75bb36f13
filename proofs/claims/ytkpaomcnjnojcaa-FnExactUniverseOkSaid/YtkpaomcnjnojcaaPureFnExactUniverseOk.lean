/- The program's UniverseOk and the reference's UniverseOk answer the same at every list of terms, and the argument is left as it was. No condition beyond the row's own. -/
-- OUT PureFnExactUniverseOk
import Derived.Test.YtkpaomcnjnojcaaTermS
import Derived.Test.YtkpaomcnjnojcaaUniverse
import Derived.Test.YtkpaomcnjnojcaaPu10
namespace Go.Proofs.Ytkpaomcnjnojcaa.Pure
open Go.RowKit Go.Proofs.YtkpaomcnjnojcaaW.PrintWords Go.Proofs.Ytkpaomcnjnojcaa.Base Go.Proofs.Ytkpaomcnjnojcaa.X
set_option linter.unusedVariables false
set_option linter.unusedSimpArgs false
theorem FnExactUniverseOk : laws_FnExactUniverseOk.Pure := by
  intro x hB
  obtain ⟨hL, hB⟩ := hB
  refine Ev.ends ?_
  unfold laws_FnExactUniverseOk.f
  refine szTermS_guard (by omega) hB (by omega) (by omega) (fun n hn => Ev.pos hn (Ev.now _)) (fun n h0 h1 hn hs => Ev.neg (by omega) ?_)
  obtain ⟨b, e1, e2⟩ := UniverseOk_ev (x.map conv) (by simpa using hn) hs
  refine Ev.bind (toTermS_ev hL hB) (Ev.bind e1 (Ev.bind (toTermS_ev hL hB) (Ev.bind e2 ?_)))
  refine Ev.neg (by simp) (Ev.bind (toTermS_ev hL hB) (Ev.bind (eqTermS_refl (by simpa using hn) (Lg_convS hB)) (Ev.pos rfl (Ev.now _))))
end Go.Proofs.Ytkpaomcnjnojcaa.Pure
