/- The program's CompareTerms and the reference's CompareTerms answer the same at every two terms, and the arguments are left as they were. No condition beyond the row's own. -/
-- OUT PureFnExactCompareTerms
import Derived.Test.YtkpaomcnjnojcaaConv
import Derived.Test.YtkpaomcnjnojcaaCompare
import Derived.Test.YtkpaomcnjnojcaaPu5
namespace Go.Proofs.Ytkpaomcnjnojcaa.Pure
open Go.RowKit Go.Proofs.YtkpaomcnjnojcaaW.PrintWords Go.Proofs.Ytkpaomcnjnojcaa.Base Go.Proofs.Ytkpaomcnjnojcaa.X
set_option linter.unusedVariables false
set_option linter.unusedSimpArgs false
theorem FnExactCompareTerms : laws_FnExactCompareTerms.Pure := by
  intro x y hx hy
  refine Ev.ends ?_
  unfold laws_FnExactCompareTerms.f
  refine szTerm_guard hx (by omega) (by omega) (fun n hn => Ev.pos hn (Ev.now _)) (fun n h0 h1 hs => Ev.neg (by omega) ?_)
  refine szTerm_guard hy h0 h1 (fun n hn => Ev.pos hn (Ev.now _)) (fun n h0 h1 hs2 => Ev.neg (by omega) ?_)
  obtain ⟨c, h1, h2⟩ := Compare_ev hs hs2
  refine Ev.bind (toTerm_ev hx) (Ev.bind (toTerm_ev hy) (Ev.bind h1 (Ev.bind (toTerm_ev hx) (Ev.bind (toTerm_ev hy) (Ev.bind h2 ?_)))))
  refine Ev.pos rfl (Ev.bind (toTerm_ev hx) (Ev.bind (eqTerm_refl (Lg_conv hx)) (Ev.pos rfl ?_)))
  refine Ev.bind (toTerm_ev hy) (Ev.bind (eqTerm_refl (Lg_conv hy)) (Ev.pos rfl (Ev.now _)))
end Go.Proofs.Ytkpaomcnjnojcaa.Pure
