/- The program's TermSize and the reference's TermSize answer the same at every term, and the argument is left as it was. No condition beyond the row's own. -/
-- OUT PureFnExactTermSize
import Derived.Test.YtaoabfhabejmgaaConv
import Derived.Test.YtaoabfhabejmgaaTermSizeI
import Derived.Test.YtaoabfhabejmgaaTermSizeS
import Derived.Test.YtaoabfhabejmgaaPu12
namespace Go.Proofs.Ytaoabfhabejmgaa.Pure
open Go.RowKit Go.Proofs.YtaoabfhabejmgaaW.PrintWords Go.Proofs.Ytaoabfhabejmgaa.Base Go.Proofs.Ytaoabfhabejmgaa.X
set_option linter.unusedVariables false
set_option linter.unusedSimpArgs false
theorem FnExactTermSize : laws_FnExactTermSize.Pure := by
  intro x hB
  refine Ev.ends ?_
  unfold laws_FnExactTermSize.f
  refine szTerm_guard hB (by omega) (by omega) (fun n hn => Ev.pos hn (Ev.now _)) (fun n h0 h1 hs => Ev.neg (by omega) ?_)
  refine Ev.bind (toTerm_ev hB) (Ev.bind (spec_TermSize_ev hs) (Ev.bind (toTerm_ev hB) (Ev.bind (impl_TermSize_ev hs) ?_)))
  refine Ev.pos rfl (Ev.bind (toTerm_ev hB) (Ev.bind (eqTerm_refl (Lg_conv hB)) (Ev.pos rfl (Ev.now _))))
end Go.Proofs.Ytaoabfhabejmgaa.Pure
