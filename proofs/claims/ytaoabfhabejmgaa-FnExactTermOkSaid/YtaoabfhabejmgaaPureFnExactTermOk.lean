/- The program's TermOk and the reference's TermOk answer the same at every term, and the argument is left as it was. No condition beyond the row's own. -/
-- OUT PureFnExactTermOk
import Derived.Test.YtaoabfhabejmgaaConv
import Derived.Test.YtaoabfhabejmgaaTermOk
import Derived.Test.YtaoabfhabejmgaaPu11
namespace Go.Proofs.Ytaoabfhabejmgaa.Pure
open Go.RowKit Go.Proofs.YtaoabfhabejmgaaW.PrintWords Go.Proofs.Ytaoabfhabejmgaa.Base Go.Proofs.Ytaoabfhabejmgaa.X
set_option linter.unusedVariables false
set_option linter.unusedSimpArgs false
theorem FnExactTermOk : laws_FnExactTermOk.Pure := by
  intro x hB
  refine Ev.ends ?_
  unfold laws_FnExactTermOk.f
  refine szTerm_guard hB (by omega) (by omega) (fun n hn => Ev.pos hn (Ev.now _)) (fun n h0 h1 hs => Ev.neg (by omega) ?_)
  refine Ev.bind (toTerm_ev hB) (Ev.bind (spec_TermOk_ev hs) (Ev.bind (toTerm_ev hB) (Ev.bind (impl_TermOk_ev hs) ?_)))
  refine Ev.neg (by simp) (Ev.bind (toTerm_ev hB) (Ev.bind (eqTerm_refl (Lg_conv hB)) (Ev.pos rfl (Ev.now _))))
end Go.Proofs.Ytaoabfhabejmgaa.Pure
