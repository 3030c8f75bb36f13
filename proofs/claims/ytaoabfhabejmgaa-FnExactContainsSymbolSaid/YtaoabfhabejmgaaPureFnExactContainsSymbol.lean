/- The program's ContainsSymbol and the reference's ContainsSymbol answer the same at every term and tag, and the argument is left as it was. No condition beyond the row's own. -/
-- OUT PureFnExactContainsSymbol
import Derived.Test.YtaoabfhabejmgaaConv
import Derived.Test.YtaoabfhabejmgaaContains
import Derived.Test.YtaoabfhabejmgaaPu14
namespace Go.Proofs.Ytaoabfhabejmgaa.Pure
open Go.RowKit Go.Proofs.YtaoabfhabejmgaaW.PrintWords Go.Proofs.Ytaoabfhabejmgaa.Base Go.Proofs.Ytaoabfhabejmgaa.X
set_option linter.unusedVariables false
set_option linter.unusedSimpArgs false
theorem FnExactContainsSymbol : laws_FnExactContainsSymbol.Pure := by
  intro x s hB hs
  refine Ev.ends ?_
  unfold laws_FnExactContainsSymbol.f
  refine Ev.ite (fun _ => Ev.now _) (fun _ => ?_)
  refine szTerm_guard hB (by omega) (by omega) (fun n hn => Ev.pos hn (Ev.now _)) (fun n h0 h1 hs => Ev.neg (by omega) ?_)
  obtain ⟨b, h1, h2⟩ := Contains_ev hs s
  refine Ev.bind (toTerm_ev hB) (Ev.bind h1 (Ev.bind (toTerm_ev hB) (Ev.bind h2 ?_)))
  refine Ev.neg (by simp) (Ev.bind (toTerm_ev hB) (Ev.bind (eqTerm_refl (Lg_conv hB)) (Ev.pos rfl (Ev.now _))))
end Go.Proofs.Ytaoabfhabejmgaa.Pure
