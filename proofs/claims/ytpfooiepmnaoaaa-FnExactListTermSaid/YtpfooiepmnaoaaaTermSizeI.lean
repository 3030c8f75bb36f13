/- TermSize on any small term. -/
import Derived.Test.YtpfooiepmnaoaaaTermOk
import Derived.Test.YtpfooiepmnaoaaaX59
namespace Go.Proofs.Ytpfooiepmnaoaaa.X
open Go.RowKit Go.Proofs.YtpfooiepmnaoaaaW.PrintWords Go.Proofs.Ytpfooiepmnaoaaa.Base
set_option linter.unusedVariables false
set_option linter.unusedSimpArgs false
theorem impl_TermSize_ev {t : ITm} (hs : Sm t) : Ev (fun k => impl_TermSize.f k t.f0 t.f1 t.f2 t.f3) (tsz t) := by
  unfold impl_TermSize.f
  exact Ev.bind (nodes_ev hs) (Ev.now _)
end Go.Proofs.Ytpfooiepmnaoaaa.X
