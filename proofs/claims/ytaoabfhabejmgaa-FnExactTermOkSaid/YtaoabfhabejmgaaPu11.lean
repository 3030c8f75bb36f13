/- The pure statement of one law. (Made by xrow.py.) -/
import Derived.Test.YtaoabfhabejmgaaX11
import Derived.Test.YtaoabfhabejmgaaTy
namespace Go.Proofs.Ytaoabfhabejmgaa.X
open Go.RowKit Go.Proofs.YtaoabfhabejmgaaW.PrintWords Go.Proofs.Ytaoabfhabejmgaa.Open
set_option linter.unusedVariables false
def laws_FnExactTermOk.Pure : Prop := ∀ (x0 : S49), B49 x0 → ∃ k, laws_FnExactTermOk.f k x0.f0 x0.f1 x0.f2 x0.f3 = some true
end Go.Proofs.Ytaoabfhabejmgaa.X
