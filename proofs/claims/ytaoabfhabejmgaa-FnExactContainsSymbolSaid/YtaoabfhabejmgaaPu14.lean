/- The pure statement of one law. (Made by xrow.py.) -/
import Derived.Test.YtaoabfhabejmgaaX14
import Derived.Test.YtaoabfhabejmgaaTy
namespace Go.Proofs.Ytaoabfhabejmgaa.X
open Go.RowKit Go.Proofs.YtaoabfhabejmgaaW.PrintWords Go.Proofs.Ytaoabfhabejmgaa.Open
set_option linter.unusedVariables false
def laws_FnExactContainsSymbol.Pure : Prop := ∀ (x0 : S49) (x1 : ByteArray), B49 x0 → (fun a : ByteArray => a.size ≤ 140737488351232) x1 → ∃ k, laws_FnExactContainsSymbol.f k x0.f0 x0.f1 x0.f2 x0.f3 x1 = some true
end Go.Proofs.Ytaoabfhabejmgaa.X
