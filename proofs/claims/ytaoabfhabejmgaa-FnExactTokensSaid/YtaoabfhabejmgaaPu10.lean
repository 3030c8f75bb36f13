/- The pure statement of one law. (Made by xrow.py.) -/
import Derived.Test.YtaoabfhabejmgaaX10
import Derived.Test.YtaoabfhabejmgaaTy
namespace Go.Proofs.Ytaoabfhabejmgaa.X
open Go.RowKit Go.Proofs.YtaoabfhabejmgaaW.PrintWords Go.Proofs.Ytaoabfhabejmgaa.Open
set_option linter.unusedVariables false
def laws_FnExactTokens.Pure : Prop := ∀ (x0 : ByteArray), (fun a : ByteArray => a.size ≤ 140737488351232) x0 → ∃ k, laws_FnExactTokens.f k x0 = some true
end Go.Proofs.Ytaoabfhabejmgaa.X
