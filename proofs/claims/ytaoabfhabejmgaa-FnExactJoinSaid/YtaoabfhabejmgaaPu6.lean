/- The pure statement of one law. (Made by xrow.py.) -/
import Derived.Test.YtaoabfhabejmgaaX6
import Derived.Test.YtaoabfhabejmgaaTy
namespace Go.Proofs.Ytaoabfhabejmgaa.X
open Go.RowKit Go.Proofs.YtaoabfhabejmgaaW.PrintWords Go.Proofs.Ytaoabfhabejmgaa.Open
set_option linter.unusedVariables false
def laws_FnExactJoin.Pure : Prop := ∀ (x0 : List ByteArray) (x1 : ByteArray), (fun xs : List ByteArray => xs.length * 16 ≤ 140737488351232 ∧ ∀ x ∈ xs, (fun a : ByteArray => a.size ≤ 140737488351232) x) x0 → (fun a : ByteArray => a.size ≤ 140737488351232) x1 → ∃ k, laws_FnExactJoin.f k x0 x1 = some true
end Go.Proofs.Ytaoabfhabejmgaa.X
