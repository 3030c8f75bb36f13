/- The pure statement of one law. (Made by xrow.py.) -/
import Derived.Test.YtaoabfhabejmgaaX7
import Derived.Test.YtaoabfhabejmgaaTy
namespace Go.Proofs.Ytaoabfhabejmgaa.X
open Go.RowKit Go.Proofs.YtaoabfhabejmgaaW.PrintWords Go.Proofs.Ytaoabfhabejmgaa.Open
set_option linter.unusedVariables false
def laws_FnExactKindsOk.Pure : Prop := ∀ (x0 : List (S69)), (fun xs : List (S69) => xs.length * 16 ≤ 140737488351232 ∧ ∀ x ∈ xs, B69 x) x0 → ∃ k, laws_FnExactKindsOk.f k x0 = some true
end Go.Proofs.Ytaoabfhabejmgaa.X
