/- The pure statement of one law. (Made by xrow.py.) -/
import Derived.Test.YtaoabfhabejmgaaX9
import Derived.Test.YtaoabfhabejmgaaTy
namespace Go.Proofs.Ytaoabfhabejmgaa.X
open Go.RowKit Go.Proofs.YtaoabfhabejmgaaW.PrintWords Go.Proofs.Ytaoabfhabejmgaa.Open
set_option linter.unusedVariables false
def laws_FnExactMarksOk.Pure : Prop := ∀ (x0 : List (S74)), (fun xs : List (S74) => xs.length * 24 ≤ 140737488351232 ∧ ∀ x ∈ xs, B74 x) x0 → ∃ k, laws_FnExactMarksOk.f k x0 = some true
end Go.Proofs.Ytaoabfhabejmgaa.X
