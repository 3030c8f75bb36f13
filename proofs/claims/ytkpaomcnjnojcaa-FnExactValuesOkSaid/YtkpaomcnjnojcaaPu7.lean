/- The pure statement of one law. (Made by xrow.py.) -/
import Derived.Test.YtkpaomcnjnojcaaX7
import Derived.Test.YtkpaomcnjnojcaaTy
namespace Go.Proofs.Ytkpaomcnjnojcaa.X
open Go.RowKit Go.Proofs.YtkpaomcnjnojcaaW.PrintWords Go.Proofs.Ytkpaomcnjnojcaa.Open
set_option linter.unusedVariables false
def laws_FnExactValuesOk.Pure : Prop := ∀ (x0 : List (S120)), (fun xs : List (S120) => xs.length * 64 ≤ 140737488351232 ∧ ∀ x ∈ xs, B120 x) x0 → ∃ k, laws_FnExactValuesOk.f k x0 = some true
end Go.Proofs.Ytkpaomcnjnojcaa.X
