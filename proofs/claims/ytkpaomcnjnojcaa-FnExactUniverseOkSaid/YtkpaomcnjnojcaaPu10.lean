/- The pure statement of one law. (Made by xrow.py.) -/
import Derived.Test.YtkpaomcnjnojcaaX10
import Derived.Test.YtkpaomcnjnojcaaTy
namespace Go.Proofs.Ytkpaomcnjnojcaa.X
open Go.RowKit Go.Proofs.YtkpaomcnjnojcaaW.PrintWords Go.Proofs.Ytkpaomcnjnojcaa.Open
set_option linter.unusedVariables false
def laws_FnExactUniverseOk.Pure : Prop := ∀ (x0 : List (S24)), (fun xs : List (S24) => xs.length * 56 ≤ 140737488351232 ∧ ∀ x ∈ xs, B24 x) x0 → ∃ k, laws_FnExactUniverseOk.f k x0 = some true
end Go.Proofs.Ytkpaomcnjnojcaa.X
