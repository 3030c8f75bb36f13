/- The pure statement of one law. (Made by xrow.py.) -/
import Derived.Test.YtkpaomcnjnojcaaX4
import Derived.Test.YtkpaomcnjnojcaaTy
namespace Go.Proofs.Ytkpaomcnjnojcaa.X
open Go.RowKit Go.Proofs.YtkpaomcnjnojcaaW.PrintWords Go.Proofs.Ytkpaomcnjnojcaa.Open
set_option linter.unusedVariables false
def laws_FnExactIsGround.Pure : Prop := ∀ (x0 : S24), B24 x0 → ∃ k, laws_FnExactIsGround.f k x0.f0 x0.f1 x0.f2 x0.f3 = some true
end Go.Proofs.Ytkpaomcnjnojcaa.X
