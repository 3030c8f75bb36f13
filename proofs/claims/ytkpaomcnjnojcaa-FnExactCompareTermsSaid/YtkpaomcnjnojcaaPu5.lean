/- The pure statement of one law. (Made by xrow.py.) -/
import Derived.Test.YtkpaomcnjnojcaaX5
import Derived.Test.YtkpaomcnjnojcaaTy
namespace Go.Proofs.Ytkpaomcnjnojcaa.X
open Go.RowKit Go.Proofs.YtkpaomcnjnojcaaW.PrintWords Go.Proofs.Ytkpaomcnjnojcaa.Open
set_option linter.unusedVariables false
def laws_FnExactCompareTerms.Pure : Prop := ∀ (x0 : S24) (x1 : S24), B24 x0 → B24 x1 → ∃ k, laws_FnExactCompareTerms.f k x0.f0 x0.f1 x0.f2 x0.f3 x1.f0 x1.f1 x1.f2 x1.f3 = some true
end Go.Proofs.Ytkpaomcnjnojcaa.X
