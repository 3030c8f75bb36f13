/- The pure statement of one law. (Made by xrow.py.) -/
import Derived.Test.YtkpaomcnjnojcaaX3
import Derived.Test.YtkpaomcnjnojcaaTy
namespace Go.Proofs.Ytkpaomcnjnojcaa.X
open Go.RowKit Go.Proofs.YtkpaomcnjnojcaaW.PrintWords Go.Proofs.Ytkpaomcnjnojcaa.Open
set_option linter.unusedVariables false
def laws_FnExactOccursIn.Pure : Prop := ∀ (x0 : Int) (x1 : S24), (fun a : Int => (Lit.int .i64 a).wf = true) x0 → B24 x1 → ∃ k, laws_FnExactOccursIn.f k x0 x1.f0 x1.f1 x1.f2 x1.f3 = some true
end Go.Proofs.Ytkpaomcnjnojcaa.X
