/- The pure statement of one law. (Made by xrow.py.) -/
import Derived.Test.YtpfooiepmnaoaaaHFnExactOrderedVars
import Derived.Test.YtpfooiepmnaoaaaTy
namespace Go.Proofs.Ytpfooiepmnaoaaa.X
open Go.RowKit Go.Proofs.YtpfooiepmnaoaaaW.PrintWords Go.Proofs.Ytpfooiepmnaoaaa.Open
set_option linter.unusedVariables false
def laws_FnExactOrderedVars.Pure : Prop := ∀ (x0 : List (S44)), (fun xs : List (S44) => xs.length * 56 ≤ 140737488351232 ∧ ∀ x ∈ xs, B44 x) x0 → ∃ k, laws_FnExactOrderedVars.f k x0 = some true
end Go.Proofs.Ytpfooiepmnaoaaa.X
