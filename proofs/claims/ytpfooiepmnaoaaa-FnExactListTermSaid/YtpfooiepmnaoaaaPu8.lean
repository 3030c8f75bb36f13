/- The pure statement of one law. (Made by xrow.py.) -/
import Derived.Test.YtpfooiepmnaoaaaHFnExactListTerm
import Derived.Test.YtpfooiepmnaoaaaTy
namespace Go.Proofs.Ytpfooiepmnaoaaa.X
open Go.RowKit Go.Proofs.YtpfooiepmnaoaaaW.PrintWords Go.Proofs.Ytpfooiepmnaoaaa.Open
set_option linter.unusedVariables false
def laws_FnExactListTerm.Pure : Prop := ∀ (x0 : List (S44)) (x1 : S44), (fun xs : List (S44) => xs.length * 56 ≤ 140737488351232 ∧ ∀ x ∈ xs, B44 x) x0 → B44 x1 → ∃ k, laws_FnExactListTerm.f k x0 x1.f0 x1.f1 x1.f2 x1.f3 = some true
end Go.Proofs.Ytpfooiepmnaoaaa.X
