/- The pure statement of one law. (Made by xrow.py.) -/
import Derived.Test.YtpfooiepmnaoaaaHFnExactItemsOf
import Derived.Test.YtpfooiepmnaoaaaTy
namespace Go.Proofs.Ytpfooiepmnaoaaa.X
open Go.RowKit Go.Proofs.YtpfooiepmnaoaaaW.PrintWords Go.Proofs.Ytpfooiepmnaoaaa.Open
set_option linter.unusedVariables false
def laws_FnExactItemsOf.Pure : Prop := ∀ (x0 : S44), B44 x0 → ∃ k, laws_FnExactItemsOf.f k x0.f0 x0.f1 x0.f2 x0.f3 = some true
end Go.Proofs.Ytpfooiepmnaoaaa.X
