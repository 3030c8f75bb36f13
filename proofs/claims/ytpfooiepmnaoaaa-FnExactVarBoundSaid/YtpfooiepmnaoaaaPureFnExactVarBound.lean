-- OUT PureFnExactVarBound
import Derived.Test.YtpfooiepmnaoaaaHFnExactVarBound
import Derived.Test.YtpfooiepmnaoaaaPu3
namespace Go.Proofs.Ytpfooiepmnaoaaa.Pure
open Go.Proofs.Ytpfooiepmnaoaaa.X
theorem FnExactVarBound : laws_FnExactVarBound.Pure := fun x0 h => ⟨0, by unfold laws_FnExactVarBound.f; exact if_pos h⟩
end Go.Proofs.Ytpfooiepmnaoaaa.Pure
