-- OUT PureFnExactOrderedVars
import Derived.Test.YtpfooiepmnaoaaaHFnExactOrderedVars
import Derived.Test.YtpfooiepmnaoaaaPu4
namespace Go.Proofs.Ytpfooiepmnaoaaa.Pure
open Go.Proofs.Ytpfooiepmnaoaaa.X
theorem FnExactOrderedVars : laws_FnExactOrderedVars.Pure := fun x0 h => ⟨0, by unfold laws_FnExactOrderedVars.f; exact if_pos h⟩
end Go.Proofs.Ytpfooiepmnaoaaa.Pure
