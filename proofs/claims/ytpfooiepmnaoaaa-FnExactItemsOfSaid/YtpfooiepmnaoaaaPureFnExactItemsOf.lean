-- OUT PureFnExactItemsOf
import Derived.Test.YtpfooiepmnaoaaaHFnExactItemsOf
import Derived.Test.YtpfooiepmnaoaaaPu7
namespace Go.Proofs.Ytpfooiepmnaoaaa.Pure
open Go.Proofs.Ytpfooiepmnaoaaa.X
theorem FnExactItemsOf : laws_FnExactItemsOf.Pure := fun x0 h => ⟨0, by obtain ⟨_, _, _, _⟩ := x0; unfold laws_FnExactItemsOf.f; exact if_pos h⟩
end Go.Proofs.Ytpfooiepmnaoaaa.Pure
