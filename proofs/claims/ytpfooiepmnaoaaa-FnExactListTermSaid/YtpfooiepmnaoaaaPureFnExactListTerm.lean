-- OUT PureFnExactListTerm
import Derived.Test.YtpfooiepmnaoaaaHFnExactListTerm
import Derived.Test.YtpfooiepmnaoaaaPu8
namespace Go.Proofs.Ytpfooiepmnaoaaa.Pure
open Go.Proofs.Ytpfooiepmnaoaaa.X
theorem FnExactListTerm : laws_FnExactListTerm.Pure := fun x0 x1 h0 h1 => ⟨0, by obtain ⟨_, _, _, _⟩ := x1; unfold laws_FnExactListTerm.f; exact if_pos ⟨h0, h1⟩⟩
end Go.Proofs.Ytpfooiepmnaoaaa.Pure
