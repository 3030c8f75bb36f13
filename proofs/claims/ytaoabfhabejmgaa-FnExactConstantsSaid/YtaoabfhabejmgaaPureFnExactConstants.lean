/- Every exported constant of the program has the reference's value. No condition. -/
import Derived.Test.YtaoabfhabejmgaaPFnExactConstantsx1
namespace Go.Proofs.Ytaoabfhabejmgaa.Pure
open Go.RowKit Go.Proofs.Ytaoabfhabejmgaa.PFnExactConstants

theorem FnExactConstants : laws_FnExactConstants.Pure := rfl

end Go.Proofs.Ytaoabfhabejmgaa.Pure
