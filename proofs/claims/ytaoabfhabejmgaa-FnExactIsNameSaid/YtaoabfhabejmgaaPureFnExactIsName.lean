/- The program's IsName and the reference's IsName answer the same at every string. No condition beyond the row's own. -/
import Derived.Test.YtaoabfhabejmgaaIsName
namespace Go.Proofs.Ytaoabfhabejmgaa.Pure
open Go.RowKit Go.Proofs.Ytaoabfhabejmgaa.PFnExactIsName Go.Proofs.YtaoabfhabejmgaaW.PrintWords

theorem FnExactIsName : laws_FnExactIsName.Pure := by
  intro s hs
  refine ⟨s.size + 3, ?_⟩
  unfold laws_FnExactIsName.f
  rw [spec_IsName_ev s hs, impl_IsName_ev s hs]
  simp

end Go.Proofs.Ytaoabfhabejmgaa.Pure
