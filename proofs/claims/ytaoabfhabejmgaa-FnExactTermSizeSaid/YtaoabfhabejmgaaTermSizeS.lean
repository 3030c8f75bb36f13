/- TermSize on any small term. -/
import Derived.Test.YtaoabfhabejmgaaTermOk
import Derived.Test.YtaoabfhabejmgaaX45
namespace Go.Proofs.Ytaoabfhabejmgaa.X
open Go.RowKit Go.Proofs.YtaoabfhabejmgaaW.PrintWords Go.Proofs.Ytaoabfhabejmgaa.Base
set_option linter.unusedVariables false
set_option linter.unusedSimpArgs false
theorem spec_TermSize_ev {t : ITm} (hs : Sm t) : Ev (fun k => spec_TermSize.f k t.f0 t.f1 t.f2 t.f3) (tsz t) := by
  unfold spec_TermSize.f
  refine Ev.bind (spec_TermOk_ev hs) ?_
  by_cases h : TOk t
  · obtain ⟨m, hm, rfl, hz⟩ := h
    refine Ev.pos (by simpa using (TOk_enc hm).2 hz) (Ev.eq (Ev.bind (count_enc m 5000 (by omega) (by omega)) (Ev.now _)) ?_)
    rw [tsz_enc hm hz]; omega
  · exact Ev.neg (by simpa using h) (Ev.eq (Ev.now _) (tsz_bad h).symm)
end Go.Proofs.Ytaoabfhabejmgaa.X
