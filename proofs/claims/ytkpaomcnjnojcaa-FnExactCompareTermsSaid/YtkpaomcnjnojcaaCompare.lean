/- CompareTerms on small terms. -/
import Derived.Test.YtkpaomcnjnojcaaOrderS
import Derived.Test.YtkpaomcnjnojcaaX37
import Derived.Test.YtkpaomcnjnojcaaX38
namespace Go.Proofs.Ytkpaomcnjnojcaa.X
open Go.RowKit Go.Proofs.YtkpaomcnjnojcaaW.PrintWords Go.Proofs.Ytkpaomcnjnojcaa.Base
set_option linter.unusedVariables false
set_option linter.unusedSimpArgs false
theorem Compare_ev {t u : ITm} (ht : Sm t) (hu : Sm u) : ∃ c : Int, Ev (fun k => spec_CompareTerms.f k t.f0 t.f1 t.f2 t.f3 u.f0 u.f1 u.f2 u.f3) c ∧ Ev (fun k => impl_CompareTerms.f k t.f0 t.f1 t.f2 t.f3 u.f0 u.f1 u.f2 u.f3) c := by
  unfold spec_CompareTerms.f impl_CompareTerms.f
  by_cases h : TOk t
  · by_cases h2 : TOk u
    · have o1 := h
      have o2 := h2
      obtain ⟨m, hm, rfl, hz⟩ := h
      obtain ⟨n, hn, rfl, hz2⟩ := h2
      exact ⟨m.cmp n, Ev.bind (spec_TermOk_ev ht) (Ev.pos (by simpa using o1) (Ev.bind (spec_TermOk_ev hu) (Ev.pos (by simpa using o2) (Ev.bind (l02Cmp_ev m n) (Ev.now _))))), Ev.bind (impl_TermOk_ev ht) (Ev.pos (by simpa using o1) (Ev.bind (impl_TermOk_ev hu) (Ev.pos (by simpa using o2) (Ev.bind (orderTerms_ev m n) (Ev.now _)))))⟩
    · exact ⟨2, Ev.bind (spec_TermOk_ev ht) (Ev.pos (by simpa using h) (Ev.bind (spec_TermOk_ev hu) (Ev.neg (by simpa using h2) (Ev.now _)))), Ev.bind (impl_TermOk_ev ht) (Ev.pos (by simpa using h) (Ev.bind (impl_TermOk_ev hu) (Ev.neg (by simpa using h2) (Ev.now _))))⟩
  · exact ⟨2, Ev.bind (spec_TermOk_ev ht) (Ev.neg (by simpa using h) (Ev.now _)), Ev.bind (impl_TermOk_ev ht) (Ev.neg (by simpa using h) (Ev.now _))⟩
end Go.Proofs.Ytkpaomcnjnojcaa.X
