/- The program's Tokens and the reference's Tokens answer the same at every string; what they return shares no memory. No condition beyond the row's own. -/
-- OUT PureFnExactTokens
import Derived.Test.YtaoabfhabejmgaaTokens
import Derived.Test.YtaoabfhabejmgaaStr
import Derived.Test.YtaoabfhabejmgaaPu10
namespace Go.Proofs.Ytaoabfhabejmgaa.Pure
open Go.RowKit Go.Proofs.YtaoabfhabejmgaaW.PrintWords Go.Proofs.Ytaoabfhabejmgaa.Base Go.Proofs.Ytaoabfhabejmgaa.X
set_option linter.unusedVariables false
set_option linter.unusedSimpArgs false
theorem FnExactTokens : laws_FnExactTokens.Pure := by
  intro s hs
  refine Ev.ends ?_
  unfold laws_FnExactTokens.f
  refine Ev.ite (fun _ => Ev.now _) (fun hn => ?_)
  obtain ⟨⟨r, b⟩, hr, he, hi⟩ := Tokens_ev s (by omega)
  have hr' : r.length ≤ s.size := hr
  obtain ⟨l', h1, h2, h3⟩ := markStringS_ev r 1 (by omega) (by omega)
  have hq := heldStringS_ev l' 1 (by omega) (by omega) h2
  rw [h1] at hq
  have hb : (b != b) = false := by cases b <;> rfl
  refine Ev.bind he (Ev.bind hi (Ev.bind (eqStringS_refl r (by omega)) (Ev.pos rfl ?_)))
  show Ev (fun k => laws_FnExactTokens.j0 k s r b r (b != b)) true
  rw [hb]
  refine Ev.step (fun k => by rw [laws_FnExactTokens.j0, if_neg (by simp)]) ?_
  refine Ev.bind h3 (Ev.bind hq ?_)
  refine Ev.neg (by omega) ?_
  refine Ev.pos rfl ?_
  refine Ev.bind hi (Ev.bind (eqStringS_refl r (by omega)) (Ev.pos rfl ?_))
  show Ev (fun k => laws_FnExactTokens.j1 k l' (1 + (r.length : Int)) (b != b)) true
  rw [hb]
  refine Ev.step (fun k => by rw [laws_FnExactTokens.j1, if_neg (by simp)]) ?_
  refine Ev.bind hq ?_
  refine Ev.neg (by omega) ?_
  exact Ev.pos rfl (Ev.now _)
end Go.Proofs.Ytaoabfhabejmgaa.Pure
