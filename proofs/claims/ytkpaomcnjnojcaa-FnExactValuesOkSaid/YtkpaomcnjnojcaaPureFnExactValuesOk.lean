/- The program's ValuesOk and the reference's ValuesOk answer the same at every list of bindings, and the argument is left as it was. No condition beyond the row's own. -/
-- OUT PureFnExactValuesOk
import Derived.Test.YtkpaomcnjnojcaaBind
import Derived.Test.YtkpaomcnjnojcaaValues
import Derived.Test.YtkpaomcnjnojcaaX49
import Derived.Test.YtkpaomcnjnojcaaPu7
namespace Go.Proofs.Ytkpaomcnjnojcaa.Pure
open Go.RowKit Go.Proofs.YtkpaomcnjnojcaaW.PrintWords Go.Proofs.Ytkpaomcnjnojcaa.Base Go.Proofs.Ytkpaomcnjnojcaa.X
set_option linter.unusedVariables false
set_option linter.unusedSimpArgs false
theorem FnExactValuesOk : laws_FnExactValuesOk.Pure := by
  intro l hB
  refine Ev.ends ?_
  have hl : l.length ≤ 140737488351232 := by have := hB.1; omega
  unfold laws_FnExactValuesOk.f
  refine szBindingS_guard hl hB.2 (by omega) (by omega) (fun n hn => Ev.pos hn (Ev.now _)) (fun n h0 h1 hl1 hs => Ev.neg (by omega) ?_)
  have hl2 : (l.map convB).length ≤ 1048576 := by rw [List.length_map]; exact hl1
  have hS : Ev (fun k => spec_ValuesOk.f k (l.map convB)) (decide (Vals (l.map convB) ∧ (l.map convB).length ≤ 400)) := by
    unfold spec_ValuesOk.f
    exact Ev.bind (specValues_ev _ hl2 hs) (Ev.now _)
  refine Ev.bind (toBindingS_ev l hl1 hB.2) (Ev.bind hS (Ev.bind (toBindingS_ev l hl1 hB.2) (Ev.bind (implValues_ev _ hl2 hs) ?_)))
  refine Ev.neg (by simp) (Ev.bind (toBindingS_ev l hl1 hB.2) (Ev.bind (eqBindingS_refl _ hl2 (Lg_convB hB.2)) (Ev.pos rfl (Ev.now _))))
end Go.Proofs.Ytkpaomcnjnojcaa.Pure
