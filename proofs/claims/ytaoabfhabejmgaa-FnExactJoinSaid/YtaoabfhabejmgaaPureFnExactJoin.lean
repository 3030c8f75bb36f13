/- The program's Join and the reference's Join answer the same at every list and separator, and the list is left as it was. No condition beyond the row's own. -/
-- OUT PureFnExactJoin
import Derived.Test.YtaoabfhabejmgaaJoin
import Derived.Test.YtaoabfhabejmgaaStr
import Derived.Test.YtaoabfhabejmgaaX19
import Derived.Test.YtaoabfhabejmgaaX21
import Derived.Test.YtaoabfhabejmgaaPu6
namespace Go.Proofs.Ytaoabfhabejmgaa.X
open Go.RowKit Go.Proofs.YtaoabfhabejmgaaW.PrintWords Go.Proofs.Ytaoabfhabejmgaa.Base
set_option linter.unusedVariables false
set_option linter.unusedSimpArgs false
theorem toStringS_ev (l : List ByteArray) (hl : l.length ≤ 1048576) : Ev (fun k => laws_toStringS.f k l) l := by
  have loop : ∀ (d i : Nat), l.length - i = d → i ≤ l.length → Ev (fun k => laws_toStringS.l0 k l ((l.map id).take i ++ List.replicate (l.length - i) (⟨#[]⟩ : ByteArray)) (i : Int)) (l.map id) := by
    intro d
    induction d with
    | zero =>
      intro i hi hl'
      exact Ev.eq (Ev.step (f := fun _ => some _) (fun k => by rw [laws_toStringS.l0, if_neg (by omega)]) (Ev.now _)) (fill_end _ _ _ _ (by omega))
    | succ d ihd =>
      intro i hi hl'
      refine Ev.step (fun k => by rw [laws_toStringS.l0, if_pos (by omega), if_pos (by omega), rdOf_at _ l i (by omega), fill_len _ _ _ _ hl', w64s (by omega)]) ?_
      refine Ev.pos (by omega) ?_
      have h := ihd (i + 1) (by omega) (by omega)
      rw [← fill_set _ _ _ _ (by omega)] at h
      exact h
  have h0 := loop l.length 0 (by omega) (by omega)
  rw [← fill_start, List.map_id] at h0
  unfold laws_toStringS.f
  refine Ev.pos (by omega) ?_
  refine Ev.pos (by omega) ?_
  exact h0
theorem szStringS_ends (l : List ByteArray) (hl : l.length ≤ 140737488351232) (hb : ∀ y ∈ l, y.size ≤ 140737488351232) : ∃ r : Int, Ev (fun k => laws_szStringS.f k l 1048576) r ∧ (0 ≤ r → l.length ≤ 1048576 ∧ sumS l ≤ 1048576) := by
  have loop : ∀ (d i : Nat) (lf : Int), l.length - i = d → i ≤ l.length → 0 ≤ lf → lf ≤ 1048576 → ∃ r : Int, Ev (fun k => laws_szStringS.l0 k l lf (i : Int)) r ∧ (0 ≤ r → (sumS (l.drop i) : Int) ≤ lf) := by
    intro d
    induction d with
    | zero =>
      intro i lf hi hl' _ _
      exact ⟨lf, Ev.step (f := fun _ => some lf) (fun k => by rw [laws_szStringS.l0, if_neg (by omega)]) (Ev.now _), fun _ => by rw [List.drop_of_length_le (by omega)]; simp only [sumS]; omega⟩
    | succ d ihd =>
      intro i lf hi hl' g0 g1
      have hy := hb l[i] (List.getElem_mem _)
      have hw : wrap64 (lf - (l[i].size : Int)) = lf - (l[i].size : Int) := w64 (by omega) (by omega)
      by_cases c : lf - (l[i].size : Int) < 0
      · exact ⟨-1, Ev.step (f := fun _ => some (-1)) (fun k => by rw [laws_szStringS.l0, if_pos (by omega), if_pos (by omega), rdOf_at _ l i (by omega), hw, if_pos c]) (Ev.now _), fun h => by omega⟩
      · obtain ⟨r, hr, hr2⟩ := ihd (i + 1) (lf - (l[i].size : Int)) (by omega) (by omega) (by omega) (by omega)
        exact ⟨r, Ev.step (fun k => by rw [laws_szStringS.l0, if_pos (by omega), if_pos (by omega), rdOf_at _ l i (by omega), hw, if_neg c, w64s (by omega)]) hr, fun h => by have := hr2 h; rw [sumS_drop l i (by omega)]; omega⟩
  unfold laws_szStringS.f
  have hw : wrap64 (1048576 - (l.length : Int)) = 1048576 - (l.length : Int) := w64 (by omega) (by omega)
  rw [hw]
  by_cases c : 1048576 - (l.length : Int) < 0
  · exact ⟨-1, Ev.pos c (Ev.now _), fun h => by omega⟩
  · obtain ⟨r, hr, hr2⟩ := loop l.length 0 (1048576 - (l.length : Int)) (by omega) (by omega) (by omega) (by omega)
    exact ⟨r, Ev.neg c hr, fun h => by have := hr2 h; rw [List.drop_zero] at this; omega⟩
end Go.Proofs.Ytaoabfhabejmgaa.X
namespace Go.Proofs.Ytaoabfhabejmgaa.Pure
open Go.RowKit Go.Proofs.YtaoabfhabejmgaaW.PrintWords Go.Proofs.Ytaoabfhabejmgaa.Base Go.Proofs.Ytaoabfhabejmgaa.X
set_option linter.unusedVariables false
set_option linter.unusedSimpArgs false
theorem FnExactJoin : laws_FnExactJoin.Pure := by
  intro l by_ hB hb
  refine Ev.ends ?_
  have hl : l.length ≤ 140737488351232 := by have := hB.1; omega
  unfold laws_FnExactJoin.f
  refine Ev.ite (fun _ => Ev.now _) (fun hby => ?_)
  obtain ⟨r, hr, hr2⟩ := szStringS_ends l hl hB.2
  refine Ev.bind hr (Ev.ite (fun _ => Ev.now _) (fun h => ?_))
  obtain ⟨hl1, hs1⟩ := hr2 (by omega)
  obtain ⟨b, h1, h2⟩ := Join_both l by_ hl1 hs1 (by omega)
  refine Ev.bind (toStringS_ev l hl1) (Ev.bind h1 (Ev.bind (toStringS_ev l hl1) (Ev.bind h2 ?_)))
  refine Ev.pos rfl (Ev.bind (toStringS_ev l hl1) (Ev.bind (eqStringS_refl l (by omega)) (Ev.pos rfl (Ev.now _))))
end Go.Proofs.Ytaoabfhabejmgaa.Pure
