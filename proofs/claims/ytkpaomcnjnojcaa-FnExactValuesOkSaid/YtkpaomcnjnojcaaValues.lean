/- ValuesOk on small bindings: what the reference and the program answer. -/
import Derived.Test.YtkpaomcnjnojcaaTermOk
import Derived.Test.YtkpaomcnjnojcaaX132
import Derived.Test.YtkpaomcnjnojcaaX51
import Derived.Test.YtkpaomcnjnojcaaX141
namespace Go.Proofs.Ytkpaomcnjnojcaa.X
open Go.RowKit Go.Proofs.YtkpaomcnjnojcaaW.PrintWords Go.Proofs.Ytkpaomcnjnojcaa.Base
set_option linter.unusedVariables false
set_option linter.unusedSimpArgs false
abbrev VBd := S122
theorem rdV (l : List VBd) (i : Nat) (h : i < l.length) : rd_T122 l (i : Int) = l[i] := by unfold rd_T122; simp [List.getD, h]
/-- Binding i stands well: behind a smaller variable, in range, its term valid. -/
def valAt (l : List VBd) (i : Nat) : Prop := ∀ h : i < l.length, (0 ≤ l[i].f0 ∧ l[i].f0 ≤ 100000) ∧ (i = 0 ∨ (rd_T122 l ((i : Int) - 1)).f0 < l[i].f0) ∧ TOk l[i].f1
/-- Valid values, but for their number. -/
def Vals (l : List VBd) : Prop := ∀ i, valAt l i
noncomputable instance (l : List VBd) (i : Nat) : Decidable (∀ j, i ≤ j → valAt l j) := Classical.propDecidable _
noncomputable instance (l : List VBd) : Decidable (Vals l) := Classical.propDecidable _
theorem vals_step (l : List VBd) (i : Nat) (h : valAt l i) : (∀ j, i ≤ j → valAt l j) ↔ (∀ j, i + 1 ≤ j → valAt l j) :=
  ⟨fun g j hj => g j (by omega), fun g j hj => by
    by_cases e : i = j
    · exact e ▸ h
    · exact g j (by omega)⟩
theorem valuesS_loop (l : List VBd) (hl : l.length ≤ 1048576) (hs : ∀ y ∈ l, Sm y.f1) : ∀ (d i : Nat), l.length - i = d → i ≤ l.length → Ev (fun k => spec_l04Values.l0 k l l (l.length : Int) (i : Int)) (decide (∀ j, i ≤ j → valAt l j) && decide (l.length ≤ 400)) := by
  have hin : ∀ c : Int, spec_l01In.f c 0 100000 = some (decide (0 ≤ c ∧ c ≤ 100000)) := by
    intro c
    unfold spec_l01In.f
    by_cases h : c ≥ 0
    · rw [if_pos h]; simp [show 0 ≤ c from h]
    · rw [if_neg h]; simp; omega
  intro d
  induction d with
  | zero =>
    intro i hi hl'
    refine Ev.eq (Ev.step (fun k => by rw [spec_l04Values.l0, if_neg (by omega)]) (Ev.now _)) ?_
    rw [decide_eq_true (show ∀ j, i ≤ j → valAt l j from fun j hj h => by omega), Bool.true_and, decide_eq_decide]
    omega
  | succ d ihd =>
    intro i hi hl'
    have hp : wrap64 ((i : Int) - 1) = (i : Int) - 1 := w64 (by omega) (by omega)
    have ht := spec_TermOk_ev (hs l[i] (List.getElem_mem _))
    have ih := ihd (i + 1) (by omega) (by omega)
    have rest : (i = 0 ∨ (rd_T122 l ((i : Int) - 1)).f0 < l[i].f0) → Ev (fun k => (spec_l01In.f l[i].f0 0 100000).bind fun t => (if t = true then ((spec_TermOk.f k l[i].f1.f0 l[i].f1.f1 l[i].f1.f2 l[i].f1.f3).bind fun t => (if t = true then (spec_l04Values.l0 k l l (l.length : Int) ((i + 1 : Nat) : Int)) else (some false))) else (some false))) (decide (∀ j, i ≤ j → valAt l j) && decide (l.length ≤ 400)) := by
      intro ho
      refine Ev.bindc (hin _) ?_
      by_cases c1 : 0 ≤ l[i].f0 ∧ l[i].f0 ≤ 100000
      · refine Ev.pos (decide_eq_true c1) (Ev.bind ht ?_)
        by_cases c2 : TOk l[i].f1
        · refine Ev.pos (decide_eq_true c2) (Ev.eq ih ?_)
          rw [decide_eq_decide.2 (vals_step l i (fun _ => ⟨c1, ho, c2⟩))]
        · refine Ev.neg (by simpa using c2) (Ev.eq (Ev.now _) ?_)
          rw [decide_eq_false (fun g => c2 (g i (Nat.le_refl _) (by omega)).2.2), Bool.false_and]
      · refine Ev.neg (by simpa using c1) (Ev.eq (Ev.now _) ?_)
        rw [decide_eq_false (fun g => c1 (g i (Nat.le_refl _) (by omega)).1), Bool.false_and]
    by_cases c3 : (i : Int) > 0
    · refine Ev.step (fun k => by rw [spec_l04Values.l0, if_pos (by omega), if_pos (by omega), if_pos (by omega), rdV l i (by omega), hp, w64s (by omega), if_pos c3, if_pos (by omega), if_pos (by omega)]) ?_
      refine Ev.ite (fun c4 => Ev.eq (Ev.now _) ?_) (fun c4 => rest (.inr (by omega)))
      rw [decide_eq_false (fun g => by
        have := (g i (Nat.le_refl _) (by omega)).2.1
        omega), Bool.false_and]
    · refine Ev.step (fun k => by rw [spec_l04Values.l0, if_pos (by omega), if_pos (by omega), if_pos (by omega), rdV l i (by omega), hp, w64s (by omega), if_neg c3]) ?_
      exact rest (.inl (by omega))
theorem specValues_ev (l : List VBd) (hl : l.length ≤ 1048576) (hs : ∀ y ∈ l, Sm y.f1) : Ev (fun k => spec_l04Values.f k l) (decide (Vals l ∧ l.length ≤ 400)) := by
  refine Ev.eq (valuesS_loop l hl hs l.length 0 (by omega) (by omega)) ?_
  rw [Bool.eq_iff_iff]
  simp only [Bool.and_eq_true, decide_eq_true_eq]
  exact ⟨fun h => ⟨fun i => h.1 i (by omega), h.2⟩, fun h => ⟨fun i _ => h.1 i, h.2⟩⟩
theorem implValues_ev (l : List VBd) (hl : l.length ≤ 1048576) (hs : ∀ y ∈ l, Sm y.f1) : Ev (fun k => impl_ValuesOk.f k l) (decide (Vals l ∧ l.length ≤ 400)) := by
  have loop : ∀ (d i : Nat), l.length - i = d → i ≤ l.length → Ev (fun k => impl_ValuesOk.l0 k l l (l.length : Int) (i : Int)) (decide (∀ j, i ≤ j → valAt l j)) := by
    intro d
    induction d with
    | zero =>
      intro i hi hl'
      refine Ev.eq (Ev.step (fun k => by rw [impl_ValuesOk.l0, if_neg (by omega)]) (Ev.now _)) ?_
      rw [decide_eq_true (show ∀ j, i ≤ j → valAt l j from fun j hj h => by omega)]
    | succ d ihd =>
      intro i hi hl'
      have hp : wrap64 ((i : Int) - 1) = (i : Int) - 1 := w64 (by omega) (by omega)
      have ht := impl_TermOk_ev (hs l[i] (List.getElem_mem _))
      have ih := ihd (i + 1) (by omega) (by omega)
      by_cases c1 : 0 ≤ l[i].f0 ∧ l[i].f0 ≤ 100000
      · have rest : (i = 0 ∨ (rd_T122 l ((i : Int) - 1)).f0 < l[i].f0) → Ev (fun k => (impl_TermOk.f k l[i].f1.f0 l[i].f1.f1 l[i].f1.f2 l[i].f1.f3).bind fun t => (if t = true then (impl_ValuesOk.l0 k l l (l.length : Int) ((i + 1 : Nat) : Int)) else (some false))) (decide (∀ j, i ≤ j → valAt l j)) := by
          intro ho
          refine Ev.bind ht ?_
          by_cases c2 : TOk l[i].f1
          · refine Ev.pos (decide_eq_true c2) (Ev.eq ih ?_)
            rw [decide_eq_decide.2 (vals_step l i (fun _ => ⟨c1, ho, c2⟩))]
          · refine Ev.neg (by simpa using c2) (Ev.eq (Ev.now _) ?_)
            rw [decide_eq_false (fun g => c2 (g i (Nat.le_refl _) (by omega)).2.2)]
        refine Ev.step (fun k => by rw [impl_ValuesOk.l0, if_pos (by omega), if_pos (by omega), if_pos (by omega), rdV l i (by omega), hp, w64s (by omega), if_neg (show ¬ l[i].f0 < 0 by omega), if_neg (show ¬ l[i].f0 > 100000 by omega)]) ?_
        refine Ev.ite (fun c3 => Ev.pos (by omega) (Ev.pos (by omega) (Ev.ite (fun c4 => Ev.eq (Ev.now _) ?_) (fun c4 => rest (.inr (by omega)))))) (fun c3 => rest (.inl (by omega)))
        rw [decide_eq_false (fun g => by
          have := (g i (Nat.le_refl _) (by omega)).2.1
          omega)]
      · have hf : decide (∀ j, i ≤ j → valAt l j) = false := decide_eq_false (fun g => c1 (g i (Nat.le_refl _) (by omega)).1)
        rw [hf]
        refine Ev.step (fun k => by rw [impl_ValuesOk.l0, if_pos (by omega), if_pos (by omega), if_pos (by omega), rdV l i (by omega)]) ?_
        exact Ev.ite (fun _ => Ev.now _) (fun _ => Ev.pos (by omega) (Ev.now _))
  unfold impl_ValuesOk.f
  refine Ev.ite (fun c => Ev.eq (Ev.now _) ?_) (fun c => Ev.eq (loop l.length 0 (by omega) (by omega)) ?_)
  · rw [decide_eq_false (fun h => by omega)]
  · rw [decide_eq_decide]
    exact ⟨fun h => ⟨fun i => h i (by omega), by omega⟩, fun h i _ => h.1 i⟩
end Go.Proofs.Ytkpaomcnjnojcaa.X
