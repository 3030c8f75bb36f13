/- Universes: the reference's and the program's answers are one. -/
import Derived.Test.YtkpaomcnjnojcaaGround
import Derived.Test.YtkpaomcnjnojcaaOrderS
import Derived.Test.YtkpaomcnjnojcaaX63
import Derived.Test.YtkpaomcnjnojcaaX64
import Derived.Test.YtkpaomcnjnojcaaX141
namespace Go.Proofs.Ytkpaomcnjnojcaa.X
open Go.RowKit Go.Proofs.YtkpaomcnjnojcaaW.PrintWords Go.Proofs.Ytkpaomcnjnojcaa.Base
set_option linter.unusedVariables false
set_option linter.unusedSimpArgs false
theorem rdU (l : List ITm) (i : Nat) (h : i < l.length) : rd_T29 l (i : Int) = l[i] := by unfold rd_T29; simp [List.getD, h]
theorem universe_loop (l : List ITm) (hl : l.length ≤ 1048576) (hs : ∀ y ∈ l, Sm y) : ∀ (d i : Nat), l.length - i = d → i ≤ l.length → (i = 0 ∨ ∃ (m : Tm) (h : i - 1 < l.length), m.enc = l[i - 1]) →
    ∃ b : Bool, Ev (fun k => spec_UniverseOk.l0 k l l (l.length : Int) (i : Int)) (b && decide (1 ≤ l.length ∧ l.length ≤ 8)) ∧ Ev (fun k => impl_UniverseOk.l0 k l l (l.length : Int) (i : Int)) b := by
  have hin : spec_l01In.f (l.length : Int) 1 8 = some (decide (1 ≤ l.length ∧ l.length ≤ 8)) := by
    unfold spec_l01In.f
    by_cases h : (l.length : Int) ≥ 1
    · rw [if_pos h]
      congr 1
      rw [decide_eq_decide]
      omega
    · rw [if_neg h, eq_comm]
      congr 1
      rw [decide_eq_false_iff_not]
      omega
  intro d
  induction d with
  | zero =>
    intro i hi hl' _
    refine ⟨true, Ev.step (fun k => by rw [spec_UniverseOk.l0, if_neg (by omega)]) (Ev.bindc hin (Ev.eq (Ev.now _) (by simp))), Ev.step (f := fun _ => some true) (fun k => by rw [impl_UniverseOk.l0, if_neg (by omega)]) (Ev.now _)⟩
  | succ d ihd =>
    intro i hi hl' hp
    have hil : i < l.length := by omega
    have hp1 : wrap64 ((i : Int) - 1) = (i : Int) - 1 := w64 (by omega) (by omega)
    obtain ⟨g, e1, e2, hg⟩ := IsGround_ev (hs l[i] (List.getElem_mem _))
    have s1 : ∀ k, spec_UniverseOk.l0 (k + 1) l l (l.length : Int) (i : Int) = (spec_IsGround.f k l[i].f0 l[i].f1 l[i].f2 l[i].f3).bind fun t => (if t = true then (if (i : Int) > 0 then (if 0 ≤ (i : Int) - 1 then (if (i : Int) - 1 < (l.length : Int) then ((spec_l02Cmp.f k (rd_T29 l ((i : Int) - 1)).f0 (rd_T29 l ((i : Int) - 1)).f1 (rd_T29 l ((i : Int) - 1)).f2 (rd_T29 l ((i : Int) - 1)).f3 l[i].f0 l[i].f1 l[i].f2 l[i].f3).bind fun t2 => (if t2 ≥ 0 then (some false) else (spec_UniverseOk.l0 k l l (l.length : Int) ((i + 1 : Nat) : Int)))) else none) else none) else (spec_UniverseOk.l0 k l l (l.length : Int) ((i + 1 : Nat) : Int))) else (some false)) := by
      intro k
      rw [spec_UniverseOk.l0, if_pos (by omega), if_pos (by omega), if_pos (by omega), rdU l i (by omega), hp1, w64s (by omega)]
    have s2 : ∀ k, impl_UniverseOk.l0 (k + 1) l l (l.length : Int) (i : Int) = (impl_IsGround.f k l[i].f0 l[i].f1 l[i].f2 l[i].f3).bind fun t => (if t = true then (if (i : Int) > 0 then (if 0 ≤ (i : Int) - 1 then (if (i : Int) - 1 < (l.length : Int) then ((impl_orderTerms.f k (rd_T29 l ((i : Int) - 1)).f0 (rd_T29 l ((i : Int) - 1)).f1 (rd_T29 l ((i : Int) - 1)).f2 (rd_T29 l ((i : Int) - 1)).f3 l[i].f0 l[i].f1 l[i].f2 l[i].f3).bind fun t2 => (if t2 ≥ 0 then (some false) else (impl_UniverseOk.l0 k l l (l.length : Int) ((i + 1 : Nat) : Int)))) else none) else none) else (impl_UniverseOk.l0 k l l (l.length : Int) ((i + 1 : Nat) : Int))) else (some false)) := by
      intro k
      rw [impl_UniverseOk.l0, if_pos (by omega), if_pos (by omega), if_pos (by omega), rdU l i (by omega), hp1, w64s (by omega)]
    cases hgb : g with
    | false =>
      rw [hgb] at e1 e2
      exact ⟨false, Ev.step s1 (Ev.bind e1 (Ev.neg (by simp) (Ev.eq (Ev.now _) (by simp)))), Ev.step s2 (Ev.bind e2 (Ev.neg (by simp) (Ev.now _)))⟩
    | true =>
      rw [hgb] at e1 e2
      obtain ⟨m, hm, he, hz, hq⟩ := hg.1 hgb
      clear hg hq hz hm
      obtain ⟨b, ih1, ih2⟩ := ihd (i + 1) (by omega) (by omega) (.inr ⟨m, by omega, by simpa using he⟩)
      by_cases c : (i : Int) > 0
      · rcases hp with hp | ⟨m1, hb1, hm1⟩
        · omega
        have hr : rd_T29 l ((i : Int) - 1) = m1.enc := by
          rw [show (i : Int) - 1 = ((i - 1 : Nat) : Int) from by omega, rdU l (i - 1) hb1, hm1]
        have o1 := l02Cmp_ev m1 m
        have o2 := orderTerms_ev m1 m
        rw [he] at o1 o2
        by_cases c2 : m1.cmp m ≥ 0
        · refine ⟨false, Ev.step s1 (Ev.bind e1 (Ev.pos rfl (Ev.pos c (Ev.pos (by omega) (Ev.pos (by omega) ?_))))), Ev.step s2 (Ev.bind e2 (Ev.pos rfl (Ev.pos c (Ev.pos (by omega) (Ev.pos (by omega) ?_)))))⟩
          · rw [hr]; exact Ev.bind o1 (Ev.pos c2 (Ev.eq (Ev.now _) (by simp)))
          · rw [hr]; exact Ev.bind o2 (Ev.pos c2 (Ev.now _))
        · refine ⟨b, Ev.step s1 (Ev.bind e1 (Ev.pos rfl (Ev.pos c (Ev.pos (by omega) (Ev.pos (by omega) ?_))))), Ev.step s2 (Ev.bind e2 (Ev.pos rfl (Ev.pos c (Ev.pos (by omega) (Ev.pos (by omega) ?_)))))⟩
          · rw [hr]; exact Ev.bind o1 (Ev.neg c2 ih1)
          · rw [hr]; exact Ev.bind o2 (Ev.neg c2 ih2)
      · exact ⟨b, Ev.step s1 (Ev.bind e1 (Ev.pos rfl (Ev.neg c ih1))), Ev.step s2 (Ev.bind e2 (Ev.pos rfl (Ev.neg c ih2)))⟩
theorem UniverseOk_ev (l : List ITm) (hl : l.length ≤ 1048576) (hs : ∀ y ∈ l, Sm y) : ∃ b : Bool, Ev (fun k => spec_UniverseOk.f k l) b ∧ Ev (fun k => impl_UniverseOk.f k l) b := by
  obtain ⟨b, h1, h2⟩ := universe_loop l hl hs l.length 0 (by omega) (by omega) (.inl rfl)
  refine ⟨b && decide (1 ≤ l.length ∧ l.length ≤ 8), h1, ?_⟩
  unfold impl_UniverseOk.f
  by_cases c : (l.length : Int) < 1
  · refine Ev.pos c (Ev.step (f := fun _ => some false) (fun k => by rw [impl_UniverseOk.j0, if_pos rfl]) (Ev.eq (Ev.now _) ?_))
    rw [decide_eq_false (by omega), Bool.and_false]
  · refine Ev.neg c ?_
    by_cases c2 : (l.length : Int) > 8
    · refine Ev.step (f := fun _ => some false) (fun k => by rw [impl_UniverseOk.j0, if_pos (by simpa using c2)]) (Ev.eq (Ev.now _) ?_)
      rw [decide_eq_false (by omega), Bool.and_false]
    · refine Ev.step (fun k => by rw [impl_UniverseOk.j0, if_neg (by simpa using c2)]; rfl) (Ev.eq h2 ?_)
      rw [decide_eq_true (by omega), Bool.and_true]
end Go.Proofs.Ytkpaomcnjnojcaa.X
