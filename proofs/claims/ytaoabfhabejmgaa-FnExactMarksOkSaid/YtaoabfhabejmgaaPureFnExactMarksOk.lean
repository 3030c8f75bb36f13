/- The program's MarksOk and the reference's MarksOk answer the same at every list, and the argument is left as it was. No condition beyond the row's own. -/
-- OUT PureFnExactMarksOk
import Derived.Test.YtaoabfhabejmgaaFill
import Derived.Test.YtaoabfhabejmgaaIsName
import Derived.Test.YtaoabfhabejmgaaX34
import Derived.Test.YtaoabfhabejmgaaX36
import Derived.Test.YtaoabfhabejmgaaX52
import Derived.Test.YtaoabfhabejmgaaPu9
namespace Go.Proofs.Ytaoabfhabejmgaa.X
open Go.RowKit Go.Proofs.YtaoabfhabejmgaaW.PrintWords Go.Proofs.Ytaoabfhabejmgaa.Base
set_option linter.unusedVariables false
set_option linter.unusedSimpArgs false
abbrev LMk := S74
abbrev IMk := S75
def convMk (x : LMk) : IMk := ⟨x.f0, x.f1⟩
theorem rdMk (l : List IMk) (i : Nat) (h : i < l.length) : rd_T75 l (i : Int) = l[i] := by unfold rd_T75; simp [List.getD, h]
theorem rdLMk (l : List LMk) (i : Nat) (h : i < l.length) : rd_T74 l (i : Int) = l[i] := by unfold rd_T74; simp [List.getD, h]
theorem toMarkS_ev (l : List LMk) (hl : l.length ≤ 1048576) : Ev (fun k => laws_toMarkS.f k l) (l.map convMk) := by
  have loop : ∀ (d i : Nat), l.length - i = d → i ≤ l.length → Ev (fun k => laws_toMarkS.l0 k l ((l.map convMk).take i ++ List.replicate (l.length - i) z75) (i : Int)) (l.map convMk) := by
    intro d
    induction d with
    | zero =>
      intro i hi hl'
      exact Ev.eq (Ev.step (f := fun _ => some _) (fun k => by rw [laws_toMarkS.l0, if_neg (by omega)]) (Ev.now _)) (fill_end _ _ _ _ (by omega))
    | succ d ihd =>
      intro i hi hl'
      refine Ev.step (fun k => by rw [laws_toMarkS.l0, if_pos (by omega), if_pos (by omega), rdLMk l i (by omega), fill_len _ _ _ _ hl', w64s (by omega)]) ?_
      refine Ev.bindc (g := laws_toMark.f l[i].f0 l[i].f1) rfl ?_
      refine Ev.pos (by omega) ?_
      have h := ihd (i + 1) (by omega) (by omega)
      rw [← fill_set _ _ _ _ (by omega)] at h
      exact h
  have h0 := loop l.length 0 (by omega) (by omega)
  rw [← fill_start] at h0
  unfold laws_toMarkS.f
  refine Ev.pos (by omega) ?_
  refine Ev.pos (by omega) ?_
  exact h0
theorem eqMarkS_refl (l : List IMk) (hl : l.length ≤ 1048576) : Ev (fun k => laws_eqMarkS.f k l l) true := by
  have loop : ∀ (d i : Nat), l.length - i = d → i ≤ l.length → Ev (fun k => laws_eqMarkS.l0 k l l (i : Int)) true := by
    intro d
    induction d with
    | zero => intro i hi hl'; exact Ev.step (f := fun _ => some true) (fun k => by rw [laws_eqMarkS.l0, if_neg (by omega)]) (Ev.now _)
    | succ d ihd =>
      intro i hi hl'
      refine Ev.step (fun k => by rw [laws_eqMarkS.l0, if_pos (by omega), if_pos (by omega), if_pos (by omega), rdMk l i (by omega), w64s (by omega)]) ?_
      refine Ev.bindc (g := laws_eqMark.f l[i].f0 l[i].f1 l[i].f0 l[i].f1) (a := true) (by unfold laws_eqMark.f; rw [if_pos rfl, if_pos rfl]) ?_
      exact Ev.pos rfl (ihd (i + 1) (by omega) (by omega))
  unfold laws_eqMarkS.f
  exact Ev.pos rfl (loop l.length 0 (by omega) (by omega))
theorem szMarkS_ends (l : List LMk) (hl : l.length ≤ 140737488351232) (hb : ∀ y ∈ l, y.f1.size ≤ 140737488351232) : ∃ r : Int, Ev (fun k => laws_szMarkS.f k l 1048576) r ∧ (0 ≤ r → l.length ≤ 1048576) := by
  have loop : ∀ (d i : Nat) (lf : Int), l.length - i = d → i ≤ l.length → 0 ≤ lf → lf ≤ 1048576 → ∃ r : Int, Ev (fun k => laws_szMarkS.l0 k l lf (i : Int)) r := by
    intro d
    induction d with
    | zero => intro i lf hi hl' _ _; exact ⟨lf, Ev.step (f := fun _ => some lf) (fun k => by rw [laws_szMarkS.l0, if_neg (by omega)]) (Ev.now _)⟩
    | succ d ihd =>
      intro i lf hi hl' g0 g1
      have hy := hb l[i] (List.getElem_mem _)
      have hw : wrap64 (lf - (l[i].f1.size : Int)) = lf - (l[i].f1.size : Int) := w64 (by omega) (by omega)
      by_cases c : lf - (l[i].f1.size : Int) < 0
      · refine ⟨-1, Ev.step (fun k => by rw [laws_szMarkS.l0, if_pos (by omega), if_pos (by omega), rdLMk l i (by omega)]) ?_⟩
        refine Ev.bindc (g := laws_szMark.f l[i].f0 l[i].f1 lf) (a := -1) (by unfold laws_szMark.f; rw [hw, if_pos c]) ?_
        exact Ev.pos (by omega) (Ev.now _)
      · obtain ⟨r, hr⟩ := ihd (i + 1) (lf - (l[i].f1.size : Int)) (by omega) (by omega) (by omega) (by omega)
        refine ⟨r, Ev.step (fun k => by rw [laws_szMarkS.l0, if_pos (by omega), if_pos (by omega), rdLMk l i (by omega), w64s (by omega)]) ?_⟩
        refine Ev.bindc (g := laws_szMark.f l[i].f0 l[i].f1 lf) (a := lf - (l[i].f1.size : Int)) (by unfold laws_szMark.f; rw [hw, if_neg c]) ?_
        exact Ev.neg c hr
  unfold laws_szMarkS.f
  have hw : wrap64 (1048576 - (l.length : Int)) = 1048576 - (l.length : Int) := w64 (by omega) (by omega)
  rw [hw]
  by_cases c : 1048576 - (l.length : Int) < 0
  · exact ⟨-1, Ev.pos c (Ev.now _), fun h => by omega⟩
  · obtain ⟨r, hr⟩ := loop l.length 0 (1048576 - (l.length : Int)) (by omega) (by omega) (by omega) (by omega)
    exact ⟨r, Ev.neg c hr, fun _ => by omega⟩
theorem before_same (a : Int) (s : ByteArray) (b : Int) (t : ByteArray) : ∃ r : Bool, spec_l10Less.f a s b t = some r ∧ impl_beforeMark.f a s b t = some r := by
  unfold spec_l10Less.f impl_beforeMark.f
  by_cases h : a < b
  · exact ⟨true, by rw [if_pos h], by rw [if_pos h]⟩
  · by_cases h2 : a = b
    · exact ⟨_, by rw [if_neg h, if_pos h2], by rw [if_neg h, if_pos h2]⟩
    · exact ⟨false, by rw [if_neg h, if_neg h2], by rw [if_neg h, if_neg h2]⟩
theorem marks_both (l : List IMk) (hl : l.length ≤ 1048576) (hb : ∀ y ∈ l, y.f1.size ≤ 140737488351232) : ∀ (d i : Nat), l.length - i = d → i ≤ l.length → ∃ b : Bool, Ev (fun k => spec_MarksOk.l0 k l l (l.length : Int) (i : Int)) b ∧ Ev (fun k => impl_MarksOk.l0 k l l (l.length : Int) (i : Int)) b := by
  have hin : ∀ c : Int, spec_l01In.f c 0 100000 = some (decide (0 ≤ c ∧ c ≤ 100000)) := by
    intro c
    unfold spec_l01In.f
    by_cases h : c ≥ 0
    · rw [if_pos h]; simp [show 0 ≤ c from h]
    · rw [if_neg h]; simp; omega
  intro d
  induction d with
  | zero => intro i hi hl'; exact ⟨true, Ev.step (f := fun _ => some true) (fun k => by rw [spec_MarksOk.l0, if_neg (by omega)]) (Ev.now _), Ev.step (f := fun _ => some true) (fun k => by rw [impl_MarksOk.l0, if_neg (by omega)]) (Ev.now _)⟩
  | succ d ihd =>
    intro i hi hl'
    obtain ⟨b, hb1, hb2⟩ := ihd (i + 1) (by omega) (by omega)
    have hp : wrap64 ((i : Int) - 1) = (i : Int) - 1 := w64 (by omega) (by omega)
    have hn := hb l[i] (List.getElem_mem _)
    have nS := Ev.of (spec_IsName.mono l[i].f1) (spec_IsName_ev l[i].f1 hn)
    have nI := Ev.of (impl_IsName.mono l[i].f1) (impl_IsName_ev l[i].f1 hn)
    obtain ⟨q, hq1, hq2⟩ := before_same (rd_T75 l ((i : Int) - 1)).f0 (rd_T75 l ((i : Int) - 1)).f1 l[i].f0 l[i].f1
    -- the rest of one round of the reference, behind the order
    have restS : ∀ c1 : Bool, c1 = decide (0 ≤ l[i].f0 ∧ l[i].f0 ≤ 100000) → Ev (fun k => (spec_l01In.f l[i].f0 0 100000).bind fun t => (if t = true then ((spec_IsName.f k l[i].f1).bind fun t => (if t = true then (spec_MarksOk.l0 k l l (l.length : Int) ((i + 1 : Nat) : Int)) else (some false))) else (some false))) (c1 && (isNm l[i].f1 && b)) := by
      intro c1 hc1
      refine Ev.bindc (a := c1) (by rw [hin, hc1]) ?_
      cases c1 with
      | false => exact Ev.neg (by simp) (Ev.now _)
      | true =>
        refine Ev.pos rfl (Ev.bind nS ?_)
        cases isNm l[i].f1 with
        | false => exact Ev.neg (by simp) (Ev.now _)
        | true => exact Ev.pos rfl hb1
    have implS : ∀ c1 : Bool, c1 = decide (0 ≤ l[i].f0 ∧ l[i].f0 ≤ 100000) → ∀ (g : Nat → Option Bool) (r : Bool), Ev g r → Ev (fun k => if l[i].f0 < 0 then (some false) else (if l[i].f0 > 100000 then (some false) else ((impl_IsName.f k l[i].f1).bind fun t => (if t = true then g k else (some false))))) (c1 && (isNm l[i].f1 && r)) := by
      intro c1 hc1 g r hg
      by_cases a0 : l[i].f0 < 0
      · rw [hc1, decide_eq_false (by omega)]
        exact Ev.pos a0 (Ev.now _)
      · by_cases a1 : l[i].f0 > 100000
        · rw [hc1, decide_eq_false (by omega)]
          exact Ev.neg a0 (Ev.pos a1 (Ev.now _))
        · rw [hc1, decide_eq_true (by omega)]
          refine Ev.neg a0 (Ev.neg a1 (Ev.bind nI ?_))
          cases isNm l[i].f1 with
          | false => exact Ev.neg (by simp) (Ev.now _)
          | true => exact Ev.pos rfl hg
    by_cases c3 : (i : Int) > 0
    · refine ⟨decide (0 ≤ l[i].f0 ∧ l[i].f0 ≤ 100000) && (isNm l[i].f1 && (q && b)), ?_, ?_⟩
      · refine Ev.step (fun k => by rw [spec_MarksOk.l0, if_pos (by omega), if_pos (by omega), if_pos (by omega), rdMk l i (by omega), hp, w64s (by omega), if_pos c3, if_pos (by omega), if_pos (by omega)]) ?_
        refine Ev.bindc hq1 ?_
        cases q with
        | false => exact Ev.neg (by simp) (Ev.eq (Ev.now _) (by simp))
        | true => exact Ev.pos rfl (Ev.eq (restS _ rfl) (by simp))
      · refine Ev.step (fun k => by rw [impl_MarksOk.l0, if_pos (by omega), if_pos (by omega), if_pos (by omega), rdMk l i (by omega), hp, w64s (by omega)]) ?_
        refine implS _ rfl _ _ ?_
        refine Ev.pos c3 ?_
        refine Ev.pos (by omega) ?_
        refine Ev.pos (by omega) ?_
        refine Ev.bindc hq2 ?_
        cases q with
        | false => exact Ev.neg (by simp) (Ev.eq (Ev.now _) (by simp))
        | true => exact Ev.pos rfl (Ev.eq hb2 (by simp))
    · refine ⟨decide (0 ≤ l[i].f0 ∧ l[i].f0 ≤ 100000) && (isNm l[i].f1 && b), ?_, ?_⟩
      · refine Ev.step (fun k => by rw [spec_MarksOk.l0, if_pos (by omega), if_pos (by omega), if_pos (by omega), rdMk l i (by omega), hp, w64s (by omega), if_neg c3]) ?_
        exact restS _ rfl
      · refine Ev.step (fun k => by rw [impl_MarksOk.l0, if_pos (by omega), if_pos (by omega), if_pos (by omega), rdMk l i (by omega), hp, w64s (by omega)]) ?_
        exact implS _ rfl _ _ (Ev.neg c3 hb2)
end Go.Proofs.Ytaoabfhabejmgaa.X
namespace Go.Proofs.Ytaoabfhabejmgaa.Pure
open Go.RowKit Go.Proofs.YtaoabfhabejmgaaW.PrintWords Go.Proofs.Ytaoabfhabejmgaa.Base Go.Proofs.Ytaoabfhabejmgaa.X
set_option linter.unusedVariables false
set_option linter.unusedSimpArgs false
theorem FnExactMarksOk : laws_FnExactMarksOk.Pure := by
  intro l hB
  refine Ev.ends ?_
  have hl : l.length ≤ 140737488351232 := by have := hB.1; omega
  have hb : ∀ y ∈ l, y.f1.size ≤ 140737488351232 := fun y hy => (hB.2 y hy).b1
  unfold laws_FnExactMarksOk.f
  obtain ⟨r, hr, hr2⟩ := szMarkS_ends l hl hb
  refine Ev.bind hr (Ev.ite (fun _ => Ev.now _) (fun h => ?_))
  have hl1 := hr2 (by omega)
  have hl2 : (l.map convMk).length ≤ 1048576 := by rw [List.length_map]; exact hl1
  have hb2 : ∀ y ∈ l.map convMk, y.f1.size ≤ 140737488351232 := by
    intro y hy
    obtain ⟨z, hz, rfl⟩ := List.mem_map.1 hy
    exact hb z hz
  obtain ⟨b, h1, h2⟩ := marks_both (l.map convMk) hl2 hb2 _ 0 rfl (by omega)
  have h1' : Ev (fun k => spec_MarksOk.f k (l.map convMk)) b := h1
  have h2' : Ev (fun k => impl_MarksOk.f k (l.map convMk)) b := h2
  refine Ev.bind (toMarkS_ev l hl1) (Ev.bind h1' (Ev.bind (toMarkS_ev l hl1) (Ev.bind h2' ?_)))
  refine Ev.neg (by simp) (Ev.bind (toMarkS_ev l hl1) (Ev.bind (eqMarkS_refl _ hl2) (Ev.pos rfl (Ev.now _))))
end Go.Proofs.Ytaoabfhabejmgaa.Pure
