/- The program's KindsOk and the reference's KindsOk answer the same at every list, and the argument is left as it was. No condition beyond the row's own. -/
-- OUT PureFnExactKindsOk
import Derived.Test.YtaoabfhabejmgaaFill
import Derived.Test.YtaoabfhabejmgaaX25
import Derived.Test.YtaoabfhabejmgaaX27
import Derived.Test.YtaoabfhabejmgaaX52
import Derived.Test.YtaoabfhabejmgaaPu7
namespace Go.Proofs.Ytaoabfhabejmgaa.X
open Go.RowKit Go.Proofs.YtaoabfhabejmgaaW.PrintWords Go.Proofs.Ytaoabfhabejmgaa.Base
set_option linter.unusedVariables false
set_option linter.unusedSimpArgs false
abbrev LVK := S69
abbrev IVK := S67
def convVK (x : LVK) : IVK := ⟨x.f0, x.f1⟩
theorem toVarKindS_ev (l : List LVK) (hl : l.length ≤ 1048576) : Ev (fun k => laws_toVarKindS.f k l) (l.map convVK) := by
  have loop : ∀ (d i : Nat), l.length - i = d → i ≤ l.length → Ev (fun k => laws_toVarKindS.l0 k l ((l.map convVK).take i ++ List.replicate (l.length - i) z67) (i : Int)) (l.map convVK) := by
    intro d
    induction d with
    | zero =>
      intro i hi hl'
      exact Ev.eq (Ev.step (f := fun _ => some _) (fun k => by rw [laws_toVarKindS.l0, if_neg (by omega)]) (Ev.now _)) (fill_end _ _ _ _ (by omega))
    | succ d ihd =>
      intro i hi hl'
      have hr : rd_T69 l (i : Int) = l[i] := by unfold rd_T69; simp [List.getD, show i < l.length by omega]
      refine Ev.step (fun k => by rw [laws_toVarKindS.l0, if_pos (by omega), if_pos (by omega), hr, fill_len _ _ _ _ hl', w64s (by omega)]) ?_
      refine Ev.bindc (g := laws_toVarKind.f l[i].f0 l[i].f1) rfl ?_
      refine Ev.pos (by omega) ?_
      have h := ihd (i + 1) (by omega) (by omega)
      rw [← fill_set _ _ _ _ (by omega)] at h
      exact h
  have h0 := loop l.length 0 (by omega) (by omega)
  rw [← fill_start] at h0
  unfold laws_toVarKindS.f
  refine Ev.pos (by omega) ?_
  refine Ev.pos (by omega) ?_
  exact h0
theorem rdVK (l : List IVK) (i : Nat) (h : i < l.length) : rd_T67 l (i : Int) = l[i] := by unfold rd_T67; simp [List.getD, h]
theorem eqVarKindS_refl (l : List IVK) (hl : l.length ≤ 1048576) : Ev (fun k => laws_eqVarKindS.f k l l) true := by
  have loop : ∀ (d i : Nat), l.length - i = d → i ≤ l.length → Ev (fun k => laws_eqVarKindS.l0 k l l (i : Int)) true := by
    intro d
    induction d with
    | zero => intro i hi hl'; exact Ev.step (f := fun _ => some true) (fun k => by rw [laws_eqVarKindS.l0, if_neg (by omega)]) (Ev.now _)
    | succ d ihd =>
      intro i hi hl'
      refine Ev.step (fun k => by rw [laws_eqVarKindS.l0, if_pos (by omega), if_pos (by omega), if_pos (by omega), rdVK l i (by omega), w64s (by omega)]) ?_
      refine Ev.bindc (g := laws_eqVarKind.f l[i].f0 l[i].f1 l[i].f0 l[i].f1) (a := true) (by unfold laws_eqVarKind.f; rw [if_pos rfl, if_pos rfl]) ?_
      exact Ev.pos rfl (ihd (i + 1) (by omega) (by omega))
  unfold laws_eqVarKindS.f
  exact Ev.pos rfl (loop l.length 0 (by omega) (by omega))
theorem kinds_both (l : List IVK) (hl : l.length ≤ 1048576) : ∀ (d i : Nat), l.length - i = d → i ≤ l.length → ∃ b : Bool, Ev (fun k => spec_KindsOk.l0 k l l (l.length : Int) (i : Int)) b ∧ Ev (fun k => impl_KindsOk.l0 k l l (l.length : Int) (i : Int)) b := by
  have hin : ∀ c : Int, spec_l01In.f c 0 100000 = some (decide (0 ≤ c ∧ c ≤ 100000)) := by
    intro c
    unfold spec_l01In.f
    by_cases h : c ≥ 0
    · rw [if_pos h]; simp [show 0 ≤ c from h]
    · rw [if_neg h]; simp; omega
  intro d
  induction d with
  | zero => intro i hi hl'; exact ⟨true, Ev.step (f := fun _ => some true) (fun k => by rw [spec_KindsOk.l0, if_neg (by omega)]) (Ev.now _), Ev.step (f := fun _ => some true) (fun k => by rw [impl_KindsOk.l0, if_neg (by omega)]) (Ev.now _)⟩
  | succ d ihd =>
    intro i hi hl'
    obtain ⟨b, hb1, hb2⟩ := ihd (i + 1) (by omega) (by omega)
    have hp : wrap64 ((i : Int) - 1) = (i : Int) - 1 := w64 (by omega) (by omega)
    have hS : ∀ r, (∀ {n : Int}, n = n) → Ev (fun k => if (i : Int) > 0 then (if 0 ≤ (i : Int) - 1 then (if (i : Int) - 1 < (l.length : Int) then (if (rd_T67 l ((i : Int) - 1)).f0 ≥ l[i].f0 then (some false) else ((spec_l01In.f l[i].f0 0 100000).bind fun t => (if t = true then (if l[i].f1 = 2 then (spec_KindsOk.l0 k l l (l.length : Int) ((i + 1 : Nat) : Int)) else (if l[i].f1 = 3 then (spec_KindsOk.l0 k l l (l.length : Int) ((i + 1 : Nat) : Int)) else (some false))) else (some false)))) else (none)) else (none)) else ((spec_l01In.f l[i].f0 0 100000).bind fun t => (if t = true then (if l[i].f1 = 2 then (spec_KindsOk.l0 k l l (l.length : Int) ((i + 1 : Nat) : Int)) else (if l[i].f1 = 3 then (spec_KindsOk.l0 k l l (l.length : Int) ((i + 1 : Nat) : Int)) else (some false))) else (some false)))) r → Ev (fun k => spec_KindsOk.l0 k l l (l.length : Int) (i : Int)) r := fun r _ h =>
      Ev.step (fun k => by rw [spec_KindsOk.l0, if_pos (by omega), if_pos (by omega), if_pos (by omega), rdVK l i (by omega), hp, w64s (by omega)]) h
    have hI : ∀ r, Ev (fun k => if l[i].f0 < 0 then (some false) else (if l[i].f0 > 100000 then (some false) else (if l[i].f1 = 2 then (if (i : Int) > 0 then (if 0 ≤ (i : Int) - 1 then (if (i : Int) - 1 < (l.length : Int) then (if (rd_T67 l ((i : Int) - 1)).f0 ≥ l[i].f0 then (some false) else (impl_KindsOk.l0 k l l (l.length : Int) ((i + 1 : Nat) : Int))) else (none)) else (none)) else (impl_KindsOk.l0 k l l (l.length : Int) ((i + 1 : Nat) : Int))) else (if l[i].f1 = 3 then (if (i : Int) > 0 then (if 0 ≤ (i : Int) - 1 then (if (i : Int) - 1 < (l.length : Int) then (if (rd_T67 l ((i : Int) - 1)).f0 ≥ l[i].f0 then (some false) else (impl_KindsOk.l0 k l l (l.length : Int) ((i + 1 : Nat) : Int))) else (none)) else (none)) else (impl_KindsOk.l0 k l l (l.length : Int) ((i + 1 : Nat) : Int))) else (some false))))) r → Ev (fun k => impl_KindsOk.l0 k l l (l.length : Int) (i : Int)) r := fun r h =>
      Ev.step (fun k => by rw [impl_KindsOk.l0, if_pos (by omega), if_pos (by omega), if_pos (by omega), rdVK l i (by omega), hp, w64s (by omega)]) h
    by_cases c1 : 0 ≤ l[i].f0 ∧ l[i].f0 ≤ 100000
    · have hin' : spec_l01In.f l[i].f0 0 100000 = some true := by rw [hin]; simp; exact c1
      by_cases c2 : l[i].f1 = 2 ∨ l[i].f1 = 3
      · by_cases c3 : (i : Int) > 0
        · by_cases c4 : (rd_T67 l ((i : Int) - 1)).f0 ≥ l[i].f0
          · refine ⟨false, hS _ rfl ?_, hI _ ?_⟩
            · exact Ev.pos c3 (Ev.pos (by omega) (Ev.pos (by omega) (Ev.pos c4 (Ev.now _))))
            · refine Ev.neg (by omega) ?_
              refine Ev.neg (by omega) ?_
              exact Ev.ite (fun _ => Ev.pos c3 (Ev.pos (by omega) (Ev.pos (by omega) (Ev.pos c4 (Ev.now _))))) (fun _ => Ev.pos (by omega) (Ev.pos c3 (Ev.pos (by omega) (Ev.pos (by omega) (Ev.pos c4 (Ev.now _))))))
          · refine ⟨b, hS _ rfl ?_, hI _ ?_⟩
            · refine Ev.pos c3 (Ev.pos (by omega) (Ev.pos (by omega) (Ev.neg c4 ?_)))
              refine Ev.bindc hin' (Ev.pos rfl ?_)
              exact Ev.ite (fun _ => hb1) (fun _ => Ev.pos (by omega) hb1)
            · refine Ev.neg (by omega) ?_
              refine Ev.neg (by omega) ?_
              exact Ev.ite (fun _ => Ev.pos c3 (Ev.pos (by omega) (Ev.pos (by omega) (Ev.neg c4 hb2)))) (fun _ => Ev.pos (by omega) (Ev.pos c3 (Ev.pos (by omega) (Ev.pos (by omega) (Ev.neg c4 hb2)))))
        · refine ⟨b, hS _ rfl ?_, hI _ ?_⟩
          · refine Ev.neg c3 (Ev.bindc hin' (Ev.pos rfl ?_))
            exact Ev.ite (fun _ => hb1) (fun _ => Ev.pos (by omega) hb1)
          · refine Ev.neg (by omega) ?_
            refine Ev.neg (by omega) ?_
            exact Ev.ite (fun _ => Ev.neg c3 hb2) (fun _ => Ev.pos (by omega) (Ev.neg c3 hb2))
      · have bad : Ev (fun k => ((spec_l01In.f l[i].f0 0 100000).bind fun t => (if t = true then (if l[i].f1 = 2 then (spec_KindsOk.l0 k l l (l.length : Int) ((i + 1 : Nat) : Int)) else (if l[i].f1 = 3 then (spec_KindsOk.l0 k l l (l.length : Int) ((i + 1 : Nat) : Int)) else (some false))) else (some false)))) false := by
          refine Ev.bindc hin' (Ev.pos rfl ?_)
          exact Ev.neg (by omega) (Ev.neg (by omega) (Ev.now _))
        refine ⟨false, hS _ rfl ?_, hI _ ?_⟩
        · exact Ev.ite (fun _ => Ev.pos (by omega) (Ev.pos (by omega) (Ev.ite (fun _ => Ev.now _) (fun _ => bad)))) (fun _ => bad)
        · exact Ev.neg (by omega) (Ev.neg (by omega) (Ev.neg (by omega) (Ev.neg (by omega) (Ev.now _))))
    · have bad : Ev (fun k => ((spec_l01In.f l[i].f0 0 100000).bind fun t => (if t = true then (if l[i].f1 = 2 then (spec_KindsOk.l0 k l l (l.length : Int) ((i + 1 : Nat) : Int)) else (if l[i].f1 = 3 then (spec_KindsOk.l0 k l l (l.length : Int) ((i + 1 : Nat) : Int)) else (some false))) else (some false)))) false :=
        Ev.bindc (a := false) (by rw [hin]; simp; omega) (Ev.neg (by simp) (Ev.now _))
      refine ⟨false, hS _ rfl ?_, hI _ ?_⟩
      · exact Ev.ite (fun _ => Ev.pos (by omega) (Ev.pos (by omega) (Ev.ite (fun _ => Ev.now _) (fun _ => bad)))) (fun _ => bad)
      · exact Ev.ite (fun _ => Ev.now _) (fun _ => Ev.pos (by omega) (Ev.now _))
end Go.Proofs.Ytaoabfhabejmgaa.X
namespace Go.Proofs.Ytaoabfhabejmgaa.Pure
open Go.RowKit Go.Proofs.YtaoabfhabejmgaaW.PrintWords Go.Proofs.Ytaoabfhabejmgaa.Base Go.Proofs.Ytaoabfhabejmgaa.X
set_option linter.unusedVariables false
set_option linter.unusedSimpArgs false
theorem FnExactKindsOk : laws_FnExactKindsOk.Pure := by
  intro l hB
  refine Ev.ends ?_
  have hl : l.length ≤ 140737488351232 := by have := hB.1; omega
  unfold laws_FnExactKindsOk.f laws_szVarKindS.f
  by_cases h : wrap64 (1048576 - (l.length : Int)) < 0
  · exact Ev.bindc (if_pos h) (Ev.pos (by omega) (Ev.now _))
  · refine Ev.bindc (if_neg h) (Ev.neg h ?_)
    rw [w64 (by omega) (by omega)] at h
    have hl2 : (l.map convVK).length ≤ 1048576 := by rw [List.length_map]; omega
    obtain ⟨b, h1, h2⟩ := kinds_both (l.map convVK) hl2 _ 0 rfl (by omega)
    have h1' : Ev (fun k => spec_KindsOk.f k (l.map convVK)) b := h1
    have h2' : Ev (fun k => impl_KindsOk.f k (l.map convVK)) b := h2
    refine Ev.bind (toVarKindS_ev l (by omega)) (Ev.bind h1' (Ev.bind (toVarKindS_ev l (by omega)) (Ev.bind h2' ?_)))
    refine Ev.neg (by simp) (Ev.bind (toVarKindS_ev l (by omega)) (Ev.bind (eqVarKindS_refl _ hl2) (Ev.pos rfl (Ev.now _))))
end Go.Proofs.Ytaoabfhabejmgaa.Pure
