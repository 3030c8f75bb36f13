/- Ground terms: what the reference's walk and the program's walk answer. -/
import Derived.Test.YtkpaomcnjnojcaaTermOk
import Derived.Test.YtkpaomcnjnojcaaElSpecGround
import Derived.Test.YtkpaomcnjnojcaaElIsGround
import Derived.Test.YtkpaomcnjnojcaaX36
namespace Go.Proofs.Ytkpaomcnjnojcaa.X
open Go.RowKit Go.Proofs.YtkpaomcnjnojcaaW.PrintWords Go.Proofs.Ytkpaomcnjnojcaa.Base
set_option linter.unusedVariables false
set_option linter.unusedSimpArgs false
/-- No variable stands in the term. -/
def Tm.ground : Tm → Bool
  | .var _ => false
  | .pair a b => a.ground && b.ground
  | _ => true
theorem eachVar_ground : ∀ (m : Tm) (s : Bool), Ev (fun k => impl_eachVar.f (fun _ _ => some false) k s m.enc.f0 m.enc.f1 m.enc.f3) (s && m.ground)
  | .var n, s => Ev.step (f := fun _ => some false) (fun k => by rw [impl_eachVar.f, if_pos (by simp [Tm.enc])]) (Ev.eq (Ev.now _) (by simp [Tm.ground]))
  | .nil, s => Ev.step (f := fun _ => some s) (fun k => by rw [impl_eachVar.f, if_neg (by simp [Tm.enc]), if_neg (by simp [Tm.enc])]) (Ev.eq (Ev.now _) (by simp [Tm.ground]))
  | .sym x, s => Ev.step (f := fun _ => some s) (fun k => by rw [impl_eachVar.f, if_neg (by simp [Tm.enc]), if_neg (by simp [Tm.enc])]) (Ev.eq (Ev.now _) (by simp [Tm.ground]))
  | .int x, s => Ev.step (f := fun _ => some s) (fun k => by rw [impl_eachVar.f, if_neg (by simp [Tm.enc]), if_neg (by simp [Tm.enc])]) (Ev.eq (Ev.now _) (by simp [Tm.ground]))
  | .pair a b, s => by
    show Ev (fun k => impl_eachVar.f (fun _ _ => some false) k s 4 0 [a.enc, b.enc]) _
    refine Ev.step (fun k => by rw [impl_eachVar.f, if_neg (by omega), if_pos rfl, if_pos (by simp), rd_cons]) ?_
    refine Ev.bind (eachVar_ground a s) ?_
    refine Ev.pos (by simp) ?_
    rw [rd_one]
    exact Ev.eq (eachVar_ground b _) (by simp [Tm.ground, Bool.and_assoc])
theorem rd_nat (l : List Int) (i : Nat) (h : i < l.length) : rd l (i : Int) = l[i] := by unfold rd; simp [List.getD, h]
/-- l02Insert ends; its answer is not empty, and longer by one at most. -/
theorem insert_ev (l : List Int) (n : Int) (hl : l.length ≤ 1000000000) : ∃ r : List Int, Ev (fun k => spec_l02Insert.f k l n) r ∧ 0 < r.length ∧ r.length ≤ l.length + 1 := by
  have loop : ∀ j : Nat, j ≤ l.length → ∃ r : List Int, Ev (fun k => spec_l02Insert.l0 k l n (j : Int)) r ∧ 0 < r.length ∧ r.length ≤ l.length + 1 := by
    intro j
    induction j with
    | zero =>
      intro hj
      by_cases c : (0 : Int) < (l.length : Int)
      · by_cases c2 : rd l 0 = n
        · exact ⟨l, Ev.step (f := fun _ => some l) (fun k => by rw [spec_l02Insert.l0, if_neg (by omega), if_pos (by omega), if_pos (by omega), if_pos (by simpa using c2)]) (Ev.now _), by omega, by omega⟩
        · refine ⟨n :: l, Ev.step (f := fun _ => some (n :: l)) (fun k => ?_) (Ev.now _), by simp, by simp⟩
          rw [spec_l02Insert.l0, if_neg (by omega), if_pos (by omega), if_pos (by omega), if_neg (by simpa using c2)]
          simp
          omega
      · refine ⟨n :: l, Ev.step (f := fun _ => some (n :: l)) (fun k => ?_) (Ev.now _), by simp, by simp⟩
        rw [spec_l02Insert.l0, if_neg (by omega), if_neg (by omega)]
        simp
        omega
    | succ j ih =>
      intro hj
      have hw : wrap64 (((j + 1 : Nat) : Int) - 1) = (j : Int) := by rw [w64 (by omega) (by omega)]; omega
      by_cases c1 : rd l (j : Int) ≥ n
      · obtain ⟨r, h1, h2⟩ := ih (by omega)
        exact ⟨r, Ev.step (fun k => by rw [spec_l02Insert.l0, if_pos (by omega), hw, if_pos (by omega), if_pos (by omega), if_pos c1]) h1, h2⟩
      · by_cases c : ((j + 1 : Nat) : Int) < (l.length : Int)
        · by_cases c2 : rd l ((j + 1 : Nat) : Int) = n
          · exact ⟨l, Ev.step (f := fun _ => some l) (fun k => by rw [spec_l02Insert.l0, if_pos (by omega), hw, if_pos (by omega), if_pos (by omega), if_neg c1, if_pos c, if_pos (by omega), if_pos c2]) (Ev.now _), by omega, by omega⟩
          · refine ⟨l.take (j + 1) ++ [n] ++ l.drop (j + 1), Ev.step (f := fun _ => some (l.take (j + 1) ++ [n] ++ l.drop (j + 1))) (fun k => ?_) (Ev.now _), by simp; omega, by simp; omega⟩
            rw [spec_l02Insert.l0, if_pos (by omega), hw, if_pos (by omega), if_pos (by omega), if_neg c1, if_pos c, if_pos (by omega), if_neg c2]
            simp only [Option.bind_some, Int.toNat_natCast]
            rw [if_pos (by omega), if_pos (by simp; omega), if_pos (by simp; omega), if_pos (by simp; omega)]
            simp
        · refine ⟨l.take (j + 1) ++ [n] ++ l.drop (j + 1), Ev.step (f := fun _ => some (l.take (j + 1) ++ [n] ++ l.drop (j + 1))) (fun k => ?_) (Ev.now _), by simp; omega, by simp; omega⟩
          rw [spec_l02Insert.l0, if_pos (by omega), hw, if_pos (by omega), if_pos (by omega), if_neg c1, if_neg c]
          simp only [Option.bind_some, Int.toNat_natCast]
          rw [if_pos (by omega), if_pos (by omega), if_pos (by simp; omega), if_pos (by simp; omega), if_pos (by simp; omega)]
          simp
  exact loop l.length (Nat.le_refl _)
theorem l02Vars_ev : ∀ (m : Tm) (l : List Int), l.length + m.size ≤ 1000000000 → ∃ r : List Int, Ev (fun k => spec_l02Vars.f k m.enc.f0 m.enc.f1 m.enc.f2 m.enc.f3 l) r ∧ r.length ≤ l.length + m.size ∧ (r.length = 0 ↔ l.length = 0 ∧ m.ground = true)
  | .var n, l => fun hl => by
    obtain ⟨r, h1, h2, h3⟩ := insert_ev l n (by omega)
    refine ⟨r, Ev.step (fun k => by rw [spec_l02Vars.f, if_pos (by simp [Tm.enc])]; rfl) h1, by simp [Tm.size]; omega, by simp [Tm.ground]; intro h; simp [h] at h2⟩
  | .nil, l => fun hl => ⟨l, Ev.step (fun k => by rw [spec_l02Vars.f, if_neg (by simp [Tm.enc])]) (Ev.step (f := fun _ => some l) (fun k => by rw [spec_l02Vars.l0, if_neg (by simp [Tm.enc])]) (Ev.now _)), by omega, by simp [Tm.ground]⟩
  | .sym x, l => fun hl => ⟨l, Ev.step (fun k => by rw [spec_l02Vars.f, if_neg (by simp [Tm.enc])]) (Ev.step (f := fun _ => some l) (fun k => by rw [spec_l02Vars.l0, if_neg (by simp [Tm.enc])]) (Ev.now _)), by omega, by simp [Tm.ground]⟩
  | .int x, l => fun hl => ⟨l, Ev.step (fun k => by rw [spec_l02Vars.f, if_neg (by simp [Tm.enc])]) (Ev.step (f := fun _ => some l) (fun k => by rw [spec_l02Vars.l0, if_neg (by simp [Tm.enc])]) (Ev.now _)), by omega, by simp [Tm.ground]⟩
  | .pair a b, l => fun hl => by
    have hs : (Tm.pair a b).size = 1 + a.size + b.size := rfl
    obtain ⟨r1, h1, h2, h3⟩ := l02Vars_ev a l (by omega)
    obtain ⟨r2, g1, g2, g3⟩ := l02Vars_ev b r1 (by omega)
    refine ⟨r2, ?_, by omega, ?_⟩
    · show Ev (fun k => spec_l02Vars.f k 4 0 ⟨#[]⟩ [a.enc, b.enc] l) _
      refine Ev.step (fun k => by rw [spec_l02Vars.f, if_neg (by omega)]) ?_
      refine Ev.step (fun k => by rw [spec_l02Vars.l0, if_pos (by simp), if_pos (by omega), rd_cons]) ?_
      refine Ev.bind h1 ?_
      rw [show wrap64 ((0 : Int) + 1) = 1 from by unfold wrap64; omega]
      refine Ev.step (fun k => by rw [spec_l02Vars.l0, if_pos (by simp), if_pos (by omega), rd_one]) ?_
      refine Ev.bind g1 ?_
      rw [show wrap64 ((1 : Int) + 1) = 2 from by unfold wrap64; omega]
      exact Ev.step (f := fun _ => some r2) (fun k => by rw [spec_l02Vars.l0, if_neg (by simp)]) (Ev.now _)
    · rw [g3, h3]
      simp [Tm.ground, and_assoc]
theorem IsGround_ev {t : ITm} (hs : Sm t) : ∃ b : Bool, Ev (fun k => spec_IsGround.f k t.f0 t.f1 t.f2 t.f3) b ∧ Ev (fun k => impl_IsGround.f k t.f0 t.f1 t.f2 t.f3) b ∧ (b = true ↔ ∃ m : Tm, m.Ok ∧ m.enc = t ∧ m.size ≤ 5000 ∧ m.ground = true) := by
  unfold spec_IsGround.f impl_IsGround.f impl_isGround.f
  by_cases h : TOk t
  · obtain ⟨m, hm, rfl, hz⟩ := h
    have ht := (TOk_enc hm).2 hz
    obtain ⟨r, h1, _, h3⟩ := l02Vars_ev m [] (by simp; omega)
    refine ⟨m.ground, Ev.bind (spec_TermOk_ev hs) (Ev.pos (by simpa using ht) (Ev.bind h1 (Ev.eq (Ev.now _) ?_))), Ev.bind (impl_TermOk_ev hs) (Ev.pos (by simpa using ht) (Ev.bind (eachVar_ground m true) (Ev.eq (Ev.now _) (by simp)))), ?_⟩
    · rw [Bool.eq_iff_iff]
      simp only [beq_iff_eq]
      rw [← show (r.length = 0 ↔ m.ground = true) from by rw [h3]; simp]
      omega
    · constructor
      · exact fun hg => ⟨m, hm, rfl, hz, hg⟩
      · rintro ⟨m2, _, he, _, hg⟩
        rw [← Tm.enc_inj _ _ he]; exact hg
  · refine ⟨false, Ev.bind (spec_TermOk_ev hs) (Ev.neg (by simpa using h) (Ev.now _)), Ev.bind (impl_TermOk_ev hs) (Ev.neg (by simpa using h) (Ev.now _)), ?_⟩
    constructor
    · intro hf; exact absurd hf (by simp)
    · rintro ⟨m, hm, he, hz, _⟩
      exact absurd ⟨m, hm, he, hz⟩ h
end Go.Proofs.Ytkpaomcnjnojcaa.X
