/- Tokens: the program's function and the reference's answer the same at every string. -/
import Derived.Test.YtaoabfhabejmgaaBase
import Derived.Test.YtaoabfhabejmgaaX38
import Derived.Test.YtaoabfhabejmgaaX39
import Derived.Test.YtaoabfhabejmgaaX52
import Derived.Test.YtaoabfhabejmgaaX61
namespace Go.Proofs.Ytaoabfhabejmgaa.X
open Go.RowKit Go.Proofs.YtaoabfhabejmgaaW.PrintWords Go.Proofs.Ytaoabfhabejmgaa.Base
set_option linter.unusedVariables false
set_option linter.unusedSimpArgs false
def isBrk (c : Int) : Bool := decide (c = 32 ∨ c = 10 ∨ c = 40 ∨ c = 41 ∨ c = 59)
theorem l01Break_ev (c : Int) : spec_l01Break.f c = some (isBrk c) := by
  unfold spec_l01Break.f isBrk
  by_cases a : c = 32 <;> by_cases b : c = 10 <;> by_cases d : c = 40 <;> by_cases e : c = 41 <;> simp [a, b, d, e] <;> rfl
theorem tk_skip (s : ByteArray) (hs : s.size ≤ 1048576) (out : List ByteArray) : ∀ (d j : Nat), s.size - j = d → j ≤ s.size → ∃ j' : Nat, j ≤ j' ∧ j' ≤ s.size ∧ (∀ r, Ev (fun k => spec_Tokens.l0 k s out (j' : Int)) r → Ev (fun k => spec_Tokens.l1 k s out (j : Int)) r) ∧ (∀ r, Ev (fun k => impl_Tokens.l1 k s out (j' : Int)) r → Ev (fun k => impl_Tokens.l2 k s out (j : Int)) r) := by
  intro d
  induction d with
  | zero =>
    intro j hj hl
    exact ⟨j, Nat.le_refl _, hl, fun r h => Ev.step (fun k => by rw [spec_Tokens.l1, if_neg (by omega)]) h, fun r h => Ev.step (fun k => by rw [impl_Tokens.l2, if_neg (by omega)]) h⟩
  | succ d ih =>
    intro j hj hl
    by_cases c : bt s (j : Int) = 10
    · exact ⟨j, Nat.le_refl _, hl, fun r h => Ev.step (fun k => by rw [spec_Tokens.l1, if_pos (by omega), if_pos (by omega), if_pos c]) h, fun r h => Ev.step (fun k => by rw [impl_Tokens.l2, if_pos (by omega), if_pos (by omega), if_pos c]) h⟩
    · obtain ⟨j', h1, h2, h3, h4⟩ := ih (j + 1) (by omega) (by omega)
      exact ⟨j', by omega, h2, fun r h => Ev.step (fun k => by rw [spec_Tokens.l1, if_pos (by omega), if_pos (by omega), if_neg c, w64s (by omega)]) (h3 r h), fun r h => Ev.step (fun k => by rw [impl_Tokens.l2, if_pos (by omega), if_pos (by omega), if_neg c, w64s (by omega)]) (h4 r h)⟩
theorem tk_word (s : ByteArray) (hs : s.size ≤ 1048576) (out : List ByteArray) (ho : out.length ≤ 1048576) (i : Nat) : ∀ (d j : Nat), s.size - j = d → j ≤ s.size → i ≤ j → ∃ j' : Nat, j ≤ j' ∧ j' ≤ s.size ∧ (∀ r, Ev (fun k => spec_Tokens.l0 k s (out ++ [s.extract i j']) (j' : Int)) r → Ev (fun k => spec_Tokens.l2 k s out (i : Int) (j : Int)) r) ∧ (∀ r, Ev (fun k => impl_Tokens.l1 k s (out ++ [s.extract i j']) (j' : Int)) r → Ev (fun k => impl_Tokens.l3 k s out (i : Int) (j : Int)) r) := by
  intro d
  induction d with
  | zero =>
    intro j hj hl hi
    exact ⟨j, Nat.le_refl _, hl, fun r h => Ev.step (fun k => by rw [spec_Tokens.l2, if_neg (by omega), if_pos (by omega), if_pos (by omega), if_pos (by omega), if_pos (by omega), Int.toNat_natCast, Int.toNat_natCast]) h, fun r h => Ev.step (fun k => by rw [impl_Tokens.l3, if_neg (by omega), if_pos (by omega), if_pos (by omega), if_pos (by omega), if_pos (by omega), Int.toNat_natCast, Int.toNat_natCast]) h⟩
  | succ d ih =>
    intro j hj hl hi
    by_cases c : isBrk (bt s (j : Int)) = true
    · refine ⟨j, Nat.le_refl _, hl, fun r h => by
        refine Ev.step (fun k => by rw [spec_Tokens.l2, if_pos (by omega), if_pos (by omega), Int.toNat_natCast, Int.toNat_natCast]) ?_
        refine Ev.bindc (l01Break_ev _) ?_
        refine Ev.pos c ?_
        refine Ev.pos (by omega) ?_
        refine Ev.pos (by omega) ?_
        refine Ev.pos (by omega) ?_
        exact Ev.pos (by omega) h, fun r h => Ev.step (fun k => by rw [impl_Tokens.l3, if_pos (by omega), if_pos (by omega), if_pos (show (0 : Int) ≤ (i : Int) by omega), if_pos (show (i : Int) ≤ (j : Int) by omega), if_pos (show (j : Int) ≤ (s.size : Int) by omega), if_pos (show out.length < 8796093022208 by omega), Int.toNat_natCast, Int.toNat_natCast]) ?_⟩
      unfold isBrk at c
      rw [decide_eq_true_eq] at c
      refine Ev.ite (fun _ => h) (fun c1 => Ev.ite (fun _ => h) (fun c2 => Ev.ite (fun _ => h) (fun c3 => Ev.ite (fun _ => h) (fun c4 => Ev.pos (by omega) h))))
    · obtain ⟨j', h1, h2, h3, h4⟩ := ih (j + 1) (by omega) (by omega) (by omega)
      refine ⟨j', by omega, h2, fun r h => Ev.step (fun k => by rw [spec_Tokens.l2, if_pos (by omega), if_pos (by omega), w64s (by omega)]) (Ev.bindc (l01Break_ev _) (Ev.neg c (h3 r h))), fun r h => ?_⟩
      unfold isBrk at c
      rw [decide_eq_true_eq] at c
      exact Ev.step (fun k => by rw [impl_Tokens.l3, if_pos (by omega), if_pos (by omega), if_neg (show ¬ bt s (j : Int) = 32 by omega), if_neg (show ¬ bt s (j : Int) = 10 by omega), if_neg (show ¬ bt s (j : Int) = 40 by omega), if_neg (show ¬ bt s (j : Int) = 41 by omega), if_neg (show ¬ bt s (j : Int) = 59 by omega), w64s (by omega)]) (h4 r h)
theorem tk_all (s : ByteArray) (hs : s.size ≤ 1048576) : ∀ (d i : Nat) (out : List ByteArray), s.size - i ≤ d → i ≤ s.size → out.length ≤ i → ∃ out' : List ByteArray, out'.length ≤ s.size ∧ (∀ r, Ev (fun k => spec_Tokens.l3 k s out' 0) r → Ev (fun k => spec_Tokens.l0 k s out (i : Int)) r) ∧ Ev (fun k => impl_Tokens.l1 k s out (i : Int)) (if (out'.length : Int) > 20000 then ([], false) else (out', true)) := by
  intro d
  induction d with
  | zero =>
    intro i out hd hi ho
    exact ⟨out, by omega, fun r h => Ev.step (fun k => by rw [spec_Tokens.l0, if_neg (by omega)]) h, Ev.step (fun k => by rw [impl_Tokens.l1, if_neg (by omega)]) (Ev.ite (fun c => Ev.eq (Ev.now _) (if_pos c).symm) (fun c => Ev.eq (Ev.now _) (if_neg c).symm))⟩
  | succ d ih =>
    intro i out hd hi ho
    by_cases he : i = s.size
    · exact ⟨out, by omega, fun r h => Ev.step (fun k => by rw [spec_Tokens.l0, if_neg (by omega)]) h, Ev.step (fun k => by rw [impl_Tokens.l1, if_neg (by omega)]) (Ev.ite (fun c => Ev.eq (Ev.now _) (if_pos c).symm) (fun c => Ev.eq (Ev.now _) (if_neg c).symm))⟩
    · have hw := w64s (i := i) (by omega)
      have j2f : ∀ r, (bt s (i : Int) ≠ 32) → (bt s (i : Int) ≠ 10) → Ev (fun k => impl_Tokens.j2 k s out (i : Int) (bt s (i : Int)) false) r → Ev (fun k => impl_Tokens.l1 k s out (i : Int)) r := by
        intro r h1 h2 h
        refine Ev.step (fun k => by rw [impl_Tokens.l1, if_pos (by omega), if_pos (by omega), if_neg h1, beq_eq_false_iff_ne.2 h2]) h
      by_cases c59 : bt s (i : Int) = 59
      · obtain ⟨j', h1, h2, h3, h4⟩ := tk_skip s hs out (s.size - (i + 1)) (i + 1) rfl (by omega)
        obtain ⟨out', g1, g2, g3⟩ := ih j' out (by omega) h2 (by omega)
        refine ⟨out', g1, fun r h => Ev.step (fun k => by rw [spec_Tokens.l0, if_pos (by omega), if_pos (by omega), if_pos c59, hw]) (h3 r (g2 r h)), j2f _ (by omega) (by omega) ?_⟩
        refine Ev.step (fun k => by rw [impl_Tokens.j2, if_neg (by simp), if_pos c59]) ?_
        exact Ev.step (fun k => by rw [impl_Tokens.l2, if_pos (by omega), if_pos (by omega), if_neg (by omega), hw]) (h4 _ g3)
      · by_cases cb : isBrk (bt s (i : Int)) = true
        · have cb' := cb
          unfold isBrk at cb'
          rw [decide_eq_true_eq] at cb'
          by_cases cp : bt s (i : Int) = 40 ∨ bt s (i : Int) = 41
          · obtain ⟨out', g1, g2, g3⟩ := ih (i + 1) (out ++ [s.extract i (i + 1)]) (by omega) (by omega) (by rw [List.length_append, List.length_singleton]; omega)
            refine ⟨out', g1, fun r h => Ev.step (fun k => by rw [spec_Tokens.l0, if_pos (by omega), if_pos (by omega), if_neg c59, hw]) (Ev.bindc (l01Break_ev _) (Ev.pos cb ?_)), j2f _ (by omega) (by omega) ?_⟩
            · have hh := g2 r h
              refine Ev.ite (fun _ => Ev.pos (by omega) (Ev.pos (by omega) (Ev.pos (by omega) ?_))) (fun c => Ev.pos (by omega) (Ev.pos (by omega) (Ev.pos (by omega) (Ev.pos (by omega) ?_))))
              · rw [Int.toNat_natCast, Int.toNat_natCast]; exact hh
              · rw [Int.toNat_natCast, Int.toNat_natCast]; exact hh
            · have j4t : Ev (fun k => impl_Tokens.j4 k s out (i : Int) true) (if (out'.length : Int) > 20000 then ([], false) else (out', true)) :=
                Ev.step (fun k => by rw [impl_Tokens.j4, if_pos rfl, if_pos (by omega), hw, if_pos (by omega), if_pos (by omega), if_pos (by omega), Int.toNat_natCast, Int.toNat_natCast]) g3
              refine Ev.step (fun k => by rw [impl_Tokens.j2, if_neg (by simp), if_neg c59]) (Ev.ite (fun _ => j4t) (fun c => ?_))
              rw [beq_iff_eq.2 (by omega : bt s (i : Int) = 41)]
              exact j4t
          · obtain ⟨out', g1, g2, g3⟩ := ih (i + 1) out (by omega) (by omega) (by omega)
            have j2t : Ev (fun k => impl_Tokens.j2 k s out (i : Int) (bt s (i : Int)) true) (if (out'.length : Int) > 20000 then ([], false) else (out', true)) :=
              Ev.step (fun k => by rw [impl_Tokens.j2, if_pos rfl, hw]) g3
            refine ⟨out', g1, fun r h => Ev.step (fun k => by rw [spec_Tokens.l0, if_pos (by omega), if_pos (by omega), if_neg c59, hw]) (Ev.bindc (l01Break_ev _) (Ev.pos cb (Ev.neg (fun e => cp (.inl e)) (Ev.neg (fun e => cp (.inr e)) (g2 r h))))), Ev.step (fun k => by rw [impl_Tokens.l1, if_pos (by omega), if_pos (by omega)]) (Ev.ite (fun _ => j2t) (fun c => ?_))⟩
            rw [beq_iff_eq.2 (by omega : bt s (i : Int) = 10)]
            exact j2t
        · obtain ⟨j', h1, h2, h3, h4⟩ := tk_word s hs out (by omega) i (s.size - (i + 1)) (i + 1) rfl (by omega) (by omega)
          obtain ⟨out', g1, g2, g3⟩ := ih j' (out ++ [s.extract i j']) (by omega) h2 (by rw [List.length_append, List.length_singleton]; omega)
          have cb' := cb
          unfold isBrk at cb'
          rw [decide_eq_true_eq] at cb'
          refine ⟨out', g1, fun r h => Ev.step (fun k => by rw [spec_Tokens.l0, if_pos (by omega), if_pos (by omega), if_neg c59, hw]) (Ev.bindc (l01Break_ev _) (Ev.neg cb (h3 r (g2 r h)))), j2f _ (by omega) (by omega) ?_⟩
          refine Ev.step (fun k => by rw [impl_Tokens.j2, if_neg (by simp), if_neg c59, if_neg (by omega), beq_eq_false_iff_ne.2 (by omega : bt s (i : Int) ≠ 41)]) ?_
          refine Ev.step (fun k => by rw [impl_Tokens.j4, if_neg (by simp)]) ?_
          exact Ev.step (fun k => by rw [impl_Tokens.l3, if_pos (by omega), if_pos (by omega), if_neg (by omega), if_neg (by omega), if_neg (by omega), if_neg (by omega), if_neg (by omega), hw]) (h4 _ g3)
/-- The bytes are all of the right kind. -/
def okB (c : Int) : Bool := decide (c = 10 ∨ (32 ≤ c ∧ c ≤ 126))
theorem tk_valid (s : ByteArray) (hs : s.size ≤ 1048576) (out : List ByteArray) (ho : out.length ≤ 1048576) : ∀ (d i : Nat), s.size - i = d → i ≤ s.size →
    (Ev (fun k => spec_Tokens.l3 k s out (i : Int)) (if (out.length : Int) > 20000 then ([], false) else (out, true)) ∧ (∀ r, Ev (fun k => impl_Tokens.l1 k s [] 0) r → Ev (fun k => impl_Tokens.l0 k s (i : Int)) r)) ∨
    (Ev (fun k => spec_Tokens.l3 k s out (i : Int)) ([], false) ∧ Ev (fun k => impl_Tokens.l0 k s (i : Int)) ([], false)) := by
  intro d
  induction d with
  | zero =>
    intro i hi hl
    exact .inl ⟨Ev.step (fun k => by rw [spec_Tokens.l3, if_neg (by omega)]) (Ev.ite (fun c => Ev.eq (Ev.now _) (if_pos c).symm) (fun c => Ev.eq (Ev.now _) (if_neg c).symm)), fun r h => Ev.step (fun k => by rw [impl_Tokens.l0, if_neg (by omega)]) h⟩
  | succ d ih =>
    intro i hi hl
    have hb := bt_range s (i : Int)
    have hw := w64s (i := i) (by omega)
    have hw2 : wrap64 (bt s (i : Int)) = bt s (i : Int) := w64 (by omega) (by omega)
    have hin : ∀ c : Int, spec_l01In.f c 32 126 = some (decide (32 ≤ c ∧ c ≤ 126)) := by
      intro c
      unfold spec_l01In.f
      by_cases h : c ≥ 32
      · rw [if_pos h]; simp [show 32 ≤ c from h]
      · rw [if_neg h]; simp; omega
    by_cases c : bt s (i : Int) = 10 ∨ (32 ≤ bt s (i : Int) ∧ bt s (i : Int) ≤ 126)
    · have sp : ∀ r, Ev (fun k => spec_Tokens.l3 k s out ((i + 1 : Nat) : Int)) r → Ev (fun k => spec_Tokens.l3 k s out (i : Int)) r := fun r h => by
        refine Ev.step (fun k => by rw [spec_Tokens.l3, if_pos (by omega), if_pos (by omega), hw, hw2]) (Ev.ite (fun _ => h) (fun c1 => Ev.bindc (hin _) (Ev.pos (show decide (32 ≤ bt s (i : Int) ∧ bt s (i : Int) ≤ 126) = true from decide_eq_true (by omega)) h)))
      have im : ∀ r, Ev (fun k => impl_Tokens.l0 k s ((i + 1 : Nat) : Int)) r → Ev (fun k => impl_Tokens.l0 k s (i : Int)) r := fun r h => by
        refine Ev.step (fun k => by rw [impl_Tokens.l0, if_pos (by omega), if_pos (by omega), hw]) (Ev.ite (fun _ => h) (fun c1 => Ev.neg (by omega) (Ev.neg (by omega) h)))
      rcases ih (i + 1) (by omega) (by omega) with ⟨h1, h2⟩ | ⟨h1, h2⟩
      · exact .inl ⟨sp _ h1, fun r h => im r (h2 r h)⟩
      · exact .inr ⟨sp _ h1, im _ h2⟩
    · refine .inr ⟨?_, ?_⟩
      · exact Ev.step (fun k => by rw [spec_Tokens.l3, if_pos (by omega), if_pos (by omega), if_neg (by omega), hw2]) (Ev.bindc (hin _) (Ev.neg (show ¬ decide (32 ≤ bt s (i : Int) ∧ bt s (i : Int) ≤ 126) = true from fun e => by have := of_decide_eq_true e; omega) (Ev.now _)))
      · refine Ev.step (fun k => by rw [impl_Tokens.l0, if_pos (by omega), if_pos (by omega), if_neg (by omega)]) (Ev.ite (fun _ => Ev.now _) (fun c1 => Ev.pos (by omega) (Ev.now _)))
theorem Tokens_ev (s : ByteArray) (hs : s.size ≤ 1048576) : ∃ r : List ByteArray × Bool, r.1.length ≤ s.size ∧ Ev (fun k => spec_Tokens.f k s) r ∧ Ev (fun k => impl_Tokens.f k s) r := by
  unfold spec_Tokens.f impl_Tokens.f
  by_cases hb : (s.size : Int) > 100000
  · exact ⟨([], false), by simp, Ev.pos hb (Ev.now _), Ev.pos hb (Ev.now _)⟩
  · obtain ⟨out, h1, h2, h3⟩ := tk_all s hs s.size 0 [] (by omega) (by omega) (by simp)
    rcases tk_valid s hs out (by omega) s.size 0 (by omega) (by omega) with ⟨g1, g2⟩ | ⟨g1, g2⟩
    · refine ⟨_, ?_, Ev.neg hb (h2 _ g1), Ev.neg hb (g2 _ h3)⟩
      by_cases c : (out.length : Int) > 20000
      · rw [if_pos c]; simp
      · rw [if_neg c]; exact h1
    · exact ⟨_, by simp, Ev.neg hb (h2 _ g1), Ev.neg hb g2⟩
end Go.Proofs.Ytaoabfhabejmgaa.X
