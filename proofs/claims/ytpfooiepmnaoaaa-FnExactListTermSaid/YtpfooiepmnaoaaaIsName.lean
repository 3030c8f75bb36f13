/- IsName: what the program's and the reference's function answer, as one plain Bool. -/
import Derived.Test.YtpfooiepmnaoaaaX136
import Derived.Test.YtpfooiepmnaoaaaX135
import Derived.Test.YtpfooiepmnaoaaaBase
namespace Go.Proofs.Ytpfooiepmnaoaaa.X
open Go.RowKit Go.Proofs.YtpfooiepmnaoaaaW.PrintWords Go.Proofs.Ytpfooiepmnaoaaa.Base
set_option linter.unusedVariables false
set_option linter.unusedSimpArgs false

def lowc (b : Int) : Bool := decide (97 ≤ b ∧ b ≤ 122)
def okc (b : Int) : Bool := lowc b || decide (48 ≤ b ∧ b ≤ 57) || decide (b = 45)

def isNm (s : ByteArray) : Bool := match bytesOf s with
  | [] => false
  | c :: r => lowc c && r.all okc && decide (s.size ≤ 12)

theorem isNm_size {s : ByteArray} (h : isNm s = true) : s.size ≤ 12 := by
  unfold isNm at h
  split at h
  · cases h
  · simp only [Bool.and_eq_true, decide_eq_true_eq] at h
    exact h.2

theorem impl_IsName_l0 (s : ByteArray) (hs : s.size ≤ 140737488351232) (d : Nat) : ∀ (k i : Nat), i ≤ s.size → s.size - i = d → d < k →
    impl_IsName.l0 k s i = some (((bytesOf s).drop i).all okc) := by
  induction d with
  | zero =>
    intro k i h1 h2 h3
    obtain ⟨k, rfl⟩ : ∃ m, k = m + 1 := ⟨k - 1, by omega⟩
    simp only [impl_IsName.l0]; rw [if_neg (by omega), drop_end s i (by omega)]; rfl
  | succ d ih =>
    intro k i h1 h2 h3
    obtain ⟨k, rfl⟩ : ∃ m, k = m + 1 := ⟨k - 1, by omega⟩
    have hr := ih k (i + 1) (by omega) (by omega) (by omega)
    have hw : wrap64 ((i : Int) + 1) = ((i + 1 : Nat) : Int) := by rw [w64 (by omega) (by omega)]; rfl
    simp only [impl_IsName.l0]; rw [if_pos (by omega), if_pos (by omega), hw, hr, drop_step s i (by omega), List.all_cons]
    generalize bt s i = c
    generalize List.all _ _ = b
    unfold okc lowc
    repeat' split
    all_goals (simp <;> (try omega))

theorem impl_IsName_ev (s : ByteArray) (hs : s.size ≤ 140737488351232) : impl_IsName.f (s.size + 3) s = some (isNm s) := by
  unfold impl_IsName.f isNm
  by_cases h0 : s.size = 0
  · rw [if_pos (by omega)]
    have : bytesOf s = [] := List.eq_nil_of_length_eq_zero (by rw [bytesOf_length]; exact h0)
    simp [impl_IsName.j0, this]
  · rw [if_neg (by omega)]
    have hd := drop_step s 0 (by omega)
    have hl := impl_IsName_l0 s hs (s.size - 1) (s.size + 2) 1 (by omega) (by omega) (by omega)
    rw [List.drop_zero] at hd
    rw [hd]
    simp only [Int.ofNat_one, Nat.zero_add] at hl ⊢
    by_cases h12 : s.size ≤ 12
    · rw [if_neg (by omega), if_pos (by omega)]
      have hl' : impl_IsName.l0 (s.size + 2) s 1 = some (((bytesOf s).drop 1).all okc) := hl
      simp only [impl_IsName.j0, hl']
      have e0 : bt s ((0 : Nat) : Int) = bt s 0 := rfl
      rw [e0]
      generalize bt s 0 = c
      generalize List.all _ _ = b
      unfold lowc
      by_cases a1 : c < 97
      · have a2 : ¬ (97 ≤ c) := by omega
        simp [a1, a2]
      · have a2 : 97 ≤ c := by omega
        by_cases a3 : c ≤ 122
        · have a4 : ¬ (122 < c) := by omega
          simp [a1, a2, a3, a4, h12]
        · have a4 : 122 < c := by omega
          simp [a1, a2, a3, a4]
    · rw [if_pos (by omega)]
      simp [impl_IsName.j0, h12]

def spAll (s : ByteArray) (i : Nat) : Bool := if i = 0 then (match bytesOf s with | [] => true | c :: r => lowc c && r.all okc) else ((bytesOf s).drop i).all okc

theorem spec_IsName_l0 (s : ByteArray) (hs : s.size ≤ 140737488351232) (d : Nat) : ∀ (k i : Nat), i ≤ s.size → s.size - i = d → d < k →
    spec_IsName.l0 k s i = some (spAll s i && decide (1 ≤ s.size ∧ s.size ≤ 12)) := by
  induction d with
  | zero =>
    intro k i h1 h2 h3
    obtain ⟨k, rfl⟩ : ∃ m, k = m + 1 := ⟨k - 1, by omega⟩
    simp only [spec_IsName.l0]; rw [if_neg (by omega)]
    unfold spAll spec_l01In.f
    obtain rfl : i = s.size := by omega
    have hsz : ((s.size : Int) ≥ 1) ↔ 1 ≤ s.size := by omega
    have hsz2 : ((s.size : Int) ≤ 12) ↔ s.size ≤ 12 := by omega
    simp only [hsz, hsz2]
    by_cases h0 : s.size = 0
    · have e : bytesOf s = [] := List.eq_nil_of_length_eq_zero (by rw [bytesOf_length]; exact h0)
      rw [if_pos h0, e]
      simp [h0]
    · rw [if_neg h0, drop_end s _ (Nat.le_refl _), if_pos (by omega)]
      simp [Nat.one_le_iff_ne_zero, h0]
  | succ d ih =>
    intro k i h1 h2 h3
    obtain ⟨k, rfl⟩ : ∃ m, k = m + 1 := ⟨k - 1, by omega⟩
    have hr := ih k (i + 1) (by omega) (by omega) (by omega)
    have hw : wrap64 ((i : Int) + 1) = ((i + 1 : Nat) : Int) := by rw [w64 (by omega) (by omega)]; rfl
    have hb := bt_range s i
    have hw2 : wrap64 (bt s i) = bt s i := w64 (by omega) (by omega)
    have hd := drop_step s i (by omega)
    have hsp : spAll s i = ((if i = 0 then lowc (bt s i) else okc (bt s i)) && spAll s (i + 1)) := by
      unfold spAll
      rw [if_neg (by omega : ¬ (i + 1 = 0))]
      by_cases h0 : i = 0
      · subst h0
        rw [if_pos rfl, if_pos rfl]
        rw [List.drop_zero] at hd
        rw [hd]; rfl
      · rw [if_neg h0, if_neg h0, hd, List.all_cons]
    simp only [spec_IsName.l0]; rw [if_pos (by omega), if_pos (by omega), hw, hr, hw2, hsp]
    generalize bt s i = c
    generalize spAll s (i + 1) = b
    generalize decide (1 ≤ s.size ∧ s.size ≤ 12) = b2
    unfold okc lowc spec_l01In.f
    have e0 : ((i : Int) = 0) ↔ i = 0 := by omega
    simp only [e0]
    simp only [ge_iff_le]
    by_cases h0 : i = 0
    · by_cases a1 : 97 ≤ c <;> by_cases a2 : c ≤ 122 <;> simp [h0, a1, a2]
    · by_cases a1 : 97 ≤ c <;> by_cases a2 : c ≤ 122 <;> by_cases a5 : c = 45 <;> by_cases a3 : 48 ≤ c <;> by_cases a4 : c ≤ 57 <;> simp [h0, a1, a2, a3, a4, a5] <;> omega

theorem spec_IsName_ev (s : ByteArray) (hs : s.size ≤ 140737488351232) : spec_IsName.f (s.size + 3) s = some (isNm s) := by
  unfold spec_IsName.f
  have := spec_IsName_l0 s hs s.size (s.size + 3) 0 (by omega) (by omega) (by omega)
  rw [show ((0 : Nat) : Int) = 0 from rfl] at this
  rw [this]
  unfold spAll isNm
  rw [if_pos rfl]
  by_cases h0 : s.size = 0
  · have e : bytesOf s = [] := List.eq_nil_of_length_eq_zero (by rw [bytesOf_length]; exact h0)
    rw [e]; simp [h0]
  · have hd := drop_step s 0 (by omega)
    rw [List.drop_zero] at hd
    rw [hd]
    simp [Nat.one_le_iff_ne_zero, h0]

end Go.Proofs.Ytpfooiepmnaoaaa.X
