/- SplitLines: the program's function and the reference's are one. -/
import Derived.Test.YtaoabfhabejmgaaBase
import Derived.Test.YtaoabfhabejmgaaX29
import Derived.Test.YtaoabfhabejmgaaX30
namespace Go.Proofs.Ytaoabfhabejmgaa.X
open Go.RowKit Go.Proofs.YtaoabfhabejmgaaW.PrintWords Go.Proofs.Ytaoabfhabejmgaa.Base
set_option linter.unusedVariables false
set_option linter.unusedSimpArgs false
theorem SplitLines_same : ∀ (k : Nat) (s : ByteArray) (l : List ByteArray) (a b : Int), impl_SplitLines.l0 k s l a b = spec_SplitLines.l0 k s l a b := by
  intro k
  induction k with
  | zero => intros; rfl
  | succ k ih =>
    intro s l a b
    rw [impl_SplitLines.l0, spec_SplitLines.l0]
    simp only [ih]
theorem SplitLines_ends (s : ByteArray) (hs : s.size ≤ 1048576) : ∃ r : List ByteArray, r.length ≤ s.size + 1 ∧ Ev (fun k => spec_SplitLines.f k s) r := by
  have loop : ∀ (d i fr : Nat) (l : List ByteArray), s.size - i = d → i ≤ s.size → fr ≤ i → l.length ≤ i → ∃ r : List ByteArray, r.length ≤ s.size + 1 ∧ Ev (fun k => spec_SplitLines.l0 k s l (fr : Int) (i : Int)) r := by
    intro d
    induction d with
    | zero =>
      intro i fr l hi hl hf hn
      by_cases h : (fr : Int) < (s.size : Int)
      · exact ⟨l ++ [s.extract (fr : Int).toNat s.size], by rw [List.length_append, List.length_singleton]; omega, Ev.step (fun k => by rw [spec_SplitLines.l0, if_neg (by omega), if_pos h, if_pos (by omega), if_pos (by omega), if_pos (by omega)]) (Ev.now _)⟩
      · exact ⟨l, by omega, Ev.step (fun k => by rw [spec_SplitLines.l0, if_neg (by omega), if_neg h]) (Ev.now _)⟩
    | succ d ihd =>
      intro i fr l hi hl hf hn
      by_cases h : bt s (i : Int) = 10
      · obtain ⟨r, h1, h2⟩ := ihd (i + 1) (i + 1) (l ++ [s.extract (fr : Int).toNat (i : Int).toNat]) (by omega) (by omega) (by omega) (by rw [List.length_append, List.length_singleton]; omega)
        exact ⟨r, h1, Ev.step (fun k => by rw [spec_SplitLines.l0, if_pos (by omega), if_pos (by omega), if_pos h, if_pos (by omega), if_pos (by omega), if_pos (by omega), if_pos (by omega), w64s (by omega)]) h2⟩
      · obtain ⟨r, h1, h2⟩ := ihd (i + 1) fr l (by omega) (by omega) (by omega) (by omega)
        exact ⟨r, h1, Ev.step (fun k => by rw [spec_SplitLines.l0, if_pos (by omega), if_pos (by omega), if_neg h, w64s (by omega)]) h2⟩
  exact loop s.size 0 0 [] (by omega) (by omega) (by omega) (by simp)
end Go.Proofs.Ytaoabfhabejmgaa.X
