/- Plain facts about numbers, bytes and rounds, used by the laws' pure proofs. -/
import Derived.Test.YtaoabfhabejmgaaWWords
namespace Go.Proofs.Ytaoabfhabejmgaa.Base
open Go.RowKit Go.Proofs.YtaoabfhabejmgaaW.PrintWords

theorem w64 {i : Int} (h : -9223372036854775808 ≤ i) (h2 : i ≤ 9223372036854775807) : wrap64 i = i := by
  unfold wrap64; omega

theorem w64s {i : Nat} (h2 : i < 9223372036854775807) : wrap64 ((i : Int) + 1) = ((i + 1 : Nat) : Int) := by
  rw [w64 (by omega) (by omega)]; rfl

theorem drop_step (s : ByteArray) (i : Nat) (h : i < s.size) : (bytesOf s).drop i = bt s i :: (bytesOf s).drop (i + 1) := by
  rw [List.drop_eq_getElem_cons (by rw [bytesOf_length]; exact h)]
  congr 1
  have := rd_bytesOf s i
  unfold rd at this
  rw [← this]
  simp [List.getD, bytesOf_length, h]

theorem drop_end (s : ByteArray) (i : Nat) (h : s.size ≤ i) : (bytesOf s).drop i = [] := by
  rw [List.drop_eq_nil_iff, bytesOf_length]; exact h

theorem bytesOf_nil (s : ByteArray) (h : s.size = 0) : bytesOf s = [] := List.eq_nil_of_length_eq_zero (by rw [bytesOf_length]; exact h)

theorem rdOf_at {α : Type} (d : α) (xs : List α) (i : Nat) (h : i < xs.length) : rdOf d xs (i : Int) = xs[i]'h := by
  unfold rdOf
  simp [List.getD, h]

theorem ev_iff {α : Type} {g : Nat → Option α} (hg : ∀ k, LeO (g k) (g (k + 1))) {k : Nat} {r : α} (h : g k = some r) : ∀ k', k ≤ k' → g k' = some r :=
  fun _ hk => at_rounds hg hk h

end Go.Proofs.Ytaoabfhabejmgaa.Base
