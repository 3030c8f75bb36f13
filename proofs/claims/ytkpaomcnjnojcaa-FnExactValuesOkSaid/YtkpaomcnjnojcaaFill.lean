/- A list filled from its left. -/
import Derived.Test.YtkpaomcnjnojcaaBase
namespace Go.Proofs.Ytkpaomcnjnojcaa.Base
theorem fill_set {α β : Type} (f : α → β) (z : β) (xs : List α) (i : Nat) (h : i < xs.length) :
    ((xs.map f).take i ++ List.replicate (xs.length - i) z).set i (f xs[i]) = (xs.map f).take (i + 1) ++ List.replicate (xs.length - (i + 1)) z := by
  have hl : ((xs.map f).take i).length = i := by simp; omega
  rw [List.set_append, if_neg (by omega), hl, Nat.sub_self]
  rw [show xs.length - i = (xs.length - (i + 1)) + 1 by omega, List.replicate_succ, List.set_cons_zero, List.take_succ_eq_append_getElem (by simpa using h)]
  simp
theorem fill_len {α β : Type} (f : α → β) (z : β) (xs : List α) (i : Nat) (h : i ≤ xs.length) : ((xs.map f).take i ++ List.replicate (xs.length - i) z).length = xs.length := by
  simp; omega
theorem fill_end {α β : Type} (f : α → β) (z : β) (xs : List α) (i : Nat) (h : xs.length ≤ i) : (xs.map f).take i ++ List.replicate (xs.length - i) z = xs.map f := by
  rw [List.take_of_length_le (by simpa using h), show xs.length - i = 0 by omega]; simp
theorem fill_start {α β : Type} (f : α → β) (z : β) (xs : List α) : List.replicate xs.length z = (xs.map f).take 0 ++ List.replicate (xs.length - 0) z := by simp
end Go.Proofs.Ytkpaomcnjnojcaa.Base
