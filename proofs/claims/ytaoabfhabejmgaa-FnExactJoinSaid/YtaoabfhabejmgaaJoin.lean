/- Join: what the reference and the program answer. -/
import Derived.Test.YtaoabfhabejmgaaFill
import Derived.Test.YtaoabfhabejmgaaX20
import Derived.Test.YtaoabfhabejmgaaX22
namespace Go.Proofs.Ytaoabfhabejmgaa.X
open Go.RowKit Go.Proofs.YtaoabfhabejmgaaW.PrintWords Go.Proofs.Ytaoabfhabejmgaa.Base
set_option linter.unusedVariables false
set_option linter.unusedSimpArgs false
theorem strOfNums_bytes (s : ByteArray) : strOfNums (bytesOf s) = s := by
  unfold strOfNums bytesOf
  cases s with
  | mk d =>
    congr 1
    apply Array.ext'
    simp only [List.toList_toArray, List.map_map]
    rw [show ((fun n : Int => UInt8.ofNat n.toNat) ∘ fun b : UInt8 => (b.toNat : Int)) = id from funext fun b => by simp]
    simp
theorem bytesOf_append (a b : ByteArray) : bytesOf (a ++ b) = bytesOf a ++ bytesOf b := by
  unfold bytesOf
  rw [← List.map_append]
  simp
theorem bytesOf_size (s : ByteArray) : (bytesOf s).length = s.size := bytesOf_length s
/-- The strings of a list sum up to no more than n. -/
def sumS : List ByteArray → Nat
  | [] => 0
  | x :: r => x.size + sumS r
theorem sumS_drop (l : List ByteArray) (i : Nat) (h : i < l.length) : sumS (l.drop i) = l[i].size + sumS (l.drop (i + 1)) := by
  rw [List.drop_eq_getElem_cons h, sumS]
theorem Join_both (l : List ByteArray) (by_ : ByteArray) (hl : l.length ≤ 1048576) (hs : sumS l ≤ 1048576) (hb : by_.size ≤ 1048576) : ∃ r : ByteArray, Ev (fun k => spec_Join.f k l by_) r ∧ Ev (fun k => impl_Join.f k l by_) r := by
  have hbl : ∀ n : Nat, n ≤ 1048576 → n * by_.size ≤ 1048576 * 1048576 := fun n hn => Nat.mul_le_mul hn hb
  have loop : ∀ (d i : Nat) (s : ByteArray), l.length - i = d → i ≤ l.length → s.size + sumS (l.drop i) ≤ 1048576 + i * by_.size → ∃ r : ByteArray, Ev (fun k => spec_Join.l0 k by_ s l (l.length : Int) (i : Int)) r ∧ Ev (fun k => impl_Join.l0 k by_ (bytesOf s) l (l.length : Int) (i : Int)) r := by
    intro d
    induction d with
    | zero =>
      intro i s hi hl' hz
      exact ⟨s, Ev.step (f := fun _ => some s) (fun k => by rw [spec_Join.l0, if_neg (by omega)]) (Ev.now _), Ev.step (f := fun _ => some s) (fun k => by rw [impl_Join.l0, if_neg (by omega), strOfNums_bytes]) (Ev.now _)⟩
    | succ d ihd =>
      intro i s hi hl' hz
      rw [sumS_drop l i (by omega)] at hz
      have hm := hbl i (by omega)
      by_cases c : (i : Int) > 0
      · obtain ⟨r, h1, h2⟩ := ihd (i + 1) ((s ++ by_) ++ l[i]) (by omega) (by omega) (by rw [ByteArray.size_append, ByteArray.size_append, Nat.succ_mul]; omega)
        refine ⟨r, ?_, ?_⟩
        · refine Ev.step (fun k => by rw [spec_Join.l0, if_pos (by omega), if_pos (by omega), if_pos (by omega), if_pos c, rdOf_at _ l i (by omega), w64s (by omega)]) ?_
          refine Ev.pos (by omega) ?_
          exact Ev.pos (by rw [ByteArray.size_append]; omega) h1
        · refine Ev.step (fun k => by rw [impl_Join.l0, if_pos (by omega), if_pos (by omega), if_pos (by omega), if_pos c, rdOf_at _ l i (by omega), w64s (by omega)]) ?_
          refine Ev.pos (by rw [bytesOf_length]; omega) ?_
          refine Ev.bindc rfl ?_
          refine Ev.pos (by rw [List.length_append, bytesOf_length, bytesOf_length]; omega) ?_
          rw [bytesOf_append, bytesOf_append] at h2
          exact h2
      · obtain ⟨r, h1, h2⟩ := ihd (i + 1) (s ++ l[i]) (by omega) (by omega) (by rw [ByteArray.size_append, Nat.succ_mul]; omega)
        refine ⟨r, ?_, ?_⟩
        · refine Ev.step (fun k => by rw [spec_Join.l0, if_pos (by omega), if_pos (by omega), if_pos (by omega), if_neg c, rdOf_at _ l i (by omega), w64s (by omega)]) ?_
          exact Ev.pos (by omega) h1
        · refine Ev.step (fun k => by rw [impl_Join.l0, if_pos (by omega), if_pos (by omega), if_pos (by omega), if_neg c, rdOf_at _ l i (by omega), w64s (by omega)]) ?_
          refine Ev.pos (by rw [bytesOf_length]; omega) ?_
          rw [bytesOf_append] at h2
          exact h2
  exact loop l.length 0 ⟨#[]⟩ (by omega) (by omega) (by rw [List.drop_zero]; show 0 + sumS l ≤ _; omega)
end Go.Proofs.Ytaoabfhabejmgaa.X
