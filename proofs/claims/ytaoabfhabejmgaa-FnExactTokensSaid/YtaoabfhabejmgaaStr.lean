/- Lists of strings: equality with itself, marks and what is held. -/
import Derived.Test.YtaoabfhabejmgaaBase
import Derived.Test.YtaoabfhabejmgaaX23
import Derived.Test.YtaoabfhabejmgaaX55
import Derived.Test.YtaoabfhabejmgaaX31
import Derived.Test.YtaoabfhabejmgaaX32
namespace Go.Proofs.Ytaoabfhabejmgaa.X
open Go.RowKit Go.Proofs.YtaoabfhabejmgaaW.PrintWords Go.Proofs.Ytaoabfhabejmgaa.Base
set_option linter.unusedVariables false
set_option linter.unusedSimpArgs false
theorem eqStringS_refl (l : List ByteArray) (hl : l.length ≤ 10000000000000) : Ev (fun k => laws_eqStringS.f k l l) true := by
  have loop : ∀ (d i : Nat), l.length - i = d → i ≤ l.length → Ev (fun k => laws_eqStringS.l0 k l l (i : Int)) true := by
    intro d
    induction d with
    | zero => intro i hi hl'; exact Ev.step (f := fun _ => some true) (fun k => by rw [laws_eqStringS.l0, if_neg (by omega)]) (Ev.now _)
    | succ d ihd =>
      intro i hi hl'
      exact Ev.step (fun k => by rw [laws_eqStringS.l0, if_pos (by omega), if_pos (by omega), if_pos (by omega), if_pos rfl, w64s (by omega)]) (ihd (i + 1) (by omega) (by omega))
  unfold laws_eqStringS.f
  exact Ev.pos rfl (loop l.length 0 (by omega) (by omega))
theorem mt_loop : ∀ (n : Nat) (x : Int) (s : ByteArray), x ≤ 9223372036854775807 → x < 10 ^ n → s.size ≤ 1000 - n → n ≤ 1000 → ∃ r : ByteArray, Ev (fun k => laws_markText.l0 k x s) r := by
  intro n
  induction n with
  | zero =>
    intro x s _ hx hs hn
    exact ⟨_, Ev.step (fun k => by rw [laws_markText.l0, if_neg (by omega), if_pos (by omega)]) (Ev.now _)⟩
  | succ n ih =>
    intro x s hx2 hx hs hn
    by_cases h0 : x > 0
    · have hq0 : wrap64 (Int.tdiv x 10) = x / 10 := by
        rw [Int.tdiv_eq_ediv_of_nonneg (by omega)]
        exact w64 (by omega) (by omega)
      have hq : wrap64 (Int.tdiv x 10) < 10 ^ n := by
        rw [hq0]
        exact Int.ediv_lt_of_lt_mul (by omega) (by rw [← Int.pow_succ]; exact hx)
      have hz : ((strOfNums [wrap64 (48 + Int.tmod x 10) % 256]) ++ s).size ≤ 1000 - n := by rw [ByteArray.size_append, strOfNums_one]; omega
      obtain ⟨r, hr⟩ := ih (wrap64 (Int.tdiv x 10)) _ (by rw [hq0]; omega) hq hz (by omega)
      refine ⟨r, Ev.step (fun k => by rw [laws_markText.l0, if_pos h0]) ?_⟩
      simp only [Option.bind_some]
      exact Ev.pos (by rw [strOfNums_one]; omega) hr
    · exact ⟨_, Ev.step (fun k => by rw [laws_markText.l0, if_neg h0, if_pos (by omega)]) (Ev.now _)⟩
/-- markText ends at every number of int's. -/
theorem markText_ends (x : Int) (h : x ≤ 9223372036854775807) : ∃ r : ByteArray, Ev (fun k => laws_markText.f k x) r := by
  unfold laws_markText.f
  by_cases h0 : x ≤ 0
  · exact ⟨_, Ev.pos h0 (Ev.now _)⟩
  · obtain ⟨r, hr⟩ := mt_loop 19 x ⟨#[]⟩ h (by omega) (by show 0 ≤ 1000 - 19; omega) (by omega)
    exact ⟨r, Ev.neg h0 hr⟩
open Classical in
noncomputable def mtx (x : Int) : ByteArray := if h : ∃ r : ByteArray, Ev (fun k => laws_markText.f k x) r then Classical.choose h else ByteArray.empty
theorem mtx_ev (x : Int) (h : x ≤ 9223372036854775807) : Ev (fun k => laws_markText.f k x) (mtx x) := by
  have he := markText_ends x h
  unfold mtx
  rw [dif_pos he]
  exact Classical.choose_spec he
/-- Marks k, k + 1, .. from index i on. -/
def MarkedS (l : List ByteArray) (k : Int) : Prop := ∀ (j : Nat) (h : j < l.length), l[j] = mtx (k + j)
theorem markStringS_ev (l : List ByteArray) (m : Int) (hm : -1000000000 ≤ m ∧ m ≤ 1000000000000) (hl : l.length ≤ 10000000000000) : ∃ l' : List ByteArray, l'.length = l.length ∧ MarkedS l' m ∧ Ev (fun k => laws_markStringS.f k l m) (m + l.length, l') := by
  have loop : ∀ (d i : Nat) (x : List ByteArray), x.length = l.length → l.length - i = d → i ≤ l.length → (∀ (j : Nat) (h : j < x.length), j < i → x[j] = mtx (m + j)) → ∃ l' : List ByteArray, l'.length = l.length ∧ MarkedS l' m ∧ Ev (fun k => laws_markStringS.l0 k x (m + i) (i : Int)) (m + l.length, l') := by
    intro d
    induction d with
    | zero =>
      intro i x hx hi hl' hj
      exact ⟨x, hx, fun j h => hj j h (by omega), Ev.eq (Ev.step (fun k => by rw [laws_markStringS.l0, if_neg (by omega)]) (Ev.now _)) (by rw [show i = l.length by omega])⟩
    | succ d ihd =>
      intro i x hx hi hl' hj
      obtain ⟨l', h1, h2, h3⟩ := ihd (i + 1) (x.set i (mtx (m + i))) (by rw [List.length_set]; exact hx) (by omega) (by omega) (fun j h hji => by
        rw [List.getElem_set]
        by_cases e : i = j
        · rw [if_pos e, e]
        · rw [if_neg e]; exact hj j (by rw [List.length_set] at h; exact h) (by omega))
      refine ⟨l', h1, h2, Ev.step (fun k => by rw [laws_markStringS.l0, if_pos (by omega)]) (Ev.bind (mtx_ev (m + i) (by omega)) ?_)⟩
      rw [w64 (i := m + (i : Int) + 1) (by omega) (by omega), w64s (by omega), Int.toNat_natCast, show m + (i : Int) + 1 = m + ((i + 1 : Nat) : Int) by omega]
      exact Ev.pos (by omega) h3
  obtain ⟨l', h1, h2, h3⟩ := loop l.length 0 l rfl (by omega) (by omega) (fun j _ h => by omega)
  refine ⟨l', h1, h2, ?_⟩
  unfold laws_markStringS.f
  rw [show m + ((0 : Nat) : Int) = m by omega] at h3
  exact h3
theorem heldStringS_ev (l : List ByteArray) (m : Int) (hm : -1000000000 ≤ m ∧ m ≤ 1000000000000) (hl : l.length ≤ 10000000000000) (h : MarkedS l m) : Ev (fun k => laws_heldStringS.f k l m) (m + l.length) := by
  have loop : ∀ (d i : Nat), l.length - i = d → i ≤ l.length → Ev (fun k => laws_heldStringS.l0 k l (m + i) (i : Int)) (m + l.length) := by
    intro d
    induction d with
    | zero =>
      intro i hi hl'
      exact Ev.eq (Ev.step (fun k => by rw [laws_heldStringS.l0, if_neg (by omega)]) (Ev.now _)) (by rw [show i = l.length by omega])
    | succ d ihd =>
      intro i hi hl'
      refine Ev.step (fun k => by rw [laws_heldStringS.l0, if_pos (by omega), if_pos (by omega), rdOf_at _ l i (by omega)]) (Ev.bind (mtx_ev (m + i) (by omega)) ?_)
      rw [w64 (i := m + (i : Int) + 1) (by omega) (by omega), w64s (by omega), show m + (i : Int) + 1 = m + ((i + 1 : Nat) : Int) by omega]
      exact Ev.pos (by rw [h i (by omega)]) (ihd (i + 1) (by omega) (by omega))
  have h0 := loop l.length 0 (by omega) (by omega)
  unfold laws_heldStringS.f
  rw [show m + ((0 : Nat) : Int) = m by omega] at h0
  exact h0
end Go.Proofs.Ytaoabfhabejmgaa.X
