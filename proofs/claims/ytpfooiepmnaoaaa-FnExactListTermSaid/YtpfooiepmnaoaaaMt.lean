/- markText: the text of a mark. -/
import Derived.Test.YtpfooiepmnaoaaaBase
import Derived.Test.YtpfooiepmnaoaaaX70
namespace Go.Proofs.Ytpfooiepmnaoaaa.X
open Go.RowKit Go.Proofs.YtpfooiepmnaoaaaW.PrintWords Go.Proofs.Ytpfooiepmnaoaaa.Base
set_option linter.unusedVariables false
set_option linter.unusedSimpArgs false
theorem mt_loop : ∀ (n : Nat) (x : Int) (s : ByteArray), x ≤ 9223372036854775807 → x < 10 ^ n → s.size ≤ 1000 - n → n ≤ 1000 → ∃ r : ByteArray, Ev (fun k => laws_markText.l0 k x s) r := by
  intro n
  induction n with
  | zero =>
    intro x s _ hx hs hn
    exact ⟨_, Ev.step (fun k => by rw [laws_markText.l0, if_neg (by omega), if_pos (by omega)]) (Ev.now _)⟩
  | succ n ih =>
    intro x s hx2 hx hs hn
    by_cases h0 : x > 0
    · have hq0 : wrap64 (Int.tdiv x 10) = x / 10 := by
        rw [Int.tdiv_eq_ediv_of_nonneg (by omega)]
        exact w64 (by omega) (by omega)
      have hq : wrap64 (Int.tdiv x 10) < 10 ^ n := by
        rw [hq0]
        exact Int.ediv_lt_of_lt_mul (by omega) (by rw [← Int.pow_succ]; exact hx)
      have hz : ((strOfNums [wrap64 (48 + Int.tmod x 10) % 256]) ++ s).size ≤ 1000 - n := by rw [ByteArray.size_append, strOfNums_one]; omega
      obtain ⟨r, hr⟩ := ih (wrap64 (Int.tdiv x 10)) _ (by rw [hq0]; omega) hq hz (by omega)
      refine ⟨r, Ev.step (fun k => by rw [laws_markText.l0, if_pos h0]) ?_⟩
      simp only [Option.bind_some]
      exact Ev.pos (by rw [strOfNums_one]; omega) hr
    · exact ⟨_, Ev.step (fun k => by rw [laws_markText.l0, if_neg h0, if_pos (by omega)]) (Ev.now _)⟩
/-- markText ends at every number of int's. -/
theorem markText_ends (x : Int) (h : x ≤ 9223372036854775807) : ∃ r : ByteArray, Ev (fun k => laws_markText.f k x) r := by
  unfold laws_markText.f
  by_cases h0 : x ≤ 0
  · exact ⟨_, Ev.pos h0 (Ev.now _)⟩
  · obtain ⟨r, hr⟩ := mt_loop 19 x ⟨#[]⟩ h (by omega) (by show 0 ≤ 1000 - 19; omega) (by omega)
    exact ⟨r, Ev.neg h0 hr⟩
open Classical in
noncomputable def mtx (x : Int) : ByteArray := if h : ∃ r : ByteArray, Ev (fun k => laws_markText.f k x) r then Classical.choose h else ByteArray.empty
theorem mtx_ev (x : Int) (h : x ≤ 9223372036854775807) : Ev (fun k => laws_markText.f k x) (mtx x) := by
  have he := markText_ends x h
  unfold mtx
  rw [dif_pos he]
  exact Classical.choose_spec he
end Go.Proofs.Ytpfooiepmnaoaaa.X
