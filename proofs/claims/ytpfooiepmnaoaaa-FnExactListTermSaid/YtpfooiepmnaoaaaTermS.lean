/- Lists of terms: their weight, equality with themselves. -/
import Derived.Test.YtpfooiepmnaoaaaConv
namespace Go.Proofs.Ytpfooiepmnaoaaa.X
open Go.RowKit Go.Proofs.YtpfooiepmnaoaaaW.PrintWords Go.Proofs.Ytpfooiepmnaoaaa.Base
set_option linter.unusedVariables false
set_option linter.unusedSimpArgs false
theorem szTermS_ev (l : List LTm) (hl : l.length ≤ 140737488351232) (hb : ∀ y ∈ l, B44 y) (left : Int) (g0 : 0 ≤ left) (g1 : left ≤ 1048576) : ∃ r : Int, Ev (fun k => laws_szTermS.f k l left) r ∧ r ≤ left ∧ (0 ≤ r → l.length ≤ 1048576 ∧ ∀ y ∈ l, Sm (conv y)) := by
  have loop : ∀ (d i : Nat) (lf : Int), l.length - i = d → i ≤ l.length → 0 ≤ lf → lf ≤ left → ∃ r : Int, Ev (fun k => laws_szTermS.l0 k l lf (i : Int)) r ∧ r ≤ left ∧ (0 ≤ r → ∀ j (h : j < l.length), i ≤ j → Sm (conv l[j])) := by
    intro d
    induction d with
    | zero => intro i lf hi hl' h0 h1; exact ⟨lf, Ev.step (f := fun _ => some lf) (fun k => by rw [laws_szTermS.l0, if_neg (by omega)]) (Ev.now _), h1, fun _ j hj hij => by omega⟩
    | succ d ihd =>
      intro i lf hi hl' h0 h1
      have hs := szTerm_ev (hb l[i] (List.getElem_mem _)) lf h0 (by omega)
      by_cases c : (wt l[i] : Int) ≤ lf
      · rw [if_pos c] at hs
        obtain ⟨r, hr, hr1, hr2⟩ := ihd (i + 1) (lf - wt l[i]) (by omega) (by omega) (by omega) (by omega)
        refine ⟨r, Ev.step (fun k => by rw [laws_szTermS.l0, if_pos (by omega), if_pos (by omega), rdL_at l i (by omega), w64s (by omega)]) ?_, hr1, fun h j hj hij => ?_⟩
        · exact Ev.bind hs (Ev.neg (by omega) hr)
        · by_cases e : i = j
          · subst e
            exact Sm_conv _ (by omega)
          · exact hr2 h j hj (by omega)
      · rw [if_neg c] at hs
        refine ⟨-1, Ev.step (fun k => by rw [laws_szTermS.l0, if_pos (by omega), if_pos (by omega), rdL_at l i (by omega)]) ?_, by omega, fun h => by omega⟩
        exact Ev.bind hs (Ev.pos (by omega) (Ev.now _))
  have hw : wrap64 (left - (l.length : Int)) = left - (l.length : Int) := w64 (by omega) (by omega)
  by_cases c : left - (l.length : Int) < 0
  · exact ⟨-1, Ev.step (f := fun _ => some (-1)) (fun k => by rw [laws_szTermS.f, hw, if_pos c]) (Ev.now _), by omega, fun h => by omega⟩
  · obtain ⟨r, hr, hr1, hr2⟩ := loop l.length 0 (left - (l.length : Int)) (by omega) (by omega) (by omega) (by omega)
    refine ⟨r, Ev.step (fun k => by rw [laws_szTermS.f, hw, if_neg c]; rfl) hr, hr1, fun h => ⟨by omega, fun y hy => ?_⟩⟩
    obtain ⟨j, hj, rfl⟩ := List.getElem_of_mem hy
    exact hr2 h j hj (by omega)
/-- The guard of a law over terms. -/
theorem szTermS_guard {l : List LTm} (hB : l.length ≤ 140737488351232) (hb : ∀ y ∈ l, B44 y) {left : Int} (h0 : 0 ≤ left) (h1 : left ≤ 1048576) {α : Type} {f : Nat → Int → Option α} {r : α} (hno : ∀ n : Int, n < 0 → Ev (fun k => f k n) r) (hyes : ∀ n : Int, 0 ≤ n → n ≤ left → l.length ≤ 1048576 → (∀ y ∈ l.map conv, Sm y) → Ev (fun k => f k n) r) :
    Ev (fun k => (laws_szTermS.f k l left).bind (f k)) r := by
  obtain ⟨n, hn, hn1, hn2⟩ := szTermS_ev l hB hb left h0 h1
  refine Ev.bind hn ?_
  by_cases c : n < 0
  · exact hno n c
  · obtain ⟨g1, g2⟩ := hn2 (by omega)
    refine hyes n (by omega) hn1 g1 (fun y hy => ?_)
    obtain ⟨z, hz, rfl⟩ := List.mem_map.1 hy
    exact g2 z hz
theorem eqTermS_refl {l : List ITm} (hl : l.length ≤ 1048576) (h : ∀ y ∈ l, Lg y) : Ev (fun k => laws_eqTermS.f k l l) true := eqTermS_of (by omega) (fun y hy => eqTerm_refl (h y hy))
theorem Lg_convS {l : List LTm} (hb : ∀ y ∈ l, B44 y) : ∀ y ∈ l.map conv, Lg y := by
  intro y hy
  obtain ⟨z, hz, rfl⟩ := List.mem_map.1 hy
  exact Lg_conv (hb z hz)
end Go.Proofs.Ytpfooiepmnaoaaa.X
