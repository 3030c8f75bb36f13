/- Bindings: the laws' own, their copy, their weight, equality with itself. -/
import Derived.Test.YtkpaomcnjnojcaaConv
import Derived.Test.YtkpaomcnjnojcaaFill
import Derived.Test.YtkpaomcnjnojcaaX48
import Derived.Test.YtkpaomcnjnojcaaX50
import Derived.Test.YtkpaomcnjnojcaaX52
namespace Go.Proofs.Ytkpaomcnjnojcaa.X
open Go.RowKit Go.Proofs.YtkpaomcnjnojcaaW.PrintWords Go.Proofs.Ytkpaomcnjnojcaa.Base
set_option linter.unusedVariables false
set_option linter.unusedSimpArgs false
abbrev LBd := S120
abbrev IBd := S122
def convB (x : LBd) : IBd := ⟨x.f0, conv x.f1⟩
theorem rdB (l : List IBd) (i : Nat) (h : i < l.length) : rd_T122 l (i : Int) = l[i] := by unfold rd_T122; simp [List.getD, h]
theorem rdLB (l : List LBd) (i : Nat) (h : i < l.length) : rd_T120 l (i : Int) = l[i] := by unfold rd_T120; simp [List.getD, h]
theorem toBinding_ev {x : LBd} (h : B120 x) : Ev (fun k => laws_toBinding.f k x.f0 x.f1.f0 x.f1.f1 x.f1.f2 x.f1.f3) (x.f0, (conv x.f1).f0, (conv x.f1).f1, (conv x.f1).f2, (conv x.f1).f3) := by
  unfold laws_toBinding.f
  exact Ev.bind (toTerm_ev h.b1) (Ev.now _)
theorem toBindingS_ev (l : List LBd) (hl : l.length ≤ 1048576) (hb : ∀ y ∈ l, B120 y) : Ev (fun k => laws_toBindingS.f k l) (l.map convB) := by
  have loop : ∀ (d i : Nat), l.length - i = d → i ≤ l.length → Ev (fun k => laws_toBindingS.l0 k l ((l.map convB).take i ++ List.replicate (l.length - i) z122) (i : Int)) (l.map convB) := by
    intro d
    induction d with
    | zero =>
      intro i hi hl'
      exact Ev.eq (Ev.step (f := fun _ => some _) (fun k => by rw [laws_toBindingS.l0, if_neg (by omega)]) (Ev.now _)) (fill_end _ _ _ _ (by omega))
    | succ d ihd =>
      intro i hi hl'
      have hy := hb l[i] (List.getElem_mem _)
      refine Ev.step (fun k => by rw [laws_toBindingS.l0, if_pos (by omega), if_pos (by omega), rdLB l i (by omega), fill_len _ _ _ _ hl', w64s (by omega)]) ?_
      refine Ev.bind (toBinding_ev hy) ?_
      refine Ev.pos (by omega) ?_
      have h := ihd (i + 1) (by omega) (by omega)
      rw [← fill_set _ _ _ _ (by omega)] at h
      rw [Int.toNat_natCast i]
      have e : convB l[i] = ⟨l[i].f0, ⟨(conv l[i].f1).f0, (conv l[i].f1).f1, (conv l[i].f1).f2, (conv l[i].f1).f3⟩⟩ := by unfold convB; cases conv l[i].f1; rfl
      rw [e] at h
      exact h
  have h0 := loop l.length 0 (by omega) (by omega)
  rw [← fill_start] at h0
  unfold laws_toBindingS.f
  refine Ev.pos (by omega) ?_
  refine Ev.pos (by omega) ?_
  exact h0
/-- Bindings whose terms are of no great length. -/
theorem eqBindingS_refl (l : List IBd) (hl : l.length ≤ 1048576) (hb : ∀ y ∈ l, Lg y.f1) : Ev (fun k => laws_eqBindingS.f k l l) true := by
  have loop : ∀ (d i : Nat), l.length - i = d → i ≤ l.length → Ev (fun k => laws_eqBindingS.l0 k l l (i : Int)) true := by
    intro d
    induction d with
    | zero => intro i hi hl'; exact Ev.step (f := fun _ => some true) (fun k => by rw [laws_eqBindingS.l0, if_neg (by omega)]) (Ev.now _)
    | succ d ihd =>
      intro i hi hl'
      have hy := hb l[i] (List.getElem_mem _)
      refine Ev.step (fun k => by rw [laws_eqBindingS.l0, if_pos (by omega), if_pos (by omega), if_pos (by omega), rdB l i (by omega), w64s (by omega)]) ?_
      refine Ev.bind (a := true) ?_ (Ev.pos rfl (ihd (i + 1) (by omega) (by omega)))
      unfold laws_eqBinding.f
      exact Ev.pos rfl (Ev.bind (eqTerm_refl hy) (Ev.pos rfl (Ev.now _)))
  unfold laws_eqBindingS.f
  exact Ev.pos rfl (loop l.length 0 (by omega) (by omega))
theorem szBindingS_ev (l : List LBd) (hl : l.length ≤ 140737488351232) (hb : ∀ y ∈ l, B120 y) (left : Int) (g0 : 0 ≤ left) (g1 : left ≤ 1048576) : ∃ r : Int, Ev (fun k => laws_szBindingS.f k l left) r ∧ r ≤ left ∧ (0 ≤ r → l.length ≤ 1048576 ∧ ∀ y ∈ l, Sm (conv y.f1)) := by
  have loop : ∀ (d i : Nat) (lf : Int), l.length - i = d → i ≤ l.length → 0 ≤ lf → lf ≤ left → ∃ r : Int, Ev (fun k => laws_szBindingS.l0 k l lf (i : Int)) r ∧ r ≤ left ∧ (0 ≤ r → ∀ j (h : j < l.length), i ≤ j → Sm (conv l[j].f1)) := by
    intro d
    induction d with
    | zero => intro i lf hi hl' h0 h1; exact ⟨lf, Ev.step (f := fun _ => some lf) (fun k => by rw [laws_szBindingS.l0, if_neg (by omega)]) (Ev.now _), h1, fun _ j hj hij => by omega⟩
    | succ d ihd =>
      intro i lf hi hl' h0 h1
      have hy := hb l[i] (List.getElem_mem _)
      have hs := szTerm_ev hy.b1 lf h0 (by omega)
      by_cases c : (wt l[i].f1 : Int) ≤ lf
      · rw [if_pos c] at hs
        obtain ⟨r, hr, hr1, hr2⟩ := ihd (i + 1) (lf - wt l[i].f1) (by omega) (by omega) (by omega) (by omega)
        refine ⟨r, Ev.step (fun k => by rw [laws_szBindingS.l0, if_pos (by omega), if_pos (by omega), rdLB l i (by omega), w64s (by omega)]) ?_, hr1, fun h j hj hij => ?_⟩
        · refine Ev.bind (a := lf - wt l[i].f1) ?_ (Ev.neg (by omega) hr)
          unfold laws_szBinding.f
          exact Ev.bind hs (Ev.neg (by omega) (Ev.now _))
        · by_cases e : i = j
          · subst e
            exact Sm_conv _ (by omega)
          · exact hr2 h j hj (by omega)
      · rw [if_neg c] at hs
        refine ⟨-1, Ev.step (fun k => by rw [laws_szBindingS.l0, if_pos (by omega), if_pos (by omega), rdLB l i (by omega)]) ?_, by omega, fun h => by omega⟩
        refine Ev.bind (a := -1) ?_ (Ev.pos (by omega) (Ev.now _))
        unfold laws_szBinding.f
        exact Ev.bind hs (Ev.pos (by omega) (Ev.now _))
  unfold laws_szBindingS.f
  have hw : wrap64 (left - (l.length : Int)) = left - (l.length : Int) := w64 (by omega) (by omega)
  rw [hw]
  by_cases c : left - (l.length : Int) < 0
  · exact ⟨-1, Ev.pos c (Ev.now _), by omega, fun h => by omega⟩
  · obtain ⟨r, hr, hr1, hr2⟩ := loop l.length 0 (left - (l.length : Int)) (by omega) (by omega) (by omega) (by omega)
    refine ⟨r, Ev.neg c hr, hr1, fun h => ⟨by omega, fun y hy => ?_⟩⟩
    obtain ⟨j, hj, rfl⟩ := List.getElem_of_mem hy
    exact hr2 h j hj (by omega)
/-- The guard of a law over bindings. -/
theorem szBindingS_guard {l : List LBd} (hB : l.length ≤ 140737488351232) (hb : ∀ y ∈ l, B120 y) {left : Int} (h0 : 0 ≤ left) (h1 : left ≤ 1048576) {α : Type} {f : Nat → Int → Option α} {r : α} (hno : ∀ n : Int, n < 0 → Ev (fun k => f k n) r) (hyes : ∀ n : Int, 0 ≤ n → n ≤ left → l.length ≤ 1048576 → (∀ y ∈ l.map convB, Sm y.f1) → Ev (fun k => f k n) r) :
    Ev (fun k => (laws_szBindingS.f k l left).bind (f k)) r := by
  obtain ⟨n, hn, hn1, hn2⟩ := szBindingS_ev l hB hb left h0 h1
  refine Ev.bind hn ?_
  by_cases c : n < 0
  · exact hno n c
  · obtain ⟨g1, g2⟩ := hn2 (by omega)
    refine hyes n (by omega) hn1 g1 (fun y hy => ?_)
    obtain ⟨z, hz, rfl⟩ := List.mem_map.1 hy
    exact g2 z hz
theorem Lg_convB {l : List LBd} (hb : ∀ y ∈ l, B120 y) : ∀ y ∈ l.map convB, Lg y.f1 := by
  intro y hy
  obtain ⟨z, hz, rfl⟩ := List.mem_map.1 hy
  exact Lg_conv (hb z hz).b1
end Go.Proofs.Ytkpaomcnjnojcaa.X
