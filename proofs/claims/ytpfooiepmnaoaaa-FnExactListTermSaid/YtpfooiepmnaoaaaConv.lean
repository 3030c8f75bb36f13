/- The laws' own terms: what they weigh, their copy as the program's terms, equality with itself. -/
import Derived.Test.YtpfooiepmnaoaaaTerms
import Derived.Test.YtpfooiepmnaoaaaX15
import Derived.Test.YtpfooiepmnaoaaaX17
import Derived.Test.YtpfooiepmnaoaaaX19
namespace Go.Proofs.Ytpfooiepmnaoaaa.X
open Go.RowKit Go.Proofs.YtpfooiepmnaoaaaW.PrintWords Go.Proofs.Ytpfooiepmnaoaaa.Base
set_option linter.unusedVariables false
set_option linter.unusedSimpArgs false

mutual
def conv : LTm → ITm
  | ⟨a, b, c, l⟩ => ⟨a, b, c, convL l⟩
def convL : List LTm → List ITm
  | [] => []
  | x :: r => conv x :: convL r
end
theorem convL_map : ∀ l : List LTm, convL l = l.map conv
  | [] => rfl
  | x :: r => by rw [convL, List.map_cons, convL_map r]
theorem conv_eq (x : LTm) : conv x = ⟨x.f0, x.f1, x.f2, x.f3.map conv⟩ := by
  obtain ⟨a, b, c, l⟩ := x
  rw [conv, convL_map]
theorem conv_f0 (x : LTm) : (conv x).f0 = x.f0 := by rw [conv_eq]
theorem conv_f1 (x : LTm) : (conv x).f1 = x.f1 := by rw [conv_eq]
theorem conv_f2 (x : LTm) : (conv x).f2 = x.f2 := by rw [conv_eq]
theorem conv_f3 (x : LTm) : (conv x).f3 = x.f3.map conv := by rw [conv_eq]
mutual
def wt : LTm → Nat
  | ⟨_, _, c, l⟩ => c.size + wtL l
def wtL : List LTm → Nat
  | [] => 0
  | x :: r => 1 + wt x + wtL r
end
theorem wt_eq (x : LTm) : wt x = x.f2.size + wtL x.f3 := by
  obtain ⟨a, b, c, l⟩ := x
  rw [wt]
def wtR : List LTm → Nat   -- without the elements' own count
  | [] => 0
  | x :: r => wt x + wtR r
theorem wtL_eq : ∀ l : List LTm, wtL l = l.length + wtR l
  | [] => rfl
  | x :: r => by rw [wtL, wtR, List.length_cons, wtL_eq r]; omega
theorem wtR_drop (l : List LTm) (i : Nat) (h : i < l.length) : wtR (l.drop i) = wt l[i] + wtR (l.drop (i + 1)) := by
  rw [List.drop_eq_getElem_cons h, wtR]

theorem szTerm_ev {x : LTm} (h : B44 x) : ∀ left : Int, 0 ≤ left → left ≤ 1048576 → Ev (fun k => laws_szTerm.f k x.f0 x.f1 x.f2 x.f3 left) (if (wt x : Int) ≤ left then left - wt x else -1) := by
  induction h with
  | mk x h0 h1 h2 h3 h4 ih =>
  intro left hl0 hl1
  have loop : ∀ (d i : Nat), x.f3.length - i = d → i ≤ x.f3.length → ∀ lf : Int, 0 ≤ lf → lf ≤ 1048576 → Ev (fun k => laws_szTermS.l0 k x.f3 lf (i : Int)) (if (wtR (x.f3.drop i) : Int) ≤ lf then lf - wtR (x.f3.drop i) else -1) := by
    intro d
    induction d with
    | zero =>
      intro i hi hl lf g0 g1
      refine Ev.eq (Ev.step (f := fun _ => some lf) (fun k => by rw [laws_szTermS.l0, if_neg (by omega)]) (Ev.now _)) ?_
      have e0 : wtR (x.f3.drop i) = 0 := by rw [List.drop_of_length_le (by omega)]; rfl
      rw [if_pos (by omega)]; omega
    | succ d ihd =>
      intro i hi hl lf g0 g1
      have hy := List.getElem_mem (l := x.f3) (n := i) (by omega)
      have hc := ih _ hy lf g0 g1
      rw [wtR_drop x.f3 i (by omega)]
      by_cases hw : (wt x.f3[i] : Int) ≤ lf
      · rw [if_pos hw] at hc
        refine Ev.step (fun k => by rw [laws_szTermS.l0, if_pos (by omega), if_pos (by omega), rdL_at x.f3 i (by omega), w64s (by omega)]) (Ev.bind hc ?_)
        refine Ev.neg (by omega) (Ev.eq (ihd (i + 1) (by omega) (by omega) _ (by omega) (by omega)) ?_)
        by_cases hq : (wtR (x.f3.drop (i + 1)) : Int) ≤ lf - wt x.f3[i]
        · rw [if_pos hq, if_pos (by omega)]; omega
        · rw [if_neg hq, if_neg (by omega)]
      · rw [if_neg hw] at hc
        refine Ev.step (fun k => by rw [laws_szTermS.l0, if_pos (by omega), if_pos (by omega), rdL_at x.f3 i (by omega)]) (Ev.bind hc ?_)
        rw [if_neg (c := ((wt x.f3[i] + wtR (x.f3.drop (i + 1)) : Nat) : Int) ≤ lf) (by omega)]
        exact Ev.pos (by omega) (Ev.now _)
  rw [wt_eq]
  by_cases a : left - (x.f2.size : Int) < 0
  · refine Ev.eq (Ev.step (f := fun _ => some (-1)) (fun k => by rw [laws_szTerm.f, w64 (by omega) (by omega), if_pos a]) (Ev.now _)) ?_
    rw [if_neg (by omega)]
  · have hS : Ev (fun k => laws_szTermS.f k x.f3 (left - (x.f2.size : Int))) (if (wtL x.f3 : Int) ≤ left - (x.f2.size : Int) then left - (x.f2.size : Int) - wtL x.f3 else -1) := by
      rw [wtL_eq]
      by_cases b : left - (x.f2.size : Int) - (x.f3.length : Int) < 0
      · refine Ev.eq (Ev.step (f := fun _ => some (-1)) (fun k => by rw [laws_szTermS.f, w64 (by omega) (by omega), if_pos b]) (Ev.now _)) ?_
        rw [if_neg (by omega)]
      · have hloop := loop x.f3.length 0 (by omega) (by omega) (left - (x.f2.size : Int) - (x.f3.length : Int)) (by omega) (by omega)
        rw [List.drop_zero] at hloop
        refine Ev.eq (Ev.step (fun k => by rw [laws_szTermS.f, w64 (by omega) (by omega), if_neg b]; rfl) hloop) ?_
        by_cases hq : (wtR x.f3 : Int) ≤ left - (x.f2.size : Int) - (x.f3.length : Int)
        · rw [if_pos hq, if_pos (by omega)]; omega
        · rw [if_neg hq, if_neg (by omega)]
    refine Ev.step (fun k => by rw [laws_szTerm.f, w64 (by omega) (by omega), if_neg a]) (Ev.bind hS ?_)
    by_cases hq : (wtL x.f3 : Int) ≤ left - (x.f2.size : Int)
    · rw [if_pos hq]
      exact rpos (by omega) (Ev.neg (by omega) (Ev.eq (Ev.now _) (by omega)))
    · rw [if_neg hq]
      exact rneg (by omega) (Ev.pos (by omega) (Ev.now _))

/-- A list filled from its left. -/
theorem fill_set {α β : Type} (f : α → β) (z : β) (xs : List α) (i : Nat) (h : i < xs.length) :
    ((xs.map f).take i ++ List.replicate (xs.length - i) z).set i (f xs[i]) = (xs.map f).take (i + 1) ++ List.replicate (xs.length - (i + 1)) z := by
  have hl : ((xs.map f).take i).length = i := by simp; omega
  rw [List.set_append, if_neg (by omega), hl, Nat.sub_self]
  rw [show xs.length - i = (xs.length - (i + 1)) + 1 by omega, List.replicate_succ, List.set_cons_zero, List.take_succ_eq_append_getElem (by simpa using h)]
  simp
theorem fill_len {α β : Type} (f : α → β) (z : β) (xs : List α) (i : Nat) (h : i ≤ xs.length) : ((xs.map f).take i ++ List.replicate (xs.length - i) z).length = xs.length := by
  simp; omega
theorem fill_end {α β : Type} (f : α → β) (z : β) (xs : List α) (i : Nat) (h : xs.length ≤ i) : (xs.map f).take i ++ List.replicate (xs.length - i) z = xs.map f := by
  rw [List.take_of_length_le (by simpa using h), show xs.length - i = 0 by omega]; simp

theorem toTermS_of {l : List LTm} (hl : l.length * 56 ≤ 140737488351232) (ih : ∀ y ∈ l, Ev (fun k => laws_toTerm.f k y.f0 y.f1 y.f2 y.f3) (y.f0, y.f1, y.f2, y.f3.map conv)) : Ev (fun k => laws_toTermS.f k l) (l.map conv) := by
  have loop : ∀ (d i : Nat), l.length - i = d → i ≤ l.length → Ev (fun k => laws_toTermS.l0 k l ((l.map conv).take i ++ List.replicate (l.length - i) z47) (i : Int)) (l.map conv) := by
    intro d
    induction d with
    | zero =>
      intro i hi hl'
      refine Ev.eq (Ev.step (f := fun _ => some _) (fun k => by rw [laws_toTermS.l0, if_neg (by omega)]) (Ev.now _)) (fill_end _ _ _ _ (by omega))
    | succ d ihd =>
      intro i hi hl'
      have hy := List.getElem_mem (l := l) (n := i) (by omega)
      refine Ev.step (fun k => by rw [laws_toTermS.l0, if_pos (by omega), if_pos (by omega), rdL_at l i (by omega), fill_len _ _ _ _ hl', w64s (by omega)]) (Ev.bind (ih _ hy) ?_)
      refine Ev.pos (by omega) ?_
      have e : (⟨l[i].f0, l[i].f1, l[i].f2, l[i].f3.map conv⟩ : ITm) = conv l[i] := (conv_eq _).symm
      show Ev (fun k => laws_toTermS.l0 k l (((l.map conv).take i ++ List.replicate (l.length - i) z47).set ((i : Int)).toNat (⟨l[i].f0, l[i].f1, l[i].f2, l[i].f3.map conv⟩ : ITm)) ((i + 1 : Nat) : Int)) _
      rw [e, Int.toNat_natCast, fill_set]
      exact ihd (i + 1) (by omega) (by omega)
  have h0 := loop l.length 0 (by omega) (by omega)
  rw [List.take_zero, List.nil_append, Nat.sub_zero] at h0
  exact Ev.step (fun k => by rw [laws_toTermS.f, if_pos (by omega), if_pos (by omega), Int.toNat_natCast]; rfl) h0
theorem toTerm_ev0 {x : LTm} (h : B44 x) : Ev (fun k => laws_toTerm.f k x.f0 x.f1 x.f2 x.f3) (x.f0, x.f1, x.f2, x.f3.map conv) := by
  induction h with
  | mk x h0 h1 h2 h3 h4 ih =>
  exact Ev.step (fun k => by rw [laws_toTerm.f]) (Ev.bind (toTermS_of h3 ih) (Ev.now _))
theorem toTerm_ev {x : LTm} (h : B44 x) : Ev (fun k => laws_toTerm.f k x.f0 x.f1 x.f2 x.f3) ((conv x).f0, (conv x).f1, (conv x).f2, (conv x).f3) := by
  rw [conv_f0, conv_f1, conv_f2, conv_f3]
  exact toTerm_ev0 h
theorem toTermS_ev {l : List LTm} (hl : l.length * 56 ≤ 140737488351232) (h : ∀ y ∈ l, B44 y) : Ev (fun k => laws_toTermS.f k l) (l.map conv) := toTermS_of hl (fun y hy => toTerm_ev0 (h y hy))

/-- Lists of no great length, at every level. -/
inductive Lg : ITm → Prop
  | mk (t : ITm) (h1 : t.f3.length ≤ 10000000000000) (h2 : ∀ y ∈ t.f3, Lg y) : Lg t
theorem eqTermS_of {l : List ITm} (hl : l.length ≤ 10000000000000) (ih : ∀ y ∈ l, Ev (fun k => laws_eqTerm.f k y.f0 y.f1 y.f2 y.f3 y.f0 y.f1 y.f2 y.f3) true) : Ev (fun k => laws_eqTermS.f k l l) true := by
  have loop : ∀ (d i : Nat), l.length - i = d → i ≤ l.length → Ev (fun k => laws_eqTermS.l0 k l l (i : Int)) true := by
    intro d
    induction d with
    | zero => intro i hi hl'; exact Ev.step (f := fun _ => some true) (fun k => by rw [laws_eqTermS.l0, if_neg (by omega)]) (Ev.now _)
    | succ d ihd =>
      intro i hi hl'
      have hy := List.getElem_mem (l := l) (n := i) (by omega)
      refine Ev.step (fun k => by rw [laws_eqTermS.l0, if_pos (by omega), if_pos (by omega), if_pos (by omega), rd_at l i (by omega), w64s (by omega)]) (Ev.bind (ih _ hy) ?_)
      exact Ev.pos rfl (ihd (i + 1) (by omega) (by omega))
  exact Ev.step (fun k => by rw [laws_eqTermS.f, if_pos rfl]; rfl) (loop l.length 0 (by omega) (by omega))
theorem eqTerm_refl {t : ITm} (h : Lg t) : Ev (fun k => laws_eqTerm.f k t.f0 t.f1 t.f2 t.f3 t.f0 t.f1 t.f2 t.f3) true := by
  induction h with
  | mk t h1 h2 ih =>
  exact Ev.step (fun k => by rw [laws_eqTerm.f, if_pos rfl, if_pos rfl, if_pos rfl]) (Ev.bind (eqTermS_of h1 ih) (Ev.pos rfl (Ev.now _)))
theorem Lg_conv {x : LTm} (h : B44 x) : Lg (conv x) := by
  induction h with
  | mk x h0 h1 h2 h3 h4 ih =>
  refine .mk _ (by rw [conv_f3, List.length_map]; omega) (fun y hy => ?_)
  rw [conv_f3] at hy
  obtain ⟨z, hz, rfl⟩ := List.mem_map.1 hy
  exact ih z hz
theorem wt_mem : ∀ {l : List LTm} {y : LTm}, y ∈ l → wt y + l.length ≤ wtL l + 0 := by
  intro l y hy
  rw [wtL_eq]
  have : wt y ≤ wtR l := by
    induction l with
    | nil => cases hy
    | cons a r ih =>
      rw [wtR]
      rcases List.mem_cons.1 hy with rfl | hy
      · omega
      · have := ih hy; omega
  omega
theorem Sm_conv : ∀ (x : LTm), wt x ≤ 1048576 → Sm (conv x) := by
  intro x
  induction x using indL with
  | h x ih =>
  intro hw
  rw [wt_eq] at hw
  have hL := wtL_eq x.f3
  refine .mk _ (by rw [conv_f2]; omega) (by rw [conv_f3, List.length_map]; omega) (fun y hy => ?_)
  rw [conv_f3] at hy
  obtain ⟨z, hz, rfl⟩ := List.mem_map.1 hy
  have := wt_mem hz
  exact ih z hz (by omega)
/-- The guard of a law over one term: either it is too large, or the rest is asked of a small one. -/
theorem szTerm_guard {x : LTm} (h : B44 x) {left : Int} (h0 : 0 ≤ left) (h1 : left ≤ 1048576) {α : Type} {f : Nat → Int → Option α} {r : α} (hno : ∀ n : Int, n < 0 → Ev (fun k => f k n) r) (hyes : ∀ n : Int, 0 ≤ n → n ≤ left → Sm (conv x) → Ev (fun k => f k n) r) :
    Ev (fun k => (laws_szTerm.f k x.f0 x.f1 x.f2 x.f3 left).bind (f k)) r := by
  refine Ev.bind (szTerm_ev h left h0 h1) ?_
  by_cases a : (wt x : Int) ≤ left
  · rw [if_pos a]
    exact hyes _ (by omega) (by omega) (Sm_conv x (by omega))
  · rw [if_neg a]
    exact hno _ (by omega)
end Go.Proofs.Ytpfooiepmnaoaaa.X
