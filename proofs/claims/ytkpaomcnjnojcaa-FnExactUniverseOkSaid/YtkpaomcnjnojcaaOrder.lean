/- The order of terms: the reference's and the program's are one. -/
import Derived.Test.YtkpaomcnjnojcaaTermOk
import Derived.Test.YtkpaomcnjnojcaaX196
import Derived.Test.YtkpaomcnjnojcaaX122
namespace Go.Proofs.Ytkpaomcnjnojcaa.X
open Go.RowKit Go.Proofs.YtkpaomcnjnojcaaW.PrintWords Go.Proofs.Ytkpaomcnjnojcaa.Base
set_option linter.unusedVariables false
set_option linter.unusedSimpArgs false
/-- The order of two numbers. -/
def cmpI (a b : Int) : Int := if a < b then -1 else if a > b then 1 else 0
theorem orderInts_ev (a b : Int) : impl_orderInts.f a b = some (cmpI a b) := by
  unfold impl_orderInts.f cmpI
  by_cases h : a < b
  · rw [if_pos h, if_pos h]
  · by_cases h2 : a > b
    · rw [if_neg h, if_neg h, if_pos h2, if_pos h2]
    · rw [if_neg h, if_neg h, if_neg h2, if_neg h2]
/-- The order of two names. -/
def cmpS (s t : ByteArray) : Int := if s.toList = t.toList then 0 else if Op.bytesLess s.toList t.toList = true then -1 else 1
def Tm.knd : Tm → Int
  | .nil => 0
  | .var _ => 1
  | .sym _ => 2
  | .int _ => 3
  | .pair _ _ => 4
def Tm.num : Tm → Int
  | .var n => n
  | .int i => i
  | _ => 0
def Tm.nam : Tm → ByteArray
  | .sym s => s
  | _ => ⟨#[]⟩
/-- The order of two terms. -/
def Tm.cmp (a b : Tm) : Int :=
  if a.knd = b.knd then
    if a.num = b.num then
      if a.nam.toList = b.nam.toList then
        match a, b with
        | .pair a1 a2, .pair b1 b2 => if a1.cmp b1 = 0 then a2.cmp b2 else a1.cmp b1
        | _, _ => 0
      else cmpS a.nam b.nam
    else cmpI a.num b.num
  else cmpI a.knd b.knd
theorem enc_f0 (m : Tm) : m.enc.f0 = m.knd := by cases m <;> rfl
theorem enc_f1 (m : Tm) : m.enc.f1 = m.num := by cases m <;> rfl
theorem enc_f2 (m : Tm) : m.enc.f2 = m.nam := by cases m <;> rfl
theorem cmp_kind {a b : Tm} (h : a.knd ≠ b.knd) : a.cmp b = cmpI a.knd b.knd := by unfold Tm.cmp; rw [if_neg h]
theorem cmp_num {a b : Tm} (h : a.knd = b.knd) (h1 : a.num ≠ b.num) : a.cmp b = cmpI a.num b.num := by unfold Tm.cmp; rw [if_pos h, if_neg h1]
theorem cmp_nam {a b : Tm} (h : a.knd = b.knd) (h1 : a.num = b.num) (h2 : a.nam.toList ≠ b.nam.toList) : a.cmp b = cmpS a.nam b.nam := by unfold Tm.cmp; rw [if_pos h, if_pos h1, if_neg h2]
theorem cmp_leaf {a b : Tm} (h : a.knd = b.knd) (h1 : a.num = b.num) (h2 : a.nam.toList = b.nam.toList) (h4 : a.knd ≠ 4) : a.cmp b = 0 := by
  unfold Tm.cmp
  rw [if_pos h, if_pos h1, if_pos h2]
  cases a <;> first | rfl | exact absurd rfl h4
theorem cmp_pair (a1 a2 b1 b2 : Tm) : (Tm.pair a1 a2).cmp (.pair b1 b2) = if a1.cmp b1 = 0 then a2.cmp b2 else a1.cmp b1 := by
  rw [Tm.cmp]; simp [Tm.knd, Tm.num, Tm.nam]
theorem orderTerms_ev : ∀ a b : Tm, Ev (fun k => impl_orderTerms.f k a.enc.f0 a.enc.f1 a.enc.f2 a.enc.f3 b.enc.f0 b.enc.f1 b.enc.f2 b.enc.f3) (a.cmp b) := by
  intro a
  induction a with
  | pair a1 a2 ih1 ih2 =>
    intro b
    by_cases h : (Tm.pair a1 a2).knd = b.knd
    · match b, h with
      | .pair b1 b2, _ =>
        rw [cmp_pair]
        show Ev (fun k => impl_orderTerms.f k 4 0 ⟨#[]⟩ [a1.enc, a2.enc] 4 0 ⟨#[]⟩ [b1.enc, b2.enc]) _
        refine Ev.step (fun k => by rw [impl_orderTerms.f, if_pos rfl, if_pos rfl, if_pos rfl, if_pos rfl, if_pos (by simp), if_pos (by simp), rd_cons, rd_cons]) ?_
        refine Ev.bind (ih1 b1) ?_
        refine Ev.ite (fun c => ?_) (fun c => ?_)
        · rw [if_pos c]
          refine Ev.pos (by simp) ?_
          refine Ev.pos (by simp) ?_
          rw [rd_one, rd_one]
          exact Ev.bind (ih2 b2) (Ev.now _)
        · rw [if_neg c]
          exact Ev.now _
    · rw [cmp_kind h]
      exact Ev.step (fun k => by rw [impl_orderTerms.f, if_neg (by rw [enc_f0, enc_f0]; exact h)]) (Ev.bindc (orderInts_ev _ _) (Ev.eq (Ev.now _) (by rw [enc_f0, enc_f0])))
  | _ =>
    intro b
    refine Ev.step (fun k => by rw [impl_orderTerms.f]) ?_
    rw [enc_f0 b, enc_f1 b, enc_f2 b, enc_f0, enc_f1, enc_f2]
    refine Ev.ite (fun h => Ev.ite (fun h1 => Ev.ite (fun h2 => ?_) (fun h2 => ?_)) (fun h1 => ?_)) (fun h => ?_)
    · rw [cmp_leaf h h1 h2 (by simp [Tm.knd])]
      exact Ev.neg (by simp [Tm.knd]) (Ev.now _)
    · rw [cmp_nam h h1 h2]
      unfold cmpS
      rw [if_neg h2]
      exact Ev.ite (fun c => Ev.eq (Ev.now _) (if_pos c).symm) (fun c => Ev.eq (Ev.now _) (if_neg c).symm)
    · rw [cmp_num h h1]
      exact Ev.bindc (orderInts_ev _ _) (Ev.now _)
    · rw [cmp_kind h]
      exact Ev.bindc (orderInts_ev _ _) (Ev.now _)
end Go.Proofs.Ytkpaomcnjnojcaa.X
