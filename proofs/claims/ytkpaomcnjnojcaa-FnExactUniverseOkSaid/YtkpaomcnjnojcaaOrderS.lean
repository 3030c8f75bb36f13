/- The reference's order of terms. -/
import Derived.Test.YtkpaomcnjnojcaaOrder
import Derived.Test.YtkpaomcnjnojcaaX121
import Derived.Test.YtkpaomcnjnojcaaX195
namespace Go.Proofs.Ytkpaomcnjnojcaa.X
open Go.RowKit Go.Proofs.YtkpaomcnjnojcaaW.PrintWords Go.Proofs.Ytkpaomcnjnojcaa.Base
set_option linter.unusedVariables false
set_option linter.unusedSimpArgs false
theorem sign_num (a b : Int) (h : a ≠ b) : spec_l02Sign.f (decide (a < b)) = some (cmpI a b) := by
  unfold spec_l02Sign.f cmpI
  by_cases c : a < b
  · rw [if_pos (decide_eq_true c), if_pos c]
  · rw [if_neg (by simpa using c), if_neg c, if_pos (by omega)]
theorem sign_str (s t : ByteArray) (h : s.toList ≠ t.toList) : spec_l02Sign.f (Op.bytesLess s.toList t.toList) = some (cmpS s t) := by
  unfold spec_l02Sign.f cmpS
  rw [if_neg h]
  by_cases c : Op.bytesLess s.toList t.toList = true
  · rw [if_pos c, if_pos c]
  · rw [if_neg c, if_neg c]
theorem l02Cmp_ev : ∀ a b : Tm, Ev (fun k => spec_l02Cmp.f k a.enc.f0 a.enc.f1 a.enc.f2 a.enc.f3 b.enc.f0 b.enc.f1 b.enc.f2 b.enc.f3) (a.cmp b) := by
  intro a
  induction a with
  | pair a1 a2 ih1 ih2 =>
    intro b
    by_cases h : (Tm.pair a1 a2).knd = b.knd
    · match b, h with
      | .pair b1 b2, _ =>
        rw [cmp_pair]
        show Ev (fun k => spec_l02Cmp.f k 4 0 ⟨#[]⟩ [a1.enc, a2.enc] 4 0 ⟨#[]⟩ [b1.enc, b2.enc]) _
        refine Ev.step (fun k => by rw [spec_l02Cmp.f, if_pos rfl, if_pos rfl, if_pos rfl]) ?_
        refine Ev.step (f := fun k => spec_l02Cmp.j1 k 0 true 4 0 ⟨#[]⟩ [a1.enc, a2.enc] 4 0 ⟨#[]⟩ [b1.enc, b2.enc]) (fun k => by rw [spec_l02Cmp.l0, if_pos (by simp)]; rfl) ?_
        refine Ev.step (fun k => by rw [spec_l02Cmp.j1, if_pos rfl, if_pos (by omega), if_pos (by simp), if_pos (by simp), rd_cons, rd_cons]) ?_
        refine Ev.bind (ih1 b1) ?_
        refine Ev.ite (fun c => ?_) (fun c => ?_)
        · rw [if_pos c, show wrap64 ((0 : Int) + 1) = 1 from by unfold wrap64; omega]
          refine Ev.step (f := fun k => spec_l02Cmp.j1 k 1 true 4 0 ⟨#[]⟩ [a1.enc, a2.enc] 4 0 ⟨#[]⟩ [b1.enc, b2.enc]) (fun k => by rw [spec_l02Cmp.l0, if_pos (by simp)]; rfl) ?_
          refine Ev.step (fun k => by rw [spec_l02Cmp.j1, if_pos rfl, if_pos (by omega), if_pos (by simp), if_pos (by simp), rd_one, rd_one]) ?_
          refine Ev.bind (ih2 b2) ?_
          refine Ev.ite (fun c2 => ?_) (fun c2 => Ev.now _)
          rw [c2, show wrap64 ((1 : Int) + 1) = 2 from by unfold wrap64; omega]
          refine Ev.step (f := fun k => spec_l02Cmp.j1 k 2 false 4 0 ⟨#[]⟩ [a1.enc, a2.enc] 4 0 ⟨#[]⟩ [b1.enc, b2.enc]) (fun k => by rw [spec_l02Cmp.l0, if_neg (by simp)]) ?_
          exact Ev.step (f := fun _ => some 0) (fun k => by rw [spec_l02Cmp.j1, if_neg (by simp)]) (Ev.now _)
        · rw [if_neg c]
          exact Ev.now _
    · rw [cmp_kind h]
      refine Ev.step (fun k => by rw [spec_l02Cmp.f, if_neg (by rw [enc_f0, enc_f0]; exact h), enc_f0, enc_f0]) ?_
      exact Ev.bindc (sign_num _ _ h) (Ev.now _)
  | _ =>
    intro b
    refine Ev.step (fun k => by rw [spec_l02Cmp.f]) ?_
    rw [enc_f0 b, enc_f1 b, enc_f2 b, enc_f0, enc_f1, enc_f2]
    refine Ev.ite (fun h => Ev.ite (fun h1 => Ev.ite (fun h2 => ?_) (fun h2 => ?_)) (fun h1 => ?_)) (fun h => ?_)
    · rw [cmp_leaf h h1 h2 (by simp [Tm.knd])]
      refine Ev.step (fun k => by rw [spec_l02Cmp.l0, if_neg (by simp [Tm.enc])]) ?_
      exact Ev.step (f := fun _ => some 0) (fun k => by rw [spec_l02Cmp.j1, if_neg (by simp)]) (Ev.now _)
    · rw [cmp_nam h h1 h2]
      exact Ev.bindc (sign_str _ _ h2) (Ev.now _)
    · rw [cmp_num h h1]
      exact Ev.bindc (sign_num _ _ h1) (Ev.now _)
    · rw [cmp_kind h]
      exact Ev.bindc (sign_num _ _ h) (Ev.now _)
end Go.Proofs.Ytkpaomcnjnojcaa.X
