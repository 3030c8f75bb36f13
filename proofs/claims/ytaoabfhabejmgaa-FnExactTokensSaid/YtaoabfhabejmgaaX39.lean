/- Functions of the program, their plain Lean forms and the proofs of their contracts. (Made by xprint.py.) -/
import Derived.Test.YtaoabfhabejmgaaX0
namespace Go.Proofs.Ytaoabfhabejmgaa.X
open Go.RowKit Go.Proofs.YtaoabfhabejmgaaW.PrintWords Go.Proofs.YtaoabfhabejmgaaW.PrintLast Go.Proofs.YtaoabfhabejmgaaW.PrintMore
attribute [local go_sem] max2_int min2_int max_two min_two max_three min_three max_four min_four
set_option linter.unusedVariables false
set_option linter.unusedSimpArgs false

/-! ### impl_Tokens: function 39 -/
mutual
def impl_Tokens.l0 : Nat → ByteArray → Int → Option (List ByteArray × Bool)
  | 0, _, _ => none
  | k + 1, x0, x4 => if x4 < (x0.size : Int) then (if 0 ≤ x4 then (if (bt x0 x4) = 10 then (impl_Tokens.l0 k x0 (wrap64 (x4 + 1))) else (if (bt x0 x4) < 32 then (some (([] : List ByteArray), false)) else (if (bt x0 x4) > 126 then (some (([] : List ByteArray), false)) else (impl_Tokens.l0 k x0 (wrap64 (x4 + 1)))))) else (none)) else (impl_Tokens.l1 k x0 (([] : List ByteArray)) 0)
def impl_Tokens.l1 : Nat → ByteArray → List ByteArray → Int → Option (List ByteArray × Bool)
  | 0, _, _, _ => none
  | k + 1, x0, x5, x6 => if x6 < (x0.size : Int) then (if 0 ≤ x6 then (if (bt x0 x6) = 32 then (impl_Tokens.j2 k x0 x5 x6 (bt x0 x6) true) else (impl_Tokens.j2 k x0 x5 x6 (bt x0 x6) ((bt x0 x6) == 10))) else (none)) else (if (x5.length : Int) > 20000 then (some (([] : List ByteArray), false)) else (some (x5, true)))
def impl_Tokens.j2 : Nat → ByteArray → List ByteArray → Int → Int → Bool → Option (List ByteArray × Bool)
  | 0, _, _, _, _, _ => none
  | k + 1, x0, x5, x6, x7, x87 => if x87 = true then (impl_Tokens.l1 k x0 x5 (wrap64 (x6 + 1))) else (if x7 = 59 then (impl_Tokens.l2 k x0 x5 x6) else (if x7 = 40 then (impl_Tokens.j4 k x0 x5 x6 true) else (impl_Tokens.j4 k x0 x5 x6 (x7 == 41))))
def impl_Tokens.l2 : Nat → ByteArray → List ByteArray → Int → Option (List ByteArray × Bool)
  | 0, _, _, _ => none
  | k + 1, x0, x5, x6 => if x6 < (x0.size : Int) then (if 0 ≤ x6 then (if (bt x0 x6) = 10 then (impl_Tokens.l1 k x0 x5 x6) else (impl_Tokens.l2 k x0 x5 (wrap64 (x6 + 1)))) else (none)) else (impl_Tokens.l1 k x0 x5 x6)
def impl_Tokens.j4 : Nat → ByteArray → List ByteArray → Int → Bool → Option (List ByteArray × Bool)
  | 0, _, _, _, _ => none
  | k + 1, x0, x5, x6, x111 => if x111 = true then (if 0 ≤ x6 then (if x6 ≤ (wrap64 (x6 + 1)) then (if (wrap64 (x6 + 1)) ≤ (x0.size : Int) then (if x5.length < 8796093022208 then (impl_Tokens.l1 k x0 (x5 ++ [x0.extract (x6 : Int).toNat ((wrap64 (x6 + 1)) : Int).toNat]) (wrap64 (x6 + 1))) else (none)) else (none)) else (none)) else (none)) else (impl_Tokens.l3 k x0 x5 x6 x6)
def impl_Tokens.l3 : Nat → ByteArray → List ByteArray → Int → Int → Option (List ByteArray × Bool)
  | 0, _, _, _, _ => none
  | k + 1, x0, x5, x6, x8 => if x8 < (x0.size : Int) then (if 0 ≤ x8 then (if (bt x0 x8) = 32 then (if 0 ≤ x6 then (if x6 ≤ x8 then (if x8 ≤ (x0.size : Int) then (if x5.length < 8796093022208 then (impl_Tokens.l1 k x0 (x5 ++ [x0.extract (x6 : Int).toNat (x8 : Int).toNat]) x8) else (none)) else (none)) else (none)) else (none)) else (if (bt x0 x8) = 10 then (if 0 ≤ x6 then (if x6 ≤ x8 then (if x8 ≤ (x0.size : Int) then (if x5.length < 8796093022208 then (impl_Tokens.l1 k x0 (x5 ++ [x0.extract (x6 : Int).toNat (x8 : Int).toNat]) x8) else (none)) else (none)) else (none)) else (none)) else (if (bt x0 x8) = 40 then (if 0 ≤ x6 then (if x6 ≤ x8 then (if x8 ≤ (x0.size : Int) then (if x5.length < 8796093022208 then (impl_Tokens.l1 k x0 (x5 ++ [x0.extract (x6 : Int).toNat (x8 : Int).toNat]) x8) else (none)) else (none)) else (none)) else (none)) else (if (bt x0 x8) = 41 then (if 0 ≤ x6 then (if x6 ≤ x8 then (if x8 ≤ (x0.size : Int) then (if x5.length < 8796093022208 then (impl_Tokens.l1 k x0 (x5 ++ [x0.extract (x6 : Int).toNat (x8 : Int).toNat]) x8) else (none)) else (none)) else (none)) else (none)) else (if (bt x0 x8) = 59 then (if 0 ≤ x6 then (if x6 ≤ x8 then (if x8 ≤ (x0.size : Int) then (if x5.length < 8796093022208 then (impl_Tokens.l1 k x0 (x5 ++ [x0.extract (x6 : Int).toNat (x8 : Int).toNat]) x8) else (none)) else (none)) else (none)) else (none)) else (impl_Tokens.l3 k x0 x5 x6 (wrap64 (x8 + 1)))))))) else (none)) else (if 0 ≤ x6 then (if x6 ≤ x8 then (if x8 ≤ (x0.size : Int) then (if x5.length < 8796093022208 then (impl_Tokens.l1 k x0 (x5 ++ [x0.extract (x6 : Int).toNat (x8 : Int).toNat]) x8) else (none)) else (none)) else (none)) else (none))
end
def impl_Tokens.f (k : Nat) (a0 : ByteArray) : Option (List ByteArray × Bool) := if (a0.size : Int) > 100000 then (some (([] : List ByteArray), false)) else (impl_Tokens.l0 k a0 0)
theorem impl_Tokens.mono_l : ∀ k, (∀ y0 y1, LeO (impl_Tokens.l0 k y0 y1) (impl_Tokens.l0 (k + 1) y0 y1)) ∧ (∀ y0 y1 y2, LeO (impl_Tokens.l1 k y0 y1 y2) (impl_Tokens.l1 (k + 1) y0 y1 y2)) ∧ (∀ y0 y1 y2 y3 y4, LeO (impl_Tokens.j2 k y0 y1 y2 y3 y4) (impl_Tokens.j2 (k + 1) y0 y1 y2 y3 y4)) ∧ (∀ y0 y1 y2, LeO (impl_Tokens.l2 k y0 y1 y2) (impl_Tokens.l2 (k + 1) y0 y1 y2)) ∧ (∀ y0 y1 y2 y3, LeO (impl_Tokens.j4 k y0 y1 y2 y3) (impl_Tokens.j4 (k + 1) y0 y1 y2 y3)) ∧ (∀ y0 y1 y2 y3, LeO (impl_Tokens.l3 k y0 y1 y2 y3) (impl_Tokens.l3 (k + 1) y0 y1 y2 y3))
  | 0 => ⟨fun _ _ r h => by simp [impl_Tokens.l0] at h, fun _ _ _ r h => by simp [impl_Tokens.l1] at h, fun _ _ _ _ _ r h => by simp [impl_Tokens.j2] at h, fun _ _ _ r h => by simp [impl_Tokens.l2] at h, fun _ _ _ _ r h => by simp [impl_Tokens.j4] at h, fun _ _ _ _ r h => by simp [impl_Tokens.l3] at h⟩
  | k + 1 => by
    obtain ⟨ih0, ih1, ih2, ih3, ih4, ih5⟩ := impl_Tokens.mono_l k
    refine ⟨?_, ?_, ?_, ?_, ?_, ?_⟩
    · intro y0 y1
      unfold impl_Tokens.l0
      repeat' first
      | (with_reducible exact ih0 _ _)
      | (with_reducible exact ih1 _ _ _)
      | (with_reducible exact ih2 _ _ _ _ _)
      | (with_reducible exact ih3 _ _ _)
      | (with_reducible exact ih4 _ _ _ _)
      | (with_reducible exact ih5 _ _ _ _)
      | (with_reducible exact LeO.refl _)
      | (with_reducible exact LeO.none _)
      | (with_reducible refine LeO.ite ?_ ?_)
      | (with_reducible refine LeO.bind ?_ (fun _ => ?_))
      | exact ih0 _ _
      | exact ih1 _ _ _
      | exact ih2 _ _ _ _ _
      | exact ih3 _ _ _
      | exact ih4 _ _ _ _
      | exact ih5 _ _ _ _
      | exact LeO.none _
      | refine LeO.ite ?_ ?_
      | refine LeO.bind ?_ (fun _ => ?_)
    · intro y0 y1 y2
      unfold impl_Tokens.l1
      repeat' first
      | (with_reducible exact ih0 _ _)
      | (with_reducible exact ih1 _ _ _)
      | (with_reducible exact ih2 _ _ _ _ _)
      | (with_reducible exact ih3 _ _ _)
      | (with_reducible exact ih4 _ _ _ _)
      | (with_reducible exact ih5 _ _ _ _)
      | (with_reducible exact LeO.refl _)
      | (with_reducible exact LeO.none _)
      | (with_reducible refine LeO.ite ?_ ?_)
      | (with_reducible refine LeO.bind ?_ (fun _ => ?_))
      | exact ih0 _ _
      | exact ih1 _ _ _
      | exact ih2 _ _ _ _ _
      | exact ih3 _ _ _
      | exact ih4 _ _ _ _
      | exact ih5 _ _ _ _
      | exact LeO.none _
      | refine LeO.ite ?_ ?_
      | refine LeO.bind ?_ (fun _ => ?_)
    · intro y0 y1 y2 y3 y4
      unfold impl_Tokens.j2
      repeat' first
      | (with_reducible exact ih0 _ _)
      | (with_reducible exact ih1 _ _ _)
      | (with_reducible exact ih2 _ _ _ _ _)
      | (with_reducible exact ih3 _ _ _)
      | (with_reducible exact ih4 _ _ _ _)
      | (with_reducible exact ih5 _ _ _ _)
      | (with_reducible exact LeO.refl _)
      | (with_reducible exact LeO.none _)
      | (with_reducible refine LeO.ite ?_ ?_)
      | (with_reducible refine LeO.bind ?_ (fun _ => ?_))
      | exact ih0 _ _
      | exact ih1 _ _ _
      | exact ih2 _ _ _ _ _
      | exact ih3 _ _ _
      | exact ih4 _ _ _ _
      | exact ih5 _ _ _ _
      | exact LeO.none _
      | refine LeO.ite ?_ ?_
      | refine LeO.bind ?_ (fun _ => ?_)
    · intro y0 y1 y2
      unfold impl_Tokens.l2
      repeat' first
      | (with_reducible exact ih0 _ _)
      | (with_reducible exact ih1 _ _ _)
      | (with_reducible exact ih2 _ _ _ _ _)
      | (with_reducible exact ih3 _ _ _)
      | (with_reducible exact ih4 _ _ _ _)
      | (with_reducible exact ih5 _ _ _ _)
      | (with_reducible exact LeO.refl _)
      | (with_reducible exact LeO.none _)
      | (with_reducible refine LeO.ite ?_ ?_)
      | (with_reducible refine LeO.bind ?_ (fun _ => ?_))
      | exact ih0 _ _
      | exact ih1 _ _ _
      | exact ih2 _ _ _ _ _
      | exact ih3 _ _ _
      | exact ih4 _ _ _ _
      | exact ih5 _ _ _ _
      | exact LeO.none _
      | refine LeO.ite ?_ ?_
      | refine LeO.bind ?_ (fun _ => ?_)
    · intro y0 y1 y2 y3
      unfold impl_Tokens.j4
      repeat' first
      | (with_reducible exact ih0 _ _)
      | (with_reducible exact ih1 _ _ _)
      | (with_reducible exact ih2 _ _ _ _ _)
      | (with_reducible exact ih3 _ _ _)
      | (with_reducible exact ih4 _ _ _ _)
      | (with_reducible exact ih5 _ _ _ _)
      | (with_reducible exact LeO.refl _)
      | (with_reducible exact LeO.none _)
      | (with_reducible refine LeO.ite ?_ ?_)
      | (with_reducible refine LeO.bind ?_ (fun _ => ?_))
      | exact ih0 _ _
      | exact ih1 _ _ _
      | exact ih2 _ _ _ _ _
      | exact ih3 _ _ _
      | exact ih4 _ _ _ _
      | exact ih5 _ _ _ _
      | exact LeO.none _
      | refine LeO.ite ?_ ?_
      | refine LeO.bind ?_ (fun _ => ?_)
    · intro y0 y1 y2 y3
      unfold impl_Tokens.l3
      repeat' first
      | (with_reducible exact ih0 _ _)
      | (with_reducible exact ih1 _ _ _)
      | (with_reducible exact ih2 _ _ _ _ _)
      | (with_reducible exact ih3 _ _ _)
      | (with_reducible exact ih4 _ _ _ _)
      | (with_reducible exact ih5 _ _ _ _)
      | (with_reducible exact LeO.refl _)
      | (with_reducible exact LeO.none _)
      | (with_reducible refine LeO.ite ?_ ?_)
      | (with_reducible refine LeO.bind ?_ (fun _ => ?_))
      | exact ih0 _ _
      | exact ih1 _ _ _
      | exact ih2 _ _ _ _ _
      | exact ih3 _ _ _
      | exact ih4 _ _ _ _
      | exact ih5 _ _ _ _
      | exact LeO.none _
      | refine LeO.ite ?_ ?_
      | refine LeO.bind ?_ (fun _ => ?_)
theorem impl_Tokens.mono : ∀ a0 k, LeO (impl_Tokens.f k a0) (impl_Tokens.f (k + 1) a0) := by
  intro a0 k
  obtain ⟨ih0, ih1, ih2, ih3, ih4, ih5⟩ := impl_Tokens.mono_l k
  unfold impl_Tokens.f
  repeat' first
      | (with_reducible exact ih0 _ _)
      | (with_reducible exact ih1 _ _ _)
      | (with_reducible exact ih2 _ _ _ _ _)
      | (with_reducible exact ih3 _ _ _)
      | (with_reducible exact ih4 _ _ _ _)
      | (with_reducible exact ih5 _ _ _ _)
      | (with_reducible exact LeO.refl _)
      | (with_reducible exact LeO.none _)
      | (with_reducible refine LeO.ite ?_ ?_)
      | (with_reducible refine LeO.bind ?_ (fun _ => ?_))
      | exact ih0 _ _
      | exact ih1 _ _ _
      | exact ih2 _ _ _ _ _
      | exact ih3 _ _ _
      | exact ih4 _ _ _ _
      | exact ih5 _ _ _ _
      | exact LeO.none _
      | refine LeO.ite ?_ ?_
      | refine LeO.bind ?_ (fun _ => ?_)
set_option maxHeartbeats 8000000 in
set_option maxRecDepth 100000 in
theorem impl_Tokens.calls (k : Nat) (a0 : ByteArray) (r1 : List ByteArray) (r2 : Bool) (w : World) (h : impl_Tokens.f k a0 = some (r1, r2)) :
    Calls Try.prog 39 #[.string a0] w fun e w' => ∃ v0_ : Value, e = .returned (.tuple #[v0_, .bool r2]) ∧ Kd.R Kd.string 9 w' w.heap.size (fun _ => True) v0_ r1 ∧ Below w.heap.size w w' := by
  have HB := Aside0.mk (Below.refl w.heap.size w)
  have H : (if (a0.size : Int) > 100000 then (some (([] : List ByteArray), false)) else (impl_Tokens.l0 k a0 0)) = some (r1, r2) := h
  clear h
  by_cases c2 : (a0.size : Int) > 100000
  · rw [if_pos c2] at H
    have c2b0 : decide (100000 < (a0.size : Int)) = true := decide_eq_true c2
    have c2b1 : decide (100000 < a0.size) = true := decide_eq_true (by omega)
    clear c2
    simp only [Option.some.injEq, Prod.mk.injEq] at H
    obtain ⟨rfl, rfl⟩ := H
    go_enter Try.func39, Try.ntmps39
    go_wp2
    go_ret2
    exact ⟨_, by first | rfl | (simp [errW_none, errW_some] <;> rfl) | (simp [*, errW_none, errW_some] <;> rfl), by first | exact Kd.R_nil _ _ _ _ _ | exact Kd.N_nil _ _ _ _ _ | exact Kd.V_nil _ _ _ _ _ | exact Kd.Q_nil _ _ _ _ _ | exact Kd.S_nil _ _ _ _ _, by repeat (first | (with_reducible first | exact HB.out | apply below_alloc | apply pw_below_drewN | apply below_drew1) | exact HB.out)⟩
  · rw [if_neg c2] at H
    have c2b0 : decide (100000 < (a0.size : Int)) = false := decide_eq_false c2
    have c2b1 : decide (100000 < a0.size) = false := decide_eq_false (by omega)
    clear c2
    have H' := Aside0.mk H
    clear H
    go_enter Try.func39, Try.ntmps39
    go_wp2
    go_loopg [4] k (fun kq v4 w' => ∃ (x4_1 : Int), v4 = .int .i64 x4_1 ∧ Aside0 (impl_Tokens.l0 kq a0 x4_1 = some (r1, r2)) ∧ Aside0 (kq ≤ k) ∧ Aside0 (Below w.heap.size w w'))
    case atStart => exact ⟨(0), (by first | rfl | (simp; done) | (simp [*]; done)), H', ⟨Nat.le_refl _⟩, ⟨by repeat (first | (with_reducible first | exact HB.out | apply below_alloc | apply pw_below_drewN | apply below_drew1) | exact HB.out)⟩⟩
    case round =>
      clear H'
      try clear c2
      try clear c2b0
      try clear c2b1
      try clear p2
      obtain ⟨x4_1, rfl, HA, HK1, HB⟩ := hrel
      cases gk with
      | zero => exact absurd HA.out (by simp [impl_Tokens.l0])
      | succ k1 =>
        have H := HA.out
        clear HA
        simp only [impl_Tokens.l0] at H
        by_cases c3 : x4_1 < (a0.size : Int)
        · rw [if_pos c3] at H
          have c3b0 : decide (x4_1 < (a0.size : Int)) = true := decide_eq_true c3
          clear c3
          by_cases c4 : 0 ≤ x4_1
          · rw [if_pos c4] at H
            have c4b0 : decide (0 ≤ x4_1) = true := decide_eq_true c4
            clear c4
            by_cases c6 : (bt a0 x4_1) = 10
            · rw [if_pos c6] at H
              have c6b0 : ((bt a0 x4_1) == 10) = true := beq_iff_eq.mpr c6
              have c6b1 : ((bt a0 x4_1) != 10) = false := bne_eq_false_iff_eq.mpr c6
              clear c6
              have H' := Aside0.mk H
              clear H
              have p5 : 0 ≤ (x4_1 : Int) := of_decide_eq_true (by first | (with_reducible assumption) | assumption)
              have q5 : x4_1 < (a0.size : Int) := of_decide_eq_true (by first | (with_reducible assumption) | assumption)
              have hx5 := bt_at a0 x4_1
              replace p5 := eq_true p5
              replace q5 := eq_true q5
              go_wp2
              go_roundg k1
              case measure => have := HK1.out; omega
              case rel => exact ⟨(wrap64 (x4_1 + 1)), (by first | rfl | (simp; done) | (simp [*]; done)), H', ⟨by have := HK1.out; omega⟩, ⟨by repeat (first | (with_reducible first | exact HB.out | apply below_alloc | apply pw_below_drewN | apply below_drew1) | exact HB.out)⟩⟩
            · rw [if_neg c6] at H
              have c6b0 : ((bt a0 x4_1) == 10) = false := beq_eq_false_iff_ne.mpr c6
              have c6b1 : ((bt a0 x4_1) != 10) = true := bne_iff_ne.mpr c6
              by_cases c8 : (bt a0 x4_1) < 32
              · rw [if_pos c8] at H
                have c8b0 : decide ((bt a0 x4_1) < 32) = true := decide_eq_true c8
                clear c8
                simp only [Option.some.injEq, Prod.mk.injEq] at H
                obtain ⟨rfl, rfl⟩ := H
                have p5 : 0 ≤ (x4_1 : Int) := of_decide_eq_true (by first | (with_reducible assumption) | assumption)
                have q5 : x4_1 < (a0.size : Int) := of_decide_eq_true (by first | (with_reducible assumption) | assumption)
                have hx5 := bt_at a0 x4_1
                replace p5 := eq_true p5
                replace q5 := eq_true q5
                have p7 : 0 ≤ (x4_1 : Int) := of_decide_eq_true (by first | (with_reducible assumption) | assumption)
                have q7 : x4_1 < (a0.size : Int) := of_decide_eq_true (by first | (with_reducible assumption) | assumption)
                have hx7 := bt_at a0 x4_1
                replace p7 := eq_true p7
                replace q7 := eq_true q7
                go_wp2
                go_ret2
                exact ⟨_, by first | rfl | (simp [errW_none, errW_some] <;> rfl) | (simp [*, errW_none, errW_some] <;> rfl), by first | exact Kd.R_nil _ _ _ _ _ | exact Kd.N_nil _ _ _ _ _ | exact Kd.V_nil _ _ _ _ _ | exact Kd.Q_nil _ _ _ _ _ | exact Kd.S_nil _ _ _ _ _, by repeat (first | (with_reducible first | exact HB.out | apply below_alloc | apply pw_below_drewN | apply below_drew1) | exact HB.out)⟩
              · rw [if_neg c8] at H
                have c8b0 : decide ((bt a0 x4_1) < 32) = false := decide_eq_false c8
                clear c8
                by_cases c10 : (bt a0 x4_1) > 126
                · rw [if_pos c10] at H
                  have c10b0 : decide (126 < (bt a0 x4_1)) = true := decide_eq_true c10
                  clear c10
                  simp only [Option.some.injEq, Prod.mk.injEq] at H
                  obtain ⟨rfl, rfl⟩ := H
                  have p5 : 0 ≤ (x4_1 : Int) := of_decide_eq_true (by first | (with_reducible assumption) | assumption)
                  have q5 : x4_1 < (a0.size : Int) := of_decide_eq_true (by first | (with_reducible assumption) | assumption)
                  have hx5 := bt_at a0 x4_1
                  replace p5 := eq_true p5
                  replace q5 := eq_true q5
                  have p7 : 0 ≤ (x4_1 : Int) := of_decide_eq_true (by first | (with_reducible assumption) | assumption)
                  have q7 : x4_1 < (a0.size : Int) := of_decide_eq_true (by first | (with_reducible assumption) | assumption)
                  have hx7 := bt_at a0 x4_1
                  replace p7 := eq_true p7
                  replace q7 := eq_true q7
                  have p9 : 0 ≤ (x4_1 : Int) := of_decide_eq_true (by first | (with_reducible assumption) | assumption)
                  have q9 : x4_1 < (a0.size : Int) := of_decide_eq_true (by first | (with_reducible assumption) | assumption)
                  have hx9 := bt_at a0 x4_1
                  replace p9 := eq_true p9
                  replace q9 := eq_true q9
                  go_wp2
                  go_ret2
                  exact ⟨_, by first | rfl | (simp [errW_none, errW_some] <;> rfl) | (simp [*, errW_none, errW_some] <;> rfl), by first | exact Kd.R_nil _ _ _ _ _ | exact Kd.N_nil _ _ _ _ _ | exact Kd.V_nil _ _ _ _ _ | exact Kd.Q_nil _ _ _ _ _ | exact Kd.S_nil _ _ _ _ _, by repeat (first | (with_reducible first | exact HB.out | apply below_alloc | apply pw_below_drewN | apply below_drew1) | exact HB.out)⟩
                · rw [if_neg c10] at H
                  have c10b0 : decide (126 < (bt a0 x4_1)) = false := decide_eq_false c10
                  clear c10
                  have H' := Aside0.mk H
                  clear H
                  have p5 : 0 ≤ (x4_1 : Int) := of_decide_eq_true (by first | (with_reducible assumption) | assumption)
                  have q5 : x4_1 < (a0.size : Int) := of_decide_eq_true (by first | (with_reducible assumption) | assumption)
                  have hx5 := bt_at a0 x4_1
                  replace p5 := eq_true p5
                  replace q5 := eq_true q5
                  have p7 : 0 ≤ (x4_1 : Int) := of_decide_eq_true (by first | (with_reducible assumption) | assumption)
                  have q7 : x4_1 < (a0.size : Int) := of_decide_eq_true (by first | (with_reducible assumption) | assumption)
                  have hx7 := bt_at a0 x4_1
                  replace p7 := eq_true p7
                  replace q7 := eq_true q7
                  have p9 : 0 ≤ (x4_1 : Int) := of_decide_eq_true (by first | (with_reducible assumption) | assumption)
                  have q9 : x4_1 < (a0.size : Int) := of_decide_eq_true (by first | (with_reducible assumption) | assumption)
                  have hx9 := bt_at a0 x4_1
                  replace p9 := eq_true p9
                  replace q9 := eq_true q9
                  go_wp2
                  go_roundg k1
                  case measure => have := HK1.out; omega
                  case rel => exact ⟨(wrap64 (x4_1 + 1)), (by first | rfl | (simp; done) | (simp [*]; done)), H', ⟨by have := HK1.out; omega⟩, ⟨by repeat (first | (with_reducible first | exact HB.out | apply below_alloc | apply pw_below_drewN | apply below_drew1) | exact HB.out)⟩⟩
          · rw [if_neg c4] at H
            exact absurd H (by simp)
        · rw [if_neg c3] at H
          have c3b0 : decide (x4_1 < (a0.size : Int)) = false := decide_eq_false c3
          clear c3
          obtain ⟨y292, hy292⟩ : ∃ y_ : List ByteArray, y_ = (([] : List ByteArray)) := ⟨_, rfl⟩
          replace H : (impl_Tokens.l1 k1 a0 y292 0) = some (r1, r2) := by first | (rw [hy292]; with_reducible exact H) | (have H2_ := (Option.bind_some _ _).symm.trans H; rw [hy292]; with_reducible exact H2_) | (have H2_ := (Option.bind_some _ _).symm.trans H; with_reducible exact H2_) | with_reducible exact H | (rw [hy292]; exact H) | exact H
          have Ny292 := Aside0.mk hy292
          clear hy292
          have H' := Aside0.mk H
          clear H
          go_wp2_with (first | ((with_reducible refine gate_dst (N := 34) rfl ?_); refine Kd.R_lit Kd.string _ 9 ?hg (N := 34) ?hd (xs := ([] : List ByteArray)) (inner := []) (ok := fun _ => True) (okp := fun _ => True) ?hr ?hp (fun _ hk => hk) trivial (Below.refl _ _) (Nat.le_refl _) (by simp) ?_; (case hd => rfl); (case hg => rfl); (case hr => first | (go_simp; done) | (go_simp; rfl)); (case hp => exact (Reps.none _ _)); intro v293 w11 ho12 hb hg_ hnew_; clear hg_ hnew_; (first | rw [← Ny292.out] at ho12 | (simp only [Int.reduceToNat] at ho12; rw [← Ny292.out] at ho12)); have n0_ := Aside0.mk (Kd.R_lower ho12 (below_size (by repeat (first | (with_reducible first | exact HB.out | apply below_alloc | apply pw_below_drewN | apply below_drew1) | exact HB.out)))); have n1_ := Aside0.mk (below_step (by repeat (first | (with_reducible first | exact HB.out | apply below_alloc | apply pw_below_drewN | apply below_drew1) | exact HB.out)) hb); clear HB; have HO294 := n0_; have HB := n1_; clear n0_ n1_; clear hb ho12))
          go_loopg [5, 6] k1 (fun kq v5 v6 w' => ∃ (x5_2 : List ByteArray) (x6_2 : Int), v6 = .int .i64 x6_2 ∧ Aside0 (impl_Tokens.l1 kq a0 x5_2 x6_2 = some (r1, r2)) ∧ Aside0 (kq ≤ k1) ∧ Aside0 (Kd.R Kd.string 9 w' w.heap.size (fun _ => True) v5 x5_2) ∧ Aside0 (Below w.heap.size w w'))
          case atStart => exact ⟨(y292), (0), (by first | rfl | (simp; done) | (simp [*]; done)), H', ⟨Nat.le_refl _⟩, ⟨by (with_reducible repeat (first | apply Kd.R_alloc | apply Kd.R_drewN | apply Kd.R_drew)); exact HO294.out⟩, ⟨by repeat (first | (with_reducible first | exact HB.out | apply below_alloc | apply pw_below_drewN | apply below_drew1) | exact HB.out)⟩⟩
          case round =>
            clear H'
            try clear c1
            try clear c2
            try clear c2b0
            try clear c2b1
            try clear p2
            try clear c3
            try clear c3b0
            try clear c4
            try clear c4b0
            try clear p5
            try clear q5
            try clear hx5
            try clear c6
            try clear c6b0
            try clear c6b1
            try clear p6
            try clear p7
            try clear q7
            try clear hx7
            try clear c8
            try clear c8b0
            try clear p9
            try clear q9
            try clear hx9
            try clear c10
            try clear c10b0
            try clear p2
            try clear p5
            try clear p7
            try clear p9
            try clear q5
            try clear q7
            try clear q9
            obtain ⟨x5_2, x6_2, rfl, HA, HK2, HO_5, HB⟩ := hrel
            cases gk with
            | zero => exact absurd HA.out (by simp [impl_Tokens.l1])
            | succ k2 =>
              have H := HA.out
              clear HA
              simp only [impl_Tokens.l1] at H
              by_cases c13 : x6_2 < (a0.size : Int)
              · rw [if_pos c13] at H
                have c13b0 : decide (x6_2 < (a0.size : Int)) = true := decide_eq_true c13
                clear c13
                by_cases c14 : 0 ≤ x6_2
                · rw [if_pos c14] at H
                  have c14b0 : decide (0 ≤ x6_2) = true := decide_eq_true c14
                  clear c14
                  have HC16 := Aside0.mk H
                  clear H
                  have p15 : 0 ≤ (x6_2 : Int) := of_decide_eq_true (by first | (with_reducible assumption) | assumption)
                  have q15 : x6_2 < (a0.size : Int) := of_decide_eq_true (by first | (with_reducible assumption) | assumption)
                  have hx15 := bt_at a0 x6_2
                  replace p15 := eq_true p15
                  replace q15 := eq_true q15
                  go_upto_region 17 with (fail)
                  go_cut [87] (fun v87 wc => ∃ (kq : Nat) (x87_15 : Bool), v87 = .bool x87_15 ∧ Aside0 (impl_Tokens.j2 kq a0 x5_2 x6_2 (bt a0 x6_2) x87_15 = some (r1, r2)) ∧ Aside0 (kq ≤ k2) ∧ Aside0 (Kd.R Kd.string 9 wc w.heap.size (fun _ => True) u5 x5_2) ∧ Aside0 (Below w.heap.size w wc))
                  case first =>
                    have H := HC16.out
                    clear HC16
                    by_cases c17 : (bt a0 x6_2) = 32
                    · rw [if_pos c17] at H
                      have c17b0 : ((bt a0 x6_2) == 32) = true := beq_iff_eq.mpr c17
                      have c17b1 : ((bt a0 x6_2) != 32) = false := bne_eq_false_iff_eq.mpr c17
                      clear c17
                      (first | rw [c17b0] | (simp only [i64_w, i32_w]; rw [c17b0]) | skip)
                      have H' := Aside0.mk H
                      clear H
                      go_wp2
                      go_meet
                      case rel => exact ⟨_, (true), (by first | rfl | (simp; done) | (simp [*]; done)), H', ⟨by have := HK1.out; have := HK2.out; first | omega | exact Nat.le_refl _⟩, ⟨by (with_reducible repeat (first | apply Kd.R_alloc | apply Kd.R_drewN | apply Kd.R_drew)); exact HO_5.out⟩, ⟨by repeat (first | (with_reducible first | exact HB.out | apply below_alloc | apply pw_below_drewN | apply below_drew1) | exact HB.out)⟩⟩
                    · rw [if_neg c17] at H
                      have c17b0 : ((bt a0 x6_2) == 32) = false := beq_eq_false_iff_ne.mpr c17
                      have c17b1 : ((bt a0 x6_2) != 32) = true := bne_iff_ne.mpr c17
                      (first | rw [c17b0] | (simp only [i64_w, i32_w]; rw [c17b0]) | skip)
                      have H' := Aside0.mk H
                      clear H
                      go_wp2
                      go_meet
                      case rel => exact ⟨_, (((bt a0 x6_2) == 10)), (by first | rfl | (simp; done) | (simp [*]; done)), H', ⟨by have := HK1.out; have := HK2.out; first | omega | exact Nat.le_refl _⟩, ⟨by (with_reducible repeat (first | apply Kd.R_alloc | apply Kd.R_drewN | apply Kd.R_drew)); exact HO_5.out⟩, ⟨by repeat (first | (with_reducible first | exact HB.out | apply below_alloc | apply pw_below_drewN | apply below_drew1) | exact HB.out)⟩⟩
                  case rest =>
                    clear HC16
                    try clear c1
                    try clear p1
                    try clear q1
                    try clear hx1
                    try clear c2
                    try clear c2b0
                    try clear c2b1
                    try clear p2
                    try clear c3
                    try clear c3b0
                    try clear c4
                    try clear c4b0
                    try clear p5
                    try clear q5
                    try clear hx5
                    try clear c6
                    try clear c6b0
                    try clear c6b1
                    try clear p6
                    try clear p7
                    try clear q7
                    try clear hx7
                    try clear c8
                    try clear c8b0
                    try clear p9
                    try clear q9
                    try clear hx9
                    try clear c10
                    try clear c10b0
                    try clear c13
                    try clear c13b0
                    try clear c14
                    try clear c14b0
                    try clear p15
                    try clear q15
                    try clear hx15
                    try clear c17
                    try clear c17b0
                    try clear c17b1
                    try clear p15
                    try clear p2
                    try clear p5
                    try clear p6
                    try clear p7
                    try clear p9
                    try clear q15
                    try clear q5
                    try clear q7
                    try clear q9
                    obtain ⟨kq, x87_15, rfl, HA, HJ15, HO_5, HB⟩ := hcut
                    cases kq with
                    | zero => exact absurd HA.out (by simp [impl_Tokens.j2])
                    | succ kj15 =>
                      have H := HA.out
                      clear HA
                      simp only [impl_Tokens.j2] at H
                      by_cases c18 : x87_15 = true
                      · subst c18
                        have H1 : (impl_Tokens.l1 kj15 a0 x5_2 (wrap64 (x6_2 + 1))) = some (r1, r2) := by rw [if_pos rfl] at H; exact H
                        clear H
                        have H := H1
                        clear H1
                        have H' := Aside0.mk H
                        clear H
                        go_wp2
                        go_roundg kj15
                        case measure => have := HK1.out; have := HK2.out; have := HJ15.out; omega
                        case rel => exact ⟨(x5_2), (wrap64 (x6_2 + 1)), (by first | rfl | (simp; done) | (simp [*]; done)), H', ⟨by have := HK1.out; have := HK2.out; have := HJ15.out; omega⟩, ⟨by (with_reducible repeat (first | apply Kd.R_alloc | apply Kd.R_drewN | apply Kd.R_drew)); exact HO_5.out⟩, ⟨by repeat (first | (with_reducible first | exact HB.out | apply below_alloc | apply pw_below_drewN | apply below_drew1) | exact HB.out)⟩⟩
                      · replace c18 := Bool.eq_false_iff.mpr c18
                        subst c18
                        have H1 : (if (bt a0 x6_2) = 59 then (impl_Tokens.l2 kj15 a0 x5_2 x6_2) else (if (bt a0 x6_2) = 40 then (impl_Tokens.j4 kj15 a0 x5_2 x6_2 true) else (impl_Tokens.j4 kj15 a0 x5_2 x6_2 ((bt a0 x6_2) == 41)))) = some (r1, r2) := by rw [if_neg (show ¬ (false = true) by decide)] at H; exact H
                        clear H
                        have H := H1
                        clear H1
                        by_cases c19 : (bt a0 x6_2) = 59
                        · rw [if_pos c19] at H
                          have c19b0 : ((bt a0 x6_2) == 59) = true := beq_iff_eq.mpr c19
                          have c19b1 : ((bt a0 x6_2) != 59) = false := bne_eq_false_iff_eq.mpr c19
                          clear c19
                          have H' := Aside0.mk H
                          clear H
                          go_wp2
                          go_loopg [6] kj15 (fun kq v6 w' => ∃ (x6_4 : Int), v6 = .int .i64 x6_4 ∧ Aside0 (impl_Tokens.l2 kq a0 x5_2 x6_4 = some (r1, r2)) ∧ Aside0 (kq ≤ kj15) ∧ Aside0 (Kd.R Kd.string 9 w' w.heap.size (fun _ => True) u5 x5_2) ∧ Aside0 (Below w.heap.size w w'))
                          case atStart => exact ⟨(x6_2), (by first | rfl | (simp; done) | (simp [*]; done)), H', ⟨Nat.le_refl _⟩, ⟨by (with_reducible repeat (first | apply Kd.R_alloc | apply Kd.R_drewN | apply Kd.R_drew)); exact HO_5.out⟩, ⟨by repeat (first | (with_reducible first | exact HB.out | apply below_alloc | apply pw_below_drewN | apply below_drew1) | exact HB.out)⟩⟩
                          case round =>
                            clear H'
                            try clear c1
                            try clear p1
                            try clear q1
                            try clear hx1
                            try clear c2
                            try clear c2b0
                            try clear c2b1
                            try clear p2
                            try clear c3
                            try clear c3b0
                            try clear c4
                            try clear c4b0
                            try clear p5
                            try clear q5
                            try clear hx5
                            try clear c6
                            try clear c6b0
                            try clear c6b1
                            try clear p6
                            try clear p7
                            try clear q7
                            try clear hx7
                            try clear c8
                            try clear c8b0
                            try clear p9
                            try clear q9
                            try clear hx9
                            try clear c10
                            try clear c10b0
                            try clear c13
                            try clear c13b0
                            try clear c14
                            try clear c14b0
                            try clear p15
                            try clear q15
                            try clear hx15
                            try clear c17
                            try clear c17b0
                            try clear c17b1
                            try clear c18
                            try clear c19
                            try clear c19b0
                            try clear c19b1
                            try clear p1
                            try clear p15
                            try clear p2
                            try clear p5
                            try clear p6
                            try clear p7
                            try clear p9
                            try clear q1
                            try clear q15
                            try clear q5
                            try clear q7
                            try clear q9
                            obtain ⟨x6_4, rfl, HA, HK4, HO_5, HB⟩ := hrel
                            cases gk with
                            | zero => exact absurd HA.out (by simp [impl_Tokens.l2])
                            | succ k4 =>
                              have H := HA.out
                              clear HA
                              simp only [impl_Tokens.l2] at H
                              by_cases c20 : x6_4 < (a0.size : Int)
                              · rw [if_pos c20] at H
                                have c20b0 : decide (x6_4 < (a0.size : Int)) = true := decide_eq_true c20
                                clear c20
                                by_cases c21 : 0 ≤ x6_4
                                · rw [if_pos c21] at H
                                  have c21b0 : decide (0 ≤ x6_4) = true := decide_eq_true c21
                                  clear c21
                                  by_cases c23 : (bt a0 x6_4) = 10
                                  · rw [if_pos c23] at H
                                    have c23b0 : ((bt a0 x6_4) == 10) = true := beq_iff_eq.mpr c23
                                    have c23b1 : ((bt a0 x6_4) != 10) = false := bne_eq_false_iff_eq.mpr c23
                                    clear c23
                                    have H' := Aside0.mk H
                                    clear H
                                    have p22 : 0 ≤ (x6_4 : Int) := of_decide_eq_true (by first | (with_reducible assumption) | assumption)
                                    have q22 : x6_4 < (a0.size : Int) := of_decide_eq_true (by first | (with_reducible assumption) | assumption)
                                    have hx22 := bt_at a0 x6_4
                                    replace p22 := eq_true p22
                                    replace q22 := eq_true q22
                                    go_wp2
                                    go_roundg k4
                                    case measure => have := HK1.out; have := HK2.out; have := HJ15.out; have := HK4.out; omega
                                    case rel => exact ⟨(x5_2), (x6_4), (by first | rfl | (simp; done) | (simp [*]; done)), H', ⟨by have := HK1.out; have := HK2.out; have := HJ15.out; have := HK4.out; omega⟩, ⟨by (with_reducible repeat (first | apply Kd.R_alloc | apply Kd.R_drewN | apply Kd.R_drew)); exact HO_5.out⟩, ⟨by repeat (first | (with_reducible first | exact HB.out | apply below_alloc | apply pw_below_drewN | apply below_drew1) | exact HB.out)⟩⟩
                                  · rw [if_neg c23] at H
                                    have c23b0 : ((bt a0 x6_4) == 10) = false := beq_eq_false_iff_ne.mpr c23
                                    have c23b1 : ((bt a0 x6_4) != 10) = true := bne_iff_ne.mpr c23
                                    have H' := Aside0.mk H
                                    clear H
                                    have p22 : 0 ≤ (x6_4 : Int) := of_decide_eq_true (by first | (with_reducible assumption) | assumption)
                                    have q22 : x6_4 < (a0.size : Int) := of_decide_eq_true (by first | (with_reducible assumption) | assumption)
                                    have hx22 := bt_at a0 x6_4
                                    replace p22 := eq_true p22
                                    replace q22 := eq_true q22
                                    go_wp2
                                    go_roundg k4
                                    case measure => have := HK1.out; have := HK2.out; have := HJ15.out; have := HK4.out; omega
                                    case rel => exact ⟨(wrap64 (x6_4 + 1)), (by first | rfl | (simp; done) | (simp [*]; done)), H', ⟨by have := HK1.out; have := HK2.out; have := HJ15.out; have := HK4.out; omega⟩, ⟨by (with_reducible repeat (first | apply Kd.R_alloc | apply Kd.R_drewN | apply Kd.R_drew)); exact HO_5.out⟩, ⟨by repeat (first | (with_reducible first | exact HB.out | apply below_alloc | apply pw_below_drewN | apply below_drew1) | exact HB.out)⟩⟩
                                · rw [if_neg c21] at H
                                  exact absurd H (by simp)
                              · rw [if_neg c20] at H
                                have c20b0 : decide (x6_4 < (a0.size : Int)) = false := decide_eq_false c20
                                clear c20
                                have H' := Aside0.mk H
                                clear H
                                go_wp2
                                go_roundg k4
                                case measure => have := HK1.out; have := HK2.out; have := HJ15.out; have := HK4.out; omega
                                case rel => exact ⟨(x5_2), (x6_4), (by first | rfl | (simp; done) | (simp [*]; done)), H', ⟨by have := HK1.out; have := HK2.out; have := HJ15.out; have := HK4.out; omega⟩, ⟨by (with_reducible repeat (first | apply Kd.R_alloc | apply Kd.R_drewN | apply Kd.R_drew)); exact HO_5.out⟩, ⟨by repeat (first | (with_reducible first | exact HB.out | apply below_alloc | apply pw_below_drewN | apply below_drew1) | exact HB.out)⟩⟩
                        · rw [if_neg c19] at H
                          have c19b0 : ((bt a0 x6_2) == 59) = false := beq_eq_false_iff_ne.mpr c19
                          have c19b1 : ((bt a0 x6_2) != 59) = true := bne_iff_ne.mpr c19
                          have HC24 := Aside0.mk H
                          clear H
                          go_upto_region 22 with (fail)
                          go_cut [111] (fun v111 wc => ∃ (kq : Nat) (x111_23 : Bool), v111 = .bool x111_23 ∧ Aside0 (impl_Tokens.j4 kq a0 x5_2 x6_2 x111_23 = some (r1, r2)) ∧ Aside0 (kq ≤ kj15) ∧ Aside0 (Kd.R Kd.string 9 wc w.heap.size (fun _ => True) u5 x5_2) ∧ Aside0 (Below w.heap.size w wc))
                          case first =>
                            have H := HC24.out
                            clear HC24
                            by_cases c25 : (bt a0 x6_2) = 40
                            · rw [if_pos c25] at H
                              have c25b0 : ((bt a0 x6_2) == 40) = true := beq_iff_eq.mpr c25
                              have c25b1 : ((bt a0 x6_2) != 40) = false := bne_eq_false_iff_eq.mpr c25
                              clear c25
                              (first | rw [c25b0] | (simp only [i64_w, i32_w]; rw [c25b0]) | skip)
                              have H' := Aside0.mk H
                              clear H
                              go_wp2
                              go_meet
                              case rel => exact ⟨_, (true), (by first | rfl | (simp; done) | (simp [*]; done)), H', ⟨by have := HK1.out; have := HK2.out; have := HJ15.out; first | omega | exact Nat.le_refl _⟩, ⟨by (with_reducible repeat (first | apply Kd.R_alloc | apply Kd.R_drewN | apply Kd.R_drew)); exact HO_5.out⟩, ⟨by repeat (first | (with_reducible first | exact HB.out | apply below_alloc | apply pw_below_drewN | apply below_drew1) | exact HB.out)⟩⟩
                            · rw [if_neg c25] at H
                              have c25b0 : ((bt a0 x6_2) == 40) = false := beq_eq_false_iff_ne.mpr c25
                              have c25b1 : ((bt a0 x6_2) != 40) = true := bne_iff_ne.mpr c25
                              (first | rw [c25b0] | (simp only [i64_w, i32_w]; rw [c25b0]) | skip)
                              have H' := Aside0.mk H
                              clear H
                              go_wp2
                              go_meet
                              case rel => exact ⟨_, (((bt a0 x6_2) == 41)), (by first | rfl | (simp; done) | (simp [*]; done)), H', ⟨by have := HK1.out; have := HK2.out; have := HJ15.out; first | omega | exact Nat.le_refl _⟩, ⟨by (with_reducible repeat (first | apply Kd.R_alloc | apply Kd.R_drewN | apply Kd.R_drew)); exact HO_5.out⟩, ⟨by repeat (first | (with_reducible first | exact HB.out | apply below_alloc | apply pw_below_drewN | apply below_drew1) | exact HB.out)⟩⟩
                          case rest =>
                            clear HC24
                            try clear c1
                            try clear p1
                            try clear q1
                            try clear hx1
                            try clear c2
                            try clear c2b0
                            try clear c2b1
                            try clear p2
                            try clear q2
                            try clear hx2
                            try clear c3
                            try clear c3b0
                            try clear c4
                            try clear c4b0
                            try clear p5
                            try clear q5
                            try clear hx5
                            try clear c6
                            try clear c6b0
                            try clear c6b1
                            try clear p6
                            try clear p7
                            try clear q7
                            try clear hx7
                            try clear c8
                            try clear c8b0
                            try clear p9
                            try clear q9
                            try clear hx9
                            try clear c10
                            try clear c10b0
                            try clear c13
                            try clear c13b0
                            try clear c14
                            try clear c14b0
                            try clear p15
                            try clear q15
                            try clear hx15
                            try clear c17
                            try clear c17b0
                            try clear c17b1
                            try clear c18
                            try clear c19
                            try clear c19b0
                            try clear c19b1
                            try clear c20
                            try clear c20b0
                            try clear c21
                            try clear c21b0
                            try clear p22
                            try clear q22
                            try clear hx22
                            try clear c23
                            try clear c23b0
                            try clear c23b1
                            try clear c25
                            try clear c25b0
                            try clear c25b1
                            try clear p1
                            try clear p15
                            try clear p2
                            try clear p22
                            try clear p5
                            try clear p6
                            try clear p7
                            try clear p9
                            try clear q1
                            try clear q15
                            try clear q22
                            try clear q5
                            try clear q7
                            try clear q9
                            obtain ⟨kq, x111_23, rfl, HA, HJ23, HO_5, HB⟩ := hcut
                            cases kq with
                            | zero => exact absurd HA.out (by simp [impl_Tokens.j4])
                            | succ kj23 =>
                              have H := HA.out
                              clear HA
                              simp only [impl_Tokens.j4] at H
                              by_cases c26 : x111_23 = true
                              · subst c26
                                have H1 : (if 0 ≤ x6_2 then (if x6_2 ≤ (wrap64 (x6_2 + 1)) then (if (wrap64 (x6_2 + 1)) ≤ (a0.size : Int) then (if x5_2.length < 8796093022208 then (impl_Tokens.l1 kj23 a0 (x5_2 ++ [a0.extract (x6_2 : Int).toNat ((wrap64 (x6_2 + 1)) : Int).toNat]) (wrap64 (x6_2 + 1))) else (none)) else (none)) else (none)) else (none)) = some (r1, r2) := by rw [if_pos rfl] at H; exact H
                                clear H
                                have H := H1
                                clear H1
                                by_cases c27 : 0 ≤ x6_2
                                · rw [if_pos c27] at H
                                  have c27b0 := eq_true c27
                                  have c27b1 : decide (0 ≤ x6_2) = true := decide_eq_true c27
                                  clear c27
                                  by_cases c28 : x6_2 ≤ (wrap64 (x6_2 + 1))
                                  · rw [if_pos c28] at H
                                    have c28b0 := eq_true c28
                                    have c28b1 : decide (x6_2 ≤ (wrap64 (x6_2 + 1))) = true := decide_eq_true c28
                                    by_cases c29 : (wrap64 (x6_2 + 1)) ≤ (a0.size : Int)
                                    · rw [if_pos c29] at H
                                      have c29b0 := eq_true c29
                                      have c29b1 : decide ((wrap64 (x6_2 + 1)) ≤ (a0.size : Int)) = true := decide_eq_true c29
                                      by_cases c30 : x5_2.length < 8796093022208
                                      · rw [if_pos c30] at H
                                        have LMc30 := Aside0.mk c30
                                        clear c30
                                        obtain ⟨y295, hy295⟩ : ∃ y_ : List ByteArray, y_ = (x5_2 ++ [a0.extract (x6_2 : Int).toNat ((wrap64 (x6_2 + 1)) : Int).toNat]) := ⟨_, rfl⟩
                                        replace H : (impl_Tokens.l1 kj23 a0 y295 (wrap64 (x6_2 + 1))) = some (r1, r2) := by first | (rw [hy295]; with_reducible exact H) | (have H2_ := (Option.bind_some _ _).symm.trans H; rw [hy295]; with_reducible exact H2_) | (have H2_ := (Option.bind_some _ _).symm.trans H; with_reducible exact H2_) | with_reducible exact H | (rw [hy295]; exact H) | exact H
                                        have Ny295 := Aside0.mk hy295
                                        clear hy295
                                        have H' := Aside0.mk H
                                        clear H
                                        go_wp2_with (first | ((with_reducible refine gate_builtin (b := .append) (xs := #[.tmp 118, .tmp 124]) rfl ?_); at_builtin; refine Kd.R_append Kd.string (w0 := w) w.heap.size rfl (.tmp 118) (.tmp 124) 24 9 (.string ⟨#[]⟩) 16 rfl Try.underlying24 info9 rfl (by decide) (by omega) u5 x5_2 (a0.extract (x6_2 : Int).toNat ((wrap64 (x6_2 + 1)) : Int).toNat) [.string (a0.extract (x6_2 : Int).toNat ((wrap64 (x6_2 + 1)) : Int).toNat)] (fun _ => True) (fun _ => False) rfl rfl ?aP (fun _ hk => hk.elim) ?aF ?aO ?aB ?aS ?aL ?_; (case aP => exact rfl); (case aB => exact (by repeat (first | (with_reducible first | exact HB.out | apply below_alloc | apply pw_below_drewN | apply below_drew1) | exact HB.out))); (case aF => exact (fun _ _ => trivial)); (case aO => exact (by (with_reducible repeat (first | apply Kd.R_alloc | apply Kd.R_drewN | apply Kd.R_drew)); exact HO_5.out)); (case aS => exact (below_size (by repeat (first | (with_reducible first | exact HB.out | apply below_alloc | apply pw_below_drewN | apply below_drew1) | exact HB.out)))); (case aL => have := LMc30.out; omega); intro v296 w31 ho hb hg hat; rw [← Ny295.out] at ho; have n0_ := Aside0.mk (hb); have n1_ := Aside0.mk (ho); clear HB; clear HO_5; have HB := n0_; have HO297 := n1_; clear n0_ n1_; clear ho hb hg hat))
                                        go_roundg kj23
                                        case measure => have := HK1.out; have := HK2.out; have := HJ15.out; have := HJ23.out; omega
                                        case rel => exact ⟨(y295), (wrap64 (x6_2 + 1)), (by first | rfl | (simp; done) | (simp [*]; done)), H', ⟨by have := HK1.out; have := HK2.out; have := HJ15.out; have := HJ23.out; omega⟩, ⟨by (with_reducible repeat (first | apply Kd.R_alloc | apply Kd.R_drewN | apply Kd.R_drew)); exact HO297.out⟩, ⟨by repeat (first | (with_reducible first | exact HB.out | apply below_alloc | apply pw_below_drewN | apply below_drew1) | exact HB.out)⟩⟩
                                      · rw [if_neg c30] at H
                                        exact absurd H (by simp)
                                    · rw [if_neg c29] at H
                                      exact absurd H (by simp)
                                  · rw [if_neg c28] at H
                                    exact absurd H (by simp)
                                · rw [if_neg c27] at H
                                  exact absurd H (by simp)
                              · replace c26 := Bool.eq_false_iff.mpr c26
                                subst c26
                                have H1 : (impl_Tokens.l3 kj23 a0 x5_2 x6_2 x6_2) = some (r1, r2) := by rw [if_neg (show ¬ (false = true) by decide)] at H; exact H
                                clear H
                                have H := H1
                                clear H1
                                have H' := Aside0.mk H
                                clear H
                                go_wp2
                                go_loopg [8] kj23 (fun kq v8 w' => ∃ (x8_5 : Int), v8 = .int .i64 x8_5 ∧ Aside0 (impl_Tokens.l3 kq a0 x5_2 x6_2 x8_5 = some (r1, r2)) ∧ Aside0 (kq ≤ kj23) ∧ Aside0 (Kd.R Kd.string 9 w' w.heap.size (fun _ => True) u5 x5_2) ∧ Aside0 (Below w.heap.size w w'))
                                case atStart => exact ⟨(x6_2), (by first | rfl | (simp; done) | (simp [*]; done)), H', ⟨Nat.le_refl _⟩, ⟨by (with_reducible repeat (first | apply Kd.R_alloc | apply Kd.R_drewN | apply Kd.R_drew)); exact HO_5.out⟩, ⟨by repeat (first | (with_reducible first | exact HB.out | apply below_alloc | apply pw_below_drewN | apply below_drew1) | exact HB.out)⟩⟩
                                case round =>
                                  clear H'
                                  try clear c1
                                  try clear p1
                                  try clear q1
                                  try clear hx1
                                  try clear c2
                                  try clear c2b0
                                  try clear c2b1
                                  try clear p2
                                  try clear q2
                                  try clear hx2
                                  try clear c3
                                  try clear c3b0
                                  try clear c4
                                  try clear c4b0
                                  try clear p5
                                  try clear q5
                                  try clear hx5
                                  try clear c6
                                  try clear c6b0
                                  try clear c6b1
                                  try clear p6
                                  try clear p7
                                  try clear q7
                                  try clear hx7
                                  try clear c8
                                  try clear c8b0
                                  try clear p9
                                  try clear q9
                                  try clear hx9
                                  try clear c10
                                  try clear c10b0
                                  try clear c13
                                  try clear c13b0
                                  try clear c14
                                  try clear c14b0
                                  try clear p15
                                  try clear q15
                                  try clear hx15
                                  try clear c17
                                  try clear c17b0
                                  try clear c17b1
                                  try clear c18
                                  try clear c19
                                  try clear c19b0
                                  try clear c19b1
                                  try clear c20
                                  try clear c20b0
                                  try clear c21
                                  try clear c21b0
                                  try clear p22
                                  try clear q22
                                  try clear hx22
                                  try clear c23
                                  try clear c23b0
                                  try clear c23b1
                                  try clear c25
                                  try clear c25b0
                                  try clear c25b1
                                  try clear c26
                                  try clear c27
                                  try clear c27b0
                                  try clear c27b1
                                  try clear c28
                                  try clear c28b0
                                  try clear c28b1
                                  try clear c29
                                  try clear c29b0
                                  try clear c29b1
                                  try clear c30
                                  try clear p1
                                  try clear p15
                                  try clear p2
                                  try clear p22
                                  try clear p5
                                  try clear p6
                                  try clear p7
                                  try clear p9
                                  try clear q1
                                  try clear q15
                                  try clear q2
                                  try clear q22
                                  try clear q5
                                  try clear q7
                                  try clear q9
                                  obtain ⟨x8_5, rfl, HA, HK5, HO_5, HB⟩ := hrel
                                  cases gk with
                                  | zero => exact absurd HA.out (by simp [impl_Tokens.l3])
                                  | succ k5 =>
                                    have H := HA.out
                                    clear HA
                                    simp only [impl_Tokens.l3] at H
                                    by_cases c32 : x8_5 < (a0.size : Int)
                                    · rw [if_pos c32] at H
                                      have c32b0 : decide (x8_5 < (a0.size : Int)) = true := decide_eq_true c32
                                      clear c32
                                      by_cases c33 : 0 ≤ x8_5
                                      · rw [if_pos c33] at H
                                        have c33b0 : decide (0 ≤ x8_5) = true := decide_eq_true c33
                                        clear c33
                                        by_cases c35 : (bt a0 x8_5) = 32
                                        · rw [if_pos c35] at H
                                          have c35b0 : ((bt a0 x8_5) == 32) = true := beq_iff_eq.mpr c35
                                          have c35b1 : ((bt a0 x8_5) != 32) = false := bne_eq_false_iff_eq.mpr c35
                                          clear c35
                                          by_cases c36 : 0 ≤ x6_2
                                          · rw [if_pos c36] at H
                                            have c36b0 := eq_true c36
                                            have c36b1 : decide (0 ≤ x6_2) = true := decide_eq_true c36
                                            clear c36
                                            by_cases c37 : x6_2 ≤ x8_5
                                            · rw [if_pos c37] at H
                                              have c37b0 := eq_true c37
                                              have c37b1 : decide (x6_2 ≤ x8_5) = true := decide_eq_true c37
                                              clear c37
                                              by_cases c38 : x8_5 ≤ (a0.size : Int)
                                              · rw [if_pos c38] at H
                                                have c38b0 := eq_true c38
                                                have c38b1 : decide (x8_5 ≤ (a0.size : Int)) = true := decide_eq_true c38
                                                clear c38
                                                by_cases c39 : x5_2.length < 8796093022208
                                                · rw [if_pos c39] at H
                                                  have LMc39 := Aside0.mk c39
                                                  clear c39
                                                  obtain ⟨y298, hy298⟩ : ∃ y_ : List ByteArray, y_ = (x5_2 ++ [a0.extract (x6_2 : Int).toNat (x8_5 : Int).toNat]) := ⟨_, rfl⟩
                                                  replace H : (impl_Tokens.l1 k5 a0 y298 x8_5) = some (r1, r2) := by first | (rw [hy298]; with_reducible exact H) | (have H2_ := (Option.bind_some _ _).symm.trans H; rw [hy298]; with_reducible exact H2_) | (have H2_ := (Option.bind_some _ _).symm.trans H; with_reducible exact H2_) | with_reducible exact H | (rw [hy298]; exact H) | exact H
                                                  have Ny298 := Aside0.mk hy298
                                                  clear hy298
                                                  have H' := Aside0.mk H
                                                  clear H
                                                  have p34 : 0 ≤ (x8_5 : Int) := of_decide_eq_true (by first | (with_reducible assumption) | assumption)
                                                  have q34 : x8_5 < (a0.size : Int) := of_decide_eq_true (by first | (with_reducible assumption) | assumption)
                                                  have hx34 := bt_at a0 x8_5
                                                  replace p34 := eq_true p34
                                                  replace q34 := eq_true q34
                                                  go_wp2_with (first | ((with_reducible refine gate_builtin (b := .append) (xs := #[.tmp 79, .tmp 84]) rfl ?_); at_builtin; refine Kd.R_append Kd.string (w0 := w) w.heap.size rfl (.tmp 79) (.tmp 84) 24 9 (.string ⟨#[]⟩) 16 rfl Try.underlying24 info9 rfl (by decide) (by omega) u5 x5_2 (a0.extract (x6_2 : Int).toNat (x8_5 : Int).toNat) [.string (a0.extract (x6_2 : Int).toNat (x8_5 : Int).toNat)] (fun _ => True) (fun _ => False) rfl rfl ?aP (fun _ hk => hk.elim) ?aF ?aO ?aB ?aS ?aL ?_; (case aP => exact rfl); (case aB => exact (by repeat (first | (with_reducible first | exact HB.out | apply below_alloc | apply pw_below_drewN | apply below_drew1) | exact HB.out))); (case aF => exact (fun _ _ => trivial)); (case aO => exact (by (with_reducible repeat (first | apply Kd.R_alloc | apply Kd.R_drewN | apply Kd.R_drew)); exact HO_5.out)); (case aS => exact (below_size (by repeat (first | (with_reducible first | exact HB.out | apply below_alloc | apply pw_below_drewN | apply below_drew1) | exact HB.out)))); (case aL => have := LMc39.out; omega); intro v299 w40 ho hb hg hat; rw [← Ny298.out] at ho; have n0_ := Aside0.mk (hb); have n1_ := Aside0.mk (ho); clear HB; clear HO_5; have HB := n0_; have HO300 := n1_; clear n0_ n1_; clear ho hb hg hat))
                                                  go_roundg k5
                                                  case measure => have := HK1.out; have := HK2.out; have := HJ15.out; have := HJ23.out; have := HK5.out; omega
                                                  case rel => exact ⟨(y298), (x8_5), (by first | rfl | (simp; done) | (simp [*]; done)), H', ⟨by have := HK1.out; have := HK2.out; have := HJ15.out; have := HJ23.out; have := HK5.out; omega⟩, ⟨by (with_reducible repeat (first | apply Kd.R_alloc | apply Kd.R_drewN | apply Kd.R_drew)); exact HO300.out⟩, ⟨by repeat (first | (with_reducible first | exact HB.out | apply below_alloc | apply pw_below_drewN | apply below_drew1) | exact HB.out)⟩⟩
                                                · rw [if_neg c39] at H
                                                  exact absurd H (by simp)
                                              · rw [if_neg c38] at H
                                                exact absurd H (by simp)
                                            · rw [if_neg c37] at H
                                              exact absurd H (by simp)
                                          · rw [if_neg c36] at H
                                            exact absurd H (by simp)
                                        · rw [if_neg c35] at H
                                          have c35b0 : ((bt a0 x8_5) == 32) = false := beq_eq_false_iff_ne.mpr c35
                                          have c35b1 : ((bt a0 x8_5) != 32) = true := bne_iff_ne.mpr c35
                                          by_cases c42 : (bt a0 x8_5) = 10
                                          · rw [if_pos c42] at H
                                            have c42b0 : ((bt a0 x8_5) == 10) = true := beq_iff_eq.mpr c42
                                            have c42b1 : ((bt a0 x8_5) != 10) = false := bne_eq_false_iff_eq.mpr c42
                                            clear c42
                                            by_cases c43 : 0 ≤ x6_2
                                            · rw [if_pos c43] at H
                                              have c43b0 := eq_true c43
                                              have c43b1 : decide (0 ≤ x6_2) = true := decide_eq_true c43
                                              clear c43
                                              by_cases c44 : x6_2 ≤ x8_5
                                              · rw [if_pos c44] at H
                                                have c44b0 := eq_true c44
                                                have c44b1 : decide (x6_2 ≤ x8_5) = true := decide_eq_true c44
                                                clear c44
                                                by_cases c45 : x8_5 ≤ (a0.size : Int)
                                                · rw [if_pos c45] at H
                                                  have c45b0 := eq_true c45
                                                  have c45b1 : decide (x8_5 ≤ (a0.size : Int)) = true := decide_eq_true c45
                                                  clear c45
                                                  by_cases c46 : x5_2.length < 8796093022208
                                                  · rw [if_pos c46] at H
                                                    have LMc46 := Aside0.mk c46
                                                    clear c46
                                                    obtain ⟨y301, hy301⟩ : ∃ y_ : List ByteArray, y_ = (x5_2 ++ [a0.extract (x6_2 : Int).toNat (x8_5 : Int).toNat]) := ⟨_, rfl⟩
                                                    replace H : (impl_Tokens.l1 k5 a0 y301 x8_5) = some (r1, r2) := by first | (rw [hy301]; with_reducible exact H) | (have H2_ := (Option.bind_some _ _).symm.trans H; rw [hy301]; with_reducible exact H2_) | (have H2_ := (Option.bind_some _ _).symm.trans H; with_reducible exact H2_) | with_reducible exact H | (rw [hy301]; exact H) | exact H
                                                    have Ny301 := Aside0.mk hy301
                                                    clear hy301
                                                    have H' := Aside0.mk H
                                                    clear H
                                                    have p34 : 0 ≤ (x8_5 : Int) := of_decide_eq_true (by first | (with_reducible assumption) | assumption)
                                                    have q34 : x8_5 < (a0.size : Int) := of_decide_eq_true (by first | (with_reducible assumption) | assumption)
                                                    have hx34 := bt_at a0 x8_5
                                                    replace p34 := eq_true p34
                                                    replace q34 := eq_true q34
                                                    have p41 : 0 ≤ (x8_5 : Int) := of_decide_eq_true (by first | (with_reducible assumption) | assumption)
                                                    have q41 : x8_5 < (a0.size : Int) := of_decide_eq_true (by first | (with_reducible assumption) | assumption)
                                                    have hx41 := bt_at a0 x8_5
                                                    replace p41 := eq_true p41
                                                    replace q41 := eq_true q41
                                                    go_wp2_with (first | ((with_reducible refine gate_builtin (b := .append) (xs := #[.tmp 79, .tmp 84]) rfl ?_); at_builtin; refine Kd.R_append Kd.string (w0 := w) w.heap.size rfl (.tmp 79) (.tmp 84) 24 9 (.string ⟨#[]⟩) 16 rfl Try.underlying24 info9 rfl (by decide) (by omega) u5 x5_2 (a0.extract (x6_2 : Int).toNat (x8_5 : Int).toNat) [.string (a0.extract (x6_2 : Int).toNat (x8_5 : Int).toNat)] (fun _ => True) (fun _ => False) rfl rfl ?aP (fun _ hk => hk.elim) ?aF ?aO ?aB ?aS ?aL ?_; (case aP => exact rfl); (case aB => exact (by repeat (first | (with_reducible first | exact HB.out | apply below_alloc | apply pw_below_drewN | apply below_drew1) | exact HB.out))); (case aF => exact (fun _ _ => trivial)); (case aO => exact (by (with_reducible repeat (first | apply Kd.R_alloc | apply Kd.R_drewN | apply Kd.R_drew)); exact HO_5.out)); (case aS => exact (below_size (by repeat (first | (with_reducible first | exact HB.out | apply below_alloc | apply pw_below_drewN | apply below_drew1) | exact HB.out)))); (case aL => have := LMc46.out; omega); intro v302 w47 ho hb hg hat; rw [← Ny301.out] at ho; have n0_ := Aside0.mk (hb); have n1_ := Aside0.mk (ho); clear HB; clear HO_5; have HB := n0_; have HO303 := n1_; clear n0_ n1_; clear ho hb hg hat))
                                                    go_roundg k5
                                                    case measure => have := HK1.out; have := HK2.out; have := HJ15.out; have := HJ23.out; have := HK5.out; omega
                                                    case rel => exact ⟨(y301), (x8_5), (by first | rfl | (simp; done) | (simp [*]; done)), H', ⟨by have := HK1.out; have := HK2.out; have := HJ15.out; have := HJ23.out; have := HK5.out; omega⟩, ⟨by (with_reducible repeat (first | apply Kd.R_alloc | apply Kd.R_drewN | apply Kd.R_drew)); exact HO303.out⟩, ⟨by repeat (first | (with_reducible first | exact HB.out | apply below_alloc | apply pw_below_drewN | apply below_drew1) | exact HB.out)⟩⟩
                                                  · rw [if_neg c46] at H
                                                    exact absurd H (by simp)
                                                · rw [if_neg c45] at H
                                                  exact absurd H (by simp)
                                              · rw [if_neg c44] at H
                                                exact absurd H (by simp)
                                            · rw [if_neg c43] at H
                                              exact absurd H (by simp)
                                          · rw [if_neg c42] at H
                                            have c42b0 : ((bt a0 x8_5) == 10) = false := beq_eq_false_iff_ne.mpr c42
                                            have c42b1 : ((bt a0 x8_5) != 10) = true := bne_iff_ne.mpr c42
                                            by_cases c49 : (bt a0 x8_5) = 40
                                            · rw [if_pos c49] at H
                                              have c49b0 : ((bt a0 x8_5) == 40) = true := beq_iff_eq.mpr c49
                                              have c49b1 : ((bt a0 x8_5) != 40) = false := bne_eq_false_iff_eq.mpr c49
                                              clear c49
                                              by_cases c50 : 0 ≤ x6_2
                                              · rw [if_pos c50] at H
                                                have c50b0 := eq_true c50
                                                have c50b1 : decide (0 ≤ x6_2) = true := decide_eq_true c50
                                                clear c50
                                                by_cases c51 : x6_2 ≤ x8_5
                                                · rw [if_pos c51] at H
                                                  have c51b0 := eq_true c51
                                                  have c51b1 : decide (x6_2 ≤ x8_5) = true := decide_eq_true c51
                                                  clear c51
                                                  by_cases c52 : x8_5 ≤ (a0.size : Int)
                                                  · rw [if_pos c52] at H
                                                    have c52b0 := eq_true c52
                                                    have c52b1 : decide (x8_5 ≤ (a0.size : Int)) = true := decide_eq_true c52
                                                    clear c52
                                                    by_cases c53 : x5_2.length < 8796093022208
                                                    · rw [if_pos c53] at H
                                                      have LMc53 := Aside0.mk c53
                                                      clear c53
                                                      obtain ⟨y304, hy304⟩ : ∃ y_ : List ByteArray, y_ = (x5_2 ++ [a0.extract (x6_2 : Int).toNat (x8_5 : Int).toNat]) := ⟨_, rfl⟩
                                                      replace H : (impl_Tokens.l1 k5 a0 y304 x8_5) = some (r1, r2) := by first | (rw [hy304]; with_reducible exact H) | (have H2_ := (Option.bind_some _ _).symm.trans H; rw [hy304]; with_reducible exact H2_) | (have H2_ := (Option.bind_some _ _).symm.trans H; with_reducible exact H2_) | with_reducible exact H | (rw [hy304]; exact H) | exact H
                                                      have Ny304 := Aside0.mk hy304
                                                      clear hy304
                                                      have H' := Aside0.mk H
                                                      clear H
                                                      have p34 : 0 ≤ (x8_5 : Int) := of_decide_eq_true (by first | (with_reducible assumption) | assumption)
                                                      have q34 : x8_5 < (a0.size : Int) := of_decide_eq_true (by first | (with_reducible assumption) | assumption)
                                                      have hx34 := bt_at a0 x8_5
                                                      replace p34 := eq_true p34
                                                      replace q34 := eq_true q34
                                                      have p41 : 0 ≤ (x8_5 : Int) := of_decide_eq_true (by first | (with_reducible assumption) | assumption)
                                                      have q41 : x8_5 < (a0.size : Int) := of_decide_eq_true (by first | (with_reducible assumption) | assumption)
                                                      have hx41 := bt_at a0 x8_5
                                                      replace p41 := eq_true p41
                                                      replace q41 := eq_true q41
                                                      have p48 : 0 ≤ (x8_5 : Int) := of_decide_eq_true (by first | (with_reducible assumption) | assumption)
                                                      have q48 : x8_5 < (a0.size : Int) := of_decide_eq_true (by first | (with_reducible assumption) | assumption)
                                                      have hx48 := bt_at a0 x8_5
                                                      replace p48 := eq_true p48
                                                      replace q48 := eq_true q48
                                                      go_wp2_with (first | ((with_reducible refine gate_builtin (b := .append) (xs := #[.tmp 79, .tmp 84]) rfl ?_); at_builtin; refine Kd.R_append Kd.string (w0 := w) w.heap.size rfl (.tmp 79) (.tmp 84) 24 9 (.string ⟨#[]⟩) 16 rfl Try.underlying24 info9 rfl (by decide) (by omega) u5 x5_2 (a0.extract (x6_2 : Int).toNat (x8_5 : Int).toNat) [.string (a0.extract (x6_2 : Int).toNat (x8_5 : Int).toNat)] (fun _ => True) (fun _ => False) rfl rfl ?aP (fun _ hk => hk.elim) ?aF ?aO ?aB ?aS ?aL ?_; (case aP => exact rfl); (case aB => exact (by repeat (first | (with_reducible first | exact HB.out | apply below_alloc | apply pw_below_drewN | apply below_drew1) | exact HB.out))); (case aF => exact (fun _ _ => trivial)); (case aO => exact (by (with_reducible repeat (first | apply Kd.R_alloc | apply Kd.R_drewN | apply Kd.R_drew)); exact HO_5.out)); (case aS => exact (below_size (by repeat (first | (with_reducible first | exact HB.out | apply below_alloc | apply pw_below_drewN | apply below_drew1) | exact HB.out)))); (case aL => have := LMc53.out; omega); intro v305 w54 ho hb hg hat; rw [← Ny304.out] at ho; have n0_ := Aside0.mk (hb); have n1_ := Aside0.mk (ho); clear HB; clear HO_5; have HB := n0_; have HO306 := n1_; clear n0_ n1_; clear ho hb hg hat))
                                                      go_roundg k5
                                                      case measure => have := HK1.out; have := HK2.out; have := HJ15.out; have := HJ23.out; have := HK5.out; omega
                                                      case rel => exact ⟨(y304), (x8_5), (by first | rfl | (simp; done) | (simp [*]; done)), H', ⟨by have := HK1.out; have := HK2.out; have := HJ15.out; have := HJ23.out; have := HK5.out; omega⟩, ⟨by (with_reducible repeat (first | apply Kd.R_alloc | apply Kd.R_drewN | apply Kd.R_drew)); exact HO306.out⟩, ⟨by repeat (first | (with_reducible first | exact HB.out | apply below_alloc | apply pw_below_drewN | apply below_drew1) | exact HB.out)⟩⟩
                                                    · rw [if_neg c53] at H
                                                      exact absurd H (by simp)
                                                  · rw [if_neg c52] at H
                                                    exact absurd H (by simp)
                                                · rw [if_neg c51] at H
                                                  exact absurd H (by simp)
                                              · rw [if_neg c50] at H
                                                exact absurd H (by simp)
                                            · rw [if_neg c49] at H
                                              have c49b0 : ((bt a0 x8_5) == 40) = false := beq_eq_false_iff_ne.mpr c49
                                              have c49b1 : ((bt a0 x8_5) != 40) = true := bne_iff_ne.mpr c49
                                              by_cases c56 : (bt a0 x8_5) = 41
                                              · rw [if_pos c56] at H
                                                have c56b0 : ((bt a0 x8_5) == 41) = true := beq_iff_eq.mpr c56
                                                have c56b1 : ((bt a0 x8_5) != 41) = false := bne_eq_false_iff_eq.mpr c56
                                                clear c56
                                                by_cases c57 : 0 ≤ x6_2
                                                · rw [if_pos c57] at H
                                                  have c57b0 := eq_true c57
                                                  have c57b1 : decide (0 ≤ x6_2) = true := decide_eq_true c57
                                                  clear c57
                                                  by_cases c58 : x6_2 ≤ x8_5
                                                  · rw [if_pos c58] at H
                                                    have c58b0 := eq_true c58
                                                    have c58b1 : decide (x6_2 ≤ x8_5) = true := decide_eq_true c58
                                                    clear c58
                                                    by_cases c59 : x8_5 ≤ (a0.size : Int)
                                                    · rw [if_pos c59] at H
                                                      have c59b0 := eq_true c59
                                                      have c59b1 : decide (x8_5 ≤ (a0.size : Int)) = true := decide_eq_true c59
                                                      clear c59
                                                      by_cases c60 : x5_2.length < 8796093022208
                                                      · rw [if_pos c60] at H
                                                        have LMc60 := Aside0.mk c60
                                                        clear c60
                                                        obtain ⟨y307, hy307⟩ : ∃ y_ : List ByteArray, y_ = (x5_2 ++ [a0.extract (x6_2 : Int).toNat (x8_5 : Int).toNat]) := ⟨_, rfl⟩
                                                        replace H : (impl_Tokens.l1 k5 a0 y307 x8_5) = some (r1, r2) := by first | (rw [hy307]; with_reducible exact H) | (have H2_ := (Option.bind_some _ _).symm.trans H; rw [hy307]; with_reducible exact H2_) | (have H2_ := (Option.bind_some _ _).symm.trans H; with_reducible exact H2_) | with_reducible exact H | (rw [hy307]; exact H) | exact H
                                                        have Ny307 := Aside0.mk hy307
                                                        clear hy307
                                                        have H' := Aside0.mk H
                                                        clear H
                                                        have p34 : 0 ≤ (x8_5 : Int) := of_decide_eq_true (by first | (with_reducible assumption) | assumption)
                                                        have q34 : x8_5 < (a0.size : Int) := of_decide_eq_true (by first | (with_reducible assumption) | assumption)
                                                        have hx34 := bt_at a0 x8_5
                                                        replace p34 := eq_true p34
                                                        replace q34 := eq_true q34
                                                        have p41 : 0 ≤ (x8_5 : Int) := of_decide_eq_true (by first | (with_reducible assumption) | assumption)
                                                        have q41 : x8_5 < (a0.size : Int) := of_decide_eq_true (by first | (with_reducible assumption) | assumption)
                                                        have hx41 := bt_at a0 x8_5
                                                        replace p41 := eq_true p41
                                                        replace q41 := eq_true q41
                                                        have p48 : 0 ≤ (x8_5 : Int) := of_decide_eq_true (by first | (with_reducible assumption) | assumption)
                                                        have q48 : x8_5 < (a0.size : Int) := of_decide_eq_true (by first | (with_reducible assumption) | assumption)
                                                        have hx48 := bt_at a0 x8_5
                                                        replace p48 := eq_true p48
                                                        replace q48 := eq_true q48
                                                        have p55 : 0 ≤ (x8_5 : Int) := of_decide_eq_true (by first | (with_reducible assumption) | assumption)
                                                        have q55 : x8_5 < (a0.size : Int) := of_decide_eq_true (by first | (with_reducible assumption) | assumption)
                                                        have hx55 := bt_at a0 x8_5
                                                        replace p55 := eq_true p55
                                                        replace q55 := eq_true q55
                                                        go_wp2_with (first | ((with_reducible refine gate_builtin (b := .append) (xs := #[.tmp 79, .tmp 84]) rfl ?_); at_builtin; refine Kd.R_append Kd.string (w0 := w) w.heap.size rfl (.tmp 79) (.tmp 84) 24 9 (.string ⟨#[]⟩) 16 rfl Try.underlying24 info9 rfl (by decide) (by omega) u5 x5_2 (a0.extract (x6_2 : Int).toNat (x8_5 : Int).toNat) [.string (a0.extract (x6_2 : Int).toNat (x8_5 : Int).toNat)] (fun _ => True) (fun _ => False) rfl rfl ?aP (fun _ hk => hk.elim) ?aF ?aO ?aB ?aS ?aL ?_; (case aP => exact rfl); (case aB => exact (by repeat (first | (with_reducible first | exact HB.out | apply below_alloc | apply pw_below_drewN | apply below_drew1) | exact HB.out))); (case aF => exact (fun _ _ => trivial)); (case aO => exact (by (with_reducible repeat (first | apply Kd.R_alloc | apply Kd.R_drewN | apply Kd.R_drew)); exact HO_5.out)); (case aS => exact (below_size (by repeat (first | (with_reducible first | exact HB.out | apply below_alloc | apply pw_below_drewN | apply below_drew1) | exact HB.out)))); (case aL => have := LMc60.out; omega); intro v308 w61 ho hb hg hat; rw [← Ny307.out] at ho; have n0_ := Aside0.mk (hb); have n1_ := Aside0.mk (ho); clear HB; clear HO_5; have HB := n0_; have HO309 := n1_; clear n0_ n1_; clear ho hb hg hat))
                                                        go_roundg k5
                                                        case measure => have := HK1.out; have := HK2.out; have := HJ15.out; have := HJ23.out; have := HK5.out; omega
                                                        case rel => exact ⟨(y307), (x8_5), (by first | rfl | (simp; done) | (simp [*]; done)), H', ⟨by have := HK1.out; have := HK2.out; have := HJ15.out; have := HJ23.out; have := HK5.out; omega⟩, ⟨by (with_reducible repeat (first | apply Kd.R_alloc | apply Kd.R_drewN | apply Kd.R_drew)); exact HO309.out⟩, ⟨by repeat (first | (with_reducible first | exact HB.out | apply below_alloc | apply pw_below_drewN | apply below_drew1) | exact HB.out)⟩⟩
                                                      · rw [if_neg c60] at H
                                                        exact absurd H (by simp)
                                                    · rw [if_neg c59] at H
                                                      exact absurd H (by simp)
                                                  · rw [if_neg c58] at H
                                                    exact absurd H (by simp)
                                                · rw [if_neg c57] at H
                                                  exact absurd H (by simp)
                                              · rw [if_neg c56] at H
                                                have c56b0 : ((bt a0 x8_5) == 41) = false := beq_eq_false_iff_ne.mpr c56
                                                have c56b1 : ((bt a0 x8_5) != 41) = true := bne_iff_ne.mpr c56
                                                by_cases c63 : (bt a0 x8_5) = 59
                                                · rw [if_pos c63] at H
                                                  have c63b0 : ((bt a0 x8_5) == 59) = true := beq_iff_eq.mpr c63
                                                  have c63b1 : ((bt a0 x8_5) != 59) = false := bne_eq_false_iff_eq.mpr c63
                                                  clear c63
                                                  by_cases c64 : 0 ≤ x6_2
                                                  · rw [if_pos c64] at H
                                                    have c64b0 := eq_true c64
                                                    have c64b1 : decide (0 ≤ x6_2) = true := decide_eq_true c64
                                                    clear c64
                                                    by_cases c65 : x6_2 ≤ x8_5
                                                    · rw [if_pos c65] at H
                                                      have c65b0 := eq_true c65
                                                      have c65b1 : decide (x6_2 ≤ x8_5) = true := decide_eq_true c65
                                                      clear c65
                                                      by_cases c66 : x8_5 ≤ (a0.size : Int)
                                                      · rw [if_pos c66] at H
                                                        have c66b0 := eq_true c66
                                                        have c66b1 : decide (x8_5 ≤ (a0.size : Int)) = true := decide_eq_true c66
                                                        clear c66
                                                        by_cases c67 : x5_2.length < 8796093022208
                                                        · rw [if_pos c67] at H
                                                          have LMc67 := Aside0.mk c67
                                                          clear c67
                                                          obtain ⟨y310, hy310⟩ : ∃ y_ : List ByteArray, y_ = (x5_2 ++ [a0.extract (x6_2 : Int).toNat (x8_5 : Int).toNat]) := ⟨_, rfl⟩
                                                          replace H : (impl_Tokens.l1 k5 a0 y310 x8_5) = some (r1, r2) := by first | (rw [hy310]; with_reducible exact H) | (have H2_ := (Option.bind_some _ _).symm.trans H; rw [hy310]; with_reducible exact H2_) | (have H2_ := (Option.bind_some _ _).symm.trans H; with_reducible exact H2_) | with_reducible exact H | (rw [hy310]; exact H) | exact H
                                                          have Ny310 := Aside0.mk hy310
                                                          clear hy310
                                                          have H' := Aside0.mk H
                                                          clear H
                                                          have p34 : 0 ≤ (x8_5 : Int) := of_decide_eq_true (by first | (with_reducible assumption) | assumption)
                                                          have q34 : x8_5 < (a0.size : Int) := of_decide_eq_true (by first | (with_reducible assumption) | assumption)
                                                          have hx34 := bt_at a0 x8_5
                                                          replace p34 := eq_true p34
                                                          replace q34 := eq_true q34
                                                          have p41 : 0 ≤ (x8_5 : Int) := of_decide_eq_true (by first | (with_reducible assumption) | assumption)
                                                          have q41 : x8_5 < (a0.size : Int) := of_decide_eq_true (by first | (with_reducible assumption) | assumption)
                                                          have hx41 := bt_at a0 x8_5
                                                          replace p41 := eq_true p41
                                                          replace q41 := eq_true q41
                                                          have p48 : 0 ≤ (x8_5 : Int) := of_decide_eq_true (by first | (with_reducible assumption) | assumption)
                                                          have q48 : x8_5 < (a0.size : Int) := of_decide_eq_true (by first | (with_reducible assumption) | assumption)
                                                          have hx48 := bt_at a0 x8_5
                                                          replace p48 := eq_true p48
                                                          replace q48 := eq_true q48
                                                          have p55 : 0 ≤ (x8_5 : Int) := of_decide_eq_true (by first | (with_reducible assumption) | assumption)
                                                          have q55 : x8_5 < (a0.size : Int) := of_decide_eq_true (by first | (with_reducible assumption) | assumption)
                                                          have hx55 := bt_at a0 x8_5
                                                          replace p55 := eq_true p55
                                                          replace q55 := eq_true q55
                                                          have p62 : 0 ≤ (x8_5 : Int) := of_decide_eq_true (by first | (with_reducible assumption) | assumption)
                                                          have q62 : x8_5 < (a0.size : Int) := of_decide_eq_true (by first | (with_reducible assumption) | assumption)
                                                          have hx62 := bt_at a0 x8_5
                                                          replace p62 := eq_true p62
                                                          replace q62 := eq_true q62
                                                          go_wp2_with (first | ((with_reducible refine gate_builtin (b := .append) (xs := #[.tmp 79, .tmp 84]) rfl ?_); at_builtin; refine Kd.R_append Kd.string (w0 := w) w.heap.size rfl (.tmp 79) (.tmp 84) 24 9 (.string ⟨#[]⟩) 16 rfl Try.underlying24 info9 rfl (by decide) (by omega) u5 x5_2 (a0.extract (x6_2 : Int).toNat (x8_5 : Int).toNat) [.string (a0.extract (x6_2 : Int).toNat (x8_5 : Int).toNat)] (fun _ => True) (fun _ => False) rfl rfl ?aP (fun _ hk => hk.elim) ?aF ?aO ?aB ?aS ?aL ?_; (case aP => exact rfl); (case aB => exact (by repeat (first | (with_reducible first | exact HB.out | apply below_alloc | apply pw_below_drewN | apply below_drew1) | exact HB.out))); (case aF => exact (fun _ _ => trivial)); (case aO => exact (by (with_reducible repeat (first | apply Kd.R_alloc | apply Kd.R_drewN | apply Kd.R_drew)); exact HO_5.out)); (case aS => exact (below_size (by repeat (first | (with_reducible first | exact HB.out | apply below_alloc | apply pw_below_drewN | apply below_drew1) | exact HB.out)))); (case aL => have := LMc67.out; omega); intro v311 w68 ho hb hg hat; rw [← Ny310.out] at ho; have n0_ := Aside0.mk (hb); have n1_ := Aside0.mk (ho); clear HB; clear HO_5; have HB := n0_; have HO312 := n1_; clear n0_ n1_; clear ho hb hg hat))
                                                          go_roundg k5
                                                          case measure => have := HK1.out; have := HK2.out; have := HJ15.out; have := HJ23.out; have := HK5.out; omega
                                                          case rel => exact ⟨(y310), (x8_5), (by first | rfl | (simp; done) | (simp [*]; done)), H', ⟨by have := HK1.out; have := HK2.out; have := HJ15.out; have := HJ23.out; have := HK5.out; omega⟩, ⟨by (with_reducible repeat (first | apply Kd.R_alloc | apply Kd.R_drewN | apply Kd.R_drew)); exact HO312.out⟩, ⟨by repeat (first | (with_reducible first | exact HB.out | apply below_alloc | apply pw_below_drewN | apply below_drew1) | exact HB.out)⟩⟩
                                                        · rw [if_neg c67] at H
                                                          exact absurd H (by simp)
                                                      · rw [if_neg c66] at H
                                                        exact absurd H (by simp)
                                                    · rw [if_neg c65] at H
                                                      exact absurd H (by simp)
                                                  · rw [if_neg c64] at H
                                                    exact absurd H (by simp)
                                                · rw [if_neg c63] at H
                                                  have c63b0 : ((bt a0 x8_5) == 59) = false := beq_eq_false_iff_ne.mpr c63
                                                  have c63b1 : ((bt a0 x8_5) != 59) = true := bne_iff_ne.mpr c63
                                                  have H' := Aside0.mk H
                                                  clear H
                                                  have p34 : 0 ≤ (x8_5 : Int) := of_decide_eq_true (by first | (with_reducible assumption) | assumption)
                                                  have q34 : x8_5 < (a0.size : Int) := of_decide_eq_true (by first | (with_reducible assumption) | assumption)
                                                  have hx34 := bt_at a0 x8_5
                                                  replace p34 := eq_true p34
                                                  replace q34 := eq_true q34
                                                  have p41 : 0 ≤ (x8_5 : Int) := of_decide_eq_true (by first | (with_reducible assumption) | assumption)
                                                  have q41 : x8_5 < (a0.size : Int) := of_decide_eq_true (by first | (with_reducible assumption) | assumption)
                                                  have hx41 := bt_at a0 x8_5
                                                  replace p41 := eq_true p41
                                                  replace q41 := eq_true q41
                                                  have p48 : 0 ≤ (x8_5 : Int) := of_decide_eq_true (by first | (with_reducible assumption) | assumption)
                                                  have q48 : x8_5 < (a0.size : Int) := of_decide_eq_true (by first | (with_reducible assumption) | assumption)
                                                  have hx48 := bt_at a0 x8_5
                                                  replace p48 := eq_true p48
                                                  replace q48 := eq_true q48
                                                  have p55 : 0 ≤ (x8_5 : Int) := of_decide_eq_true (by first | (with_reducible assumption) | assumption)
                                                  have q55 : x8_5 < (a0.size : Int) := of_decide_eq_true (by first | (with_reducible assumption) | assumption)
                                                  have hx55 := bt_at a0 x8_5
                                                  replace p55 := eq_true p55
                                                  replace q55 := eq_true q55
                                                  have p62 : 0 ≤ (x8_5 : Int) := of_decide_eq_true (by first | (with_reducible assumption) | assumption)
                                                  have q62 : x8_5 < (a0.size : Int) := of_decide_eq_true (by first | (with_reducible assumption) | assumption)
                                                  have hx62 := bt_at a0 x8_5
                                                  replace p62 := eq_true p62
                                                  replace q62 := eq_true q62
                                                  go_wp2
                                                  go_roundg k5
                                                  case measure => have := HK1.out; have := HK2.out; have := HJ15.out; have := HJ23.out; have := HK5.out; omega
                                                  case rel => exact ⟨(wrap64 (x8_5 + 1)), (by first | rfl | (simp; done) | (simp [*]; done)), H', ⟨by have := HK1.out; have := HK2.out; have := HJ15.out; have := HJ23.out; have := HK5.out; omega⟩, ⟨by (with_reducible repeat (first | apply Kd.R_alloc | apply Kd.R_drewN | apply Kd.R_drew)); exact HO_5.out⟩, ⟨by repeat (first | (with_reducible first | exact HB.out | apply below_alloc | apply pw_below_drewN | apply below_drew1) | exact HB.out)⟩⟩
                                      · rw [if_neg c33] at H
                                        exact absurd H (by simp)
                                    · rw [if_neg c32] at H
                                      have c32b0 : decide (x8_5 < (a0.size : Int)) = false := decide_eq_false c32
                                      clear c32
                                      by_cases c69 : 0 ≤ x6_2
                                      · rw [if_pos c69] at H
                                        have c69b0 := eq_true c69
                                        have c69b1 : decide (0 ≤ x6_2) = true := decide_eq_true c69
                                        clear c69
                                        by_cases c70 : x6_2 ≤ x8_5
                                        · rw [if_pos c70] at H
                                          have c70b0 := eq_true c70
                                          have c70b1 : decide (x6_2 ≤ x8_5) = true := decide_eq_true c70
                                          clear c70
                                          by_cases c71 : x8_5 ≤ (a0.size : Int)
                                          · rw [if_pos c71] at H
                                            have c71b0 := eq_true c71
                                            have c71b1 : decide (x8_5 ≤ (a0.size : Int)) = true := decide_eq_true c71
                                            clear c71
                                            by_cases c72 : x5_2.length < 8796093022208
                                            · rw [if_pos c72] at H
                                              have LMc72 := Aside0.mk c72
                                              clear c72
                                              obtain ⟨y313, hy313⟩ : ∃ y_ : List ByteArray, y_ = (x5_2 ++ [a0.extract (x6_2 : Int).toNat (x8_5 : Int).toNat]) := ⟨_, rfl⟩
                                              replace H : (impl_Tokens.l1 k5 a0 y313 x8_5) = some (r1, r2) := by first | (rw [hy313]; with_reducible exact H) | (have H2_ := (Option.bind_some _ _).symm.trans H; rw [hy313]; with_reducible exact H2_) | (have H2_ := (Option.bind_some _ _).symm.trans H; with_reducible exact H2_) | with_reducible exact H | (rw [hy313]; exact H) | exact H
                                              have Ny313 := Aside0.mk hy313
                                              clear hy313
                                              have H' := Aside0.mk H
                                              clear H
                                              go_wp2_with (first | ((with_reducible refine gate_builtin (b := .append) (xs := #[.tmp 79, .tmp 84]) rfl ?_); at_builtin; refine Kd.R_append Kd.string (w0 := w) w.heap.size rfl (.tmp 79) (.tmp 84) 24 9 (.string ⟨#[]⟩) 16 rfl Try.underlying24 info9 rfl (by decide) (by omega) u5 x5_2 (a0.extract (x6_2 : Int).toNat (x8_5 : Int).toNat) [.string (a0.extract (x6_2 : Int).toNat (x8_5 : Int).toNat)] (fun _ => True) (fun _ => False) rfl rfl ?aP (fun _ hk => hk.elim) ?aF ?aO ?aB ?aS ?aL ?_; (case aP => exact rfl); (case aB => exact (by repeat (first | (with_reducible first | exact HB.out | apply below_alloc | apply pw_below_drewN | apply below_drew1) | exact HB.out))); (case aF => exact (fun _ _ => trivial)); (case aO => exact (by (with_reducible repeat (first | apply Kd.R_alloc | apply Kd.R_drewN | apply Kd.R_drew)); exact HO_5.out)); (case aS => exact (below_size (by repeat (first | (with_reducible first | exact HB.out | apply below_alloc | apply pw_below_drewN | apply below_drew1) | exact HB.out)))); (case aL => have := LMc72.out; omega); intro v314 w73 ho hb hg hat; rw [← Ny313.out] at ho; have n0_ := Aside0.mk (hb); have n1_ := Aside0.mk (ho); clear HB; clear HO_5; have HB := n0_; have HO315 := n1_; clear n0_ n1_; clear ho hb hg hat))
                                              go_roundg k5
                                              case measure => have := HK1.out; have := HK2.out; have := HJ15.out; have := HJ23.out; have := HK5.out; omega
                                              case rel => exact ⟨(y313), (x8_5), (by first | rfl | (simp; done) | (simp [*]; done)), H', ⟨by have := HK1.out; have := HK2.out; have := HJ15.out; have := HJ23.out; have := HK5.out; omega⟩, ⟨by (with_reducible repeat (first | apply Kd.R_alloc | apply Kd.R_drewN | apply Kd.R_drew)); exact HO315.out⟩, ⟨by repeat (first | (with_reducible first | exact HB.out | apply below_alloc | apply pw_below_drewN | apply below_drew1) | exact HB.out)⟩⟩
                                            · rw [if_neg c72] at H
                                              exact absurd H (by simp)
                                          · rw [if_neg c71] at H
                                            exact absurd H (by simp)
                                        · rw [if_neg c70] at H
                                          exact absurd H (by simp)
                                      · rw [if_neg c69] at H
                                        exact absurd H (by simp)
                · rw [if_neg c14] at H
                  exact absurd H (by simp)
              · rw [if_neg c13] at H
                have c13b0 : decide (x6_2 < (a0.size : Int)) = false := decide_eq_false c13
                clear c13
                by_cases c74 : (x5_2.length : Int) > 20000
                · rw [if_pos c74] at H
                  have c74b0 : decide (20000 < (x5_2.length : Int)) = true := decide_eq_true c74
                  have c74b1 : decide (20000 < x5_2.length) = true := decide_eq_true (by omega)
                  clear c74
                  simp only [Option.some.injEq, Prod.mk.injEq] at H
                  obtain ⟨rfl, rfl⟩ := H
                  obtain ⟨Ao75, co75, eo75⟩ := Kd.R_slice HO_5.out
                  subst eo75
                  go_wp2
                  go_ret2
                  exact ⟨_, by first | rfl | (simp [errW_none, errW_some] <;> rfl) | (simp [*, errW_none, errW_some] <;> rfl), by first | exact Kd.R_nil _ _ _ _ _ | exact Kd.N_nil _ _ _ _ _ | exact Kd.V_nil _ _ _ _ _ | exact Kd.Q_nil _ _ _ _ _ | exact Kd.S_nil _ _ _ _ _, by repeat (first | (with_reducible first | exact HB.out | apply below_alloc | apply pw_below_drewN | apply below_drew1) | exact HB.out)⟩
                · rw [if_neg c74] at H
                  have c74b0 : decide (20000 < (x5_2.length : Int)) = false := decide_eq_false c74
                  have c74b1 : decide (20000 < x5_2.length) = false := decide_eq_false (by omega)
                  clear c74
                  simp only [Option.some.injEq, Prod.mk.injEq] at H
                  obtain ⟨rfl, rfl⟩ := H
                  obtain ⟨Ao76, co76, eo76⟩ := Kd.R_slice HO_5.out
                  subst eo76
                  go_wp2
                  go_ret2
                  exact ⟨_, by first | rfl | (simp [errW_none, errW_some] <;> rfl) | (simp [*, errW_none, errW_some] <;> rfl), by (with_reducible repeat (first | apply Kd.R_alloc | apply Kd.R_drewN | apply Kd.R_drew)); exact HO_5.out, by repeat (first | (with_reducible first | exact HB.out | apply below_alloc | apply pw_below_drewN | apply below_drew1) | exact HB.out)⟩

end Go.Proofs.Ytaoabfhabejmgaa.X
