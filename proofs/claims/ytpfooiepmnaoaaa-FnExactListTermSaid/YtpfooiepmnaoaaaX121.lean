/- Functions of the program, their plain Lean forms and the proofs of their contracts. (Made by xprint.py.) -/
import Derived.Test.YtpfooiepmnaoaaaX0
import Derived.Test.YtpfooiepmnaoaaaX136
import Derived.Test.YtpfooiepmnaoaaaX88
namespace Go.Proofs.Ytpfooiepmnaoaaa.X
open Go.RowKit Go.Proofs.YtpfooiepmnaoaaaW.PrintWords Go.Proofs.YtpfooiepmnaoaaaW.PrintLast Go.Proofs.YtpfooiepmnaoaaaW.PrintMore
attribute [local go_sem] max2_int min2_int max_two min_two max_three min_three max_four min_four
set_option linter.unusedVariables false
set_option linter.unusedSimpArgs false

/-! ### spec_l02Shape: function 121 -/
mutual
def spec_l02Shape.j0 : Nat → Bool → Int → Int → ByteArray → List (S47) → Option (Bool)
  | 0, _, _, _, _, _ => none
  | k + 1, x36, x113000, x113001, x113002, x113003 => if x36 = true then (some false) else (if x113000 = 0 then (some true) else (if x113000 = 1 then ((spec_l01In.f x113001 0 100000).bind fun t113 => (some t113)) else (if x113000 = 2 then ((spec_IsName.f k x113002).bind fun t114 => (some t114)) else (if x113000 = 3 then ((spec_l01In.f x113001 (-1000000000) 1000000000).bind fun t115 => (some t115)) else (if x113000 = 4 then (if (x113003.length : Int) = 2 then (if 0 < (x113003.length : Int) then ((spec_l02Shape.f k ((rd_T47 x113003 0).f0) ((rd_T47 x113003 0).f1) ((rd_T47 x113003 0).f2) ((rd_T47 x113003 0).f3)).bind fun t117 => (if t117 = true then (if 1 < (x113003.length : Int) then ((spec_l02Shape.f k ((rd_T47 x113003 1).f0) ((rd_T47 x113003 1).f1) ((rd_T47 x113003 1).f2) ((rd_T47 x113003 1).f3)).bind fun t119 => (some t119)) else (none)) else (some false))) else (none)) else (some false)) else (some false))))))
def spec_l02Shape.f : Nat → Int → Int → ByteArray → List (S47) → Option (Bool)
  | 0, _, _, _, _ => none
  | k + 1, a0_0, a0_1, a0_2, l0_3 => if a0_0 = 1 then (if a0_0 = 2 then (if a0_0 = 4 then (spec_l02Shape.j0 k false a0_0 a0_1 a0_2 l0_3) else (spec_l02Shape.j0 k (decide ((l0_3.length : Int) > 0)) a0_0 a0_1 a0_2 l0_3)) else (if a0_2.toList = ([] : List UInt8) then (if a0_0 = 4 then (spec_l02Shape.j0 k false a0_0 a0_1 a0_2 l0_3) else (spec_l02Shape.j0 k (decide ((l0_3.length : Int) > 0)) a0_0 a0_1 a0_2 l0_3)) else (spec_l02Shape.j0 k true a0_0 a0_1 a0_2 l0_3))) else (if a0_0 = 3 then (if a0_0 = 2 then (if a0_0 = 4 then (spec_l02Shape.j0 k false a0_0 a0_1 a0_2 l0_3) else (spec_l02Shape.j0 k (decide ((l0_3.length : Int) > 0)) a0_0 a0_1 a0_2 l0_3)) else (if a0_2.toList = ([] : List UInt8) then (if a0_0 = 4 then (spec_l02Shape.j0 k false a0_0 a0_1 a0_2 l0_3) else (spec_l02Shape.j0 k (decide ((l0_3.length : Int) > 0)) a0_0 a0_1 a0_2 l0_3)) else (spec_l02Shape.j0 k true a0_0 a0_1 a0_2 l0_3))) else (if a0_1 = 0 then (if a0_0 = 2 then (if a0_0 = 4 then (spec_l02Shape.j0 k false a0_0 a0_1 a0_2 l0_3) else (spec_l02Shape.j0 k (decide ((l0_3.length : Int) > 0)) a0_0 a0_1 a0_2 l0_3)) else (if a0_2.toList = ([] : List UInt8) then (if a0_0 = 4 then (spec_l02Shape.j0 k false a0_0 a0_1 a0_2 l0_3) else (spec_l02Shape.j0 k (decide ((l0_3.length : Int) > 0)) a0_0 a0_1 a0_2 l0_3)) else (spec_l02Shape.j0 k true a0_0 a0_1 a0_2 l0_3))) else (spec_l02Shape.j0 k true a0_0 a0_1 a0_2 l0_3)))
end
theorem spec_l02Shape.mono_l : ∀ k, (∀ y0 y1 y2 y3, LeO (spec_l02Shape.f k y0 y1 y2 y3) (spec_l02Shape.f (k + 1) y0 y1 y2 y3)) ∧ (∀ y0 y1 y2 y3 y4, LeO (spec_l02Shape.j0 k y0 y1 y2 y3 y4) (spec_l02Shape.j0 (k + 1) y0 y1 y2 y3 y4))
  | 0 => ⟨fun _ _ _ _ r h => by simp [spec_l02Shape.f] at h, fun _ _ _ _ _ r h => by simp [spec_l02Shape.j0] at h⟩
  | k + 1 => by
    obtain ⟨ih0, ih1⟩ := spec_l02Shape.mono_l k
    refine ⟨?_, ?_⟩
    · intro y0 y1 y2 y3
      unfold spec_l02Shape.f
      repeat' first
      | (with_reducible exact ih0 _ _ _ _)
      | (with_reducible exact ih1 _ _ _ _ _)
      | (with_reducible exact spec_IsName.mono _ _)
      | (with_reducible exact LeO.refl _)
      | (with_reducible exact LeO.none _)
      | (with_reducible refine LeO.ite ?_ ?_)
      | (with_reducible refine LeO.bind ?_ (fun _ => ?_))
      | exact ih0 _ _ _ _
      | exact ih1 _ _ _ _ _
      | exact spec_IsName.mono _ _
      | exact LeO.none _
      | refine LeO.ite ?_ ?_
      | refine LeO.bind ?_ (fun _ => ?_)
    · intro y0 y1 y2 y3 y4
      unfold spec_l02Shape.j0
      repeat' first
      | (with_reducible exact ih0 _ _ _ _)
      | (with_reducible exact ih1 _ _ _ _ _)
      | (with_reducible exact spec_IsName.mono _ _)
      | (with_reducible exact LeO.refl _)
      | (with_reducible exact LeO.none _)
      | (with_reducible refine LeO.ite ?_ ?_)
      | (with_reducible refine LeO.bind ?_ (fun _ => ?_))
      | exact ih0 _ _ _ _
      | exact ih1 _ _ _ _ _
      | exact spec_IsName.mono _ _
      | exact LeO.none _
      | refine LeO.ite ?_ ?_
      | refine LeO.bind ?_ (fun _ => ?_)
theorem spec_l02Shape.mono : ∀ a0 a1 a2 a3 k, LeO (spec_l02Shape.f k a0 a1 a2 a3) (spec_l02Shape.f (k + 1) a0 a1 a2 a3) := by
  intro a0 a1 a2 a3 k
  obtain ⟨ih0, ih1⟩ := spec_l02Shape.mono_l k
  exact ih0 a0 a1 a2 a3
set_option maxHeartbeats 8000000 in
set_option maxRecDepth 100000 in
theorem spec_l02Shape.calls (k : Nat) : ∀ (a0_0 : Int) (a0_1 : Int) (a0_2 : ByteArray) (A0_3 : Option Addr) (c0_3 : Nat) (l0_3 : List (S47)) (r : Bool) (w : World) (hr0_3 : Kd.C k47 w A0_3 l0_3.length l0_3) (hc0_3 : l0_3.length ≤ c0_3) (h : spec_l02Shape.f k a0_0 a0_1 a0_2 l0_3 = some r),
    Calls Try.prog 121 #[.agg #[.int .i64 a0_0, .int .i64 a0_1, .string a0_2, .slice A0_3 l0_3.length c0_3]] w fun e w' => e = .returned (.bool r) ∧ Below w.heap.size w w' := by
  induction k using Nat.strongRecOn with
  | _ k ih =>
  intro a0_0 a0_1 a0_2 A0_3 c0_3 l0_3 r w hr0_3 hc0_3 h
  cases k with
  | zero => exact absurd h (by simp [spec_l02Shape.f])
  | succ k =>
  simp only [spec_l02Shape.f] at h
  have hu47 := Try.underlying47
  have HR0_3 := Aside0.mk hr0_3
  have HC0_3 := Aside0.mk hc0_3
  clear hr0_3 hc0_3
  have HB := Aside0.mk (Below.refl w.heap.size w)
  have H : (if a0_0 = 1 then (if a0_0 = 2 then (if a0_0 = 4 then (spec_l02Shape.j0 k false a0_0 a0_1 a0_2 l0_3) else (spec_l02Shape.j0 k (decide ((l0_3.length : Int) > 0)) a0_0 a0_1 a0_2 l0_3)) else (if a0_2.toList = ([] : List UInt8) then (if a0_0 = 4 then (spec_l02Shape.j0 k false a0_0 a0_1 a0_2 l0_3) else (spec_l02Shape.j0 k (decide ((l0_3.length : Int) > 0)) a0_0 a0_1 a0_2 l0_3)) else (spec_l02Shape.j0 k true a0_0 a0_1 a0_2 l0_3))) else (if a0_0 = 3 then (if a0_0 = 2 then (if a0_0 = 4 then (spec_l02Shape.j0 k false a0_0 a0_1 a0_2 l0_3) else (spec_l02Shape.j0 k (decide ((l0_3.length : Int) > 0)) a0_0 a0_1 a0_2 l0_3)) else (if a0_2.toList = ([] : List UInt8) then (if a0_0 = 4 then (spec_l02Shape.j0 k false a0_0 a0_1 a0_2 l0_3) else (spec_l02Shape.j0 k (decide ((l0_3.length : Int) > 0)) a0_0 a0_1 a0_2 l0_3)) else (spec_l02Shape.j0 k true a0_0 a0_1 a0_2 l0_3))) else (if a0_1 = 0 then (if a0_0 = 2 then (if a0_0 = 4 then (spec_l02Shape.j0 k false a0_0 a0_1 a0_2 l0_3) else (spec_l02Shape.j0 k (decide ((l0_3.length : Int) > 0)) a0_0 a0_1 a0_2 l0_3)) else (if a0_2.toList = ([] : List UInt8) then (if a0_0 = 4 then (spec_l02Shape.j0 k false a0_0 a0_1 a0_2 l0_3) else (spec_l02Shape.j0 k (decide ((l0_3.length : Int) > 0)) a0_0 a0_1 a0_2 l0_3)) else (spec_l02Shape.j0 k true a0_0 a0_1 a0_2 l0_3))) else (spec_l02Shape.j0 k true a0_0 a0_1 a0_2 l0_3)))) = some r := h
  clear h
  have HC2 := Aside0.mk H
  clear H
  go_enter Try.func121, Try.ntmps121
  go_upto_region 1 with (first | ((with_reducible refine gate_dst (N := 1) rfl ?_); (try (refine gate_guard (by rfl) ?_; dsimp only)); refine box_event ?hg (N := 1) ?hd (cs := #[.int .i64 a0_0, .int .i64 a0_1, .string a0_2, .slice A0_3 l0_3.length c0_3]) (t := 47) ?hr ?_; (case hd => rfl); (case hg => rfl); (case hr => first | (go_simp; done) | (go_simp; rfl)); intro gb112 hg w3 hbox hb; have n0_ := Aside0.mk (below_step (by repeat (first | (with_reducible first | exact HB.out | apply below_alloc | apply pw_below_drewN | apply below_drew1) | exact HB.out)) hb); have n1_ := Aside0.mk (hbox); have n2_ := Aside0.mk ((by rw [hg]; exact (below_size (by repeat (first | (with_reducible first | exact HB.out | apply below_alloc | apply pw_below_drewN | apply below_drew1) | exact HB.out))) : w.heap.size ≤ gb112)); have n3_ := Aside0.mk ((by rw [hg]; exact (below_size (by repeat (first | (with_reducible first | exact HB.out | apply below_alloc | apply pw_below_drewN | apply below_drew1) | exact HB.out))) : w.heap.size ≤ gb112)); clear HB; have HB := n0_; have BK112 := n1_; have GW112 := n2_; have GE112 := n3_; clear n0_ n1_ n2_ n3_; clear hb hbox hg))
  (try simp only [Act.put, List.setIfInBounds_toArray, List.set_cons_zero, List.set_cons_succ])
  go_cut [36] (fun v36 wc => ∃ (kq : Nat) (x36_1 : Bool), v36 = .bool x36_1 ∧ Aside0 (spec_l02Shape.j0 kq x36_1 a0_0 a0_1 a0_2 l0_3 = some r) ∧ Aside0 (kq ≤ k) ∧ Aside0 (wc.heap[gb112]? = some (.cells #[.int .i64 a0_0, .int .i64 a0_1, .string a0_2, (.slice A0_3 l0_3.length c0_3)] 47 (0, 0))) ∧ Aside0 (Below w.heap.size w wc))
  case first =>
    have H := HC2.out
    clear HC2
    by_cases c4 : a0_0 = 1
    · rw [if_pos c4] at H
      have c4b0 : (a0_0 == 1) = true := beq_iff_eq.mpr c4
      have c4b1 : (a0_0 != 1) = false := bne_eq_false_iff_eq.mpr c4
      clear c4
      (first | rw [c4b0] | (simp only [i64_w, i32_w]; rw [c4b0]) | skip)
      by_cases c5 : a0_0 = 2
      · rw [if_pos c5] at H
        have c5b0 : (a0_0 == 2) = true := beq_iff_eq.mpr c5
        have c5b1 : (a0_0 != 2) = false := bne_eq_false_iff_eq.mpr c5
        clear c5
        by_cases c6 : a0_0 = 4
        · rw [if_pos c6] at H
          have c6b0 : (a0_0 == 4) = true := beq_iff_eq.mpr c6
          have c6b1 : (a0_0 != 4) = false := bne_eq_false_iff_eq.mpr c6
          clear c6
          have H' := Aside0.mk H
          clear H
          have hcz7_0 : w3.cell? ⟨gb112, 0, none⟩ = some (.int .i64 a0_0) := (blk_cell BK112.out 0).trans rfl
          have hcz7_1 : w3.cell? ⟨gb112, 1, none⟩ = some (.int .i64 a0_1) := (blk_cell BK112.out 1).trans rfl
          have hcz7_2 : w3.cell? ⟨gb112, 2, none⟩ = some (.string a0_2) := (blk_cell BK112.out 2).trans rfl
          have hcz7_3 : w3.cell? ⟨gb112, 3, none⟩ = some (.slice A0_3 l0_3.length c0_3) := (blk_cell BK112.out 3).trans rfl
          have hfz7_0 := blk_frozen BK112.out 0
          have hfz7_1 := blk_frozen BK112.out 1
          have hfz7_2 := blk_frozen BK112.out 2
          have hfz7_3 := blk_frozen BK112.out 3
          go_wp2
          go_meet
          case rel => exact ⟨_, (false), (by first | rfl | (simp; done) | (simp [*]; done)), H', ⟨by first | omega | exact Nat.le_refl _⟩, ⟨by (with_reducible repeat (first | refine blk_drewN ?_ _ | refine blk_drew ?_ | refine blk_alloc ?_ _)); exact BK112.out⟩, ⟨by repeat (first | (with_reducible first | exact HB.out | apply below_alloc | apply pw_below_drewN | apply below_drew1 | refine below_set ?_ GE112.out) | exact HB.out)⟩⟩
        · rw [if_neg c6] at H
          have c6b0 : (a0_0 == 4) = false := beq_eq_false_iff_ne.mpr c6
          have c6b1 : (a0_0 != 4) = true := bne_iff_ne.mpr c6
          have H' := Aside0.mk H
          clear H
          have hcz8_0 : w3.cell? ⟨gb112, 0, none⟩ = some (.int .i64 a0_0) := (blk_cell BK112.out 0).trans rfl
          have hcz8_1 : w3.cell? ⟨gb112, 1, none⟩ = some (.int .i64 a0_1) := (blk_cell BK112.out 1).trans rfl
          have hcz8_2 : w3.cell? ⟨gb112, 2, none⟩ = some (.string a0_2) := (blk_cell BK112.out 2).trans rfl
          have hcz8_3 : w3.cell? ⟨gb112, 3, none⟩ = some (.slice A0_3 l0_3.length c0_3) := (blk_cell BK112.out 3).trans rfl
          have hfz8_0 := blk_frozen BK112.out 0
          have hfz8_1 := blk_frozen BK112.out 1
          have hfz8_2 := blk_frozen BK112.out 2
          have hfz8_3 := blk_frozen BK112.out 3
          go_wp2
          go_meet
          case rel => exact ⟨_, (decide ((l0_3.length : Int) > 0)), (by first | rfl | (simp; done) | (simp [*]; done)), H', ⟨by first | omega | exact Nat.le_refl _⟩, ⟨by (with_reducible repeat (first | refine blk_drewN ?_ _ | refine blk_drew ?_ | refine blk_alloc ?_ _)); exact BK112.out⟩, ⟨by repeat (first | (with_reducible first | exact HB.out | apply below_alloc | apply pw_below_drewN | apply below_drew1 | refine below_set ?_ GE112.out) | exact HB.out)⟩⟩
      · rw [if_neg c5] at H
        have c5b0 : (a0_0 == 2) = false := beq_eq_false_iff_ne.mpr c5
        have c5b1 : (a0_0 != 2) = true := bne_iff_ne.mpr c5
        by_cases c9 : a0_2.toList = ([] : List UInt8)
        · rw [if_pos c9] at H
          have c9b0 : (a0_2.toList == ([] : List UInt8)) = true := beq_iff_eq.mpr c9
          have c9b1 : (a0_2.toList != ([] : List UInt8)) = false := bne_eq_false_iff_eq.mpr c9
          clear c9
          by_cases c10 : a0_0 = 4
          · rw [if_pos c10] at H
            have c10b0 : (a0_0 == 4) = true := beq_iff_eq.mpr c10
            have c10b1 : (a0_0 != 4) = false := bne_eq_false_iff_eq.mpr c10
            clear c10
            have H' := Aside0.mk H
            clear H
            have hcz11_0 : w3.cell? ⟨gb112, 0, none⟩ = some (.int .i64 a0_0) := (blk_cell BK112.out 0).trans rfl
            have hcz11_1 : w3.cell? ⟨gb112, 1, none⟩ = some (.int .i64 a0_1) := (blk_cell BK112.out 1).trans rfl
            have hcz11_2 : w3.cell? ⟨gb112, 2, none⟩ = some (.string a0_2) := (blk_cell BK112.out 2).trans rfl
            have hcz11_3 : w3.cell? ⟨gb112, 3, none⟩ = some (.slice A0_3 l0_3.length c0_3) := (blk_cell BK112.out 3).trans rfl
            have hfz11_0 := blk_frozen BK112.out 0
            have hfz11_1 := blk_frozen BK112.out 1
            have hfz11_2 := blk_frozen BK112.out 2
            have hfz11_3 := blk_frozen BK112.out 3
            go_wp2
            go_meet
            case rel => exact ⟨_, (false), (by first | rfl | (simp; done) | (simp [*]; done)), H', ⟨by first | omega | exact Nat.le_refl _⟩, ⟨by (with_reducible repeat (first | refine blk_drewN ?_ _ | refine blk_drew ?_ | refine blk_alloc ?_ _)); exact BK112.out⟩, ⟨by repeat (first | (with_reducible first | exact HB.out | apply below_alloc | apply pw_below_drewN | apply below_drew1 | refine below_set ?_ GE112.out) | exact HB.out)⟩⟩
          · rw [if_neg c10] at H
            have c10b0 : (a0_0 == 4) = false := beq_eq_false_iff_ne.mpr c10
            have c10b1 : (a0_0 != 4) = true := bne_iff_ne.mpr c10
            have H' := Aside0.mk H
            clear H
            have hcz12_0 : w3.cell? ⟨gb112, 0, none⟩ = some (.int .i64 a0_0) := (blk_cell BK112.out 0).trans rfl
            have hcz12_1 : w3.cell? ⟨gb112, 1, none⟩ = some (.int .i64 a0_1) := (blk_cell BK112.out 1).trans rfl
            have hcz12_2 : w3.cell? ⟨gb112, 2, none⟩ = some (.string a0_2) := (blk_cell BK112.out 2).trans rfl
            have hcz12_3 : w3.cell? ⟨gb112, 3, none⟩ = some (.slice A0_3 l0_3.length c0_3) := (blk_cell BK112.out 3).trans rfl
            have hfz12_0 := blk_frozen BK112.out 0
            have hfz12_1 := blk_frozen BK112.out 1
            have hfz12_2 := blk_frozen BK112.out 2
            have hfz12_3 := blk_frozen BK112.out 3
            go_wp2
            go_meet
            case rel => exact ⟨_, (decide ((l0_3.length : Int) > 0)), (by first | rfl | (simp; done) | (simp [*]; done)), H', ⟨by first | omega | exact Nat.le_refl _⟩, ⟨by (with_reducible repeat (first | refine blk_drewN ?_ _ | refine blk_drew ?_ | refine blk_alloc ?_ _)); exact BK112.out⟩, ⟨by repeat (first | (with_reducible first | exact HB.out | apply below_alloc | apply pw_below_drewN | apply below_drew1 | refine below_set ?_ GE112.out) | exact HB.out)⟩⟩
        · rw [if_neg c9] at H
          have c9b0 : (a0_2.toList == ([] : List UInt8)) = false := beq_eq_false_iff_ne.mpr c9
          have c9b1 : (a0_2.toList != ([] : List UInt8)) = true := bne_iff_ne.mpr c9
          have H' := Aside0.mk H
          clear H
          have hcz13_0 : w3.cell? ⟨gb112, 0, none⟩ = some (.int .i64 a0_0) := (blk_cell BK112.out 0).trans rfl
          have hcz13_1 : w3.cell? ⟨gb112, 1, none⟩ = some (.int .i64 a0_1) := (blk_cell BK112.out 1).trans rfl
          have hcz13_2 : w3.cell? ⟨gb112, 2, none⟩ = some (.string a0_2) := (blk_cell BK112.out 2).trans rfl
          have hcz13_3 : w3.cell? ⟨gb112, 3, none⟩ = some (.slice A0_3 l0_3.length c0_3) := (blk_cell BK112.out 3).trans rfl
          have hfz13_0 := blk_frozen BK112.out 0
          have hfz13_1 := blk_frozen BK112.out 1
          have hfz13_2 := blk_frozen BK112.out 2
          have hfz13_3 := blk_frozen BK112.out 3
          go_wp2
          go_meet
          case rel => exact ⟨_, (true), (by first | rfl | (simp; done) | (simp [*]; done)), H', ⟨by first | omega | exact Nat.le_refl _⟩, ⟨by (with_reducible repeat (first | refine blk_drewN ?_ _ | refine blk_drew ?_ | refine blk_alloc ?_ _)); exact BK112.out⟩, ⟨by repeat (first | (with_reducible first | exact HB.out | apply below_alloc | apply pw_below_drewN | apply below_drew1 | refine below_set ?_ GE112.out) | exact HB.out)⟩⟩
    · rw [if_neg c4] at H
      have c4b0 : (a0_0 == 1) = false := beq_eq_false_iff_ne.mpr c4
      have c4b1 : (a0_0 != 1) = true := bne_iff_ne.mpr c4
      (first | rw [c4b0] | (simp only [i64_w, i32_w]; rw [c4b0]) | skip)
      by_cases c14 : a0_0 = 3
      · rw [if_pos c14] at H
        have c14b0 : (a0_0 == 3) = true := beq_iff_eq.mpr c14
        have c14b1 : (a0_0 != 3) = false := bne_eq_false_iff_eq.mpr c14
        clear c14
        by_cases c15 : a0_0 = 2
        · rw [if_pos c15] at H
          have c15b0 : (a0_0 == 2) = true := beq_iff_eq.mpr c15
          have c15b1 : (a0_0 != 2) = false := bne_eq_false_iff_eq.mpr c15
          clear c15
          by_cases c16 : a0_0 = 4
          · rw [if_pos c16] at H
            have c16b0 : (a0_0 == 4) = true := beq_iff_eq.mpr c16
            have c16b1 : (a0_0 != 4) = false := bne_eq_false_iff_eq.mpr c16
            clear c16
            have H' := Aside0.mk H
            clear H
            have hcz17_0 : w3.cell? ⟨gb112, 0, none⟩ = some (.int .i64 a0_0) := (blk_cell BK112.out 0).trans rfl
            have hcz17_1 : w3.cell? ⟨gb112, 1, none⟩ = some (.int .i64 a0_1) := (blk_cell BK112.out 1).trans rfl
            have hcz17_2 : w3.cell? ⟨gb112, 2, none⟩ = some (.string a0_2) := (blk_cell BK112.out 2).trans rfl
            have hcz17_3 : w3.cell? ⟨gb112, 3, none⟩ = some (.slice A0_3 l0_3.length c0_3) := (blk_cell BK112.out 3).trans rfl
            have hfz17_0 := blk_frozen BK112.out 0
            have hfz17_1 := blk_frozen BK112.out 1
            have hfz17_2 := blk_frozen BK112.out 2
            have hfz17_3 := blk_frozen BK112.out 3
            go_wp2
            go_meet
            case rel => exact ⟨_, (false), (by first | rfl | (simp; done) | (simp [*]; done)), H', ⟨by first | omega | exact Nat.le_refl _⟩, ⟨by (with_reducible repeat (first | refine blk_drewN ?_ _ | refine blk_drew ?_ | refine blk_alloc ?_ _)); exact BK112.out⟩, ⟨by repeat (first | (with_reducible first | exact HB.out | apply below_alloc | apply pw_below_drewN | apply below_drew1 | refine below_set ?_ GE112.out) | exact HB.out)⟩⟩
          · rw [if_neg c16] at H
            have c16b0 : (a0_0 == 4) = false := beq_eq_false_iff_ne.mpr c16
            have c16b1 : (a0_0 != 4) = true := bne_iff_ne.mpr c16
            have H' := Aside0.mk H
            clear H
            have hcz18_0 : w3.cell? ⟨gb112, 0, none⟩ = some (.int .i64 a0_0) := (blk_cell BK112.out 0).trans rfl
            have hcz18_1 : w3.cell? ⟨gb112, 1, none⟩ = some (.int .i64 a0_1) := (blk_cell BK112.out 1).trans rfl
            have hcz18_2 : w3.cell? ⟨gb112, 2, none⟩ = some (.string a0_2) := (blk_cell BK112.out 2).trans rfl
            have hcz18_3 : w3.cell? ⟨gb112, 3, none⟩ = some (.slice A0_3 l0_3.length c0_3) := (blk_cell BK112.out 3).trans rfl
            have hfz18_0 := blk_frozen BK112.out 0
            have hfz18_1 := blk_frozen BK112.out 1
            have hfz18_2 := blk_frozen BK112.out 2
            have hfz18_3 := blk_frozen BK112.out 3
            go_wp2
            go_meet
            case rel => exact ⟨_, (decide ((l0_3.length : Int) > 0)), (by first | rfl | (simp; done) | (simp [*]; done)), H', ⟨by first | omega | exact Nat.le_refl _⟩, ⟨by (with_reducible repeat (first | refine blk_drewN ?_ _ | refine blk_drew ?_ | refine blk_alloc ?_ _)); exact BK112.out⟩, ⟨by repeat (first | (with_reducible first | exact HB.out | apply below_alloc | apply pw_below_drewN | apply below_drew1 | refine below_set ?_ GE112.out) | exact HB.out)⟩⟩
        · rw [if_neg c15] at H
          have c15b0 : (a0_0 == 2) = false := beq_eq_false_iff_ne.mpr c15
          have c15b1 : (a0_0 != 2) = true := bne_iff_ne.mpr c15
          by_cases c19 : a0_2.toList = ([] : List UInt8)
          · rw [if_pos c19] at H
            have c19b0 : (a0_2.toList == ([] : List UInt8)) = true := beq_iff_eq.mpr c19
            have c19b1 : (a0_2.toList != ([] : List UInt8)) = false := bne_eq_false_iff_eq.mpr c19
            clear c19
            by_cases c20 : a0_0 = 4
            · rw [if_pos c20] at H
              have c20b0 : (a0_0 == 4) = true := beq_iff_eq.mpr c20
              have c20b1 : (a0_0 != 4) = false := bne_eq_false_iff_eq.mpr c20
              clear c20
              have H' := Aside0.mk H
              clear H
              have hcz21_0 : w3.cell? ⟨gb112, 0, none⟩ = some (.int .i64 a0_0) := (blk_cell BK112.out 0).trans rfl
              have hcz21_1 : w3.cell? ⟨gb112, 1, none⟩ = some (.int .i64 a0_1) := (blk_cell BK112.out 1).trans rfl
              have hcz21_2 : w3.cell? ⟨gb112, 2, none⟩ = some (.string a0_2) := (blk_cell BK112.out 2).trans rfl
              have hcz21_3 : w3.cell? ⟨gb112, 3, none⟩ = some (.slice A0_3 l0_3.length c0_3) := (blk_cell BK112.out 3).trans rfl
              have hfz21_0 := blk_frozen BK112.out 0
              have hfz21_1 := blk_frozen BK112.out 1
              have hfz21_2 := blk_frozen BK112.out 2
              have hfz21_3 := blk_frozen BK112.out 3
              go_wp2
              go_meet
              case rel => exact ⟨_, (false), (by first | rfl | (simp; done) | (simp [*]; done)), H', ⟨by first | omega | exact Nat.le_refl _⟩, ⟨by (with_reducible repeat (first | refine blk_drewN ?_ _ | refine blk_drew ?_ | refine blk_alloc ?_ _)); exact BK112.out⟩, ⟨by repeat (first | (with_reducible first | exact HB.out | apply below_alloc | apply pw_below_drewN | apply below_drew1 | refine below_set ?_ GE112.out) | exact HB.out)⟩⟩
            · rw [if_neg c20] at H
              have c20b0 : (a0_0 == 4) = false := beq_eq_false_iff_ne.mpr c20
              have c20b1 : (a0_0 != 4) = true := bne_iff_ne.mpr c20
              have H' := Aside0.mk H
              clear H
              have hcz22_0 : w3.cell? ⟨gb112, 0, none⟩ = some (.int .i64 a0_0) := (blk_cell BK112.out 0).trans rfl
              have hcz22_1 : w3.cell? ⟨gb112, 1, none⟩ = some (.int .i64 a0_1) := (blk_cell BK112.out 1).trans rfl
              have hcz22_2 : w3.cell? ⟨gb112, 2, none⟩ = some (.string a0_2) := (blk_cell BK112.out 2).trans rfl
              have hcz22_3 : w3.cell? ⟨gb112, 3, none⟩ = some (.slice A0_3 l0_3.length c0_3) := (blk_cell BK112.out 3).trans rfl
              have hfz22_0 := blk_frozen BK112.out 0
              have hfz22_1 := blk_frozen BK112.out 1
              have hfz22_2 := blk_frozen BK112.out 2
              have hfz22_3 := blk_frozen BK112.out 3
              go_wp2
              go_meet
              case rel => exact ⟨_, (decide ((l0_3.length : Int) > 0)), (by first | rfl | (simp; done) | (simp [*]; done)), H', ⟨by first | omega | exact Nat.le_refl _⟩, ⟨by (with_reducible repeat (first | refine blk_drewN ?_ _ | refine blk_drew ?_ | refine blk_alloc ?_ _)); exact BK112.out⟩, ⟨by repeat (first | (with_reducible first | exact HB.out | apply below_alloc | apply pw_below_drewN | apply below_drew1 | refine below_set ?_ GE112.out) | exact HB.out)⟩⟩
          · rw [if_neg c19] at H
            have c19b0 : (a0_2.toList == ([] : List UInt8)) = false := beq_eq_false_iff_ne.mpr c19
            have c19b1 : (a0_2.toList != ([] : List UInt8)) = true := bne_iff_ne.mpr c19
            have H' := Aside0.mk H
            clear H
            have hcz23_0 : w3.cell? ⟨gb112, 0, none⟩ = some (.int .i64 a0_0) := (blk_cell BK112.out 0).trans rfl
            have hcz23_1 : w3.cell? ⟨gb112, 1, none⟩ = some (.int .i64 a0_1) := (blk_cell BK112.out 1).trans rfl
            have hcz23_2 : w3.cell? ⟨gb112, 2, none⟩ = some (.string a0_2) := (blk_cell BK112.out 2).trans rfl
            have hcz23_3 : w3.cell? ⟨gb112, 3, none⟩ = some (.slice A0_3 l0_3.length c0_3) := (blk_cell BK112.out 3).trans rfl
            have hfz23_0 := blk_frozen BK112.out 0
            have hfz23_1 := blk_frozen BK112.out 1
            have hfz23_2 := blk_frozen BK112.out 2
            have hfz23_3 := blk_frozen BK112.out 3
            go_wp2
            go_meet
            case rel => exact ⟨_, (true), (by first | rfl | (simp; done) | (simp [*]; done)), H', ⟨by first | omega | exact Nat.le_refl _⟩, ⟨by (with_reducible repeat (first | refine blk_drewN ?_ _ | refine blk_drew ?_ | refine blk_alloc ?_ _)); exact BK112.out⟩, ⟨by repeat (first | (with_reducible first | exact HB.out | apply below_alloc | apply pw_below_drewN | apply below_drew1 | refine below_set ?_ GE112.out) | exact HB.out)⟩⟩
      · rw [if_neg c14] at H
        have c14b0 : (a0_0 == 3) = false := beq_eq_false_iff_ne.mpr c14
        have c14b1 : (a0_0 != 3) = true := bne_iff_ne.mpr c14
        by_cases c24 : a0_1 = 0
        · rw [if_pos c24] at H
          have c24b0 : (a0_1 == 0) = true := beq_iff_eq.mpr c24
          have c24b1 : (a0_1 != 0) = false := bne_eq_false_iff_eq.mpr c24
          clear c24
          by_cases c25 : a0_0 = 2
          · rw [if_pos c25] at H
            have c25b0 : (a0_0 == 2) = true := beq_iff_eq.mpr c25
            have c25b1 : (a0_0 != 2) = false := bne_eq_false_iff_eq.mpr c25
            clear c25
            by_cases c26 : a0_0 = 4
            · rw [if_pos c26] at H
              have c26b0 : (a0_0 == 4) = true := beq_iff_eq.mpr c26
              have c26b1 : (a0_0 != 4) = false := bne_eq_false_iff_eq.mpr c26
              clear c26
              have H' := Aside0.mk H
              clear H
              have hcz27_0 : w3.cell? ⟨gb112, 0, none⟩ = some (.int .i64 a0_0) := (blk_cell BK112.out 0).trans rfl
              have hcz27_1 : w3.cell? ⟨gb112, 1, none⟩ = some (.int .i64 a0_1) := (blk_cell BK112.out 1).trans rfl
              have hcz27_2 : w3.cell? ⟨gb112, 2, none⟩ = some (.string a0_2) := (blk_cell BK112.out 2).trans rfl
              have hcz27_3 : w3.cell? ⟨gb112, 3, none⟩ = some (.slice A0_3 l0_3.length c0_3) := (blk_cell BK112.out 3).trans rfl
              have hfz27_0 := blk_frozen BK112.out 0
              have hfz27_1 := blk_frozen BK112.out 1
              have hfz27_2 := blk_frozen BK112.out 2
              have hfz27_3 := blk_frozen BK112.out 3
              go_wp2
              go_meet
              case rel => exact ⟨_, (false), (by first | rfl | (simp; done) | (simp [*]; done)), H', ⟨by first | omega | exact Nat.le_refl _⟩, ⟨by (with_reducible repeat (first | refine blk_drewN ?_ _ | refine blk_drew ?_ | refine blk_alloc ?_ _)); exact BK112.out⟩, ⟨by repeat (first | (with_reducible first | exact HB.out | apply below_alloc | apply pw_below_drewN | apply below_drew1 | refine below_set ?_ GE112.out) | exact HB.out)⟩⟩
            · rw [if_neg c26] at H
              have c26b0 : (a0_0 == 4) = false := beq_eq_false_iff_ne.mpr c26
              have c26b1 : (a0_0 != 4) = true := bne_iff_ne.mpr c26
              have H' := Aside0.mk H
              clear H
              have hcz28_0 : w3.cell? ⟨gb112, 0, none⟩ = some (.int .i64 a0_0) := (blk_cell BK112.out 0).trans rfl
              have hcz28_1 : w3.cell? ⟨gb112, 1, none⟩ = some (.int .i64 a0_1) := (blk_cell BK112.out 1).trans rfl
              have hcz28_2 : w3.cell? ⟨gb112, 2, none⟩ = some (.string a0_2) := (blk_cell BK112.out 2).trans rfl
              have hcz28_3 : w3.cell? ⟨gb112, 3, none⟩ = some (.slice A0_3 l0_3.length c0_3) := (blk_cell BK112.out 3).trans rfl
              have hfz28_0 := blk_frozen BK112.out 0
              have hfz28_1 := blk_frozen BK112.out 1
              have hfz28_2 := blk_frozen BK112.out 2
              have hfz28_3 := blk_frozen BK112.out 3
              go_wp2
              go_meet
              case rel => exact ⟨_, (decide ((l0_3.length : Int) > 0)), (by first | rfl | (simp; done) | (simp [*]; done)), H', ⟨by first | omega | exact Nat.le_refl _⟩, ⟨by (with_reducible repeat (first | refine blk_drewN ?_ _ | refine blk_drew ?_ | refine blk_alloc ?_ _)); exact BK112.out⟩, ⟨by repeat (first | (with_reducible first | exact HB.out | apply below_alloc | apply pw_below_drewN | apply below_drew1 | refine below_set ?_ GE112.out) | exact HB.out)⟩⟩
          · rw [if_neg c25] at H
            have c25b0 : (a0_0 == 2) = false := beq_eq_false_iff_ne.mpr c25
            have c25b1 : (a0_0 != 2) = true := bne_iff_ne.mpr c25
            by_cases c29 : a0_2.toList = ([] : List UInt8)
            · rw [if_pos c29] at H
              have c29b0 : (a0_2.toList == ([] : List UInt8)) = true := beq_iff_eq.mpr c29
              have c29b1 : (a0_2.toList != ([] : List UInt8)) = false := bne_eq_false_iff_eq.mpr c29
              clear c29
              by_cases c30 : a0_0 = 4
              · rw [if_pos c30] at H
                have c30b0 : (a0_0 == 4) = true := beq_iff_eq.mpr c30
                have c30b1 : (a0_0 != 4) = false := bne_eq_false_iff_eq.mpr c30
                clear c30
                have H' := Aside0.mk H
                clear H
                have hcz31_0 : w3.cell? ⟨gb112, 0, none⟩ = some (.int .i64 a0_0) := (blk_cell BK112.out 0).trans rfl
                have hcz31_1 : w3.cell? ⟨gb112, 1, none⟩ = some (.int .i64 a0_1) := (blk_cell BK112.out 1).trans rfl
                have hcz31_2 : w3.cell? ⟨gb112, 2, none⟩ = some (.string a0_2) := (blk_cell BK112.out 2).trans rfl
                have hcz31_3 : w3.cell? ⟨gb112, 3, none⟩ = some (.slice A0_3 l0_3.length c0_3) := (blk_cell BK112.out 3).trans rfl
                have hfz31_0 := blk_frozen BK112.out 0
                have hfz31_1 := blk_frozen BK112.out 1
                have hfz31_2 := blk_frozen BK112.out 2
                have hfz31_3 := blk_frozen BK112.out 3
                go_wp2
                go_meet
                case rel => exact ⟨_, (false), (by first | rfl | (simp; done) | (simp [*]; done)), H', ⟨by first | omega | exact Nat.le_refl _⟩, ⟨by (with_reducible repeat (first | refine blk_drewN ?_ _ | refine blk_drew ?_ | refine blk_alloc ?_ _)); exact BK112.out⟩, ⟨by repeat (first | (with_reducible first | exact HB.out | apply below_alloc | apply pw_below_drewN | apply below_drew1 | refine below_set ?_ GE112.out) | exact HB.out)⟩⟩
              · rw [if_neg c30] at H
                have c30b0 : (a0_0 == 4) = false := beq_eq_false_iff_ne.mpr c30
                have c30b1 : (a0_0 != 4) = true := bne_iff_ne.mpr c30
                have H' := Aside0.mk H
                clear H
                have hcz32_0 : w3.cell? ⟨gb112, 0, none⟩ = some (.int .i64 a0_0) := (blk_cell BK112.out 0).trans rfl
                have hcz32_1 : w3.cell? ⟨gb112, 1, none⟩ = some (.int .i64 a0_1) := (blk_cell BK112.out 1).trans rfl
                have hcz32_2 : w3.cell? ⟨gb112, 2, none⟩ = some (.string a0_2) := (blk_cell BK112.out 2).trans rfl
                have hcz32_3 : w3.cell? ⟨gb112, 3, none⟩ = some (.slice A0_3 l0_3.length c0_3) := (blk_cell BK112.out 3).trans rfl
                have hfz32_0 := blk_frozen BK112.out 0
                have hfz32_1 := blk_frozen BK112.out 1
                have hfz32_2 := blk_frozen BK112.out 2
                have hfz32_3 := blk_frozen BK112.out 3
                go_wp2
                go_meet
                case rel => exact ⟨_, (decide ((l0_3.length : Int) > 0)), (by first | rfl | (simp; done) | (simp [*]; done)), H', ⟨by first | omega | exact Nat.le_refl _⟩, ⟨by (with_reducible repeat (first | refine blk_drewN ?_ _ | refine blk_drew ?_ | refine blk_alloc ?_ _)); exact BK112.out⟩, ⟨by repeat (first | (with_reducible first | exact HB.out | apply below_alloc | apply pw_below_drewN | apply below_drew1 | refine below_set ?_ GE112.out) | exact HB.out)⟩⟩
            · rw [if_neg c29] at H
              have c29b0 : (a0_2.toList == ([] : List UInt8)) = false := beq_eq_false_iff_ne.mpr c29
              have c29b1 : (a0_2.toList != ([] : List UInt8)) = true := bne_iff_ne.mpr c29
              have H' := Aside0.mk H
              clear H
              have hcz33_0 : w3.cell? ⟨gb112, 0, none⟩ = some (.int .i64 a0_0) := (blk_cell BK112.out 0).trans rfl
              have hcz33_1 : w3.cell? ⟨gb112, 1, none⟩ = some (.int .i64 a0_1) := (blk_cell BK112.out 1).trans rfl
              have hcz33_2 : w3.cell? ⟨gb112, 2, none⟩ = some (.string a0_2) := (blk_cell BK112.out 2).trans rfl
              have hcz33_3 : w3.cell? ⟨gb112, 3, none⟩ = some (.slice A0_3 l0_3.length c0_3) := (blk_cell BK112.out 3).trans rfl
              have hfz33_0 := blk_frozen BK112.out 0
              have hfz33_1 := blk_frozen BK112.out 1
              have hfz33_2 := blk_frozen BK112.out 2
              have hfz33_3 := blk_frozen BK112.out 3
              go_wp2
              go_meet
              case rel => exact ⟨_, (true), (by first | rfl | (simp; done) | (simp [*]; done)), H', ⟨by first | omega | exact Nat.le_refl _⟩, ⟨by (with_reducible repeat (first | refine blk_drewN ?_ _ | refine blk_drew ?_ | refine blk_alloc ?_ _)); exact BK112.out⟩, ⟨by repeat (first | (with_reducible first | exact HB.out | apply below_alloc | apply pw_below_drewN | apply below_drew1 | refine below_set ?_ GE112.out) | exact HB.out)⟩⟩
        · rw [if_neg c24] at H
          have c24b0 : (a0_1 == 0) = false := beq_eq_false_iff_ne.mpr c24
          have c24b1 : (a0_1 != 0) = true := bne_iff_ne.mpr c24
          have H' := Aside0.mk H
          clear H
          have hcz34_0 : w3.cell? ⟨gb112, 0, none⟩ = some (.int .i64 a0_0) := (blk_cell BK112.out 0).trans rfl
          have hcz34_1 : w3.cell? ⟨gb112, 1, none⟩ = some (.int .i64 a0_1) := (blk_cell BK112.out 1).trans rfl
          have hcz34_2 : w3.cell? ⟨gb112, 2, none⟩ = some (.string a0_2) := (blk_cell BK112.out 2).trans rfl
          have hcz34_3 : w3.cell? ⟨gb112, 3, none⟩ = some (.slice A0_3 l0_3.length c0_3) := (blk_cell BK112.out 3).trans rfl
          have hfz34_0 := blk_frozen BK112.out 0
          have hfz34_1 := blk_frozen BK112.out 1
          have hfz34_2 := blk_frozen BK112.out 2
          have hfz34_3 := blk_frozen BK112.out 3
          go_wp2
          go_meet
          case rel => exact ⟨_, (true), (by first | rfl | (simp; done) | (simp [*]; done)), H', ⟨by first | omega | exact Nat.le_refl _⟩, ⟨by (with_reducible repeat (first | refine blk_drewN ?_ _ | refine blk_drew ?_ | refine blk_alloc ?_ _)); exact BK112.out⟩, ⟨by repeat (first | (with_reducible first | exact HB.out | apply below_alloc | apply pw_below_drewN | apply below_drew1 | refine below_set ?_ GE112.out) | exact HB.out)⟩⟩
  case rest =>
    clear HC2
    try clear c1
    try clear c2
    try clear p2
    try clear c3
    try clear c4
    try clear c4b0
    try clear c4b1
    try clear c5
    try clear c5b0
    try clear c5b1
    try clear c6
    try clear c6b0
    try clear c6b1
    try clear c9
    try clear c9b0
    try clear c9b1
    try clear c10
    try clear c10b0
    try clear c10b1
    try clear c12
    try clear c14
    try clear c14b0
    try clear c14b1
    try clear c15
    try clear c15b0
    try clear c15b1
    try clear c16
    try clear c16b0
    try clear c16b1
    try clear c19
    try clear c19b0
    try clear c19b1
    try clear c20
    try clear c20b0
    try clear c20b1
    try clear c24
    try clear c24b0
    try clear c24b1
    try clear c25
    try clear c25b0
    try clear c25b1
    try clear c26
    try clear c26b0
    try clear c26b1
    try clear c29
    try clear c29b0
    try clear c29b1
    try clear c30
    try clear c30b0
    try clear c30b1
    try clear hcz11_0
    try clear hcz11_1
    try clear hcz11_2
    try clear hcz11_3
    try clear hcz12_0
    try clear hcz12_1
    try clear hcz12_2
    try clear hcz12_3
    try clear hcz13_0
    try clear hcz13_1
    try clear hcz13_2
    try clear hcz13_3
    try clear hcz17_0
    try clear hcz17_1
    try clear hcz17_2
    try clear hcz17_3
    try clear hcz18_0
    try clear hcz18_1
    try clear hcz18_2
    try clear hcz18_3
    try clear hcz21_0
    try clear hcz21_1
    try clear hcz21_2
    try clear hcz21_3
    try clear hcz22_0
    try clear hcz22_1
    try clear hcz22_2
    try clear hcz22_3
    try clear hcz23_0
    try clear hcz23_1
    try clear hcz23_2
    try clear hcz23_3
    try clear hcz27_0
    try clear hcz27_1
    try clear hcz27_2
    try clear hcz27_3
    try clear hcz28_0
    try clear hcz28_1
    try clear hcz28_2
    try clear hcz28_3
    try clear hcz31_0
    try clear hcz31_1
    try clear hcz31_2
    try clear hcz31_3
    try clear hcz32_0
    try clear hcz32_1
    try clear hcz32_2
    try clear hcz32_3
    try clear hcz33_0
    try clear hcz33_1
    try clear hcz33_2
    try clear hcz33_3
    try clear hcz34_0
    try clear hcz34_1
    try clear hcz34_2
    try clear hcz34_3
    try clear hcz7_0
    try clear hcz7_1
    try clear hcz7_2
    try clear hcz7_3
    try clear hcz8_0
    try clear hcz8_1
    try clear hcz8_2
    try clear hcz8_3
    try clear hfz11_0
    try clear hfz11_1
    try clear hfz11_2
    try clear hfz11_3
    try clear hfz12_0
    try clear hfz12_1
    try clear hfz12_2
    try clear hfz12_3
    try clear hfz13_0
    try clear hfz13_1
    try clear hfz13_2
    try clear hfz13_3
    try clear hfz17_0
    try clear hfz17_1
    try clear hfz17_2
    try clear hfz17_3
    try clear hfz18_0
    try clear hfz18_1
    try clear hfz18_2
    try clear hfz18_3
    try clear hfz21_0
    try clear hfz21_1
    try clear hfz21_2
    try clear hfz21_3
    try clear hfz22_0
    try clear hfz22_1
    try clear hfz22_2
    try clear hfz22_3
    try clear hfz23_0
    try clear hfz23_1
    try clear hfz23_2
    try clear hfz23_3
    try clear hfz27_0
    try clear hfz27_1
    try clear hfz27_2
    try clear hfz27_3
    try clear hfz28_0
    try clear hfz28_1
    try clear hfz28_2
    try clear hfz28_3
    try clear hfz31_0
    try clear hfz31_1
    try clear hfz31_2
    try clear hfz31_3
    try clear hfz32_0
    try clear hfz32_1
    try clear hfz32_2
    try clear hfz32_3
    try clear hfz33_0
    try clear hfz33_1
    try clear hfz33_2
    try clear hfz33_3
    try clear hfz34_0
    try clear hfz34_1
    try clear hfz34_2
    try clear hfz34_3
    try clear hfz7_0
    try clear hfz7_1
    try clear hfz7_2
    try clear hfz7_3
    try clear hfz8_0
    try clear hfz8_1
    try clear hfz8_2
    try clear hfz8_3
    obtain ⟨kq, x36_1, rfl, HA, HJ1, BK112, HB⟩ := hcut
    cases kq with
    | zero => exact absurd HA.out (by simp [spec_l02Shape.j0])
    | succ kj1 =>
      have H := HA.out
      clear HA
      simp only [spec_l02Shape.j0] at H
      by_cases c35 : x36_1 = true
      · subst c35
        have H1 : (some false) = some r := by rw [if_pos rfl] at H; exact H
        clear H
        have H := H1
        clear H1
        obtain rfl := Option.some.inj H
        go_wp2
        go_ret
        exact ⟨by first | rfl | (simp [errW_none, errW_some] <;> rfl) | (simp [*, errW_none, errW_some] <;> rfl), by repeat (first | (with_reducible first | exact HB.out | apply below_alloc | apply pw_below_drewN | apply below_drew1 | refine below_set ?_ GE112.out) | exact HB.out)⟩
      · replace c35 := Bool.eq_false_iff.mpr c35
        subst c35
        have H1 : (if a0_0 = 0 then (some true) else (if a0_0 = 1 then ((spec_l01In.f a0_1 0 100000).bind fun t113 => (some t113)) else (if a0_0 = 2 then ((spec_IsName.f kj1 a0_2).bind fun t114 => (some t114)) else (if a0_0 = 3 then ((spec_l01In.f a0_1 (-1000000000) 1000000000).bind fun t115 => (some t115)) else (if a0_0 = 4 then (if (l0_3.length : Int) = 2 then (if 0 < (l0_3.length : Int) then ((spec_l02Shape.f kj1 ((rd_T47 l0_3 0).f0) ((rd_T47 l0_3 0).f1) ((rd_T47 l0_3 0).f2) ((rd_T47 l0_3 0).f3)).bind fun t117 => (if t117 = true then (if 1 < (l0_3.length : Int) then ((spec_l02Shape.f kj1 ((rd_T47 l0_3 1).f0) ((rd_T47 l0_3 1).f1) ((rd_T47 l0_3 1).f2) ((rd_T47 l0_3 1).f3)).bind fun t119 => (some t119)) else (none)) else (some false))) else (none)) else (some false)) else (some false)))))) = some r := by rw [if_neg (show ¬ (false = true) by decide)] at H; exact H
        clear H
        have H := H1
        clear H1
        by_cases c36 : a0_0 = 0
        · rw [if_pos c36] at H
          have c36b0 : (a0_0 == 0) = true := beq_iff_eq.mpr c36
          have c36b1 : (a0_0 != 0) = false := bne_eq_false_iff_eq.mpr c36
          clear c36
          obtain rfl := Option.some.inj H
          have hcz37_0 : wc.cell? ⟨gb112, 0, none⟩ = some (.int .i64 a0_0) := (blk_cell BK112.out 0).trans rfl
          have hcz37_1 : wc.cell? ⟨gb112, 1, none⟩ = some (.int .i64 a0_1) := (blk_cell BK112.out 1).trans rfl
          have hcz37_2 : wc.cell? ⟨gb112, 2, none⟩ = some (.string a0_2) := (blk_cell BK112.out 2).trans rfl
          have hcz37_3 : wc.cell? ⟨gb112, 3, none⟩ = some (.slice A0_3 l0_3.length c0_3) := (blk_cell BK112.out 3).trans rfl
          have hfz37_0 := blk_frozen BK112.out 0
          have hfz37_1 := blk_frozen BK112.out 1
          have hfz37_2 := blk_frozen BK112.out 2
          have hfz37_3 := blk_frozen BK112.out 3
          go_wp2
          go_ret
          exact ⟨by first | rfl | (simp [errW_none, errW_some] <;> rfl) | (simp [*, errW_none, errW_some] <;> rfl), by repeat (first | (with_reducible first | exact HB.out | apply below_alloc | apply pw_below_drewN | apply below_drew1 | refine below_set ?_ GE112.out) | exact HB.out)⟩
        · rw [if_neg c36] at H
          have c36b0 : (a0_0 == 0) = false := beq_eq_false_iff_ne.mpr c36
          have c36b1 : (a0_0 != 0) = true := bne_iff_ne.mpr c36
          by_cases c38 : a0_0 = 1
          · rw [if_pos c38] at H
            have c38b0 : (a0_0 == 1) = true := beq_iff_eq.mpr c38
            have c38b1 : (a0_0 != 1) = false := bne_eq_false_iff_eq.mpr c38
            clear c38
            replace H := Option.bind_eq_some_iff.mp H
            obtain ⟨t113, A390, H⟩ := H
            replace H : (some t113) = some r := H
            have A39 := Aside0.mk A390
            clear A390
            obtain rfl := Option.some.inj H
            have hcz40_0 : wc.cell? ⟨gb112, 0, none⟩ = some (.int .i64 a0_0) := (blk_cell BK112.out 0).trans rfl
            have hcz40_1 : wc.cell? ⟨gb112, 1, none⟩ = some (.int .i64 a0_1) := (blk_cell BK112.out 1).trans rfl
            have hcz40_2 : wc.cell? ⟨gb112, 2, none⟩ = some (.string a0_2) := (blk_cell BK112.out 2).trans rfl
            have hcz40_3 : wc.cell? ⟨gb112, 3, none⟩ = some (.slice A0_3 l0_3.length c0_3) := (blk_cell BK112.out 3).trans rfl
            have hfz40_0 := blk_frozen BK112.out 0
            have hfz40_1 := blk_frozen BK112.out 1
            have hfz40_2 := blk_frozen BK112.out 2
            have hfz40_3 := blk_frozen BK112.out 3
            go_wp2_with (first | ((with_reducible refine gate_callee (f := 88) rfl ?_); refine goesL_ (some 45) rfl rfl Try.func88 (by kernel_rfl) rfl #[.int .i64 a0_1, .int .i64 0, .int .i64 100000] rfl (by (try simp only [List.map_toArray, List.map_cons, List.map_nil]); first | done | rfl | (simp only [List.length_drop, List.length_take]; rfl)) ?_; (with_reducible refine (spec_l01In.calls a0_1 0 100000 t113 _ A39.out).mono ?_); rintro e w' ⟨rfl, ⟨nd, rfl⟩⟩; refine ⟨_, rfl, ?_⟩))
            go_ret
            exact ⟨by first | rfl | (simp [errW_none, errW_some] <;> rfl) | (simp [*, errW_none, errW_some] <;> rfl), by repeat (first | (with_reducible first | exact HB.out | apply below_alloc | apply pw_below_drewN | apply below_drew1 | refine below_set ?_ GE112.out) | exact HB.out)⟩
          · rw [if_neg c38] at H
            have c38b0 : (a0_0 == 1) = false := beq_eq_false_iff_ne.mpr c38
            have c38b1 : (a0_0 != 1) = true := bne_iff_ne.mpr c38
            by_cases c41 : a0_0 = 2
            · rw [if_pos c41] at H
              have c41b0 : (a0_0 == 2) = true := beq_iff_eq.mpr c41
              have c41b1 : (a0_0 != 2) = false := bne_eq_false_iff_eq.mpr c41
              clear c41
              replace H := Option.bind_eq_some_iff.mp H
              obtain ⟨t114, A420, H⟩ := H
              replace H : (some t114) = some r := H
              have A42 := Aside0.mk A420
              clear A420
              obtain rfl := Option.some.inj H
              have hcz43_0 : wc.cell? ⟨gb112, 0, none⟩ = some (.int .i64 a0_0) := (blk_cell BK112.out 0).trans rfl
              have hcz43_1 : wc.cell? ⟨gb112, 1, none⟩ = some (.int .i64 a0_1) := (blk_cell BK112.out 1).trans rfl
              have hcz43_2 : wc.cell? ⟨gb112, 2, none⟩ = some (.string a0_2) := (blk_cell BK112.out 2).trans rfl
              have hcz43_3 : wc.cell? ⟨gb112, 3, none⟩ = some (.slice A0_3 l0_3.length c0_3) := (blk_cell BK112.out 3).trans rfl
              have hfz43_0 := blk_frozen BK112.out 0
              have hfz43_1 := blk_frozen BK112.out 1
              have hfz43_2 := blk_frozen BK112.out 2
              have hfz43_3 := blk_frozen BK112.out 3
              go_wp2_with (first | ((with_reducible refine gate_callee (f := 136) rfl ?_); refine goesL_ (some 50) rfl rfl Try.func136 (by kernel_rfl) rfl #[.string a0_2] rfl (by (try simp only [List.map_toArray, List.map_cons, List.map_nil]); first | done | rfl | (simp only [List.length_drop, List.length_take]; rfl)) ?_; (with_reducible refine (spec_IsName.calls kj1 a0_2 t114 _ A42.out).mono ?_); rintro e w' ⟨rfl, ⟨nd, rfl⟩⟩; refine ⟨_, rfl, ?_⟩))
              go_ret
              exact ⟨by first | rfl | (simp [errW_none, errW_some] <;> rfl) | (simp [*, errW_none, errW_some] <;> rfl), by repeat (first | (with_reducible first | exact HB.out | apply below_alloc | apply pw_below_drewN | apply below_drew1 | refine below_set ?_ GE112.out) | exact HB.out)⟩
            · rw [if_neg c41] at H
              have c41b0 : (a0_0 == 2) = false := beq_eq_false_iff_ne.mpr c41
              have c41b1 : (a0_0 != 2) = true := bne_iff_ne.mpr c41
              by_cases c44 : a0_0 = 3
              · rw [if_pos c44] at H
                have c44b0 : (a0_0 == 3) = true := beq_iff_eq.mpr c44
                have c44b1 : (a0_0 != 3) = false := bne_eq_false_iff_eq.mpr c44
                clear c44
                replace H := Option.bind_eq_some_iff.mp H
                obtain ⟨t115, A450, H⟩ := H
                replace H : (some t115) = some r := H
                have A45 := Aside0.mk A450
                clear A450
                obtain rfl := Option.some.inj H
                have hcz46_0 : wc.cell? ⟨gb112, 0, none⟩ = some (.int .i64 a0_0) := (blk_cell BK112.out 0).trans rfl
                have hcz46_1 : wc.cell? ⟨gb112, 1, none⟩ = some (.int .i64 a0_1) := (blk_cell BK112.out 1).trans rfl
                have hcz46_2 : wc.cell? ⟨gb112, 2, none⟩ = some (.string a0_2) := (blk_cell BK112.out 2).trans rfl
                have hcz46_3 : wc.cell? ⟨gb112, 3, none⟩ = some (.slice A0_3 l0_3.length c0_3) := (blk_cell BK112.out 3).trans rfl
                have hfz46_0 := blk_frozen BK112.out 0
                have hfz46_1 := blk_frozen BK112.out 1
                have hfz46_2 := blk_frozen BK112.out 2
                have hfz46_3 := blk_frozen BK112.out 3
                go_wp2_with (first | ((with_reducible refine gate_callee (f := 88) rfl ?_); refine goesL_ (some 55) rfl rfl Try.func88 (by kernel_rfl) rfl #[.int .i64 a0_1, .int .i64 (-1000000000), .int .i64 1000000000] rfl (by (try simp only [List.map_toArray, List.map_cons, List.map_nil]); first | done | rfl | (simp only [List.length_drop, List.length_take]; rfl)) ?_; (with_reducible refine (spec_l01In.calls a0_1 (-1000000000) 1000000000 t115 _ A45.out).mono ?_); rintro e w' ⟨rfl, ⟨nd, rfl⟩⟩; refine ⟨_, rfl, ?_⟩))
                go_ret
                exact ⟨by first | rfl | (simp [errW_none, errW_some] <;> rfl) | (simp [*, errW_none, errW_some] <;> rfl), by repeat (first | (with_reducible first | exact HB.out | apply below_alloc | apply pw_below_drewN | apply below_drew1 | refine below_set ?_ GE112.out) | exact HB.out)⟩
              · rw [if_neg c44] at H
                have c44b0 : (a0_0 == 3) = false := beq_eq_false_iff_ne.mpr c44
                have c44b1 : (a0_0 != 3) = true := bne_iff_ne.mpr c44
                by_cases c47 : a0_0 = 4
                · rw [if_pos c47] at H
                  have c47b0 : (a0_0 == 4) = true := beq_iff_eq.mpr c47
                  have c47b1 : (a0_0 != 4) = false := bne_eq_false_iff_eq.mpr c47
                  clear c47
                  by_cases c48 : (l0_3.length : Int) = 2
                  · rw [if_pos c48] at H
                    have c48b0 : ((l0_3.length : Int) == 2) = true := beq_iff_eq.mpr c48
                    have c48b1 : ((l0_3.length : Int) != 2) = false := bne_eq_false_iff_eq.mpr c48
                    clear c48
                    by_cases c49 : 0 < (l0_3.length : Int)
                    · rw [if_pos c49] at H
                      have c49b0 : decide (0 < (l0_3.length : Int)) = true := decide_eq_true c49
                      have c49b1 : decide (0 < l0_3.length) = true := decide_eq_true (by omega)
                      clear c49
                      replace H := Option.bind_eq_some_iff.mp H
                      obtain ⟨t117, A500, H⟩ := H
                      replace H : (if t117 = true then (if 1 < (l0_3.length : Int) then ((spec_l02Shape.f kj1 ((rd_T47 l0_3 1).f0) ((rd_T47 l0_3 1).f1) ((rd_T47 l0_3 1).f2) ((rd_T47 l0_3 1).f3)).bind fun t119 => (some t119)) else (none)) else (some false)) = some r := H
                      have A50 := Aside0.mk A500
                      clear A500
                      by_cases c51 : t117 = true
                      · subst c51
                        have H1 : (if 1 < (l0_3.length : Int) then ((spec_l02Shape.f kj1 ((rd_T47 l0_3 1).f0) ((rd_T47 l0_3 1).f1) ((rd_T47 l0_3 1).f2) ((rd_T47 l0_3 1).f3)).bind fun t119 => (some t119)) else (none)) = some r := by rw [if_pos rfl] at H; exact H
                        clear H
                        have H := H1
                        clear H1
                        by_cases c52 : 1 < (l0_3.length : Int)
                        · rw [if_pos c52] at H
                          have c52b0 : decide (1 < (l0_3.length : Int)) = true := decide_eq_true c52
                          have c52b1 : decide (1 < l0_3.length) = true := decide_eq_true (by omega)
                          clear c52
                          replace H := Option.bind_eq_some_iff.mp H
                          obtain ⟨t119, A530, H⟩ := H
                          replace H : (some t119) = some r := H
                          have A53 := Aside0.mk A530
                          clear A530
                          obtain rfl := Option.some.inj H
                          have hcz54_0 : wc.cell? ⟨gb112, 0, none⟩ = some (.int .i64 a0_0) := (blk_cell BK112.out 0).trans rfl
                          have hcz54_1 : wc.cell? ⟨gb112, 1, none⟩ = some (.int .i64 a0_1) := (blk_cell BK112.out 1).trans rfl
                          have hcz54_2 : wc.cell? ⟨gb112, 2, none⟩ = some (.string a0_2) := (blk_cell BK112.out 2).trans rfl
                          have hcz54_3 : wc.cell? ⟨gb112, 3, none⟩ = some (.slice A0_3 l0_3.length c0_3) := (blk_cell BK112.out 3).trans rfl
                          have hfz54_0 := blk_frozen BK112.out 0
                          have hfz54_1 := blk_frozen BK112.out 1
                          have hfz54_2 := blk_frozen BK112.out 2
                          have hfz54_3 := blk_frozen BK112.out 3
                          have p116 : 0 ≤ (0 : Int) := (by omega)
                          have q116 : 0 < (l0_3.length : Int) := of_decide_eq_true (by first | (with_reducible assumption) | assumption)
                          obtain ⟨ad116, A116_3, c116_3, e116, hx116_0, hx116_1, hx116_2, hx116_3, hl116_3, hi116_3⟩ := at_T47 HR0_3.out 0 p116 q116
                          cases e116
                          have qi116 : (0 < l0_3.length) = True := eq_true (by omega)
                          (try rw [show ((0 : Int)).toNat = 0 from rfl] at hx116_0)
                          (try rw [show 0 * 4 = 0 from rfl] at hx116_0)
                          (try rw [Addr.add_zero'] at hx116_0)
                          (try rw [show ((0 : Int)).toNat = 0 from rfl] at hx116_1)
                          (try rw [show 0 * 4 = 0 from rfl] at hx116_1)
                          (try rw [Addr.add_zero'] at hx116_1)
                          (try rw [show ((0 : Int)).toNat = 0 from rfl] at hx116_2)
                          (try rw [show 0 * 4 = 0 from rfl] at hx116_2)
                          (try rw [Addr.add_zero'] at hx116_2)
                          (try rw [show ((0 : Int)).toNat = 0 from rfl] at hx116_3)
                          (try rw [show 0 * 4 = 0 from rfl] at hx116_3)
                          (try rw [Addr.add_zero'] at hx116_3)
                          replace hx116_0 := (HB.out.cell (World.block_lt_of_cell? w _ hx116_0)).trans hx116_0
                          replace hx116_1 := (HB.out.cell (World.block_lt_of_cell? w _ hx116_1)).trans hx116_1
                          replace hx116_2 := (HB.out.cell (World.block_lt_of_cell? w _ hx116_2)).trans hx116_2
                          replace hx116_3 := (HB.out.cell (World.block_lt_of_cell? w _ hx116_3)).trans hx116_3
                          have HR116_3 := Aside0.mk hi116_3
                          have HC116_3 := Aside0.mk hl116_3
                          clear hi116_3 hl116_3
                          replace p116 := eq_true p116
                          replace q116 := eq_true q116
                          go_wp2_with (first | (go_at_call 121; (with_reducible refine (ih kj1 (by have := HJ1.out; omega) ((rd_T47 l0_3 0).f0) ((rd_T47 l0_3 0).f1) ((rd_T47 l0_3 0).f2) _ _ ((rd_T47 l0_3 0).f3) true _ ?side1 ?side2 A50.out).mono ?_); (case side1 => repeat (first | exact (Kd.C_below HR116_3.out HB.out) | (with_reducible refine Kd.C_alloc ?_ _) | (with_reducible refine Kd.C_drewN ?_ _) | (with_reducible refine Kd.C_drew ?_))); (case side2 => exact HC116_3.out); rintro e w55 ⟨rfl, hb⟩; have n0_ := Aside0.mk (blk_below (g := gb112) (o := .cells #[.int .i64 a0_0, .int .i64 a0_1, .string a0_2, .slice (some ad116) l0_3.length c0_3] 47 (0, 0)) (by (with_reducible repeat (first | refine blk_drewN ?_ _ | refine blk_drew ?_ | refine blk_alloc ?_ _)); exact BK112.out) hb); have n1_ := Aside0.mk (below_step (by repeat (first | (with_reducible first | exact HB.out | apply below_alloc | apply pw_below_drewN | apply below_drew1 | refine below_set ?_ GE112.out) | exact HB.out)) hb); clear BK112; clear HB; have BK112 := n0_; have HB := n1_; clear n0_ n1_; (try clear hb); (try clear hb2); (try clear hk); (try clear hi); have hcz56_0 : w55.cell? ⟨gb112, 0, none⟩ = some (.int .i64 a0_0) := (blk_cell BK112.out 0).trans rfl; have hcz56_1 : w55.cell? ⟨gb112, 1, none⟩ = some (.int .i64 a0_1) := (blk_cell BK112.out 1).trans rfl; have hcz56_2 : w55.cell? ⟨gb112, 2, none⟩ = some (.string a0_2) := (blk_cell BK112.out 2).trans rfl; have hcz56_3 : w55.cell? ⟨gb112, 3, none⟩ = some (.slice (some ad116) l0_3.length c0_3) := (blk_cell BK112.out 3).trans rfl; have hfz56_0 := blk_frozen BK112.out 0; have hfz56_1 := blk_frozen BK112.out 1; have hfz56_2 := blk_frozen BK112.out 2; have hfz56_3 := blk_frozen BK112.out 3; have p118 : 0 ≤ (1 : Int) := (by omega); have q118 : 1 < (l0_3.length : Int) := of_decide_eq_true (by first | (with_reducible assumption) | assumption); obtain ⟨ad118, A118_3, c118_3, e118, hx118_0, hx118_1, hx118_2, hx118_3, hl118_3, hi118_3⟩ := at_T47 HR0_3.out 1 p118 q118; obtain rfl : ad116 = ad118 := (by injection e118); (try simp only [show (1 : Int).toNat = 1 from rfl, Nat.reduceMul, Nat.reduceEqDiff, Go.Addr.add, ↓reduceIte] at hx118_0); (try simp only [show (1 : Int).toNat = 1 from rfl, Nat.reduceMul, Nat.reduceEqDiff, Go.Addr.add, ↓reduceIte] at hx118_1); (try simp only [show (1 : Int).toNat = 1 from rfl, Nat.reduceMul, Nat.reduceEqDiff, Go.Addr.add, ↓reduceIte] at hx118_2); (try simp only [show (1 : Int).toNat = 1 from rfl, Nat.reduceMul, Nat.reduceEqDiff, Go.Addr.add, ↓reduceIte] at hx118_3); have qi118 : (1 < l0_3.length) = True := eq_true (by omega); (try rw [show ((1 : Int)).toNat = 1 from rfl] at hx118_0); (try rw [show 1 * 4 = 4 from rfl] at hx118_0); (try rw [show ((1 : Int)).toNat = 1 from rfl] at hx118_1); (try rw [show 1 * 4 = 4 from rfl] at hx118_1); (try rw [show ((1 : Int)).toNat = 1 from rfl] at hx118_2); (try rw [show 1 * 4 = 4 from rfl] at hx118_2); (try rw [show ((1 : Int)).toNat = 1 from rfl] at hx118_3); (try rw [show 1 * 4 = 4 from rfl] at hx118_3); replace hx118_0 := (HB.out.cell (World.block_lt_of_cell? w _ hx118_0)).trans hx118_0; replace hx118_1 := (HB.out.cell (World.block_lt_of_cell? w _ hx118_1)).trans hx118_1; replace hx118_2 := (HB.out.cell (World.block_lt_of_cell? w _ hx118_2)).trans hx118_2; replace hx118_3 := (HB.out.cell (World.block_lt_of_cell? w _ hx118_3)).trans hx118_3; have HR118_3 := Aside0.mk hi118_3; have HC118_3 := Aside0.mk hl118_3; clear hi118_3 hl118_3; replace p118 := eq_true p118; replace q118 := eq_true q118) | (go_at_call 121; (with_reducible refine (ih kj1 (by have := HJ1.out; omega) ((rd_T47 l0_3 1).f0) ((rd_T47 l0_3 1).f1) ((rd_T47 l0_3 1).f2) _ _ ((rd_T47 l0_3 1).f3) t119 _ ?side1 ?side2 A53.out).mono ?_); (case side1 => repeat (first | exact (Kd.C_below HR118_3.out HB.out) | (with_reducible refine Kd.C_alloc ?_ _) | (with_reducible refine Kd.C_drewN ?_ _) | (with_reducible refine Kd.C_drew ?_))); (case side2 => exact HC118_3.out); rintro e w57 ⟨rfl, hb⟩; have n0_ := Aside0.mk (blk_below (g := gb112) (o := .cells #[.int .i64 a0_0, .int .i64 a0_1, .string a0_2, .slice (some ad116) l0_3.length c0_3] 47 (0, 0)) (by (with_reducible repeat (first | refine blk_drewN ?_ _ | refine blk_drew ?_ | refine blk_alloc ?_ _)); exact BK112.out) hb); have n1_ := Aside0.mk (below_step (by repeat (first | (with_reducible first | exact HB.out | apply below_alloc | apply pw_below_drewN | apply below_drew1 | refine below_set ?_ GE112.out) | exact HB.out)) hb); clear BK112; clear HB; have BK112 := n0_; have HB := n1_; clear n0_ n1_; (try clear hb); (try clear hb2); (try clear hk); (try clear hi)))
                          go_ret
                          exact ⟨by first | rfl | (simp [errW_none, errW_some] <;> rfl) | (simp [*, errW_none, errW_some] <;> rfl), by repeat (first | (with_reducible first | exact HB.out | apply below_alloc | apply pw_below_drewN | apply below_drew1 | refine below_set ?_ GE112.out) | exact HB.out)⟩
                        · rw [if_neg c52] at H
                          exact absurd H (by simp)
                      · replace c51 := Bool.eq_false_iff.mpr c51
                        subst c51
                        have H1 : (some false) = some r := by rw [if_neg (show ¬ (false = true) by decide)] at H; exact H
                        clear H
                        have H := H1
                        clear H1
                        obtain rfl := Option.some.inj H
                        have hcz58_0 : wc.cell? ⟨gb112, 0, none⟩ = some (.int .i64 a0_0) := (blk_cell BK112.out 0).trans rfl
                        have hcz58_1 : wc.cell? ⟨gb112, 1, none⟩ = some (.int .i64 a0_1) := (blk_cell BK112.out 1).trans rfl
                        have hcz58_2 : wc.cell? ⟨gb112, 2, none⟩ = some (.string a0_2) := (blk_cell BK112.out 2).trans rfl
                        have hcz58_3 : wc.cell? ⟨gb112, 3, none⟩ = some (.slice A0_3 l0_3.length c0_3) := (blk_cell BK112.out 3).trans rfl
                        have hfz58_0 := blk_frozen BK112.out 0
                        have hfz58_1 := blk_frozen BK112.out 1
                        have hfz58_2 := blk_frozen BK112.out 2
                        have hfz58_3 := blk_frozen BK112.out 3
                        have p116 : 0 ≤ (0 : Int) := (by omega)
                        have q116 : 0 < (l0_3.length : Int) := of_decide_eq_true (by first | (with_reducible assumption) | assumption)
                        obtain ⟨ad116, A116_3, c116_3, e116, hx116_0, hx116_1, hx116_2, hx116_3, hl116_3, hi116_3⟩ := at_T47 HR0_3.out 0 p116 q116
                        cases e116
                        have qi116 : (0 < l0_3.length) = True := eq_true (by omega)
                        (try rw [show ((0 : Int)).toNat = 0 from rfl] at hx116_0)
                        (try rw [show 0 * 4 = 0 from rfl] at hx116_0)
                        (try rw [Addr.add_zero'] at hx116_0)
                        (try rw [show ((0 : Int)).toNat = 0 from rfl] at hx116_1)
                        (try rw [show 0 * 4 = 0 from rfl] at hx116_1)
                        (try rw [Addr.add_zero'] at hx116_1)
                        (try rw [show ((0 : Int)).toNat = 0 from rfl] at hx116_2)
                        (try rw [show 0 * 4 = 0 from rfl] at hx116_2)
                        (try rw [Addr.add_zero'] at hx116_2)
                        (try rw [show ((0 : Int)).toNat = 0 from rfl] at hx116_3)
                        (try rw [show 0 * 4 = 0 from rfl] at hx116_3)
                        (try rw [Addr.add_zero'] at hx116_3)
                        replace hx116_0 := (HB.out.cell (World.block_lt_of_cell? w _ hx116_0)).trans hx116_0
                        replace hx116_1 := (HB.out.cell (World.block_lt_of_cell? w _ hx116_1)).trans hx116_1
                        replace hx116_2 := (HB.out.cell (World.block_lt_of_cell? w _ hx116_2)).trans hx116_2
                        replace hx116_3 := (HB.out.cell (World.block_lt_of_cell? w _ hx116_3)).trans hx116_3
                        have HR116_3 := Aside0.mk hi116_3
                        have HC116_3 := Aside0.mk hl116_3
                        clear hi116_3 hl116_3
                        replace p116 := eq_true p116
                        replace q116 := eq_true q116
                        go_wp2_with (first | (go_at_call 121; (with_reducible refine (ih kj1 (by have := HJ1.out; omega) ((rd_T47 l0_3 0).f0) ((rd_T47 l0_3 0).f1) ((rd_T47 l0_3 0).f2) _ _ ((rd_T47 l0_3 0).f3) false _ ?side1 ?side2 A50.out).mono ?_); (case side1 => repeat (first | exact (Kd.C_below HR116_3.out HB.out) | (with_reducible refine Kd.C_alloc ?_ _) | (with_reducible refine Kd.C_drewN ?_ _) | (with_reducible refine Kd.C_drew ?_))); (case side2 => exact HC116_3.out); rintro e w59 ⟨rfl, hb⟩; have n0_ := Aside0.mk (blk_below (g := gb112) (o := .cells #[.int .i64 a0_0, .int .i64 a0_1, .string a0_2, .slice (some ad116) l0_3.length c0_3] 47 (0, 0)) (by (with_reducible repeat (first | refine blk_drewN ?_ _ | refine blk_drew ?_ | refine blk_alloc ?_ _)); exact BK112.out) hb); have n1_ := Aside0.mk (below_step (by repeat (first | (with_reducible first | exact HB.out | apply below_alloc | apply pw_below_drewN | apply below_drew1 | refine below_set ?_ GE112.out) | exact HB.out)) hb); clear BK112; clear HB; have BK112 := n0_; have HB := n1_; clear n0_ n1_; (try clear hb); (try clear hb2); (try clear hk); (try clear hi)))
                        go_ret
                        exact ⟨by first | rfl | (simp [errW_none, errW_some] <;> rfl) | (simp [*, errW_none, errW_some] <;> rfl), by repeat (first | (with_reducible first | exact HB.out | apply below_alloc | apply pw_below_drewN | apply below_drew1 | refine below_set ?_ GE112.out) | exact HB.out)⟩
                    · rw [if_neg c49] at H
                      exact absurd H (by simp)
                  · rw [if_neg c48] at H
                    have c48b0 : ((l0_3.length : Int) == 2) = false := beq_eq_false_iff_ne.mpr c48
                    have c48b1 : ((l0_3.length : Int) != 2) = true := bne_iff_ne.mpr c48
                    obtain rfl := Option.some.inj H
                    have hcz60_0 : wc.cell? ⟨gb112, 0, none⟩ = some (.int .i64 a0_0) := (blk_cell BK112.out 0).trans rfl
                    have hcz60_1 : wc.cell? ⟨gb112, 1, none⟩ = some (.int .i64 a0_1) := (blk_cell BK112.out 1).trans rfl
                    have hcz60_2 : wc.cell? ⟨gb112, 2, none⟩ = some (.string a0_2) := (blk_cell BK112.out 2).trans rfl
                    have hcz60_3 : wc.cell? ⟨gb112, 3, none⟩ = some (.slice A0_3 l0_3.length c0_3) := (blk_cell BK112.out 3).trans rfl
                    have hfz60_0 := blk_frozen BK112.out 0
                    have hfz60_1 := blk_frozen BK112.out 1
                    have hfz60_2 := blk_frozen BK112.out 2
                    have hfz60_3 := blk_frozen BK112.out 3
                    go_wp2
                    go_ret
                    exact ⟨by first | rfl | (simp [errW_none, errW_some] <;> rfl) | (simp [*, errW_none, errW_some] <;> rfl), by repeat (first | (with_reducible first | exact HB.out | apply below_alloc | apply pw_below_drewN | apply below_drew1 | refine below_set ?_ GE112.out) | exact HB.out)⟩
                · rw [if_neg c47] at H
                  have c47b0 : (a0_0 == 4) = false := beq_eq_false_iff_ne.mpr c47
                  have c47b1 : (a0_0 != 4) = true := bne_iff_ne.mpr c47
                  obtain rfl := Option.some.inj H
                  have hcz61_0 : wc.cell? ⟨gb112, 0, none⟩ = some (.int .i64 a0_0) := (blk_cell BK112.out 0).trans rfl
                  have hcz61_1 : wc.cell? ⟨gb112, 1, none⟩ = some (.int .i64 a0_1) := (blk_cell BK112.out 1).trans rfl
                  have hcz61_2 : wc.cell? ⟨gb112, 2, none⟩ = some (.string a0_2) := (blk_cell BK112.out 2).trans rfl
                  have hcz61_3 : wc.cell? ⟨gb112, 3, none⟩ = some (.slice A0_3 l0_3.length c0_3) := (blk_cell BK112.out 3).trans rfl
                  have hfz61_0 := blk_frozen BK112.out 0
                  have hfz61_1 := blk_frozen BK112.out 1
                  have hfz61_2 := blk_frozen BK112.out 2
                  have hfz61_3 := blk_frozen BK112.out 3
                  go_wp2
                  go_ret
                  exact ⟨by first | rfl | (simp [errW_none, errW_some] <;> rfl) | (simp [*, errW_none, errW_some] <;> rfl), by repeat (first | (with_reducible first | exact HB.out | apply below_alloc | apply pw_below_drewN | apply below_drew1 | refine below_set ?_ GE112.out) | exact HB.out)⟩

end Go.Proofs.Ytpfooiepmnaoaaa.X
