/- Functions of the program, their plain Lean forms and the proofs of their contracts. (Made by xprint.py.) -/
import Derived.Test.YtaoabfhabejmgaaX0
namespace Go.Proofs.Ytaoabfhabejmgaa.X
open Go.RowKit Go.Proofs.YtaoabfhabejmgaaW.PrintWords Go.Proofs.YtaoabfhabejmgaaW.PrintLast Go.Proofs.YtaoabfhabejmgaaW.PrintMore
attribute [local go_sem] max2_int min2_int max_two min_two max_three min_three max_four min_four
set_option linter.unusedVariables false
set_option linter.unusedSimpArgs false

/-! ### impl_hasSymbol: function 72 -/
def impl_hasSymbol.f : Nat → Int → Int → ByteArray → List (S54) → ByteArray → Option (Bool)
  | 0, _, _, _, _, _ => none
  | k + 1, a0_0, a0_1, a0_2, l0_3, a1 => if a0_0 = 4 then (if 0 < (l0_3.length : Int) then ((impl_hasSymbol.f k ((rd_T54 l0_3 0).f0) ((rd_T54 l0_3 0).f1) ((rd_T54 l0_3 0).f2) ((rd_T54 l0_3 0).f3) a1).bind fun t610 => (if t610 = true then (some true) else (if 1 < (l0_3.length : Int) then ((impl_hasSymbol.f k ((rd_T54 l0_3 1).f0) ((rd_T54 l0_3 1).f1) ((rd_T54 l0_3 1).f2) ((rd_T54 l0_3 1).f3) a1).bind fun t612 => (some t612)) else (none)))) else (none)) else (if a0_0 = 2 then (some (a0_2.toList == a1.toList)) else (some false))
theorem impl_hasSymbol.mono_l : ∀ k, (∀ y0 y1 y2 y3 y4, LeO (impl_hasSymbol.f k y0 y1 y2 y3 y4) (impl_hasSymbol.f (k + 1) y0 y1 y2 y3 y4))
  | 0 => fun _ _ _ _ _ r h => by simp [impl_hasSymbol.f] at h
  | k + 1 => by
    have ih0 := impl_hasSymbol.mono_l k
    · intro y0 y1 y2 y3 y4
      unfold impl_hasSymbol.f
      repeat' first
      | (with_reducible exact ih0 _ _ _ _ _)
      | (with_reducible exact LeO.refl _)
      | (with_reducible exact LeO.none _)
      | (with_reducible refine LeO.ite ?_ ?_)
      | (with_reducible refine LeO.bind ?_ (fun _ => ?_))
      | exact ih0 _ _ _ _ _
      | exact LeO.none _
      | refine LeO.ite ?_ ?_
      | refine LeO.bind ?_ (fun _ => ?_)
theorem impl_hasSymbol.mono : ∀ a0 a1 a2 a3 a4 k, LeO (impl_hasSymbol.f k a0 a1 a2 a3 a4) (impl_hasSymbol.f (k + 1) a0 a1 a2 a3 a4) := by
  intro a0 a1 a2 a3 a4 k
  have ih0 := impl_hasSymbol.mono_l k
  exact ih0 a0 a1 a2 a3 a4
set_option maxHeartbeats 8000000 in
set_option maxRecDepth 100000 in
theorem impl_hasSymbol.calls (k : Nat) : ∀ (a0_0 : Int) (a0_1 : Int) (a0_2 : ByteArray) (A0_3 : Option Addr) (c0_3 : Nat) (l0_3 : List (S54)) (a1 : ByteArray) (r : Bool) (w : World) (hr0_3 : Kd.C k54 w A0_3 l0_3.length l0_3) (hc0_3 : l0_3.length ≤ c0_3) (h : impl_hasSymbol.f k a0_0 a0_1 a0_2 l0_3 a1 = some r),
    Calls Try.prog 72 #[.agg #[.int .i64 a0_0, .int .i64 a0_1, .string a0_2, .slice A0_3 l0_3.length c0_3], .string a1] w fun e w' => e = .returned (.bool r) ∧ Below w.heap.size w w' := by
  induction k using Nat.strongRecOn with
  | _ k ih =>
  intro a0_0 a0_1 a0_2 A0_3 c0_3 l0_3 a1 r w hr0_3 hc0_3 h
  cases k with
  | zero => exact absurd h (by simp [impl_hasSymbol.f])
  | succ k =>
  simp only [impl_hasSymbol.f] at h
  have hu54 := Try.underlying54
  have HR0_3 := Aside0.mk hr0_3
  have HC0_3 := Aside0.mk hc0_3
  clear hr0_3 hc0_3
  have HB := Aside0.mk (Below.refl w.heap.size w)
  have H : (if a0_0 = 4 then (if 0 < (l0_3.length : Int) then ((impl_hasSymbol.f k ((rd_T54 l0_3 0).f0) ((rd_T54 l0_3 0).f1) ((rd_T54 l0_3 0).f2) ((rd_T54 l0_3 0).f3) a1).bind fun t610 => (if t610 = true then (some true) else (if 1 < (l0_3.length : Int) then ((impl_hasSymbol.f k ((rd_T54 l0_3 1).f0) ((rd_T54 l0_3 1).f1) ((rd_T54 l0_3 1).f2) ((rd_T54 l0_3 1).f3) a1).bind fun t612 => (some t612)) else (none)))) else (none)) else (if a0_0 = 2 then (some (a0_2.toList == a1.toList)) else (some false))) = some r := h
  clear h
  by_cases c3 : a0_0 = 4
  · rw [if_pos c3] at H
    have c3b0 : (a0_0 == 4) = true := beq_iff_eq.mpr c3
    have c3b1 : (a0_0 != 4) = false := bne_eq_false_iff_eq.mpr c3
    clear c3
    by_cases c4 : 0 < (l0_3.length : Int)
    · rw [if_pos c4] at H
      have c4b0 : decide (0 < (l0_3.length : Int)) = true := decide_eq_true c4
      have c4b1 : decide (0 < l0_3.length) = true := decide_eq_true (by omega)
      clear c4
      replace H := Option.bind_eq_some_iff.mp H
      obtain ⟨t610, A50, H⟩ := H
      replace H : (if t610 = true then (some true) else (if 1 < (l0_3.length : Int) then ((impl_hasSymbol.f k ((rd_T54 l0_3 1).f0) ((rd_T54 l0_3 1).f1) ((rd_T54 l0_3 1).f2) ((rd_T54 l0_3 1).f3) a1).bind fun t612 => (some t612)) else (none))) = some r := H
      have A5 := Aside0.mk A50
      clear A50
      by_cases c6 : t610 = true
      · subst c6
        have H1 : (some true) = some r := by rw [if_pos rfl] at H; exact H
        clear H
        have H := H1
        clear H1
        obtain rfl := Option.some.inj H
        go_enter Try.func72, Try.ntmps72
        go_wp2_with (first | ((with_reducible refine gate_dst (N := 2) rfl ?_); refine box_event ?hg (N := 2) ?hd (cs := #[.int .i64 a0_0, .int .i64 a0_1, .string a0_2, .slice A0_3 l0_3.length c0_3]) (t := 54) ?hr ?_; (case hd => rfl); (case hg => rfl); (case hr => first | (go_simp; done) | (go_simp; rfl)); intro gb608 hg w7 hbox hb; have n0_ := Aside0.mk (below_step (by repeat (first | (with_reducible first | exact HB.out | apply below_alloc | apply pw_below_drewN | apply below_drew1) | exact HB.out)) hb); have n1_ := Aside0.mk (hbox); have n2_ := Aside0.mk ((by rw [hg]; exact (below_size (by repeat (first | (with_reducible first | exact HB.out | apply below_alloc | apply pw_below_drewN | apply below_drew1) | exact HB.out))) : w.heap.size ≤ gb608)); have n3_ := Aside0.mk ((by rw [hg]; exact (below_size (by repeat (first | (with_reducible first | exact HB.out | apply below_alloc | apply pw_below_drewN | apply below_drew1) | exact HB.out))) : w.heap.size ≤ gb608)); clear HB; have HB := n0_; have BK608 := n1_; have GW608 := n2_; have GE608 := n3_; clear n0_ n1_ n2_ n3_; clear hb hbox hg; have hcz8_0 : w7.cell? ⟨gb608, 0, none⟩ = some (.int .i64 a0_0) := (blk_cell BK608.out 0).trans rfl; have hcz8_1 : w7.cell? ⟨gb608, 1, none⟩ = some (.int .i64 a0_1) := (blk_cell BK608.out 1).trans rfl; have hcz8_2 : w7.cell? ⟨gb608, 2, none⟩ = some (.string a0_2) := (blk_cell BK608.out 2).trans rfl; have hcz8_3 : w7.cell? ⟨gb608, 3, none⟩ = some (.slice A0_3 l0_3.length c0_3) := (blk_cell BK608.out 3).trans rfl; have hfz8_0 := blk_frozen BK608.out 0; have hfz8_1 := blk_frozen BK608.out 1; have hfz8_2 := blk_frozen BK608.out 2; have hfz8_3 := blk_frozen BK608.out 3; have p609 : 0 ≤ (0 : Int) := (by omega); have q609 : 0 < (l0_3.length : Int) := of_decide_eq_true (by first | (with_reducible assumption) | assumption); obtain ⟨ad609, A609_3, c609_3, e609, hx609_0, hx609_1, hx609_2, hx609_3, hl609_3, hi609_3⟩ := at_T54 HR0_3.out 0 p609 q609; cases e609; have qi609 : (0 < l0_3.length) = True := eq_true (by omega); (try rw [show ((0 : Int)).toNat = 0 from rfl] at hx609_0); (try rw [show 0 * 4 = 0 from rfl] at hx609_0); (try rw [Addr.add_zero'] at hx609_0); (try rw [show ((0 : Int)).toNat = 0 from rfl] at hx609_1); (try rw [show 0 * 4 = 0 from rfl] at hx609_1); (try rw [Addr.add_zero'] at hx609_1); (try rw [show ((0 : Int)).toNat = 0 from rfl] at hx609_2); (try rw [show 0 * 4 = 0 from rfl] at hx609_2); (try rw [Addr.add_zero'] at hx609_2); (try rw [show ((0 : Int)).toNat = 0 from rfl] at hx609_3); (try rw [show 0 * 4 = 0 from rfl] at hx609_3); (try rw [Addr.add_zero'] at hx609_3); replace hx609_0 := (HB.out.cell (World.block_lt_of_cell? w _ hx609_0)).trans hx609_0; replace hx609_1 := (HB.out.cell (World.block_lt_of_cell? w _ hx609_1)).trans hx609_1; replace hx609_2 := (HB.out.cell (World.block_lt_of_cell? w _ hx609_2)).trans hx609_2; replace hx609_3 := (HB.out.cell (World.block_lt_of_cell? w _ hx609_3)).trans hx609_3; have HR609_3 := Aside0.mk hi609_3; have HC609_3 := Aside0.mk hl609_3; clear hi609_3 hl609_3; replace p609 := eq_true p609; replace q609 := eq_true q609) | ((with_reducible refine gate_callee (f := 72) rfl ?_); refine goesL_ (some 13) rfl rfl Try.func72 (by kernel_rfl) rfl #[.agg #[.int .i64 ((rd_T54 l0_3 0).f0), .int .i64 ((rd_T54 l0_3 0).f1), .string ((rd_T54 l0_3 0).f2), .slice A609_3 ((rd_T54 l0_3 0).f3).length c609_3], .string a1] rfl (by (try simp only [List.map_toArray, List.map_cons, List.map_nil]); first | done | rfl | (simp only [List.length_drop, List.length_take]; rfl)) ?_; (with_reducible refine (ih k (by omega) ((rd_T54 l0_3 0).f0) ((rd_T54 l0_3 0).f1) ((rd_T54 l0_3 0).f2) _ _ ((rd_T54 l0_3 0).f3) a1 true _ ?side1 ?side2 A5.out).mono ?_); (case side1 => repeat (first | exact (Kd.C_below HR609_3.out HB.out) | (with_reducible refine Kd.C_alloc ?_ _) | (with_reducible refine Kd.C_drewN ?_ _) | (with_reducible refine Kd.C_drew ?_))); (case side2 => exact HC609_3.out); rintro e w9 ⟨rfl, hb⟩; refine ⟨_, rfl, ?_⟩; have n0_ := Aside0.mk (blk_below (g := gb608) (o := .cells #[.int .i64 a0_0, .int .i64 a0_1, .string a0_2, .slice (some ad609) l0_3.length c0_3] 54 (0, 0)) (by (with_reducible repeat (first | refine blk_drewN ?_ _ | refine blk_drew ?_ | refine blk_alloc ?_ _)); exact BK608.out) hb); have n1_ := Aside0.mk (below_step (by repeat (first | (with_reducible first | exact HB.out | apply below_alloc | apply pw_below_drewN | apply below_drew1 | refine below_set ?_ GE608.out) | exact HB.out)) hb); clear BK608; clear HB; have BK608 := n0_; have HB := n1_; clear n0_ n1_; (try clear hb); (try clear hb2); (try clear hk); (try clear hi)))
        go_ret
        exact ⟨by first | rfl | (simp [errW_none, errW_some] <;> rfl) | (simp [*, errW_none, errW_some] <;> rfl), by repeat (first | (with_reducible first | exact HB.out | apply below_alloc | apply pw_below_drewN | apply below_drew1 | refine below_set ?_ GE608.out) | exact HB.out)⟩
      · replace c6 := Bool.eq_false_iff.mpr c6
        subst c6
        have H1 : (if 1 < (l0_3.length : Int) then ((impl_hasSymbol.f k ((rd_T54 l0_3 1).f0) ((rd_T54 l0_3 1).f1) ((rd_T54 l0_3 1).f2) ((rd_T54 l0_3 1).f3) a1).bind fun t612 => (some t612)) else (none)) = some r := by rw [if_neg (show ¬ (false = true) by decide)] at H; exact H
        clear H
        have H := H1
        clear H1
        by_cases c10 : 1 < (l0_3.length : Int)
        · rw [if_pos c10] at H
          have c10b0 : decide (1 < (l0_3.length : Int)) = true := decide_eq_true c10
          have c10b1 : decide (1 < l0_3.length) = true := decide_eq_true (by omega)
          clear c10
          replace H := Option.bind_eq_some_iff.mp H
          obtain ⟨t612, A110, H⟩ := H
          replace H : (some t612) = some r := H
          have A11 := Aside0.mk A110
          clear A110
          obtain rfl := Option.some.inj H
          go_enter Try.func72, Try.ntmps72
          go_wp2_with (first | ((with_reducible refine gate_dst (N := 2) rfl ?_); refine box_event ?hg (N := 2) ?hd (cs := #[.int .i64 a0_0, .int .i64 a0_1, .string a0_2, .slice A0_3 l0_3.length c0_3]) (t := 54) ?hr ?_; (case hd => rfl); (case hg => rfl); (case hr => first | (go_simp; done) | (go_simp; rfl)); intro gb608 hg w12 hbox hb; have n0_ := Aside0.mk (below_step (by repeat (first | (with_reducible first | exact HB.out | apply below_alloc | apply pw_below_drewN | apply below_drew1) | exact HB.out)) hb); have n1_ := Aside0.mk (hbox); have n2_ := Aside0.mk ((by rw [hg]; exact (below_size (by repeat (first | (with_reducible first | exact HB.out | apply below_alloc | apply pw_below_drewN | apply below_drew1) | exact HB.out))) : w.heap.size ≤ gb608)); have n3_ := Aside0.mk ((by rw [hg]; exact (below_size (by repeat (first | (with_reducible first | exact HB.out | apply below_alloc | apply pw_below_drewN | apply below_drew1) | exact HB.out))) : w.heap.size ≤ gb608)); clear HB; have HB := n0_; have BK608 := n1_; have GW608 := n2_; have GE608 := n3_; clear n0_ n1_ n2_ n3_; clear hb hbox hg; have hcz13_0 : w12.cell? ⟨gb608, 0, none⟩ = some (.int .i64 a0_0) := (blk_cell BK608.out 0).trans rfl; have hcz13_1 : w12.cell? ⟨gb608, 1, none⟩ = some (.int .i64 a0_1) := (blk_cell BK608.out 1).trans rfl; have hcz13_2 : w12.cell? ⟨gb608, 2, none⟩ = some (.string a0_2) := (blk_cell BK608.out 2).trans rfl; have hcz13_3 : w12.cell? ⟨gb608, 3, none⟩ = some (.slice A0_3 l0_3.length c0_3) := (blk_cell BK608.out 3).trans rfl; have hfz13_0 := blk_frozen BK608.out 0; have hfz13_1 := blk_frozen BK608.out 1; have hfz13_2 := blk_frozen BK608.out 2; have hfz13_3 := blk_frozen BK608.out 3; have p609 : 0 ≤ (0 : Int) := (by omega); have q609 : 0 < (l0_3.length : Int) := of_decide_eq_true (by first | (with_reducible assumption) | assumption); obtain ⟨ad609, A609_3, c609_3, e609, hx609_0, hx609_1, hx609_2, hx609_3, hl609_3, hi609_3⟩ := at_T54 HR0_3.out 0 p609 q609; cases e609; have qi609 : (0 < l0_3.length) = True := eq_true (by omega); (try rw [show ((0 : Int)).toNat = 0 from rfl] at hx609_0); (try rw [show 0 * 4 = 0 from rfl] at hx609_0); (try rw [Addr.add_zero'] at hx609_0); (try rw [show ((0 : Int)).toNat = 0 from rfl] at hx609_1); (try rw [show 0 * 4 = 0 from rfl] at hx609_1); (try rw [Addr.add_zero'] at hx609_1); (try rw [show ((0 : Int)).toNat = 0 from rfl] at hx609_2); (try rw [show 0 * 4 = 0 from rfl] at hx609_2); (try rw [Addr.add_zero'] at hx609_2); (try rw [show ((0 : Int)).toNat = 0 from rfl] at hx609_3); (try rw [show 0 * 4 = 0 from rfl] at hx609_3); (try rw [Addr.add_zero'] at hx609_3); replace hx609_0 := (HB.out.cell (World.block_lt_of_cell? w _ hx609_0)).trans hx609_0; replace hx609_1 := (HB.out.cell (World.block_lt_of_cell? w _ hx609_1)).trans hx609_1; replace hx609_2 := (HB.out.cell (World.block_lt_of_cell? w _ hx609_2)).trans hx609_2; replace hx609_3 := (HB.out.cell (World.block_lt_of_cell? w _ hx609_3)).trans hx609_3; have HR609_3 := Aside0.mk hi609_3; have HC609_3 := Aside0.mk hl609_3; clear hi609_3 hl609_3; replace p609 := eq_true p609; replace q609 := eq_true q609) | ((with_reducible refine gate_callee (f := 72) rfl ?_); refine goesL_ (some 13) rfl rfl Try.func72 (by kernel_rfl) rfl #[.agg #[.int .i64 ((rd_T54 l0_3 0).f0), .int .i64 ((rd_T54 l0_3 0).f1), .string ((rd_T54 l0_3 0).f2), .slice A609_3 ((rd_T54 l0_3 0).f3).length c609_3], .string a1] rfl (by (try simp only [List.map_toArray, List.map_cons, List.map_nil]); first | done | rfl | (simp only [List.length_drop, List.length_take]; rfl)) ?_; (with_reducible refine (ih k (by omega) ((rd_T54 l0_3 0).f0) ((rd_T54 l0_3 0).f1) ((rd_T54 l0_3 0).f2) _ _ ((rd_T54 l0_3 0).f3) a1 false _ ?side1 ?side2 A5.out).mono ?_); (case side1 => repeat (first | exact (Kd.C_below HR609_3.out HB.out) | (with_reducible refine Kd.C_alloc ?_ _) | (with_reducible refine Kd.C_drewN ?_ _) | (with_reducible refine Kd.C_drew ?_))); (case side2 => exact HC609_3.out); rintro e w14 ⟨rfl, hb⟩; refine ⟨_, rfl, ?_⟩; have n0_ := Aside0.mk (blk_below (g := gb608) (o := .cells #[.int .i64 a0_0, .int .i64 a0_1, .string a0_2, .slice (some ad609) l0_3.length c0_3] 54 (0, 0)) (by (with_reducible repeat (first | refine blk_drewN ?_ _ | refine blk_drew ?_ | refine blk_alloc ?_ _)); exact BK608.out) hb); have n1_ := Aside0.mk (below_step (by repeat (first | (with_reducible first | exact HB.out | apply below_alloc | apply pw_below_drewN | apply below_drew1 | refine below_set ?_ GE608.out) | exact HB.out)) hb); clear BK608; clear HB; have BK608 := n0_; have HB := n1_; clear n0_ n1_; (try clear hb); (try clear hb2); (try clear hk); (try clear hi); have hcz15_0 : w14.cell? ⟨gb608, 0, none⟩ = some (.int .i64 a0_0) := (blk_cell BK608.out 0).trans rfl; have hcz15_1 : w14.cell? ⟨gb608, 1, none⟩ = some (.int .i64 a0_1) := (blk_cell BK608.out 1).trans rfl; have hcz15_2 : w14.cell? ⟨gb608, 2, none⟩ = some (.string a0_2) := (blk_cell BK608.out 2).trans rfl; have hcz15_3 : w14.cell? ⟨gb608, 3, none⟩ = some (.slice (some ad609) l0_3.length c0_3) := (blk_cell BK608.out 3).trans rfl; have hfz15_0 := blk_frozen BK608.out 0; have hfz15_1 := blk_frozen BK608.out 1; have hfz15_2 := blk_frozen BK608.out 2; have hfz15_3 := blk_frozen BK608.out 3; have p611 : 0 ≤ (1 : Int) := (by omega); have q611 : 1 < (l0_3.length : Int) := of_decide_eq_true (by first | (with_reducible assumption) | assumption); obtain ⟨ad611, A611_3, c611_3, e611, hx611_0, hx611_1, hx611_2, hx611_3, hl611_3, hi611_3⟩ := at_T54 HR0_3.out 1 p611 q611; obtain rfl : ad609 = ad611 := (by injection e611); (try simp only [show (1 : Int).toNat = 1 from rfl, Nat.reduceMul, Nat.reduceEqDiff, Go.Addr.add, ↓reduceIte] at hx611_0); (try simp only [show (1 : Int).toNat = 1 from rfl, Nat.reduceMul, Nat.reduceEqDiff, Go.Addr.add, ↓reduceIte] at hx611_1); (try simp only [show (1 : Int).toNat = 1 from rfl, Nat.reduceMul, Nat.reduceEqDiff, Go.Addr.add, ↓reduceIte] at hx611_2); (try simp only [show (1 : Int).toNat = 1 from rfl, Nat.reduceMul, Nat.reduceEqDiff, Go.Addr.add, ↓reduceIte] at hx611_3); have qi611 : (1 < l0_3.length) = True := eq_true (by omega); (try rw [show ((1 : Int)).toNat = 1 from rfl] at hx611_0); (try rw [show 1 * 4 = 4 from rfl] at hx611_0); (try rw [show ((1 : Int)).toNat = 1 from rfl] at hx611_1); (try rw [show 1 * 4 = 4 from rfl] at hx611_1); (try rw [show ((1 : Int)).toNat = 1 from rfl] at hx611_2); (try rw [show 1 * 4 = 4 from rfl] at hx611_2); (try rw [show ((1 : Int)).toNat = 1 from rfl] at hx611_3); (try rw [show 1 * 4 = 4 from rfl] at hx611_3); replace hx611_0 := (HB.out.cell (World.block_lt_of_cell? w _ hx611_0)).trans hx611_0; replace hx611_1 := (HB.out.cell (World.block_lt_of_cell? w _ hx611_1)).trans hx611_1; replace hx611_2 := (HB.out.cell (World.block_lt_of_cell? w _ hx611_2)).trans hx611_2; replace hx611_3 := (HB.out.cell (World.block_lt_of_cell? w _ hx611_3)).trans hx611_3; have HR611_3 := Aside0.mk hi611_3; have HC611_3 := Aside0.mk hl611_3; clear hi611_3 hl611_3; replace p611 := eq_true p611; replace q611 := eq_true q611) | (go_at_call 72; (with_reducible refine (ih k (by omega) ((rd_T54 l0_3 1).f0) ((rd_T54 l0_3 1).f1) ((rd_T54 l0_3 1).f2) _ _ ((rd_T54 l0_3 1).f3) a1 t612 _ ?side1 ?side2 A11.out).mono ?_); (case side1 => repeat (first | exact (Kd.C_below HR611_3.out HB.out) | (with_reducible refine Kd.C_alloc ?_ _) | (with_reducible refine Kd.C_drewN ?_ _) | (with_reducible refine Kd.C_drew ?_))); (case side2 => exact HC611_3.out); rintro e w16 ⟨rfl, hb⟩; have n0_ := Aside0.mk (blk_below (g := gb608) (o := .cells #[.int .i64 a0_0, .int .i64 a0_1, .string a0_2, .slice (some ad609) l0_3.length c0_3] 54 (0, 0)) (by (with_reducible repeat (first | refine blk_drewN ?_ _ | refine blk_drew ?_ | refine blk_alloc ?_ _)); exact BK608.out) hb); have n1_ := Aside0.mk (below_step (by repeat (first | (with_reducible first | exact HB.out | apply below_alloc | apply pw_below_drewN | apply below_drew1 | refine below_set ?_ GE608.out) | exact HB.out)) hb); clear BK608; clear HB; have BK608 := n0_; have HB := n1_; clear n0_ n1_; (try clear hb); (try clear hb2); (try clear hk); (try clear hi)))
          go_ret
          exact ⟨by first | rfl | (simp [errW_none, errW_some] <;> rfl) | (simp [*, errW_none, errW_some] <;> rfl), by repeat (first | (with_reducible first | exact HB.out | apply below_alloc | apply pw_below_drewN | apply below_drew1 | refine below_set ?_ GE608.out) | exact HB.out)⟩
        · rw [if_neg c10] at H
          exact absurd H (by simp)
    · rw [if_neg c4] at H
      exact absurd H (by simp)
  · rw [if_neg c3] at H
    have c3b0 : (a0_0 == 4) = false := beq_eq_false_iff_ne.mpr c3
    have c3b1 : (a0_0 != 4) = true := bne_iff_ne.mpr c3
    by_cases c17 : a0_0 = 2
    · rw [if_pos c17] at H
      have c17b0 : (a0_0 == 2) = true := beq_iff_eq.mpr c17
      have c17b1 : (a0_0 != 2) = false := bne_eq_false_iff_eq.mpr c17
      clear c17
      obtain rfl := Option.some.inj H
      go_enter Try.func72, Try.ntmps72
      go_wp2_with (first | ((with_reducible refine gate_dst (N := 2) rfl ?_); refine box_event ?hg (N := 2) ?hd (cs := #[.int .i64 a0_0, .int .i64 a0_1, .string a0_2, .slice A0_3 l0_3.length c0_3]) (t := 54) ?hr ?_; (case hd => rfl); (case hg => rfl); (case hr => first | (go_simp; done) | (go_simp; rfl)); intro gb608 hg w18 hbox hb; have n0_ := Aside0.mk (below_step (by repeat (first | (with_reducible first | exact HB.out | apply below_alloc | apply pw_below_drewN | apply below_drew1) | exact HB.out)) hb); have n1_ := Aside0.mk (hbox); have n2_ := Aside0.mk ((by rw [hg]; exact (below_size (by repeat (first | (with_reducible first | exact HB.out | apply below_alloc | apply pw_below_drewN | apply below_drew1) | exact HB.out))) : w.heap.size ≤ gb608)); have n3_ := Aside0.mk ((by rw [hg]; exact (below_size (by repeat (first | (with_reducible first | exact HB.out | apply below_alloc | apply pw_below_drewN | apply below_drew1) | exact HB.out))) : w.heap.size ≤ gb608)); clear HB; have HB := n0_; have BK608 := n1_; have GW608 := n2_; have GE608 := n3_; clear n0_ n1_ n2_ n3_; clear hb hbox hg; have hcz19_0 : w18.cell? ⟨gb608, 0, none⟩ = some (.int .i64 a0_0) := (blk_cell BK608.out 0).trans rfl; have hcz19_1 : w18.cell? ⟨gb608, 1, none⟩ = some (.int .i64 a0_1) := (blk_cell BK608.out 1).trans rfl; have hcz19_2 : w18.cell? ⟨gb608, 2, none⟩ = some (.string a0_2) := (blk_cell BK608.out 2).trans rfl; have hcz19_3 : w18.cell? ⟨gb608, 3, none⟩ = some (.slice A0_3 l0_3.length c0_3) := (blk_cell BK608.out 3).trans rfl; have hfz19_0 := blk_frozen BK608.out 0; have hfz19_1 := blk_frozen BK608.out 1; have hfz19_2 := blk_frozen BK608.out 2; have hfz19_3 := blk_frozen BK608.out 3))
      go_ret
      exact ⟨by first | rfl | (simp [errW_none, errW_some] <;> rfl) | (simp [*, errW_none, errW_some] <;> rfl), by repeat (first | (with_reducible first | exact HB.out | apply below_alloc | apply pw_below_drewN | apply below_drew1 | refine below_set ?_ GE608.out) | exact HB.out)⟩
    · rw [if_neg c17] at H
      have c17b0 : (a0_0 == 2) = false := beq_eq_false_iff_ne.mpr c17
      have c17b1 : (a0_0 != 2) = true := bne_iff_ne.mpr c17
      obtain rfl := Option.some.inj H
      go_enter Try.func72, Try.ntmps72
      go_wp2_with (first | ((with_reducible refine gate_dst (N := 2) rfl ?_); refine box_event ?hg (N := 2) ?hd (cs := #[.int .i64 a0_0, .int .i64 a0_1, .string a0_2, .slice A0_3 l0_3.length c0_3]) (t := 54) ?hr ?_; (case hd => rfl); (case hg => rfl); (case hr => first | (go_simp; done) | (go_simp; rfl)); intro gb608 hg w20 hbox hb; have n0_ := Aside0.mk (below_step (by repeat (first | (with_reducible first | exact HB.out | apply below_alloc | apply pw_below_drewN | apply below_drew1) | exact HB.out)) hb); have n1_ := Aside0.mk (hbox); have n2_ := Aside0.mk ((by rw [hg]; exact (below_size (by repeat (first | (with_reducible first | exact HB.out | apply below_alloc | apply pw_below_drewN | apply below_drew1) | exact HB.out))) : w.heap.size ≤ gb608)); have n3_ := Aside0.mk ((by rw [hg]; exact (below_size (by repeat (first | (with_reducible first | exact HB.out | apply below_alloc | apply pw_below_drewN | apply below_drew1) | exact HB.out))) : w.heap.size ≤ gb608)); clear HB; have HB := n0_; have BK608 := n1_; have GW608 := n2_; have GE608 := n3_; clear n0_ n1_ n2_ n3_; clear hb hbox hg; have hcz21_0 : w20.cell? ⟨gb608, 0, none⟩ = some (.int .i64 a0_0) := (blk_cell BK608.out 0).trans rfl; have hcz21_1 : w20.cell? ⟨gb608, 1, none⟩ = some (.int .i64 a0_1) := (blk_cell BK608.out 1).trans rfl; have hcz21_2 : w20.cell? ⟨gb608, 2, none⟩ = some (.string a0_2) := (blk_cell BK608.out 2).trans rfl; have hcz21_3 : w20.cell? ⟨gb608, 3, none⟩ = some (.slice A0_3 l0_3.length c0_3) := (blk_cell BK608.out 3).trans rfl; have hfz21_0 := blk_frozen BK608.out 0; have hfz21_1 := blk_frozen BK608.out 1; have hfz21_2 := blk_frozen BK608.out 2; have hfz21_3 := blk_frozen BK608.out 3))
      go_ret
      exact ⟨by first | rfl | (simp [errW_none, errW_some] <;> rfl) | (simp [*, errW_none, errW_some] <;> rfl), by repeat (first | (with_reducible first | exact HB.out | apply below_alloc | apply pw_below_drewN | apply below_drew1 | refine below_set ?_ GE608.out) | exact HB.out)⟩

end Go.Proofs.Ytaoabfhabejmgaa.X
