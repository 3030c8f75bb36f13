/- l02Vars of the reference, by hand: a list that is handed down a tree; its contract in the printer's own form. -/
import Derived.Test.YtkpaomcnjnojcaaX0
import Derived.Test.YtkpaomcnjnojcaaX193
namespace Go.Proofs.Ytkpaomcnjnojcaa.X
open Go.RowKit Go.Proofs.YtkpaomcnjnojcaaW.PrintWords Go.Proofs.YtkpaomcnjnojcaaW.PrintLast Go.Proofs.YtkpaomcnjnojcaaW.PrintMore
set_option linter.unusedVariables false
set_option linter.unusedSimpArgs false
mutual
def spec_l02Vars.l0 : Nat → List S29 → List Int → Int → Option (List Int)
  | 0, _, _, _ => none
  | k + 1, l, acc, i => if i < (l.length : Int) then (if 0 ≤ i then (spec_l02Vars.f k (rd_T29 l i).f0 (rd_T29 l i).f1 (rd_T29 l i).f2 (rd_T29 l i).f3 acc).bind fun t => spec_l02Vars.l0 k l t (wrap64 (i + 1)) else none) else some acc
def spec_l02Vars.f : Nat → Int → Int → ByteArray → List S29 → List Int → Option (List Int)
  | 0, _, _, _, _, _ => none
  | k + 1, a0, a1, _, l, acc => if a0 = 1 then spec_l02Insert.f k acc a1 else spec_l02Vars.l0 k l acc 0
end
theorem spec_l02Vars.mono_l : ∀ k, (∀ l acc i, LeO (spec_l02Vars.l0 k l acc i) (spec_l02Vars.l0 (k + 1) l acc i)) ∧ (∀ a0 a1 a2 l acc, LeO (spec_l02Vars.f k a0 a1 a2 l acc) (spec_l02Vars.f (k + 1) a0 a1 a2 l acc))
  | 0 => ⟨fun _ _ _ r h => by simp [spec_l02Vars.l0] at h, fun _ _ _ _ _ r h => by simp [spec_l02Vars.f] at h⟩
  | k + 1 => by
    obtain ⟨ih0, ih1⟩ := spec_l02Vars.mono_l k
    refine ⟨fun l acc i => ?_, fun a0 a1 a2 l acc => ?_⟩
    · rw [spec_l02Vars.l0, spec_l02Vars.l0]
      exact LeO.ite (LeO.ite (LeO.bind (ih1 _ _ _ _ _) (fun _ => ih0 _ _ _)) (LeO.refl _)) (LeO.refl _)
    · rw [spec_l02Vars.f, spec_l02Vars.f]
      exact LeO.ite (spec_l02Insert.mono _ _ _) (ih0 _ _ _)
theorem spec_l02Vars.mono : ∀ a0 a1 a2 a3 a4 k, LeO (spec_l02Vars.f k a0 a1 a2 a3 a4) (spec_l02Vars.f (k + 1) a0 a1 a2 a3 a4) := fun a0 a1 a2 a3 a4 k => (spec_l02Vars.mono_l k).2 a0 a1 a2 a3 a4
set_option maxHeartbeats 8000000 in
set_option maxRecDepth 100000 in
theorem spec_l02Vars.calls (k : Nat) : ∀ (P0_ : Nat → Prop) (a0 a1 : Int) (a2 : ByteArray) (A : Option Addr) (c : Nat) (l : List S29) (u0 : Value) (l1 : List Int) (r : List Int) (w0 w : World) (hB : Below w0.heap.size w0 w) (hr : Kd.C k29 w0 A l.length l) (hc : l.length ≤ c) (ho : Kd.R (Kd.int .i64) 3 w w0.heap.size P0_ u0 l1) (h : spec_l02Vars.f k a0 a1 a2 l l1 = some r),
    Calls Try.prog 119 #[.agg #[.int .i64 a0, .int .i64 a1, .string a2, .slice A l.length c], u0] w fun e w' => ∃ v_ : Value, e = .returned v_ ∧ Kd.R (Kd.int .i64) 3 w' w0.heap.size (fun k_ => (P0_ k_ ∨ w.heap.size ≤ k_)) v_ r ∧ Below w0.heap.size w0 w' ∧ Kept w w' (fun k_ => P0_ k_) := by
  induction k using Nat.strongRecOn with
  | _ k ih =>
  intro P0_ a0 a1 a2 A c l u0 l1 r w0 w hB hr hc ho h
  cases k with
  | zero => exact absurd h (by simp [spec_l02Vars.f])
  | succ k =>
  rw [spec_l02Vars.f] at h
  have hu := Try.underlying29
  have HR := Aside0.mk hr
  obtain ⟨A1, cc1, rfl⟩ := Kd.R_slice ho
  by_cases c1 : a0 = 1
  · rw [if_pos c1] at h
    have c1a : (a0 == 1) = true := beq_iff_eq.mpr c1
    clear c1
    go_enter Try.func119, Try.ntmps119
    go_wp2_with (first | ((with_reducible refine gate_dst (N := 2) rfl ?_); refine box_event ?hg (N := 2) ?hd (cs := #[.int .i64 a0, .int .i64 a1, .string a2, .slice A l.length c]) (t := 29) ?hr ?_; (case hd => rfl); (case hg => rfl); (case hr => first | (go_simp; done) | (go_simp; rfl)); intro gb hg w4 hbox hb; have H4 := Aside0.mk (hB.trans (hb.mono hB.size)); have K4 := Aside0.mk (Kept.of_below hb P0_); have R4 := Aside0.mk (Kd.R_below ho hb); have BK := Aside0.mk hbox; have HG := Aside0.mk hg; have BW := Aside0.mk hb; clear hb hbox hg; have hzw40 : w4.cell? ⟨gb, 0, none⟩ = some (.int .i64 a0) := (blk_cell BK.out 0).trans rfl; have hzw41 : w4.cell? ⟨gb, 1, none⟩ = some (.int .i64 a1) := (blk_cell BK.out 1).trans rfl; have hzw42 : w4.cell? ⟨gb, 2, none⟩ = some (.string a2) := (blk_cell BK.out 2).trans rfl; have hzw43 : w4.cell? ⟨gb, 3, none⟩ = some (.slice A l.length c) := (blk_cell BK.out 3).trans rfl) | (go_at_call 193; (refine (spec_l02Insert.calls k P0_ _ l1 a1 r w0 _ H4.out R4.out h).mono ?_); rintro e w5 ⟨v5, rfl, hR5, hB5, hK5⟩; have R5 := Aside0.mk hR5; have H5 := Aside0.mk hB5; have K5 := Aside0.mk hK5; clear hR5 hB5 hK5))
    go_ret
    exact ⟨_, rfl, Kd.R_mono R5.out (fun k_ hk => hk.imp_right (fun h_ => Nat.le_trans K4.out.1 h_)), H5.out, Kept.then_ K4.out K5.out (fun k_ h_ => .inl h_)⟩
  · rw [if_neg c1] at h
    have c1a : (a0 == 1) = false := beq_eq_false_iff_ne.mpr c1
    have A0 := Aside0.mk h
    clear h c1
    go_enter Try.func119, Try.ntmps119
    go_wp2_with (first | ((with_reducible refine gate_dst (N := 2) rfl ?_); refine box_event ?hg (N := 2) ?hd (cs := #[.int .i64 a0, .int .i64 a1, .string a2, .slice A l.length c]) (t := 29) ?hr ?_; (case hd => rfl); (case hg => rfl); (case hr => first | (go_simp; done) | (go_simp; rfl)); intro gb hg w4 hbox hb; have H4 := Aside0.mk (hB.trans (hb.mono hB.size)); have K4 := Aside0.mk (Kept.of_below hb P0_); have R4 := Aside0.mk (Kd.R_below ho hb); have BK := Aside0.mk hbox; have HG := Aside0.mk hg; have BW := Aside0.mk hb; clear hb hbox hg; have hzw40 : w4.cell? ⟨gb, 0, none⟩ = some (.int .i64 a0) := (blk_cell BK.out 0).trans rfl; have hzw41 : w4.cell? ⟨gb, 1, none⟩ = some (.int .i64 a1) := (blk_cell BK.out 1).trans rfl; have hzw42 : w4.cell? ⟨gb, 2, none⟩ = some (.string a2) := (blk_cell BK.out 2).trans rfl; have hzw43 : w4.cell? ⟨gb, 3, none⟩ = some (.slice A l.length c) := (blk_cell BK.out 3).trans rfl))
    obtain ⟨P1, hP1⟩ : ∃ P1 : Nat → Prop, P1 = fun k_ => (P0_ k_ ∧ k_ < w.heap.size) ∨ w.heap.size < k_ := ⟨_, rfl⟩
    have HP : Aside0 (¬ P1 gb) := ⟨by rw [hP1, HG.out]; intro h_; rcases h_ with h_ | h_ <;> omega⟩
    have HS : Aside0 (∀ k_, P1 k_ → P0_ k_ ∨ w.heap.size ≤ k_) := ⟨by rw [hP1]; intro k_ h_; rcases h_ with h_ | h_; exact .inl h_.1; exact .inr (by omega)⟩
    have HN : Aside0 (∀ k_, w.heap.size < k_ → P1 k_) := ⟨by rw [hP1]; intro k_ h_; exact .inr h_⟩
    have R1 : Aside0 (Kd.R (Kd.int .i64) 3 w4 w0.heap.size P1 (.slice A1 l1.length cc1) l1) := ⟨Kd.R_below (Kd.R_mono (Kd.R_bound ho) (fun k_ hk => by rw [hP1]; exact .inl ⟨hk.1, hk.2.2.1⟩)) BW.out⟩
    clear hP1
    go_loopg [1, 17] k (fun kq v1 v17 w' => ∃ (u : Value) (acc : List Int) (i : Int), v1 = u ∧ v17 = .int .i64 i ∧ Aside0 (spec_l02Vars.l0 kq l acc i = some r) ∧ Aside0 (kq ≤ k) ∧ Aside0 (Kd.R (Kd.int .i64) 3 w' w0.heap.size P1 u acc) ∧ Aside0 (w'.heap[gb]? = some (.cells #[.int .i64 a0, .int .i64 a1, .string a2, .slice A l.length c] 29 (0, 0))) ∧ Aside0 (Below w0.heap.size w0 w') ∧ Aside0 (Kept w w' P0_))
    case atStart => exact ⟨_, l1, 0, rfl, rfl, A0, ⟨Nat.le_refl _⟩, R1, BK, H4, K4⟩
    case round =>
      clear A0
      obtain ⟨u, acc, i, rfl, rfl, HA, HL, HR1, HBK, H0, HK⟩ := hrel
      cases gk with
      | zero => exact absurd HA.out (by simp [spec_l02Vars.l0])
      | succ k1 =>
        have H := HA.out
        clear HA
        rw [spec_l02Vars.l0] at H
        by_cases c2 : i < (l.length : Int)
        · rw [if_pos c2] at H
          by_cases c3 : 0 ≤ i
          · rw [if_pos c3] at H
            obtain ⟨t, ht, H⟩ := Option.bind_eq_some_iff.mp H
            have At := Aside0.mk ht
            have H' := Aside0.mk H
            clear ht H
            have c2b : decide (i < (l.length : Int)) = true := decide_eq_true c2
            obtain ⟨ad, Ax, cx, e1, hx_0, hx_1, hx_2, hx_3, hlx, hix⟩ := at_T29 HR.out i c3 c2
            cases e1
            replace hx_0 := (H0.out.cell (World.block_lt_of_cell? w0 _ hx_0)).trans hx_0
            replace hx_1 := (H0.out.cell (World.block_lt_of_cell? w0 _ hx_1)).trans hx_1
            replace hx_2 := (H0.out.cell (World.block_lt_of_cell? w0 _ hx_2)).trans hx_2
            replace hx_3 := (H0.out.cell (World.block_lt_of_cell? w0 _ hx_3)).trans hx_3
            have HRx := Aside0.mk hix
            have HCx := Aside0.mk hlx
            clear hix hlx
            replace c3 := eq_true c3
            replace c2 := eq_true c2
            go_wp2_with (go_at_call 119; refine (ih k1 (by have := HL.out; omega) P1 (rd_T29 l i).f0 (rd_T29 l i).f1 (rd_T29 l i).f2 Ax cx (rd_T29 l i).f3 _ acc t w0 _ ?s1 HRx.out HCx.out ?s2 At.out).mono ?_; (case s1 => exact H0.out.alloc H0.out.size _); (case s2 => exact Kd.R_alloc HR1.out _); rintro e w7 ⟨v7, rfl, hR7, hB7, hK7⟩; have BK7 := Aside0.mk (blk_kept (blk_alloc HBK.out _) hK7 HP.out); have H7 := Aside0.mk hB7; have K7 := Aside0.mk (Kept.then_ (HK.out.alloc _) hK7 HS.out); have R7 := Aside0.mk (Kd.R_mono hR7 (fun k_ hk => hk.elim id (fun h_ => HN.out k_ (by have := blk_lt HBK.out; have := HG.out; have := Nat.le_trans (below_alloc (Below.refl _ _) _).size h_; omega)))); clear hR7 hB7 hK7)
            go_roundg k1
            case measure => have := HL.out; omega
            case rel => exact ⟨_, t, wrap64 (i + 1), rfl, rfl, H', ⟨by have := HL.out; omega⟩, R7, BK7, H7, K7⟩
          · rw [if_neg c3] at H
            exact absurd H (by simp)
        · rw [if_neg c2] at H
          have c2b : decide (i < (l.length : Int)) = false := decide_eq_false c2
          clear c2
          obtain rfl := Option.some.inj H
          clear H
          go_wp2
          go_ret
          exact ⟨_, rfl, Kd.R_mono HR1.out (fun k_ hk => HS.out k_ hk), H0.out, HK.out⟩
end Go.Proofs.Ytkpaomcnjnojcaa.X
