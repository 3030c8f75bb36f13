/- IsGround of the reference, by hand: its contract in the printer's own form. -/
import Derived.Test.YtkpaomcnjnojcaaEl02Vars
import Derived.Test.YtkpaomcnjnojcaaX116
namespace Go.Proofs.Ytkpaomcnjnojcaa.X
open Go.RowKit Go.Proofs.YtkpaomcnjnojcaaW.PrintWords Go.Proofs.YtkpaomcnjnojcaaW.PrintLast Go.Proofs.YtkpaomcnjnojcaaW.PrintMore
set_option linter.unusedVariables false
set_option linter.unusedSimpArgs false
def spec_IsGround.f (k : Nat) (a0 a1 : Int) (a2 : ByteArray) (l : List S29) : Option Bool := (spec_TermOk.f k a0 a1 a2 l).bind fun t => if t = true then (spec_l02Vars.f k a0 a1 a2 l []).bind fun vs => some ((vs.length : Int) == 0) else some false
theorem spec_IsGround.mono : ∀ a0 a1 a2 a3 k, LeO (spec_IsGround.f k a0 a1 a2 a3) (spec_IsGround.f (k + 1) a0 a1 a2 a3) := by
  intro a0 a1 a2 a3 k
  unfold spec_IsGround.f
  exact LeO.bind (spec_TermOk.mono _ _ _ _ _) (fun _ => LeO.ite (LeO.bind (spec_l02Vars.mono _ _ _ _ _ _) (fun _ => LeO.refl _)) (LeO.refl _))
set_option maxHeartbeats 8000000 in
set_option maxRecDepth 100000 in
theorem spec_IsGround.calls (k : Nat) (a0 a1 : Int) (a2 : ByteArray) (A : Option Addr) (c : Nat) (l : List S29) (r : Bool) (w : World) (hr : Kd.C k29 w A l.length l) (hc : l.length ≤ c) (h : spec_IsGround.f k a0 a1 a2 l = some r) :
    Calls Try.prog 35 #[.agg #[.int .i64 a0, .int .i64 a1, .string a2, .slice A l.length c]] w fun e w' => e = .returned (.bool r) ∧ Below w.heap.size w w' := by
  have hu := Try.underlying29
  obtain ⟨t, ht, h⟩ := Option.bind_eq_some_iff.mp h
  have At := Aside0.mk ht
  clear ht
  cases t with
  | true =>
    rw [if_pos rfl] at h
    obtain ⟨vs, hv, h⟩ := Option.bind_eq_some_iff.mp h
    have Av := Aside0.mk hv
    clear hv
    obtain rfl := Option.some.inj h
    clear h
    go_enter Try.func35, Try.ntmps35
    go_wp2_with (first | ((with_reducible refine gate_dst (N := 1) rfl ?_); refine box_event ?hg (N := 1) ?hd (cs := #[.int .i64 a0, .int .i64 a1, .string a2, .slice A l.length c]) (t := 29) ?hr ?_; (case hd => rfl); (case hg => rfl); (case hr => first | (go_simp; done) | (go_simp; rfl)); intro gb hg w4 hbox hb; have BK := Aside0.mk hbox; have HB := Aside0.mk hb; clear hb hbox hg; have hzw40 : w4.cell? ⟨gb, 0, none⟩ = some (.int .i64 a0) := (blk_cell BK.out 0).trans rfl; have hfw40 := blk_frozen BK.out 0; have hzw41 : w4.cell? ⟨gb, 1, none⟩ = some (.int .i64 a1) := (blk_cell BK.out 1).trans rfl; have hfw41 := blk_frozen BK.out 1; have hzw42 : w4.cell? ⟨gb, 2, none⟩ = some (.string a2) := (blk_cell BK.out 2).trans rfl; have hfw42 := blk_frozen BK.out 2; have hzw43 : w4.cell? ⟨gb, 3, none⟩ = some (.slice A l.length c) := (blk_cell BK.out 3).trans rfl; have hfw43 := blk_frozen BK.out 3) | ((with_reducible refine gate_callee (f := 116) rfl ?_); refine goesL_ (some 4) rfl rfl Try.func116 (by kernel_rfl) rfl #[.agg #[.int .i64 a0, .int .i64 a1, .string a2, .slice A l.length c]] rfl (by (try simp only [List.map_toArray, List.map_cons, List.map_nil]); first | done | rfl) ?_; (refine (spec_TermOk.calls k a0 a1 a2 _ _ l true _ ?side1 ?side2 At.out).mono ?_); (case side1 => exact Kd.C_below hr HB.out); (case side2 => exact hc); rintro e w5 ⟨rfl, hb⟩; refine ⟨_, rfl, ?_⟩; have BK5 := Aside0.mk (blk_below BK.out hb); have HB5 := Aside0.mk (below_step HB.out hb); clear hb; have hzw50 : w5.cell? ⟨gb, 0, none⟩ = some (.int .i64 a0) := (blk_cell BK5.out 0).trans rfl; have hfw50 := blk_frozen BK5.out 0; have hzw51 : w5.cell? ⟨gb, 1, none⟩ = some (.int .i64 a1) := (blk_cell BK5.out 1).trans rfl; have hfw51 := blk_frozen BK5.out 1; have hzw52 : w5.cell? ⟨gb, 2, none⟩ = some (.string a2) := (blk_cell BK5.out 2).trans rfl; have hfw52 := blk_frozen BK5.out 2; have hzw53 : w5.cell? ⟨gb, 3, none⟩ = some (.slice A l.length c) := (blk_cell BK5.out 3).trans rfl; have hfw53 := blk_frozen BK5.out 3) | (go_at_call 119; refine (spec_l02Vars.calls k (fun _ => False) a0 a1 a2 A c l _ [] vs w _ HB5.out hr hc (Kd.R_nil _ _ _ _ _) Av.out).mono ?_; rintro e w6 ⟨v6, rfl, hR, hB6, hK⟩; obtain ⟨A6, c6, rfl⟩ := Kd.R_slice hR; have HB6 := Aside0.mk hB6; clear hR hB6 hK))
    go_ret
    exact ⟨by first | rfl | simp, HB6.out⟩
  | false =>
    rw [if_neg (by simp)] at h
    obtain rfl := Option.some.inj h
    clear h
    go_enter Try.func35, Try.ntmps35
    go_wp2_with (first | ((with_reducible refine gate_dst (N := 1) rfl ?_); refine box_event ?hg (N := 1) ?hd (cs := #[.int .i64 a0, .int .i64 a1, .string a2, .slice A l.length c]) (t := 29) ?hr ?_; (case hd => rfl); (case hg => rfl); (case hr => first | (go_simp; done) | (go_simp; rfl)); intro gb hg w4 hbox hb; have BK := Aside0.mk hbox; have HB := Aside0.mk hb; clear hb hbox hg; have hzw40 : w4.cell? ⟨gb, 0, none⟩ = some (.int .i64 a0) := (blk_cell BK.out 0).trans rfl; have hfw40 := blk_frozen BK.out 0; have hzw41 : w4.cell? ⟨gb, 1, none⟩ = some (.int .i64 a1) := (blk_cell BK.out 1).trans rfl; have hfw41 := blk_frozen BK.out 1; have hzw42 : w4.cell? ⟨gb, 2, none⟩ = some (.string a2) := (blk_cell BK.out 2).trans rfl; have hfw42 := blk_frozen BK.out 2; have hzw43 : w4.cell? ⟨gb, 3, none⟩ = some (.slice A l.length c) := (blk_cell BK.out 3).trans rfl; have hfw43 := blk_frozen BK.out 3) | ((with_reducible refine gate_callee (f := 116) rfl ?_); refine goesL_ (some 4) rfl rfl Try.func116 (by kernel_rfl) rfl #[.agg #[.int .i64 a0, .int .i64 a1, .string a2, .slice A l.length c]] rfl (by (try simp only [List.map_toArray, List.map_cons, List.map_nil]); first | done | rfl) ?_; (refine (spec_TermOk.calls k a0 a1 a2 _ _ l false _ ?side1 ?side2 At.out).mono ?_); (case side1 => exact Kd.C_below hr HB.out); (case side2 => exact hc); rintro e w5 ⟨rfl, hb⟩; refine ⟨_, rfl, ?_⟩; have BK5 := Aside0.mk (blk_below BK.out hb); have HB5 := Aside0.mk (below_step HB.out hb); clear hb; have hzw50 : w5.cell? ⟨gb, 0, none⟩ = some (.int .i64 a0) := (blk_cell BK5.out 0).trans rfl; have hfw50 := blk_frozen BK5.out 0; have hzw51 : w5.cell? ⟨gb, 1, none⟩ = some (.int .i64 a1) := (blk_cell BK5.out 1).trans rfl; have hfw51 := blk_frozen BK5.out 1; have hzw52 : w5.cell? ⟨gb, 2, none⟩ = some (.string a2) := (blk_cell BK5.out 2).trans rfl; have hfw52 := blk_frozen BK5.out 2; have hzw53 : w5.cell? ⟨gb, 3, none⟩ = some (.slice A l.length c) := (blk_cell BK5.out 3).trans rfl; have hfw53 := blk_frozen BK5.out 3))
    go_ret
    exact ⟨by first | rfl | simp, HB5.out⟩
end Go.Proofs.Ytkpaomcnjnojcaa.X
