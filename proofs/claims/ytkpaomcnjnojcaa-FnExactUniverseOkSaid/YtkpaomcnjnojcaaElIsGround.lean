/- isGround, by hand: a variable that a closure clears; its contract in the printer's own form. -/
import Derived.Test.YtkpaomcnjnojcaaEachVar
namespace Go.Proofs.Ytkpaomcnjnojcaa.X
open Go.RowKit Go.Proofs.YtkpaomcnjnojcaaW.PrintWords Go.Proofs.YtkpaomcnjnojcaaW.PrintLast Go.Proofs.YtkpaomcnjnojcaaW.PrintMore
set_option linter.unusedVariables false
set_option linter.unusedSimpArgs false
def impl_isGround.f (k : Nat) (a0 a1 : Int) (a2 : ByteArray) (l : List S29) : Option Bool := impl_eachVar.f (fun _ _ => some false) k true a0 a1 l
theorem impl_eachVar.mono {σ : Type} (st : σ → Int → Option σ) : ∀ k s a0 a1 l, LeO (impl_eachVar.f st k s a0 a1 l) (impl_eachVar.f st (k + 1) s a0 a1 l)
  | 0 => fun _ _ _ _ r h => by simp [impl_eachVar.f] at h
  | k + 1 => by
    intro s a0 a1 l
    have ih := impl_eachVar.mono st k
    rw [impl_eachVar.f, impl_eachVar.f]
    exact LeO.ite (LeO.refl _) (LeO.ite (LeO.ite (LeO.bind (ih _ _ _ _) (fun _ => LeO.ite (ih _ _ _ _) (LeO.refl _))) (LeO.refl _)) (LeO.refl _))
theorem impl_isGround.mono : ∀ a0 a1 a2 a3 k, LeO (impl_isGround.f k a0 a1 a2 a3) (impl_isGround.f (k + 1) a0 a1 a2 a3) := by
  intro a0 a1 a2 a3 k
  unfold impl_isGround.f
  exact impl_eachVar.mono _ _ _ _ _ _
set_option maxHeartbeats 2000000 in
set_option maxRecDepth 100000 in
theorem impl_isGround_1.calls (g : Nat) (v : Int) (s : Bool) (w : World) (h : w.heap[g]? = some (.cells #[.bool s] 4 (0, 0))) :
    Calls Try.prog 194 #[.int .i64 v, .pointer (some ⟨g, 0, none⟩)] w fun e w' => e = .returned (.tuple #[]) ∧ w' = w.setCell ⟨g, 0, none⟩ (.bool false) := by
  have hc := cell_of_one h
  have hf := free_of_one h
  go_enter Try.func194, Try.ntmps194
  go_wp2
  go_end0
  exact ⟨rfl, rfl⟩
theorem impl_isGround.clo (g : Nat) : Clo (fun b => b = g) (fun w (s : Bool) => w.heap[g]? = some (.cells #[.bool s] 4 (0, 0))) (fun _ _ => some false) 194 #[.pointer (some ⟨g, 0, none⟩)] where
  enters := ⟨_, Try.func194, by kernel_rfl, rfl⟩
  lt := fun w s h b hb => by subst hb; exact blk_lt h
  stable := fun w w' s h hb => blk_below h hb
  call := fun w s v r h hr => by
    obtain rfl := Option.some.inj hr
    refine (impl_isGround_1.calls g v s w h).mono ?_
    rintro e w' ⟨rfl, rfl⟩
    exact ⟨rfl, ⟨rfl, rfl, rfl, by simp [World.setCell], fun k _ hk => Below.heap_setCell _ _ _ _ hk⟩, one_setCell h⟩
set_option maxHeartbeats 8000000 in
set_option maxRecDepth 100000 in
theorem impl_isGround.calls (k : Nat) (a0 a1 : Int) (a2 : ByteArray) (A : Option Addr) (c : Nat) (l : List S29) (r : Bool) (w : World) (hr : Kd.C k29 w A l.length l) (hc : l.length ≤ c) (h : impl_isGround.f k a0 a1 a2 l = some r) :
    Calls Try.prog 120 #[.agg #[.int .i64 a0, .int .i64 a1, .string a2, .slice A l.length c]] w fun e w' => e = .returned (.bool r) ∧ Below w.heap.size w w' := by
  have hu := Try.underlying29
  have hmf : ∀ (fn : Fn) (first cap : Array Value) (w : World), (Instr.makeFunc fn first cap).run Try.prog w = .ok (.func fn first cap) w := fun _ _ _ _ => rfl
  go_enter Try.func120, Try.ntmps120
  go_wp2_with (first | ((with_reducible refine gate_dst (N := 1) rfl ?_); refine box_event ?hg (N := 1) ?hd (cs := #[.int .i64 a0, .int .i64 a1, .string a2, .slice A l.length c]) (t := 29) ?hr ?_; (case hd => rfl); (case hg => rfl); (case hr => first | (go_simp; done) | (go_simp; rfl)); intro gb hg w4 hbox hb; have BK := Aside0.mk hbox; have HB := Aside0.mk hb; have HG := Aside0.mk hg; clear hb hbox hg; have hzw40 : w4.cell? ⟨gb, 0, none⟩ = some (.int .i64 a0) := (blk_cell BK.out 0).trans rfl; have hzw41 : w4.cell? ⟨gb, 1, none⟩ = some (.int .i64 a1) := (blk_cell BK.out 1).trans rfl; have hzw42 : w4.cell? ⟨gb, 2, none⟩ = some (.string a2) := (blk_cell BK.out 2).trans rfl; have hzw43 : w4.cell? ⟨gb, 3, none⟩ = some (.slice A l.length c) := (blk_cell BK.out 3).trans rfl) | ((with_reducible refine gate_dst (N := 3) rfl ?_); refine box_event ?hg (N := 3) ?hd (cs := #[.bool false]) (t := 4) ?hr ?_; (case hd => rfl); (case hg => rfl); (case hr => first | (go_simp; done) | (go_simp; rfl)); intro g2 hg w5 hbox hb; have BK2 := Aside0.mk hbox; have BK5 := Aside0.mk (blk_below BK.out hb); have HB5 := Aside0.mk (below_step HB.out hb); have NE := Aside0.mk (show gb ≠ g2 from fun e => by have := blk_lt BK.out; omega); have GE := Aside0.mk (show w.heap.size ≤ g2 from by have := HB.out.size; omega); have hc2 := cell_of_one hbox; have hf2 := free_of_one hbox; clear hb hbox hg) | ((with_reducible refine gate_store (p := 3) rfl ?_); refine store_event ?hg (w1 := w5.setCell ⟨g2, 0, none⟩ (.bool true)) rfl ?hN ?hr ?_; (case hg => rfl); (case hN => rfl); (case hr => first | (go_simp; done) | (go_simp; rfl)); intro w6 hw; have BK26 := Aside0.mk (show w6.heap[g2]? = some (.cells #[.bool true] 4 (0, 0)) from by rw [hw]; exact one_setCell BK2.out); have BK6 := Aside0.mk (show w6.heap[gb]? = some (.cells #[.int .i64 a0, .int .i64 a1, .string a2, .slice A l.length c] 29 (0, 0)) from by rw [hw]; exact (Below.heap_setCell _ _ _ _ NE.out).trans BK5.out); have HB6 := Aside0.mk (show Below w.heap.size w w6 from by rw [hw]; exact below_set HB5.out GE.out); clear hw hc2 hf2; have hzw60 : w6.cell? ⟨gb, 0, none⟩ = some (.int .i64 a0) := (blk_cell BK6.out 0).trans rfl; have hzw61 : w6.cell? ⟨gb, 1, none⟩ = some (.int .i64 a1) := (blk_cell BK6.out 1).trans rfl; have hzw62 : w6.cell? ⟨gb, 2, none⟩ = some (.string a2) := (blk_cell BK6.out 2).trans rfl; have hzw63 : w6.cell? ⟨gb, 3, none⟩ = some (.slice A l.length c) := (blk_cell BK6.out 3).trans rfl) | (go_at_call 137; (refine (impl_eachVar.calls (impl_isGround.clo g2) w (fun b hb => by subst hb; exact GE.out) k true a0 a1 a2 A c l r _ HB6.out hr hc BK26.out h).mono ?_); rintro e w7 ⟨rfl, hk, hi⟩; have HB7 := Aside0.mk (HB6.out.trans (hk.below HB6.out.size (fun b hb => by subst hb; exact GE.out))); have hc7 := cell_of_one hi; clear hk hi))
  go_ret
  exact ⟨rfl, HB7.out⟩
end Go.Proofs.Ytkpaomcnjnojcaa.X
