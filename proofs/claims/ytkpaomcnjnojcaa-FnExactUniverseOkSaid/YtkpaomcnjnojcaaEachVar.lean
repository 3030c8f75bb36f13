/- eachVar with any closure that keeps to blocks of its own: a contract over an invariant. -/
import Derived.Test.YtkpaomcnjnojcaaBase
import Derived.Test.YtkpaomcnjnojcaaX0
namespace Go.Proofs.Ytkpaomcnjnojcaa.X
open Go.RowKit Go.Proofs.YtkpaomcnjnojcaaW.PrintWords Go.Proofs.YtkpaomcnjnojcaaW.PrintLast Go.Proofs.YtkpaomcnjnojcaaW.PrintMore
set_option linter.unusedVariables false
set_option linter.unusedSimpArgs false
/-- A call of a function value that the walk knows. -/
theorem goesV_ {P : Program} {ops : Array Oper} {Q : Exit → Act → World → Prop} {rest : List Oper} {oi : Oper} {a : Act} {w : World} (N : Option Tmp) (hd : oi.dst = N) (hg : oi.guard = none) {f : FuncId} {fn : Func} {c : Operand} {xs : Array Operand} {ts : Array TypeId} {caps : Array Value} (hf : P.funcs[f]? = some fn) (hname : (fn.name == "runtime.NumGoroutine") = false) (hb : fn.body.isSome = true) (args : Array Value)
    (hop : oi.op = .call { callee := .value c, args := xs, argTypes := ts }) (hc : a.eval c = .func (.func f) #[] caps) (hargs : xs.map a.eval = args)
    (h : Calls P f (args ++ caps) w fun e w' => ∃ v, e = .returned v ∧ wpList P ops Q rest (a.put N v) w') : wpList P ops Q (oi :: rest) a w := by
  refine wpList_plain hg fun K hK => ?_
  have he := enters_ hf hname hb (args ++ caps) w
  have hrun : (execOp a.eval oi).run P w = .ok (.enter f (args ++ caps)) w := by
    unfold execOp
    simp [hop, resolve, Deferred.ofValue, invoke, hc, hargs, he]
  unfold Oper.wp
  rw [hrun, Oper.upon_enter]
  refine h.mono fun e w2 hh => ?_
  obtain ⟨v, rfl, hk⟩ := hh
  subst hd
  exact hK _ _ hk
/-- Whatever was there, but for the blocks of F, is as it was. -/
structure Held (F : Nat → Prop) (w w' : World) : Prop where
  os : w'.os = w.os
  tape : w'.tape = w.tape
  output : w'.output = w.output
  size : w.heap.size ≤ w'.heap.size
  block : ∀ k, k < w.heap.size → ¬ F k → w'.heap[k]? = w.heap[k]?
theorem Held.refl (F : Nat → Prop) (w : World) : Held F w w := ⟨rfl, rfl, rfl, Nat.le_refl _, fun _ _ _ => rfl⟩
theorem Held.trans {F : Nat → Prop} {a b c : World} (h : Held F a b) (k : Held F b c) : Held F a c :=
  ⟨k.os.trans h.os, k.tape.trans h.tape, k.output.trans h.output, Nat.le_trans h.size k.size, fun i hi hn => (k.block i (Nat.lt_of_lt_of_le hi h.size) hn).trans (h.block i hi hn)⟩
theorem Held.of_below {F : Nat → Prop} {a b : World} (h : Below a.heap.size a b) : Held F a b := ⟨h.os, h.tape, h.output, h.size, fun i hi _ => h.block i hi⟩
theorem Held.below {F : Nat → Prop} {a b : World} {B : Nat} (h : Held F a b) (hB : B ≤ a.heap.size) (hF : ∀ i, F i → B ≤ i) : Below B a b :=
  ⟨h.os, h.tape, h.output, h.size, fun i hi => h.block i (Nat.lt_of_lt_of_le hi hB) (fun hf => absurd (hF i hf) (by omega))⟩
/-- A closure: what it captured lies in the blocks of F, and each call takes the state a step on. -/
structure Clo {σ : Type} (F : Nat → Prop) (I : World → σ → Prop) (st : σ → Int → Option σ) (f : FuncId) (caps : Array Value) : Prop where
  enters : ∃ fn : Func, Try.prog.funcs[f]? = some fn ∧ (fn.name == "runtime.NumGoroutine") = false ∧ fn.body.isSome = true
  lt : ∀ w s, I w s → ∀ b, F b → b < w.heap.size
  stable : ∀ w w' s, I w s → Below w.heap.size w w' → I w' s
  call : ∀ w s v r, I w s → st s v = some r → Calls Try.prog f (#[.int .i64 v] ++ caps) w fun e w' => e = .returned (.tuple #[]) ∧ Held F w w' ∧ I w' r
def impl_eachVar.f {σ : Type} (st : σ → Int → Option σ) : Nat → σ → Int → Int → List S29 → Option σ
  | 0, _, _, _, _ => none
  | k + 1, s, a0, a1, l => if a0 = 1 then st s a1 else if a0 = 4 then (if 0 < (l.length : Int) then (impl_eachVar.f st k s (rd_T29 l 0).f0 (rd_T29 l 0).f1 (rd_T29 l 0).f3).bind fun t => (if 1 < (l.length : Int) then impl_eachVar.f st k t (rd_T29 l 1).f0 (rd_T29 l 1).f1 (rd_T29 l 1).f3 else none) else none) else some s
/- The walk of eachVar. -/
set_option maxHeartbeats 8000000 in
set_option maxRecDepth 100000 in
theorem impl_eachVar.calls {σ : Type} {F : Nat → Prop} {I : World → σ → Prop} {st : σ → Int → Option σ} {f : FuncId} {caps : Array Value} (C : Clo F I st f caps) (w0 : World) (hF : ∀ b, F b → w0.heap.size ≤ b) (k : Nat) : ∀ (s : σ) (a0 a1 : Int) (a2 : ByteArray) (A : Option Addr) (c : Nat) (l : List S29) (r : σ) (w : World) (hb0 : Below w0.heap.size w0 w) (hr : Kd.C k29 w0 A l.length l) (hc : l.length ≤ c) (hi : I w s) (h : impl_eachVar.f st k s a0 a1 l = some r),
    Calls Try.prog 137 #[.agg #[.int .i64 a0, .int .i64 a1, .string a2, .slice A l.length c], .func (.func f) #[] caps] w fun e w' => e = .returned (.tuple #[]) ∧ Held F w w' ∧ I w' r := by
  obtain ⟨fn, hfn, hnm, hbd⟩ := C.enters
  induction k with
  | zero => intro s a0 a1 a2 A c l r w hb0 hr hc hi h; exact absurd h (by simp [impl_eachVar.f])
  | succ k ih =>
    intro s a0 a1 a2 A c l r w hb0 hr hc hi h
    rw [impl_eachVar.f] at h
    have hu := Try.underlying29
    have HR := Aside0.mk hr
    have HC := Aside0.mk hc
    by_cases c1 : a0 = 1
    · rw [if_pos c1] at h
      have c1a : (a0 == 1) = true := beq_iff_eq.mpr c1
      have c1b : (a0 == 4) = false := by rw [c1]; rfl
      clear c1
      go_enter Try.func137, Try.ntmps137
      go_wp2_with (first | ((with_reducible refine gate_dst (N := 2) rfl ?_); refine box_event ?hg (N := 2) ?hd (cs := #[.int .i64 a0, .int .i64 a1, .string a2, .slice A l.length c]) (t := 29) ?hr ?_; (case hd => rfl); (case hg => rfl); (case hr => first | (go_simp; done) | (go_simp; rfl)); intro gb hg w4 hbox hb; have H0 := Aside0.mk (hb0.trans (hb.mono hb0.size)); have HK := Aside0.mk (Held.of_below (F := F) hb); have HI := Aside0.mk (C.stable _ _ _ hi hb); have BK := Aside0.mk hbox; have HN := Aside0.mk (show ¬ F gb from fun hf => by have := C.lt _ _ hi _ hf; omega); clear hb hbox hg; have hzw40 : w4.cell? ⟨gb, 0, none⟩ = some (.int .i64 a0) := (blk_cell BK.out 0).trans rfl; have hzw41 : w4.cell? ⟨gb, 1, none⟩ = some (.int .i64 a1) := (blk_cell BK.out 1).trans rfl; have hzw42 : w4.cell? ⟨gb, 2, none⟩ = some (.string a2) := (blk_cell BK.out 2).trans rfl; have hzw43 : w4.cell? ⟨gb, 3, none⟩ = some (.slice A l.length c) := (blk_cell BK.out 3).trans rfl; have hfw40 := blk_frozen BK.out 0; have hfw41 := blk_frozen BK.out 1; have hfw42 := blk_frozen BK.out 2; have hfw43 := blk_frozen BK.out 3) | (refine goesV_ (some 10) rfl rfl (caps := caps) hfn hnm hbd #[.int .i64 a1] rfl (by first | rfl | go_simp) (by first | rfl | go_simp) ?_; refine (C.call _ s a1 r HI.out h).mono ?_; rintro e w5 ⟨rfl, hk, hi2⟩; refine ⟨_, rfl, ?_⟩; have HK5 := Aside0.mk (HK.out.trans hk); have HI5 := Aside0.mk hi2; have H05 := Aside0.mk (H0.out.trans (hk.below H0.out.size hF)); have BK5 := Aside0.mk ((hk.block gb (blk_lt BK.out) HN.out).trans BK.out); clear hk hi2; have hzw50 : w5.cell? ⟨gb, 0, none⟩ = some (.int .i64 a0) := (blk_cell BK5.out 0).trans rfl; have hzw51 : w5.cell? ⟨gb, 1, none⟩ = some (.int .i64 a1) := (blk_cell BK5.out 1).trans rfl; have hzw52 : w5.cell? ⟨gb, 2, none⟩ = some (.string a2) := (blk_cell BK5.out 2).trans rfl; have hzw53 : w5.cell? ⟨gb, 3, none⟩ = some (.slice A l.length c) := (blk_cell BK5.out 3).trans rfl; have hfw50 := blk_frozen BK5.out 0; have hfw51 := blk_frozen BK5.out 1; have hfw52 := blk_frozen BK5.out 2; have hfw53 := blk_frozen BK5.out 3))
      go_end0
      exact ⟨by first | rfl | simp, HK5.out, HI5.out⟩
    · rw [if_neg c1] at h
      have c1a : (a0 == 1) = false := beq_eq_false_iff_ne.mpr c1
      by_cases c2 : a0 = 4
      · rw [if_pos c2] at h
        have c2a : (a0 == 4) = true := beq_iff_eq.mpr c2
        by_cases h0 : 0 < (l.length : Int)
        · rw [if_pos h0] at h
          obtain ⟨t, ht, h⟩ := Option.bind_eq_some_iff.mp h
          by_cases h1 : 1 < (l.length : Int)
          · rw [if_pos h1] at h
            have At := Aside0.mk ht
            have Ar := Aside0.mk h
            clear ht h c1 c2
            go_enter Try.func137, Try.ntmps137
            go_wp2_with (first | ((with_reducible refine gate_dst (N := 2) rfl ?_); refine box_event ?hg (N := 2) ?hd (cs := #[.int .i64 a0, .int .i64 a1, .string a2, .slice A l.length c]) (t := 29) ?hr ?_; (case hd => rfl); (case hg => rfl); (case hr => first | (go_simp; done) | (go_simp; rfl)); intro gb hg w4 hbox hb; have H0 := Aside0.mk (hb0.trans (hb.mono hb0.size)); have HK := Aside0.mk (Held.of_below (F := F) hb); have HI := Aside0.mk (C.stable _ _ _ hi hb); have BK := Aside0.mk hbox; have HN := Aside0.mk (show ¬ F gb from fun hf => by have := C.lt _ _ hi _ hf; omega); clear hb hbox hg; have hzw40 : w4.cell? ⟨gb, 0, none⟩ = some (.int .i64 a0) := (blk_cell BK.out 0).trans rfl; have hzw41 : w4.cell? ⟨gb, 1, none⟩ = some (.int .i64 a1) := (blk_cell BK.out 1).trans rfl; have hzw42 : w4.cell? ⟨gb, 2, none⟩ = some (.string a2) := (blk_cell BK.out 2).trans rfl; have hzw43 : w4.cell? ⟨gb, 3, none⟩ = some (.slice A l.length c) := (blk_cell BK.out 3).trans rfl; have hfw40 := blk_frozen BK.out 0; have hfw41 := blk_frozen BK.out 1; have hfw42 := blk_frozen BK.out 2; have hfw43 := blk_frozen BK.out 3; have p0 : 0 ≤ (0 : Int) := (by omega); have q0 : 0 < (l.length : Int) := h0; obtain ⟨ad0, A0, c0, e0, hx0_0, hx0_1, hx0_2, hx0_3, hl0, hi0⟩ := at_T29 HR.out 0 p0 q0; cases e0; have qi0 : (0 < l.length) = True := eq_true (by omega); (try rw [show ((0 : Int)).toNat = 0 from rfl] at hx0_0); (try rw [show 0 * 4 = 0 from rfl] at hx0_0); (try rw [Addr.add_zero'] at hx0_0); (try rw [show ((0 : Int)).toNat = 0 from rfl] at hx0_1); (try rw [show 0 * 4 = 0 from rfl] at hx0_1); (try rw [Addr.add_zero'] at hx0_1); (try rw [show ((0 : Int)).toNat = 0 from rfl] at hx0_2); (try rw [show 0 * 4 = 0 from rfl] at hx0_2); (try rw [Addr.add_zero'] at hx0_2); (try rw [show ((0 : Int)).toNat = 0 from rfl] at hx0_3); (try rw [show 0 * 4 = 0 from rfl] at hx0_3); (try rw [Addr.add_zero'] at hx0_3); replace hx0_0 := (H0.out.cell (World.block_lt_of_cell? w0 _ hx0_0)).trans hx0_0; replace hx0_1 := (H0.out.cell (World.block_lt_of_cell? w0 _ hx0_1)).trans hx0_1; replace hx0_2 := (H0.out.cell (World.block_lt_of_cell? w0 _ hx0_2)).trans hx0_2; replace hx0_3 := (H0.out.cell (World.block_lt_of_cell? w0 _ hx0_3)).trans hx0_3; have HR0 := Aside0.mk hi0; have HC0 := Aside0.mk hl0; clear hi0 hl0; replace p0 := eq_true p0; replace q0 := eq_true q0) | (go_at_call 137; (with_reducible refine (ih s (rd_T29 l 0).f0 (rd_T29 l 0).f1 (rd_T29 l 0).f2 _ _ (rd_T29 l 0).f3 t _ H0.out HR0.out HC0.out HI.out At.out).mono ?_); rintro e w5 ⟨rfl, hk, hi2⟩; have HK5 := Aside0.mk (HK.out.trans hk); have HI5 := Aside0.mk hi2; have H05 := Aside0.mk (H0.out.trans (hk.below H0.out.size hF)); have BK5 := Aside0.mk ((hk.block gb (blk_lt BK.out) HN.out).trans BK.out); clear hk hi2; have hzw50 : w5.cell? ⟨gb, 0, none⟩ = some (.int .i64 a0) := (blk_cell BK5.out 0).trans rfl; have hzw51 : w5.cell? ⟨gb, 1, none⟩ = some (.int .i64 a1) := (blk_cell BK5.out 1).trans rfl; have hzw52 : w5.cell? ⟨gb, 2, none⟩ = some (.string a2) := (blk_cell BK5.out 2).trans rfl; have hzw53 : w5.cell? ⟨gb, 3, none⟩ = some (.slice (some ad0) l.length c) := (blk_cell BK5.out 3).trans rfl; have hfw50 := blk_frozen BK5.out 0; have hfw51 := blk_frozen BK5.out 1; have hfw52 := blk_frozen BK5.out 2; have hfw53 := blk_frozen BK5.out 3; have p1 : 0 ≤ (1 : Int) := (by omega); have q1 : 1 < (l.length : Int) := h1; obtain ⟨ad1, A1, c1, e1, hx1_0, hx1_1, hx1_2, hx1_3, hl1, hi1⟩ := at_T29 HR.out 1 p1 q1; obtain rfl : ad0 = ad1 := (by injection e1); (try simp only [show (1 : Int).toNat = 1 from rfl, Nat.reduceMul, Nat.reduceEqDiff, Go.Addr.add, ↓reduceIte] at hx1_0); (try simp only [show (1 : Int).toNat = 1 from rfl, Nat.reduceMul, Nat.reduceEqDiff, Go.Addr.add, ↓reduceIte] at hx1_1); (try simp only [show (1 : Int).toNat = 1 from rfl, Nat.reduceMul, Nat.reduceEqDiff, Go.Addr.add, ↓reduceIte] at hx1_2); (try simp only [show (1 : Int).toNat = 1 from rfl, Nat.reduceMul, Nat.reduceEqDiff, Go.Addr.add, ↓reduceIte] at hx1_3); have qi1 : (1 < l.length) = True := eq_true (by omega); (try rw [show ((1 : Int)).toNat = 1 from rfl] at hx1_0); (try rw [show 1 * 4 = 4 from rfl] at hx1_0); (try rw [show ((1 : Int)).toNat = 1 from rfl] at hx1_1); (try rw [show 1 * 4 = 4 from rfl] at hx1_1); (try rw [show ((1 : Int)).toNat = 1 from rfl] at hx1_2); (try rw [show 1 * 4 = 4 from rfl] at hx1_2); (try rw [show ((1 : Int)).toNat = 1 from rfl] at hx1_3); (try rw [show 1 * 4 = 4 from rfl] at hx1_3); replace hx1_0 := (H05.out.cell (World.block_lt_of_cell? w0 _ hx1_0)).trans hx1_0; replace hx1_1 := (H05.out.cell (World.block_lt_of_cell? w0 _ hx1_1)).trans hx1_1; replace hx1_2 := (H05.out.cell (World.block_lt_of_cell? w0 _ hx1_2)).trans hx1_2; replace hx1_3 := (H05.out.cell (World.block_lt_of_cell? w0 _ hx1_3)).trans hx1_3; have HR1 := Aside0.mk hi1; have HC1 := Aside0.mk hl1; clear hi1 hl1; replace p1 := eq_true p1; replace q1 := eq_true q1) | (go_at_call 137; (with_reducible refine (ih t (rd_T29 l 1).f0 (rd_T29 l 1).f1 (rd_T29 l 1).f2 _ _ (rd_T29 l 1).f3 r _ H05.out HR1.out HC1.out HI5.out Ar.out).mono ?_); rintro e w6 ⟨rfl, hk, hi2⟩; have HK6 := Aside0.mk (HK5.out.trans hk); have HI6 := Aside0.mk hi2; have H06 := Aside0.mk (H05.out.trans (hk.below H05.out.size hF)); have BK6 := Aside0.mk ((hk.block gb (blk_lt BK5.out) HN.out).trans BK5.out); clear hk hi2; have hzw60 : w6.cell? ⟨gb, 0, none⟩ = some (.int .i64 a0) := (blk_cell BK6.out 0).trans rfl; have hzw61 : w6.cell? ⟨gb, 1, none⟩ = some (.int .i64 a1) := (blk_cell BK6.out 1).trans rfl; have hzw62 : w6.cell? ⟨gb, 2, none⟩ = some (.string a2) := (blk_cell BK6.out 2).trans rfl; have hzw63 : w6.cell? ⟨gb, 3, none⟩ = some (.slice (some ad0) l.length c) := (blk_cell BK6.out 3).trans rfl; have hfw60 := blk_frozen BK6.out 0; have hfw61 := blk_frozen BK6.out 1; have hfw62 := blk_frozen BK6.out 2; have hfw63 := blk_frozen BK6.out 3))
            go_end0
            exact ⟨by first | rfl | simp, HK6.out, HI6.out⟩
          · rw [if_neg h1] at h
            exact absurd h (by simp)
        · rw [if_neg h0] at h
          exact absurd h (by simp)
      · rw [if_neg c2] at h
        have c2a : (a0 == 4) = false := beq_eq_false_iff_ne.mpr c2
        obtain rfl := Option.some.inj h
        go_enter Try.func137, Try.ntmps137
        go_wp2_with (first | ((with_reducible refine gate_dst (N := 2) rfl ?_); refine box_event ?hg (N := 2) ?hd (cs := #[.int .i64 a0, .int .i64 a1, .string a2, .slice A l.length c]) (t := 29) ?hr ?_; (case hd => rfl); (case hg => rfl); (case hr => first | (go_simp; done) | (go_simp; rfl)); intro gb hg w4 hbox hb; have H0 := Aside0.mk (hb0.trans (hb.mono hb0.size)); have HK := Aside0.mk (Held.of_below (F := F) hb); have HI := Aside0.mk (C.stable _ _ _ hi hb); have BK := Aside0.mk hbox; have HN := Aside0.mk (show ¬ F gb from fun hf => by have := C.lt _ _ hi _ hf; omega); clear hb hbox hg; have hzw40 : w4.cell? ⟨gb, 0, none⟩ = some (.int .i64 a0) := (blk_cell BK.out 0).trans rfl; have hzw41 : w4.cell? ⟨gb, 1, none⟩ = some (.int .i64 a1) := (blk_cell BK.out 1).trans rfl; have hzw42 : w4.cell? ⟨gb, 2, none⟩ = some (.string a2) := (blk_cell BK.out 2).trans rfl; have hzw43 : w4.cell? ⟨gb, 3, none⟩ = some (.slice A l.length c) := (blk_cell BK.out 3).trans rfl; have hfw40 := blk_frozen BK.out 0; have hfw41 := blk_frozen BK.out 1; have hfw42 := blk_frozen BK.out 2; have hfw43 := blk_frozen BK.out 3))
        go_end0
        exact ⟨by first | rfl | simp, HK.out, HI.out⟩
end Go.Proofs.Ytkpaomcnjnojcaa.X
