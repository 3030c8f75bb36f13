/- The engine, fourth part: operations that turn the world; calls; bodies. -/
import Derived.Test.YtpfooiepmnaoaaaEngC
namespace Go.Proofs.Ytpfooiepmnaoaaa.E
open Go Go.RowKit
set_option linter.unusedVariables false
set_option linter.unusedSimpArgs false
section
variable {P : Program} {ops : Array Oper} {N : Nat} {Q : Post} {E : Env} {w w0 : World} {F0 : Nat → Prop} {X X' : List (Nat × Obj)} {S : List Asn} {rest : List Oper} {ty : TypeId} {pos : String} {af : Array Edge} {d : Nat}
theorem WL.box {t : TypeId} {x : Operand} {v : Value} {cs : List Value} (H : SH w0 F0 w X S) (hx : evo E x = some v) (hc : v.cells = cs.toArray) (hN : d < N)
    (h : ∀ b w', SH w0 F0 w' ((b, .cells cs.toArray t (0, 0)) :: X) S → w.heap.size ≤ b → b < w'.heap.size → w.heap.size ≤ w'.heap.size → WL P ops N Q rest ((d, .pointer (some ⟨b, 0, none⟩)) :: E) w') : WL P ops N Q (⟨some d, .box t x, ty, pos, af, none⟩ :: rest) E w :=
  WL.run rfl rfl hN (v := .pointer (some ⟨w.heap.size, 0, none⟩)) (w' := w.alloc (.cells cs.toArray t (0, 0))) (fun a ha => by
    simp [execOp, ha.eval hx, Instr.box, newVar, newRow, hc]) (h _ _ (H.alloc _) (Nat.le_refl _) (by simp) (by simp))
theorem WL.boxN {t : TypeId} {x : Operand} {cs : List Value} (H : SH w0 F0 w X S) (hx : evo E x = some (.agg cs.toArray)) (hN : d < N)
    (h : ∀ b w', SH w0 F0 w' ((b, .cells cs.toArray t (0, 0)) :: X) S → w.heap.size ≤ b → b < w'.heap.size → w.heap.size ≤ w'.heap.size → WL P ops N Q rest ((d, .pointer (some ⟨b, 0, none⟩)) :: E) w') : WL P ops N Q (⟨some d, .box t x, ty, pos, af, none⟩ :: rest) E w :=
  WL.box H hx rfl hN h
theorem WL.box1 {t : TypeId} {x : Operand} {v : Value} (H : SH w0 F0 w X S) (hx : evo E x = some v) (hc : v.cells = #[v]) (hN : d < N)
    (h : ∀ b w', SH w0 F0 w' ((b, .cells [v].toArray t (0, 0)) :: X) S → w.heap.size ≤ b → b < w'.heap.size → w.heap.size ≤ w'.heap.size → WL P ops N Q rest ((d, .pointer (some ⟨b, 0, none⟩)) :: E) w') : WL P ops N Q (⟨some d, .box t x, ty, pos, af, none⟩ :: rest) E w :=
  WL.box H hx hc hN h
theorem WL.cmp {op : Op} {p : Prop} [Decidable p] (H : SH w0 F0 w X S) (hy : Yld P N E (Mm X S) ⟨some d, op, ty, pos, af, none⟩ (.bool (decide p))) (hN : d < N) (hT : p → WL P ops N Q rest ((d, .bool true) :: E) w) (hF : ¬ p → WL P ops N Q rest ((d, .bool false) :: E) w) : WL P ops N Q (⟨some d, op, ty, pos, af, none⟩ :: rest) E w := by
  by_cases hp : p
  · exact WL.y H (hy.boolT hp) hN (hT hp)
  · exact WL.y H (hy.boolF hp) hN (hF hp)
class Zct (P : Program) (t : TypeId) (z : outParam (List Value)) : Prop where
  ok : ((P.info? t).bind (·.zero)).map (·.cells) = some z.toArray
theorem WL.alloc {t : TypeId} {cs : List Value} [q : Zct P t cs] (H : SH w0 F0 w X S) (hN : d < N)
    (h : ∀ b w', SH w0 F0 w' ((b, .cells cs.toArray t (0, 0)) :: X) S → w.heap.size ≤ b → b < w'.heap.size → w.heap.size ≤ w'.heap.size → WL P ops N Q rest ((d, .pointer (some ⟨b, 0, none⟩)) :: E) w') : WL P ops N Q (⟨some d, .alloc t, ty, pos, af, none⟩ :: rest) E w := by
  have hq := q.ok
  cases hz : (P.info? t).bind (·.zero) with
  | none => rw [hz] at hq; cases hq
  | some z =>
    rw [hz] at hq
    simp only [Option.map_some, Option.some.injEq] at hq
    refine WL.run rfl rfl hN (v := .pointer (some ⟨w.heap.size, 0, none⟩)) (w' := w.alloc (.cells cs.toArray t (0, 0))) (fun a ha => by
      simp [execOp, Instr.alloc, run_zero hz, newVar, newRow, hq]) (h _ _ (H.alloc _) (Nat.le_refl _) (by simp) (by simp))
theorem setCell_put {b o : Nat} {cs : List Value} {T : Nat} (hb : w.heap[b]? = some (.cells cs.toArray T (0, 0))) (v : Value) : Chg (fun k => k = b) w (w.setCell ⟨b, o, none⟩ v) ∧ (w.setCell ⟨b, o, none⟩ v).heap[b]? = some (.cells (cs.set o v).toArray T (0, 0)) := by
  refine ⟨⟨rfl, rfl, rfl, by simp [World.setCell], fun k _ hk => Below.heap_setCell _ _ _ _ hk⟩, ?_⟩
  simp [World.setCell, Array.getElem?_modify, hb]
theorem run_store1 {b o : Nat} {cs : List Value} {T : Nat} (hb : w.heap[b]? = some (.cells cs.toArray T (0, 0))) (ho : o < cs.length) (v : Value) (hv : v.oneCell' = true) : (store ⟨b, o, none⟩ v).run P w = .ok () (w.setCell ⟨b, o, none⟩ v) := by
  have hc : w.cell? ⟨b, o, none⟩ = some cs[o] := by simp [World.cell?, hb, ho]
  have hf : w.frozen? ⟨b, o, none⟩ = false := by simp [World.frozen?, hb]
  rw [run_store P w _ v .plain hv]
  simp [stored, hc, hf]
theorem run_storeL (vs : List Value) : ∀ (w : World) (b o i : Nat) (cs : List Value) (T : Nat), w.heap[b]? = some (.cells cs.toArray T (0, 0)) → o + i + vs.length ≤ cs.length → (∀ v ∈ vs, v.oneCell' = true) →
    ∃ w', (storeCells ⟨b, o, none⟩ vs i).run P w = .ok () w' ∧ Chg (fun k => k = b) w w' ∧ w'.heap[b]? = some (.cells (setC cs (o + i) vs).toArray T (0, 0)) ∧ w'.heap.size = w.heap.size := by
  induction vs with
  | nil => intro w b o i cs T hb _ _; exact ⟨w, rfl, Chg.refl _ _, hb, rfl⟩
  | cons v r ih =>
    intro w b o i cs T hb hl h1
    simp only [List.length_cons] at hl
    obtain ⟨c1, h2⟩ := setCell_put (o := o + i) hb v
    obtain ⟨w', hr, c2, h3, hs⟩ := ih (w.setCell ⟨b, o + i, none⟩ v) b o (i + 1) (cs.set (o + i) v) T h2 (by rw [List.length_set]; omega) (fun u hu => h1 u (List.mem_cons_of_mem _ hu))
    refine ⟨w', ?_, c1.trans c2 (fun _ e => .inl e), h3, hs.trans (by simp [World.setCell])⟩
    simp only [storeCells, Sem.run_bind, adr_add, run_store1 hb (show o + i < cs.length by omega) v (h1 v (List.mem_cons_self ..)), Result.andThen_ok]
    exact hr
/-- A store of a whole value into a known block. -/
theorem WL.store {t : TypeId} {x y : Operand} {b o T n : Nat} {cs vs : List Value} {v : Value} (H : SH w0 F0 w X S) (ht : (P.info? t).map (·.size) = some n) (hx : evo E x = some (.pointer (some ⟨b, o, none⟩))) (hy : evo E y = some v) (hc : v.cells = vs.toArray) (hn : vs.length = n) (h1 : ∀ v ∈ vs, v.oneCell' = true) (U : Upd X b (.cells cs.toArray T (0, 0)) (.cells (setC cs o vs).toArray T (0, 0)) X') (ho : o + n ≤ cs.length)
    (h : ∀ w', SH w0 F0 w' X' S → w'.heap.size = w.heap.size → WL P ops N Q rest E w') : WL P ops N Q (⟨none, .store t x y, ty, pos, af, none⟩ :: rest) E w := by
  obtain ⟨w', hr, c1, h2, hsz'⟩ := run_storeL (P := P) vs w b o 0 cs T (H.blk U.mem) (by omega) h1
  refine WL.unit rfl rfl (w' := w') (fun a ha => ?_) (h w' (H.put U c1 h2) hsz')
  have hsz : v.cells.size = n := by rw [hc, List.size_toArray, hn]
  simp [execOp, ha.eval hx, ha.eval hy, Instr.storeAt, Instr.sureAddr, storeVar, run_size ht, hsz, hc, hr, hn]
class Szt (P : Program) (t : TypeId) (n : outParam Nat) : Prop where
  ok : (P.info? t).map (·.size) = some n
theorem WL.storeN {t : TypeId} {x y : Operand} {b o T n : Nat} {cs vs : List Value} [q : Agt P t n] (H : SH w0 F0 w X S) (hx : evo E x = some (.pointer (some ⟨b, o, none⟩))) (hy : evo E y = some (.agg vs.toArray)) (hn : vs.length = n) (h1 : (vs.all fun v => v.oneCell') = true) (U : Upd X b (.cells cs.toArray T (0, 0)) (.cells (setC cs o vs).toArray T (0, 0)) X') (ho : Nat.ble (o + n) cs.length = true)
    (h : ∀ w', SH w0 F0 w' X' S → w'.heap.size = w.heap.size → WL P ops N Q rest E w') : WL P ops N Q (⟨none, .store t x y, ty, pos, af, none⟩ :: rest) E w := WL.store H q.ok.1 hx hy rfl hn (by simpa using h1) U (Nat.le_of_ble_eq_true ho) h
theorem WL.store1 {t : TypeId} {x y : Operand} {b o T : Nat} {cs : List Value} {v : Value} [q : Scl P t] (H : SH w0 F0 w X S) (hx : evo E x = some (.pointer (some ⟨b, o, none⟩))) (hy : evo E y = some v) (h1 : v.oneCell' = true) (U : Upd X b (.cells cs.toArray T (0, 0)) (.cells (cs.set o v).toArray T (0, 0)) X') (ho : Nat.blt o cs.length = true)
    (h : ∀ w', SH w0 F0 w' X' S → w'.heap.size = w.heap.size → WL P ops N Q rest E w') : WL P ops N Q (⟨none, .store t x y, ty, pos, af, none⟩ :: rest) E w :=
  WL.store (vs := [v]) H q.ok.1 hx hy (by cases v <;> first | rfl | simp [Value.oneCell'] at h1) rfl (by simpa using h1) U (by have := Nat.le_of_ble_eq_true ho; omega) h
theorem zero_row (z : List Value) (len : Nat) : ((List.range (len * z.length)).map fun i => z[i % z.length]?.getD default) = (List.replicate len z).flatten := by
  by_cases hz : z = []
  · subst hz; simp
  have hp : 0 < z.length := List.length_pos_iff.mpr hz
  induction len with
  | zero => simp
  | succ n ih =>
    rw [List.replicate_succ', List.flatten_append, ← ih, Nat.succ_mul, List.range_add, List.map_append]
    congr 1
    simp only [List.flatten_cons, List.flatten_nil, List.append_nil]
    apply List.ext_getElem
    · simp
    · intro i h1 h2
      simp only [List.map_map, List.getElem_map, List.getElem_range, Function.comp]
      rw [Nat.mul_comm, Nat.mul_add_mod, Nat.mod_eq_of_lt h2]
      simp [h2]
theorem fill_fun {p q : Nat → Option (Nat × Nat)} : ∀ {vs : List (Nat × Value)} {z : Array Value}, (∀ x ∈ vs, p x.1 = q x.1) → Instr.fill p z vs = Instr.fill q z vs
  | [], z, _ => rfl
  | (i, v) :: r, z, h => by
    have h0 := h _ (List.mem_cons_self ..)
    simp only [Instr.fill]
    simp only at h0
    rw [h0]
    cases q i with
    | none => rfl
    | some x =>
      simp only
      split
      · rfl
      · exact fill_fun (fun y hy => h y (List.mem_cons_of_mem _ hy))
/-- A slice laid out. -/
theorem WL.bslice {t e sz len : Nat} {z cs : List Value} {xs : List (Nat × Operand)} {vs : List (Nat × Value)} [q : Slt P t e sz] [qz : Zct P e z] (H : SH w0 F0 w X S) (hx : evps E xs = some vs) (hl : (decide (len * sz ≤ 16777216) && decide (z.length = sz) && vs.all fun x => decide (x.1 < len)) = true)
    (hf : fillL ((List.range len).map fun i => (i * sz, sz)) (List.replicate len z).flatten vs = some cs) (hN : d < N)
    (h : ∀ b w', SH w0 F0 w' ((b, .cells cs.toArray e (0, 0)) :: X) S → w.heap.size ≤ b → b < w'.heap.size → w.heap.size ≤ w'.heap.size → WL P ops N Q rest ((d, .slice (some ⟨b, 0, none⟩) len len) :: E) w') : WL P ops N Q (⟨some d, .buildSlice t len xs.toArray, ty, pos, af, none⟩ :: rest) E w := by
  simp only [Bool.and_eq_true, decide_eq_true_eq, List.all_eq_true] at hl
  obtain ⟨⟨hl1, hl2⟩, hl3⟩ := hl
  have hq := qz.ok
  have hfill : Instr.fill (fun i => some (i * sz, sz)) (List.replicate len z).flatten.toArray vs = some cs.toArray := by
    rw [← fill_of_fillL hf]
    refine fill_fun fun x hx => ?_
    simp [hl3 x hx]
  cases hz : (P.info? e).bind (·.zero) with
  | none => rw [hz] at hq; cases hq
  | some zv =>
    rw [hz] at hq
    simp only [Option.map_some, Option.some.injEq] at hq
    refine WL.run rfl rfl hN (v := .slice (some ⟨w.heap.size, 0, none⟩) len len) (w' := w.alloc (.cells cs.toArray e (0, 0))) (fun a ha => ?_) (h _ _ (H.alloc _) (Nat.le_refl _) (by simp) (by simp))
    have h1 := ha.evpsx hx
    have harr : ∀ (f : Nat → Value) (n : Nat), (Array.range n).map f = ((List.range n).map f).toArray := fun f n => by
      apply Array.ext'
      rw [Array.toList_map, Array.toList_range]
    by_cases h0 : len * sz = 0
    · have : (List.replicate len z).flatten = [] := by
        apply List.eq_nil_of_length_eq_zero
        simp [hl2, h0]
      rw [this] at hfill
      have hr : Array.map (fun _ => (default : Value)) (Array.range 0) = #[] := by rw [harr]; rfl
      simp [execOp, Instr.buildSlice, run_und q.ok.1, run_size q.ok.2, h0, h1, newRow, hr, hfill]
    · have hz0 := zero_row z len
      rw [hl2] at hz0
      have hz1 := harr (fun i => z[i % sz]?.getD default) (len * sz)
      rw [hz0] at hz1
      simp [execOp, Instr.buildSlice, run_und q.ok.1, run_size q.ok.2, h0, h1, newRow, run_zero hz, hq, hl2, hz1, hfill, Nat.not_lt.mpr hl1]
end
end Go.Proofs.Ytpfooiepmnaoaaa.E
