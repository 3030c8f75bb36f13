/- The engine, sixth part: rows that grow, maps. -/
import Derived.Test.YtpfooiepmnaoaaaEngE
namespace Go.Proofs.Ytpfooiepmnaoaaa.E
open Go Go.RowKit
set_option linter.unusedVariables false
set_option linter.unusedSimpArgs false
class Sbt (P : Program) (e : TypeId) (bytes : outParam Nat) : Prop where
  ok : (P.info? e).map (·.bytes) = some bytes
class Mpt (P : Program) (t : TypeId) (k e : outParam Nat) : Prop where
  ok : P.underlying t = some (.map k e) ∧ P.underlying k = some (.int .i64)
class Stt (P : Program) (t : TypeId) : Prop where
  ok : P.underlying t = some .string
class Blt (P : Program) (t : TypeId) : Prop where
  ok : P.underlying t = some .bool
inductive Rem : List (Nat × Obj) → Nat → Obj → List (Nat × Obj) → Prop
  | here (b : Nat) (o : Obj) (l : List (Nat × Obj)) : Rem ((b, o) :: l) b o l
  | there {x : Nat × Obj} {l l' : List (Nat × Obj)} {b : Nat} {o : Obj} (h : Rem l b o l') : Rem (x :: l) b o (x :: l')
theorem Rem.perm {X X' : List (Nat × Obj)} {b : Nat} {o : Obj} (h : Rem X b o X') : X.Perm ((b, o) :: X') := by
  induction h with
  | here => exact List.Perm.refl _
  | there _ ih => exact (List.Perm.cons _ ih).trans (List.Perm.swap ..)
section
variable {P : Program} {ops : Array Oper} {N : Nat} {Q : Post} {E : Env} {w w' w0 : World} {F0 : Nat → Prop} {X X' : List (Nat × Obj)} {S : List Asn} {rest : List Oper} {ty : TypeId} {pos : String} {af : Array Edge} {d : Nat}
theorem SH.perm (H : SH w0 F0 w X S) (h : X.Perm X') : SH w0 F0 w X' S :=
  ⟨H.chg, fun p hp => H.xo p (h.mem_iff.2 hp), (h.map _).nodup_iff.1 H.nd, ⟨fun p hp => H.m.1 p (h.mem_iff.2 hp), H.m.2⟩, fun A hA p hp => H.sep A hA p (h.mem_iff.2 hp)⟩
theorem SH.tail {x : Nat × Obj} (H : SH w0 F0 w (x :: X) S) : SH w0 F0 w X S := H.dropX (List.sublist_cons_self ..)
theorem cells_at {b o : Nat} {T : TypeId} {fz : Nat × Nat} {cs : List Value} (h : w.heap[b]? = some (.cells cs.toArray T fz)) {j : Nat} {v : Value} (hj : cs[o + j]? = some v) : w.cell? ((⟨b, o, none⟩ : Addr).add j) = some v := by
  rw [adr_add]
  simp [World.cell?, h, hj]
/-- append to a row of the call's own. -/
theorem WL.append {s x : Operand} {t e sz bytes b n c b2 o2 m c2 : Nat} {z xs pad news : List Value} [q : Slt P t e sz] [qb : Sbt P e bytes] [qz : Zct P e z] (H : SH w0 F0 w X S) (hs : evo E s = some (.slice (some ⟨b, 0, none⟩) n c)) (hx : evo E x = some (.slice (some ⟨b2, o2, none⟩) m c2))
    (R : Rem X b (.cells (xs ++ pad).toArray e (0, 0)) X') (hxs : xs.length = n * sz) (hpad : (xs ++ pad).length = c * sz) (hnews : ∀ w, Mm X S w → ∀ j v, news[j]? = some v → w.cell? ⟨b2, o2 + j, none⟩ = some v) (hnl : news.length = m * sz) (h1 : (news.all fun v => v.oneCell') = true)
    (hb : (n + m) * bytes ≤ 140737488355328) (h63 : n + m ≤ 9223372036854775807) (hz : Nat.beq z.length sz = true) (hN : d < N)
    (h : ∀ b' c' pad' w', SH w0 F0 w' ((b', .cells (xs ++ news ++ pad').toArray e (0, 0)) :: X') S → (xs ++ news ++ pad').length = c' * sz → n + m ≤ c' → w.heap.size ≤ w'.heap.size → (b' = b ∨ w.heap.size ≤ b') → b' < w'.heap.size → WL P ops N Q rest ((d, .slice (some ⟨b', 0, none⟩) (n + m) c') :: E) w') :
    WL P ops N Q (⟨some d, .call { callee := .builtin .append, args := #[s, x], argTypes := #[t, t] }, ty, pos, af, none⟩ :: rest) E w := by
  have H1 := H.perm R.perm
  have hblk : w.heap[b]? = some (.cells (xs ++ pad).toArray e (0, 0)) := H1.blk (List.mem_cons_self ..)
  have hn : ∀ j v, news[j]? = some v → w.cell? ((⟨b2, o2, none⟩ : Addr).add j) = some v := fun j v hj => by rw [adr_add]; exact hnews w H.m j v hj
  have hq := qz.ok
  obtain ⟨hq1, hq2⟩ := q.ok
  have hq3 := qb.ok
  have hz := Nat.eq_of_beq_eq_true hz
  cases hi : P.info? e with
  | none => rw [hi] at hq2; cases hq2
  | some i =>
    rw [hi] at hq hq2 hq3
    simp only [Option.map_some, Option.some.injEq] at hq2 hq3
    cases hzv : i.zero with
    | none => simp [hzv] at hq
    | some zv =>
      simp only [Option.bind_some, hzv, Option.map_some, Option.some.injEq] at hq
      have hns : ∀ (u : Value) (w' : World), (Builtin.append_ #[t, t] ty #[.slice (some ⟨b, 0, none⟩) n c, .slice (some ⟨b2, o2, none⟩) m c2]).run P w = .ok u w' → (∀ a, Rp N a E → (execOp a.eval ⟨some d, .call { callee := .builtin .append, args := #[s, x], argTypes := #[t, t] }, ty, pos, af, none⟩).run P w = .ok (.value u) w') := by
        intro u w' hu a ha
        simp [execOp, resolve, invoke, builtin, ha.eval hs, ha.eval hx, hu]
      by_cases hroom : n + m ≤ c
      · have hle : xs.length + news.length ≤ (xs ++ pad).length := by rw [hpad, hxs, hnl, ← Nat.add_mul]; exact Nat.mul_le_mul_right _ hroom
        have hr := run_append_room (P := P) w t ty e i hq1 hi b n c (xs ++ pad).toArray hblk ⟨b2, o2, none⟩ m c2 news (by rw [hq2]; exact hnl) hn (by simpa using h1) hroom (by rw [hq2, ← hxs]; simpa using hle)
        have hl : (xs ++ pad).take (n * i.size) ++ news ++ (xs ++ pad).drop (n * i.size + news.length) = xs ++ news ++ pad.drop news.length := by
          rw [hq2, ← hxs, List.take_left, List.drop_append, List.drop_of_length_le (by omega), List.nil_append, Nat.add_sub_cancel_left]
        simp only [List.toList_toArray] at hr
        rw [hl] at hr
        refine WL.run rfl rfl hN (hns _ _ hr) (h b c (pad.drop news.length) _ (H1.put (.here ..) ⟨rfl, rfl, rfl, by simp, fun k _ hk => setRow_other _ _ _ _ hk⟩ (setRow_heap w b _ _ _ _ hblk)) ?_ hroom (by simp) (.inl rfl) (by have := H1.lt (List.mem_cons_self ..); simpa using this))
        rw [← hpad]
        simp only [List.length_append, List.length_drop] at hle ⊢
        omega
      · have hr := run_append_grow (P := P) w t ty e i zv hq1 hi hzv ⟨b, 0, none⟩ n c xs (by rw [hq2]; exact hxs) (fun j v hj => cells_at hblk (by
            rw [Nat.zero_add, List.getElem?_append_left (List.getElem?_eq_some_iff.1 hj).1]; exact hj)) ⟨b2, o2, none⟩ m c2 news (by rw [hq2]; exact hnl) hn (by omega) (by omega) (growslice_fits (by omega) (by rw [hq3]; exact hb))
        have hge := grownCap_ge w (n + m) c e
        have hcs : (xs.toArray ++ news.toArray ++ Builtin.zeroCells zv.cells (grownCap w (n + m) c e - (n + m))) = (xs ++ news ++ (Builtin.zeroCells zv.cells (grownCap w (n + m) c e - (n + m))).toList).toArray := by simp
        rw [hcs] at hr
        refine WL.run rfl rfl hN (hns _ _ hr) (h _ _ _ _ (H1.tail.drew.alloc _) ?_ hge (by simp) (.inr (Nat.le_refl _)) (by simp))
        have hzs : zv.cells.size = sz := by rw [hq, List.size_toArray, hz]
        simp only [List.length_append, Array.length_toList, size_zeroCells, hxs, hnl, hzs, ← Nat.add_mul]
        congr 1
        omega
theorem madeCells_flat (z : List Value) (n : Nat) : madeCells z.toArray (n * z.length) = (List.replicate n z).flatten.toArray := by
  have h := zero_row z n
  apply Array.ext'
  unfold madeCells
  rw [Array.toList_map, Array.toList_range, List.toList_toArray, ← h]
  apply List.map_congr_left
  intro i hi
  by_cases hz : z.length = 0
  · simp [hz] at hi
  · have : i % z.length < z.length := Nat.mod_lt _ (by omega)
    simp [this]
/-- make of a full row. -/
theorem WL.mksl {x y : Operand} {t e sz bytes n : Nat} {z : List Value} {kl kc : IntKind} [q : Slt P t e sz] [qb : Sbt P e bytes] [qz : Zct P e z] (H : SH w0 F0 w X S) (hx : evo E x = some (.int kl (n : Int))) (hy : evo E y = some (.int kc (n : Int))) (hz : Nat.beq z.length sz = true) (hb : bytes * n ≤ 281474976710656) (h63 : n ≤ 9223372036854775807) (hN : d < N)
    (h : ∀ b w', SH w0 F0 w' ((b, .cells (List.replicate n z).flatten.toArray e (0, 0)) :: X) S → w.heap.size ≤ b → b < w'.heap.size → w.heap.size ≤ w'.heap.size → WL P ops N Q rest ((d, .slice (some ⟨b, 0, none⟩) n n) :: E) w') : WL P ops N Q (⟨some d, .makeSlice t x y, ty, pos, af, none⟩ :: rest) E w := by
  have hq := qz.ok
  obtain ⟨hq1, hq2⟩ := q.ok
  have hq3 := qb.ok
  have hz := Nat.eq_of_beq_eq_true hz
  cases hi : P.info? e with
  | none => rw [hi] at hq2; cases hq2
  | some i =>
    rw [hi] at hq hq2 hq3
    simp only [Option.map_some, Option.some.injEq] at hq2 hq3
    cases hzv : i.zero with
    | none => simp [hzv] at hq
    | some zv =>
      simp only [Option.bind_some, hzv, Option.map_some, Option.some.injEq] at hq
      have hr := run_make (P := P) w t e i zv hq1 hi hzv kl kc n n (by omega) (Int.le_refl _) (by rw [hq3, ← Int.natCast_mul]; omega) (by omega)
      simp only [Int.toNat_natCast] at hr
      rw [hq, hq2, ← hz, madeCells_flat] at hr
      exact WL.run rfl rfl hN (fun a ha => by simp [execOp, ha.eval hx, ha.eval hy, hr]) (h _ _ (H.alloc _) (Nat.le_refl _) (by simp) (by simp))
theorem newsX {b T : Nat} {fz : Nat × Nat} {ys : List Value} (h : (b, Obj.cells ys.toArray T fz) ∈ X) : ∀ w, Mm X S w → ∀ j v, ys[j]? = some v → w.cell? ⟨b, 0 + j, none⟩ = some v := fun w hm j v hj => by
  simp [World.cell?, hm.1 _ h, hj]
/-- A row of the call's own that a call has made longer: in its place or in a new one. -/
theorem SH.row {b b' : Nat} {o o' : Obj} {X1 : List (Nat × Obj)} (H : SH w0 F0 w X S) (R : Rem X b o X1) (hc : Chg (fun k => k = b) w w') (hb : w'.heap[b']? = some o') (hn : b' = b ∨ w.heap.size ≤ b') : SH w0 F0 w' ((b', o') :: X1) S := by
  have H1 := H.perm R.perm
  rcases hn with rfl | hn
  · exact H1.put (.here ..) hc hb
  · refine ⟨H1.chg.trans hc (fun i e => by subst e; exact (H1.xo _ (List.mem_cons_self ..)).symm), ?_, ?_, ⟨?_, ?_⟩, ?_⟩
    · intro p hp
      rcases List.mem_cons.1 hp with rfl | hp
      · exact .inl (Nat.le_trans H1.chg.size hn)
      · exact H1.xo p (List.mem_cons_of_mem _ hp)
    · have hnd := H1.nd
      rw [List.map_cons, List.nodup_cons] at hnd ⊢
      refine ⟨fun h => ?_, hnd.2⟩
      obtain ⟨p, hp, e⟩ := List.mem_map.1 h
      have := H1.lt (List.mem_cons_of_mem _ hp)
      have e' : p.1 = b' := e
      omega
    · intro p hp
      have hnd := H1.nd
      rw [List.map_cons, List.nodup_cons] at hnd
      rcases List.mem_cons.1 hp with rfl | hp
      · exact hb
      · have hp' := List.mem_cons_of_mem (b, o) hp
        exact (hc.block p.1 (H1.lt hp') (fun e => hnd.1 (by have e' : (b, o).1 = p.1 := e.symm; rw [e']; exact List.mem_map_of_mem (f := (·.1)) hp))).trans (H1.m.1 p hp')
    · intro A hA
      exact A.fr w _ (fun k hk => hc.block k (A.lt w (H1.m.2 A hA) k hk) (fun e => by subst e; exact H1.sep A hA _ (List.mem_cons_self ..) hk)) (H1.m.2 A hA)
    · intro A hA p hp hf
      rcases List.mem_cons.1 hp with rfl | hp
      · have := A.lt w (H1.m.2 A hA) _ hf
        simp only at this; omega
      · exact H1.sep A hA p (List.mem_cons_of_mem _ hp) hf
theorem SH.start1 {b : Nat} {o : Obj} (w : World) (F0 : Nat → Prop) (S : List Asn) (hb : w.heap[b]? = some o) (hF : F0 b) (h : ∀ A ∈ S, A.hold w) (hs : ∀ A ∈ S, ¬ A.ft b) : SH w F0 w [(b, o)] S :=
  ⟨Chg.refl _ _, fun p hp => by rw [List.mem_singleton.1 hp]; exact .inr hF, by simp, ⟨fun p hp => by rw [List.mem_singleton.1 hp]; exact hb, h⟩, fun A hA p hp => by rw [List.mem_singleton.1 hp]; exact hs A hA⟩
def outQ (Q : Post) : Post
  | .normal, _, _ => False
  | e, E, w => Q e E w
/-- A loop whose first round ends it. -/
theorem WC.loop_out {c : Code} (h : WC P N (outQ Q) c E w) : WC P N Q (.loop c) E w := by
  refine WC.loop (σ := Unit) (fun _ => E) (fun _ w' => w' = w) (fun _ => 0) () (Sub.refl _) rfl (fun _ w' e => ?_)
  subst e
  exact h.mono fun e E w hq => by
    cases e with
    | normal => exact hq.elim
    | _ => exact hq
theorem AtQ.out_ret (h : AtQ Q .ret E w) : AtQ (outQ Q) .ret E w := ⟨h.ok⟩
theorem AtQ.out_exit {i : Nat} (h : AtQ Q (.exit i) E w) : AtQ (outQ Q) (.exit i) E w := ⟨h.ok⟩
/-! maps with whole numbers for keys -/
def mEnts : List (Int × Value) → Nat → List MapEntry
  | [], _ => []
  | (k, v) :: r, i => ⟨.int .i64 k, v, i⟩ :: mEnts r (i + 1)
/-- A map that was filled in this order, nothing taken out. -/
def mObj (es : List (Int × Value)) : Obj := .map (mEnts es 0).toArray es.length
def mGet (k : Int) : List (Int × Value) → Option Value
  | [] => none
  | (j, v) :: r => if k = j then some v else mGet k r
def mPut (k : Int) (u : Value) : List (Int × Value) → List (Int × Value)
  | [] => [(k, u)]
  | (j, v) :: r => if k = j then (j, u) :: r else (j, v) :: mPut k u r
theorem findNow_mEnts (k : Int) : ∀ (es : List (Int × Value)) (i p : Nat), Instr.findNow (.int .i64) (.int .i64 k) (mEnts es p) i = some ((es.findIdx? (fun e => decide (k = e.1))).map fun j => (i + j, ((es[j]?).map (·.2)).getD (.bool false)))
  | [], i, p => rfl
  | (j, v) :: r, i, p => by
    simp only [mEnts, Instr.findNow, Instr.sameNow, if_pos]
    by_cases h : k = j
    · subst h; simp [List.findIdx?_cons]
    · have hb : (k == j) = false := by simpa using h
      rw [hb]
      simp only
      rw [findNow_mEnts k r (i + 1) (p + 1)]
      simp only [List.findIdx?_cons, h, decide_false, Bool.false_eq_true, if_false, Option.map_map]
      congr 1
      cases r.findIdx? fun e => decide (k = e.1) with
      | none => rfl
      | some n => simp [Function.comp, Nat.add_assoc, Nat.add_comm 1 n]
theorem mGet_find (k : Int) : ∀ es : List (Int × Value), mGet k es = (es.findIdx? (fun e => decide (k = e.1))).map fun j => ((es[j]?).map (·.2)).getD (.bool false)
  | [] => rfl
  | (j, v) :: r => by
    rw [mGet, List.findIdx?_cons]
    by_cases h : k = j
    · subst h; simp
    · rw [if_neg h, mGet_find k r]
      simp only [h, decide_false, Bool.false_eq_true, if_false, Option.map_map]
      congr 1
theorem run_findKey {kt : TypeId} (ht : P.underlying kt = some (.int .i64)) (k : Int) (es : List (Int × Value)) : (Instr.findKey kt (.int .i64 k) (mEnts es 0)).run P w = .ok ((es.findIdx? (fun e => decide (k = e.1))).map fun j => (j, ((es[j]?).map (·.2)).getD (.bool false))) w := by
  have h := findNow_mEnts k es 0 0
  simp only [Nat.zero_add] at h
  simp [Instr.findKey, run_und ht, h]
theorem run_checkKey' {kt : TypeId} (ht : P.underlying kt = some (.int .i64)) (b : Bool) (k : Int) (n : Nat) : (Instr.checkKey b (n + 1) kt (.int .i64 k)).run P w = .ok () w := by
  simp [Instr.checkKey, run_und ht]
theorem run_checkKey {kt : TypeId} (ht : P.underlying kt = some (.int .i64)) (b : Bool) (k : Int) : (Instr.checkKey b 10000 kt (.int .i64 k)).run P w = .ok () w := run_checkKey' ht b k 9999
theorem mEnts_len : ∀ (es : List (Int × Value)) (p : Nat), (mEnts es p).length = es.length
  | [], _ => rfl
  | (_, _) :: r, p => by simp [mEnts, mEnts_len r]
/-- A lookup in a map of the list. -/
theorem WL.lookup {x ix : Operand} {t kt et b : Nat} {k : Int} {es : List (Int × Value)} {zv : Value} [q : Mpt P t kt et] [qz : Zrt P et zv] (H : SH w0 F0 w X S) (hx : evo E x = some (.map (some b))) (hk : evo E ix = some (.int .i64 k)) (hb : (b, mObj es) ∈ X) (hN : d < N)
    (h : WL P ops N Q rest ((d, (mGet k es).getD zv) :: E) w) : WL P ops N Q (⟨some d, .lookup t x ix false, ty, pos, af, none⟩ :: rest) E w := by
  refine WL.run rfl rfl hN (fun a ha => ?_) h
  have h1 := H.blk hb
  unfold mObj at h1
  have h2 : (getObj b).run P w = .ok (.map (mEnts es 0).toArray es.length) w := by simp [getObj, Sem.run, h1]
  simp only [execOp, ha.eval hx, ha.eval hk, Instr.lookup, Sem.run_bind, run_und q.ok.1, Result.andThen_ok, h2, Sem.run_pure, run_checkKey q.ok.2, List.toList_toArray, run_findKey q.ok.2]
  rw [mGet_find]
  cases es.findIdx? (fun e => decide (k = e.1)) with
  | none => simp [run_zero qz.ok]
  | some j => simp
theorem WL.lookupOk {x ix : Operand} {t kt et b : Nat} {k : Int} {es : List (Int × Value)} {zv : Value} [q : Mpt P t kt et] [qz : Zrt P et zv] (H : SH w0 F0 w X S) (hx : evo E x = some (.map (some b))) (hk : evo E ix = some (.int .i64 k)) (hb : (b, mObj es) ∈ X) (hN : d < N)
    (h : WL P ops N Q rest ((d, .tuple #[(mGet k es).getD zv, .bool (mGet k es).isSome]) :: E) w) : WL P ops N Q (⟨some d, .lookup t x ix true, ty, pos, af, none⟩ :: rest) E w := by
  refine WL.run rfl rfl hN (fun a ha => ?_) h
  have h1 := H.blk hb
  unfold mObj at h1
  have h2 : (getObj b).run P w = .ok (.map (mEnts es 0).toArray es.length) w := by simp [getObj, Sem.run, h1]
  simp only [execOp, ha.eval hx, ha.eval hk, Instr.lookup, Sem.run_bind, run_und q.ok.1, Result.andThen_ok, h2, Sem.run_pure, run_checkKey q.ok.2, List.toList_toArray, run_findKey q.ok.2]
  rw [mGet_find]
  cases es.findIdx? (fun e => decide (k = e.1)) with
  | none => simp [run_zero qz.ok]
  | some j => simp
theorem mEnts_put (k : Int) (u : Value) : ∀ (es : List (Int × Value)) (p : Nat), mEnts (mPut k u es) p = match es.findIdx? (fun e => decide (k = e.1)) with
    | some j => (mEnts es p).modify j fun e => { e with key := .int .i64 k, val := u }
    | none => mEnts es p ++ [⟨.int .i64 k, u, p + es.length⟩]
  | [], p => rfl
  | (j, v) :: r, p => by
    rw [mPut, List.findIdx?_cons]
    by_cases h : k = j
    · subst h; simp [mEnts]
    · rw [if_neg h]
      simp only [h, decide_false, Bool.false_eq_true, if_false, mEnts, mEnts_put k u r (p + 1)]
      cases r.findIdx? fun e => decide (k = e.1) with
      | none => simp [Nat.add_assoc, Nat.add_comm 1]
      | some n => simp
theorem mPut_len (k : Int) (u : Value) : ∀ es : List (Int × Value), (mPut k u es).length = es.length + if (es.findIdx? (fun e => decide (k = e.1))).isSome then 0 else 1
  | [] => rfl
  | (j, v) :: r => by
    rw [mPut, List.findIdx?_cons]
    by_cases h : k = j
    · subst h; simp
    · rw [if_neg h]
      simp only [h, decide_false, Bool.false_eq_true, if_false, List.length_cons, mPut_len k u r, Option.isSome_map]
      omega
theorem mEnts_key (k : Int) : ∀ (es : List (Int × Value)) (p j : Nat), es.findIdx? (fun e => decide (k = e.1)) = some j → ((mEnts es p)[j]?).map (·.key) = some (.int .i64 k)
  | [], p, j, h => by simp at h
  | (i, v) :: r, p, j, h => by
    rw [List.findIdx?_cons] at h
    by_cases e : k = i
    · subst e; simp at h; subst h; rfl
    · simp only [e, decide_false, Bool.false_eq_true, if_false, Option.map_eq_some_iff] at h
      obtain ⟨n, hn, rfl⟩ := h
      simpa [mEnts] using mEnts_key k r (p + 1) n hn
theorem WL.mapup {x ix y : Operand} {t kt et b : Nat} {k : Int} {u : Value} {es : List (Int × Value)} [q : Mpt P t kt et] (H : SH w0 F0 w X S) (hx : evo E x = some (.map (some b))) (hk : evo E ix = some (.int .i64 k)) (hy : evo E y = some u) (U : Upd X b (mObj es) (mObj (mPut k u es)) X')
    (h : ∀ w', SH w0 F0 w' X' S → w'.heap.size = w.heap.size → WL P ops N Q rest E w') : WL P ops N Q (⟨none, .mapUpdate t x ix y, ty, pos, af, none⟩ :: rest) E w := by
  have h1 := H.blk U.mem
  have h1' := h1
  unfold mObj at h1
  have h2 : (getObj b).run P w = .ok (.map (mEnts es 0).toArray es.length) w := by simp [getObj, Sem.run, h1]
  have hset : ∀ o : Obj, (setObj b o).run P w = .ok () { w with heap := w.heap.setIfInBounds b o } := by intro o; simp [setObj, Sem.run, h1]
  have hlt := H.lt U.mem
  refine WL.unit rfl rfl (w' := { w with heap := w.heap.setIfInBounds b (mObj (mPut k u es)) }) (fun a ha => ?_) (h _ (H.put U ⟨rfl, rfl, rfl, by simp, fun j _ hj => by simp [Array.getElem?_setIfInBounds_ne (Ne.symm hj)]⟩ (by simp [Array.getElem?_setIfInBounds_self_of_lt, hlt])) (by simp))
  simp only [execOp, ha.eval hx, ha.eval hk, ha.eval hy, Instr.mapUpdate, Sem.run_bind, run_und q.ok.1, Result.andThen_ok, h2, run_checkKey q.ok.2, List.toList_toArray, run_findKey q.ok.2]
  have hput := mEnts_put k u es 0
  have hlen := mPut_len k u es
  cases hf : es.findIdx? (fun e => decide (k = e.1)) with
  | none =>
    rw [hf] at hput hlen
    simp only [Option.map_none, Sem.run_bind, hset, Result.andThen_ok, Sem.run_pure]
    simp only [Option.isSome_none, Bool.false_eq_true, if_false] at hlen
    unfold mObj
    rw [hput, hlen]
    simp
  | some j =>
    rw [hf] at hput hlen
    have hkey := mEnts_key k es 0 j hf
    have hks : (Instr.keyThatStays (((((mEnts es 0).toArray)[j]?).map (·.key)).getD (.int .i64 k)) (.int .i64 k)).run P w = .ok (.int .i64 k) w := by
      rw [List.getElem?_toArray, hkey]
      simp [Instr.keyThatStays, Instr.sameBits]
    simp only [Option.map_some, Sem.run_bind, hks, hset, Result.andThen_ok, Sem.run_pure]
    simp only [Option.isSome_some, if_true, Nat.add_zero] at hlen
    unfold mObj
    rw [hput, hlen]
    simp
theorem WL.mkmap {t : Nat} (H : SH w0 F0 w X S) (hN : d < N) (h : ∀ b w', SH w0 F0 w' ((b, mObj []) :: X) S → w.heap.size ≤ b → b < w'.heap.size → w.heap.size ≤ w'.heap.size → WL P ops N Q rest ((d, .map (some b)) :: E) w') : WL P ops N Q (⟨some d, .makeMap t none, ty, pos, af, none⟩ :: rest) E w :=
  WL.run rfl rfl hN (v := .map (some w.heap.size)) (w' := w.alloc (mObj [])) (fun a ha => by simp [execOp, Instr.makeMap, mObj, mEnts]) (h _ _ (H.alloc _) (Nat.le_refl _) (by simp) (by simp))
end
end Go.Proofs.Ytpfooiepmnaoaaa.E
