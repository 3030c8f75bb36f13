/- The engine, third part: one lemma an operation. -/
import Derived.Test.YtpfooiepmnaoaaaEngB
import Derived.IntWalk
import Derived.Laws.Tables
namespace Go.Proofs.Ytpfooiepmnaoaaa.E
open Go Go.RowKit
set_option linter.unusedVariables false
set_option linter.unusedSimpArgs false

/-! ### what is known of types -/
/-- A type of one cell. -/
class Scl (P : Program) (t : TypeId) : Prop where
  ok : (P.info? t).map (·.size) = some 1 ∧ ((P.underlying t).any fun d => match d with | .struct _ | .array _ _ => false | _ => true) = true
/-- A struct type of n cells. -/
class Agt (P : Program) (t : TypeId) (n : outParam Nat) : Prop where
  ok : (P.info? t).map (·.size) = some n ∧ ((P.underlying t).any fun d => match d with | .struct _ => true | _ => false) = true
/-- Field i of struct type t lies at this offset. -/
class Fdt (P : Program) (t : TypeId) (i : Nat) (off : outParam Nat) : Prop where
  ok : ((P.underlying t).bind fun d => match d with | .struct fs => (fs[i]?).bind fun f => (P.info? f.type).bind fun j => if j.size = 0 then none else some f.offset | _ => none) = some off
/-- A slice type, its elements' type and their size. -/
class Slt (P : Program) (t : TypeId) (e sz : outParam Nat) : Prop where
  ok : P.underlying t = some (.slice e) ∧ (P.info? e).map (·.size) = some sz
/-- A type's zero. -/
class Zrt (P : Program) (t : TypeId) (z : outParam Value) : Prop where
  ok : (P.info? t).bind (·.zero) = some z
section
variable {P : Program} {w : World}
theorem run_und {t : TypeId} {d : TypeDesc} (h : P.underlying t = some d) (w : World) : (underlying t).run P w = .ok d w := by simp [underlying, h]
theorem run_size {t : TypeId} {n : Nat} (h : (P.info? t).map (·.size) = some n) (w : World) : (sizeOf t).run P w = .ok n w := by
  cases hi : P.info? t with
  | none => rw [hi] at h; cases h
  | some i => rw [hi] at h; simp only [Option.map_some, Option.some.injEq] at h; simp [sizeOf, typeInfo, hi, h]
theorem run_zero {t : TypeId} {z : Value} (h : (P.info? t).bind (·.zero) = some z) (w : World) : (zeroValue t).run P w = .ok z w := by
  cases hi : P.info? t with
  | none => rw [hi] at h; cases h
  | some i => rw [hi] at h; simp only [Option.bind_some] at h; simp [zeroValue, typeInfo, hi, h]
theorem run_isAgg_scl (t : TypeId) [c : Scl P t] (w : World) : (isAgg t).run P w = .ok false w := by
  obtain ⟨_, h⟩ := c.ok
  cases hu : P.underlying t with
  | none => rw [hu] at h; cases h
  | some d =>
    rw [hu] at h
    simp only [isAgg, Sem.run_bind, run_und hu, Result.andThen_ok]
    cases d <;> first | rfl | simp at h
theorem run_isAgg_agt (t : TypeId) {n : Nat} [c : Agt P t n] (w : World) : (isAgg t).run P w = .ok true w := by
  obtain ⟨_, h⟩ := c.ok
  cases hu : P.underlying t with
  | none => rw [hu] at h; cases h
  | some d =>
    rw [hu] at h
    simp only [isAgg, Sem.run_bind, run_und hu, Result.andThen_ok]
    cases d <;> first | rfl | simp at h
theorem adr_add (b o n : Nat) : (⟨b, o, none⟩ : Addr).add n = ⟨b, o + n, none⟩ := by
  unfold Addr.add; split
  · rename_i h; simp [h]
  · rfl
theorem run_loadVar1 (t : TypeId) [Scl P t] {a : Addr} {v : Value} (h : w.cell? a = some v) : (loadVar t a).run P w = .ok v w := by
  simp [loadVar, run_isAgg_scl, h]
theorem run_loadVarN (t : TypeId) {n b o : Nat} [c : Agt P t n] {vs : List Value} (hl : vs.length = n) (h : ∀ j v, vs[j]? = some v → w.cell? ⟨b, o + j, none⟩ = some v) : (loadVar t ⟨b, o, none⟩).run P w = .ok (.agg vs.toArray) w := by
  subst hl
  have h2 := run_loadCells_list (P := P) (w := w) ⟨b, o, none⟩ vs (fun j v hv => by rw [adr_add]; exact h j v hv)
  simp only [loadVar, Sem.run_bind, run_isAgg_agt, Result.andThen_ok, if_true, run_size c.ok.1, h2]
  rfl
end

/-! ### what is built -/
def setC : List Value → Nat → List Value → List Value
  | l, _, [] => l
  | l, o, v :: r => setC (l.set o v) (o + 1) r
def fillL (pl : List (Nat × Nat)) : List Value → List (Nat × Value) → Option (List Value)
  | z, [] => some z
  | z, (i, v) :: r => match pl[i]? with
    | none => none
    | some (off, size) => if v.cells.toList.length = size then (if off + size ≤ z.length then fillL pl (setC z off v.cells.toList) r else none) else none
theorem setC_fold (vs : List Value) : ∀ (l : List Value) (o i : Nat), (vs.zipIdx i).foldl (fun (cs : Array Value) (c, j) => cs.setIfInBounds (o + j) c) l.toArray = (setC l (o + i) vs).toArray := by
  induction vs with
  | nil => intro l o i; rfl
  | cons v r ih =>
    intro l o i
    rw [List.zipIdx_cons, List.foldl_cons]
    show List.foldl _ (l.toArray.setIfInBounds (o + i) v) _ = _
    rw [List.setIfInBounds_toArray, ih, setC, Nat.add_assoc]
theorem setC_length (vs : List Value) : ∀ (l : List Value) (o : Nat), (setC l o vs).length = l.length := by
  induction vs with
  | nil => intro l o; rfl
  | cons v r ih => intro l o; rw [setC, ih, List.length_set]
theorem fill_of_fillL {pl : List (Nat × Nat)} : ∀ {vs : List (Nat × Value)} {z cs : List Value}, fillL pl z vs = some cs → Instr.fill (pl.toArray[·]?) z.toArray vs = some cs.toArray
  | [], z, cs, h => by simp only [fillL, Option.some.injEq] at h; subst h; rfl
  | (i, v) :: r, z, cs, h => by
    simp only [fillL] at h
    simp only [Instr.fill]
    rw [List.getElem?_toArray]
    cases hp : pl[i]? with
    | none => rw [hp] at h; cases h
    | some q =>
      obtain ⟨off, size⟩ := q
      rw [hp] at h
      simp only at h ⊢
      split at h
      · rename_i h1
        split at h
        · rename_i h2
          have h1' : v.cells.size = size := by rw [← h1, Array.length_toList]
          rw [if_neg (by simp [h1']; omega)]
          have hfold : v.cells.zipIdx.foldl (fun (cs : Array Value) (c, j) => cs.setIfInBounds (off + j) c) z.toArray = (setC z off v.cells.toList).toArray := by
            rw [show setC z off v.cells.toList = setC z (off + 0) v.cells.toList from rfl, ← setC_fold, ← Array.foldl_toList, Array.toList_zipIdx]
          rw [hfold]
          exact fill_of_fillL h
        · cases h
      · cases h
class Bld (P : Program) (t : TypeId) (pl : outParam (List (Nat × Nat))) (z : outParam (List Value)) : Prop where
  ok : (P.info? t).bind (·.zero) = some (.agg z.toArray) ∧ ((P.underlying t).bind fun d => match d with | .struct fs => fs.toList.mapM (fun f => (P.info? f.type).map fun i => (f.offset, i.size)) | _ => none) = some pl
def evps (E : Env) : List (Nat × Operand) → Option (List (Nat × Value))
  | [] => some []
  | (i, x) :: r => match evo E x with
    | none => none
    | some v => match evps E r with
      | none => none
      | some vs => some ((i, v) :: vs)
theorem Rp.evpsx {N : Nat} {a : Act} {E : Env} (h : Rp N a E) : ∀ {xs : List (Nat × Operand)} {vs : List (Nat × Value)}, evps E xs = some vs → xs.map (fun p => (p.1, a.eval p.2)) = vs
  | [], vs, hx => by simp only [evps, Option.some.injEq] at hx; subst hx; rfl
  | (i, x) :: r, vs, hx => by
    simp only [evps] at hx
    cases h1 : evo E x with
    | none => simp [h1] at hx
    | some v =>
      cases h2 : evps E r with
      | none => simp [h1, h2] at hx
      | some us =>
        simp only [h1, h2, Option.some.injEq] at hx
        subst hx
        rw [List.map_cons, h.eval h1, h.evpsx h2]

/-! ### operations that leave the world alone -/
section
variable {P : Program} {N : Nat} {E : Env} {C : World → Prop} {dst : Option Tmp} {ty : TypeId} {pos : String} {af : Array Edge} {g : Option (Nat × Bool)}
theorem Y.move {x : Operand} {v : Value} (hx : evo E x = some v) : Yld P N E C ⟨dst, .move x, ty, pos, af, g⟩ v := fun a ha w _ => by simp [execOp, ha.eval hx]
theorem Y.assign {x : Operand} {v : Value} (hx : evo E x = some v) : Yld P N E C ⟨dst, .assign x, ty, pos, af, g⟩ v := fun a ha w _ => by simp [execOp, ha.eval hx]
theorem Y.pickT {c x y : Operand} {v : Value} (hc : evo E c = some (.bool true)) (hx : evo E x = some v) : Yld P N E C ⟨dst, .pick c x y, ty, pos, af, g⟩ v := fun a ha w _ => by simp [execOp, ha.eval hx, ha.eval hc, asBool]
theorem Y.pickF {c x y : Operand} {v : Value} (hc : evo E c = some (.bool false)) (hy : evo E y = some v) : Yld P N E C ⟨dst, .pick c x y, ty, pos, af, g⟩ v := fun a ha w _ => by simp [execOp, ha.eval hy, ha.eval hc, asBool]
theorem Y.not {t : TypeId} {x : Operand} {b : Bool} (hx : evo E x = some (.bool b)) : Yld P N E C ⟨dst, .unOp .not t x, ty, pos, af, g⟩ (.bool !b) := fun a ha w _ => by simp [execOp, ha.eval hx, Op.unary]
theorem Y.neg {t : TypeId} {x : Operand} {n : Int} (hx : evo E x = some (.int .i64 n)) (h0 : -9223372036854775807 ≤ n) (h1 : n ≤ 9223372036854775807) : Yld P N E C ⟨dst, .unOp .neg t x, ty, pos, af, g⟩ (.int .i64 (-n)) := fun a ha w _ => by
  have : IntKind.i64.wrap (-n) = -n := IntWalk.i64_in _ (by omega)
  simp [execOp, ha.eval hx, Op.unary, Op.intArith, this]
theorem Y.extract {t : Operand} {i : Nat} {vs : List Value} {v : Value} (ht : evo E t = some (.tuple vs.toArray)) (hv : vs[i]? = some v) : Yld P N E C ⟨dst, .extract t i, ty, pos, af, g⟩ v := fun a ha w _ => by simp [execOp, ha.eval ht, Instr.extract, hv]
theorem Y.add {t u : TypeId} {x y : Operand} {a b : Int} (hx : evo E x = some (.int .i64 a)) (hy : evo E y = some (.int .i64 b)) (h0 : -9223372036854775808 ≤ a + b) (h1 : a + b ≤ 9223372036854775807) : Yld P N E C ⟨dst, .binOp .add t x y u, ty, pos, af, g⟩ (.int .i64 (a + b)) := fun c ha w _ => by
  have : IntKind.i64.wrap (a + b) = a + b := IntWalk.i64_in _ (by omega)
  simp [execOp, ha.eval hx, ha.eval hy, eqGuard, binOp, Op.intArith, this]
theorem Y.sub {t u : TypeId} {x y : Operand} {a b : Int} (hx : evo E x = some (.int .i64 a)) (hy : evo E y = some (.int .i64 b)) (h0 : -9223372036854775808 ≤ a - b) (h1 : a - b ≤ 9223372036854775807) : Yld P N E C ⟨dst, .binOp .sub t x y u, ty, pos, af, g⟩ (.int .i64 (a - b)) := fun c ha w _ => by
  have : IntKind.i64.wrap (a - b) = a - b := IntWalk.i64_in _ (by omega)
  simp [execOp, ha.eval hx, ha.eval hy, eqGuard, binOp, Op.intArith, this]
section cmp
variable {t u : TypeId} {x y : Operand} {k : IntKind} {a b : Int}
theorem eqGuard_int (op : BinOp) (t : TypeId) (x y : Operand) (k k' : IntKind) (a b : Int) (w : World) : (eqGuard op t x y (.int k a) (.int k' b)).run P w = .ok () w := by
  unfold eqGuard; split <;> rfl
theorem Y.eql (hx : evo E x = some (.int k a)) (hy : evo E y = some (.int k b)) : Yld P N E C ⟨dst, .binOp .eql t x y u, ty, pos, af, g⟩ (.bool (decide (a = b))) := fun c ha w _ => by
  simp [execOp, ha.eval hx, ha.eval hy, eqGuard_int, binOp, Op.intCmp]
  rw [Bool.eq_iff_iff]; simp
theorem Y.neq (hx : evo E x = some (.int k a)) (hy : evo E y = some (.int k b)) : Yld P N E C ⟨dst, .binOp .neq t x y u, ty, pos, af, g⟩ (.bool (decide (a ≠ b))) := fun c ha w _ => by
  simp [execOp, ha.eval hx, ha.eval hy, eqGuard_int, binOp, Op.intCmp]
  rw [Bool.eq_iff_iff]; simp
theorem Y.lss (hx : evo E x = some (.int k a)) (hy : evo E y = some (.int k b)) : Yld P N E C ⟨dst, .binOp .lss t x y u, ty, pos, af, g⟩ (.bool (decide (a < b))) := fun c ha w _ => by
  simp [execOp, ha.eval hx, ha.eval hy, eqGuard_int, binOp, Op.intCmp]
theorem Y.leq (hx : evo E x = some (.int k a)) (hy : evo E y = some (.int k b)) : Yld P N E C ⟨dst, .binOp .leq t x y u, ty, pos, af, g⟩ (.bool (decide (a ≤ b))) := fun c ha w _ => by
  simp [execOp, ha.eval hx, ha.eval hy, eqGuard_int, binOp, Op.intCmp]
theorem Y.gtr (hx : evo E x = some (.int k a)) (hy : evo E y = some (.int k b)) : Yld P N E C ⟨dst, .binOp .gtr t x y u, ty, pos, af, g⟩ (.bool (decide (b < a))) := fun c ha w _ => by
  simp [execOp, ha.eval hx, ha.eval hy, eqGuard_int, binOp, Op.intCmp]
theorem Y.geq (hx : evo E x = some (.int k a)) (hy : evo E y = some (.int k b)) : Yld P N E C ⟨dst, .binOp .geq t x y u, ty, pos, af, g⟩ (.bool (decide (b ≤ a))) := fun c ha w _ => by
  simp [execOp, ha.eval hx, ha.eval hy, eqGuard_int, binOp, Op.intCmp]
end cmp
theorem Yld.boolT {o : Oper} {p : Prop} [Decidable p] (h : Yld P N E C o (.bool (decide p))) (hp : p) : Yld P N E C o (.bool true) := by rw [decide_eq_true hp] at h; exact h
theorem Yld.boolF {o : Oper} {p : Prop} [Decidable p] (h : Yld P N E C o (.bool (decide p))) (hp : ¬ p) : Yld P N E C o (.bool false) := by rw [decide_eq_false hp] at h; exact h
theorem Y.eqlB {t u : TypeId} {x y : Operand} {a b : Bool} (ht : P.underlying t = some .bool) (hx : evo E x = some (.bool a)) (hy : evo E y = some (.bool b)) : Yld P N E C ⟨dst, .binOp .eql t x y u, ty, pos, af, g⟩ (.bool (a == b)) := fun c ha w _ => by
  simp [execOp, ha.eval hx, ha.eval hy, eqGuard, run_eql_bool w t a b ht]
theorem Y.neqB {t u : TypeId} {x y : Operand} {a b : Bool} (ht : P.underlying t = some .bool) (hx : evo E x = some (.bool a)) (hy : evo E y = some (.bool b)) : Yld P N E C ⟨dst, .binOp .neq t x y u, ty, pos, af, g⟩ (.bool (!(a == b))) := fun c ha w _ => by
  simp [execOp, ha.eval hx, ha.eval hy, eqGuard, run_neq_bool w t a b ht]
theorem Y.eqlS {t u : TypeId} {x y : Operand} {a b : ByteArray} (hx : evo E x = some (.string a)) (hy : evo E y = some (.string b)) : Yld P N E C ⟨dst, .binOp .eql t x y u, ty, pos, af, g⟩ (.bool (a.toList == b.toList)) := fun c ha w _ => by
  simp [execOp, ha.eval hx, ha.eval hy, eqGuard, binOp, Op.stringOp]
theorem Y.neqS {t u : TypeId} {x y : Operand} {a b : ByteArray} (hx : evo E x = some (.string a)) (hy : evo E y = some (.string b)) : Yld P N E C ⟨dst, .binOp .neq t x y u, ty, pos, af, g⟩ (.bool (!(a.toList == b.toList))) := fun c ha w _ => by
  simp [execOp, ha.eval hx, ha.eval hy, eqGuard, binOp, Op.stringOp]
theorem Y.min2 {x y : Operand} {ts : Array TypeId} {a b : Int} (hx : evo E x = some (.int .i64 a)) (hy : evo E y = some (.int .i64 b)) : Yld P N E C ⟨dst, .call { callee := .builtin .min, args := #[x, y], argTypes := ts }, ty, pos, af, g⟩ (.int .i64 (if b < a then b else a)) := fun c ha w _ => by
  simp [execOp, resolve, invoke, builtin, ha.eval hx, ha.eval hy, run_min_int2]
theorem Y.max2 {x y : Operand} {ts : Array TypeId} {a b : Int} (hx : evo E x = some (.int .i64 a)) (hy : evo E y = some (.int .i64 b)) : Yld P N E C ⟨dst, .call { callee := .builtin .max, args := #[x, y], argTypes := ts }, ty, pos, af, g⟩ (.int .i64 (if b > a then b else a)) := fun c ha w _ => by
  simp [execOp, resolve, invoke, builtin, ha.eval hx, ha.eval hy, run_max_int2]
theorem Y.lenS {x : Operand} {t e sz : TypeId} [c : Slt P t e sz] {a : Option Addr} {n k : Nat} (hx : evo E x = some (.slice a n k)) : Yld P N E C ⟨dst, .call { callee := .builtin .len, args := #[x], argTypes := #[t] }, ty, pos, af, g⟩ (.int .i64 n) := fun c' ha w _ => by
  simp [execOp, resolve, invoke, builtin, ha.eval hx, Builtin.len_, run_und c.ok.1, goInt]
theorem Y.lenStr {x : Operand} {t : TypeId} {s : ByteArray} (ht : P.underlying t = some .string) (hx : evo E x = some (.string s)) : Yld P N E C ⟨dst, .call { callee := .builtin .len, args := #[x], argTypes := #[t] }, ty, pos, af, g⟩ (.int .i64 s.size) := fun c' ha w _ => by
  simp [execOp, resolve, invoke, builtin, ha.eval hx, Builtin.len_, run_und ht, goInt]
theorem Y.func {fn : Fn} {xs : List Operand} {vs : List Value} (hx : evos E xs = some vs) : Yld P N E C ⟨dst, .makeFunc fn #[] xs.toArray, ty, pos, af, g⟩ (.func fn #[] vs.toArray) := fun a ha w _ => by
  simp [execOp, Instr.makeFunc, ← ha.evals hx]
theorem Y.nilc {x : Operand} {p : Addr} (hx : evo E x = some (.pointer (some p))) : Yld P N E C ⟨dst, .nilCheck x, ty, pos, af, g⟩ (.pointer (some p)) := fun a ha w _ => by
  simp [execOp, ha.eval hx]
theorem Y.fld {x : Operand} {t i off b o : Nat} [c : Fdt P t i off] (hx : evo E x = some (.pointer (some ⟨b, o, none⟩))) : Yld P N E C ⟨dst, .fieldAddr t x i, ty, pos, af, g⟩ (.pointer (some ⟨b, o + off, none⟩)) := fun a ha w _ => by
  have h := c.ok
  cases hu : P.underlying t with
  | none => rw [hu] at h; cases h
  | some d =>
    rw [hu] at h
    cases d with
    | struct fs =>
      simp only [Option.bind_some] at h
      cases hf : fs[i]? with
      | none => rw [hf] at h; cases h
      | some f =>
        rw [hf] at h
        simp only [Option.bind_some] at h
        cases hj : P.info? f.type with
        | none => rw [hj] at h; cases h
        | some j =>
          rw [hj] at h
          simp only [Option.bind_some] at h
          split at h
          · cases h
          · rename_i hne
            obtain rfl := Option.some.inj h
            have hz : (P.info? f.type).map (·.size) = some j.size := by rw [hj]; rfl
            simp [execOp, ha.eval hx, Instr.fieldAt, run_und hu, hf, Instr.sureAddr, fieldPlace, run_size hz, hne, adr_add]
    | _ => simp at h
theorem Y.idx {x ix : Operand} {t e sz b o n c : Nat} [q : Slt P t e sz] {k : IntKind} {i : Int} (hx : evo E x = some (.slice (some ⟨b, o, none⟩) n c)) (hi : evo E ix = some (.int k i)) (h0 : 0 ≤ i) (h1 : i < n) : Yld P N E C ⟨dst, .indexAddr t x ix, ty, pos, af, g⟩ (.pointer (some ⟨b, o + i.toNat * sz, none⟩)) := fun a ha w _ => by
  simp [execOp, ha.eval hx, ha.eval hi, Instr.indexAt, asIntOf, run_und q.ok.1, h0, h1, run_size q.ok.2, adr_add]
theorem Y.idxStr {x ix : Operand} {t : TypeId} {s : ByteArray} {k : IntKind} {i : Int} {b : UInt8} (ht : P.underlying t = some .string) (hx : evo E x = some (.string s)) (hi : evo E ix = some (.int k i)) (h0 : 0 ≤ i) (hb : s[i.toNat]? = some b) : Yld P N E C ⟨dst, .index t x ix, ty, pos, af, g⟩ (.int .u8 b.toNat) := fun a ha w _ => by
  simp [execOp, ha.eval hx, ha.eval hi, Instr.index, asIntOf, run_und ht, h0, hb]
theorem Y.build {t : Nat} {pl : List (Nat × Nat)} {z cs : List Value} {xs : List (Nat × Operand)} {vs : List (Nat × Value)} [q : Bld P t pl z] (hx : evps E xs = some vs) (hf : fillL pl z vs = some cs) : Yld P N E C ⟨dst, .build t xs.toArray, ty, pos, af, g⟩ (.agg cs.toArray) := fun a ha w _ => by
  have h1 := ha.evpsx hx
  obtain ⟨hz, hp⟩ := q.ok
  have hb : P.built t vs = some cs.toArray := by
    unfold Program.built
    cases hi : P.info? t with
    | none => rw [hi] at hz; cases hz
    | some i =>
      rw [hi] at hz
      cases hu : P.underlying t with
      | none => rw [hu] at hp; cases hp
      | some d =>
        rw [hu] at hp
        cases d with
        | struct fs =>
          simp only [Option.bind_some] at hz hp
          simp only [hz, hp, Value.cells]
          exact fill_of_fillL hf
        | _ => simp at hp
  have h2 := run_build (P := P) w t vs.toArray cs.toArray (by simpa using hb)
  simp [execOp, h1, h2]
theorem Y.loadX {X : List (Nat × Obj)} {S : List Asn} {x : Operand} {t b o T : Nat} {cs : List Value} {fz : Nat × Nat} {v : Value} [Scl P t] (hx : evo E x = some (.pointer (some ⟨b, o, none⟩))) (hb : (b, Obj.cells cs.toArray T fz) ∈ X) (hv : cs[o]? = some v) : Yld P N E (Mm X S) ⟨dst, .load t x, ty, pos, af, g⟩ v := fun a ha w hC => by
  have h1 : w.cell? ⟨b, o, none⟩ = some v := by simp [World.cell?, hC.1 _ hb, hv]
  simp [execOp, ha.eval hx, Instr.loadAt, Instr.sureAddr, run_loadVar1 t h1]
theorem Y.loadXN {X : List (Nat × Obj)} {S : List Asn} {x : Operand} {t b o T n : Nat} {cs vs : List Value} {fz : Nat × Nat} [Agt P t n] (hx : evo E x = some (.pointer (some ⟨b, o, none⟩))) (hb : (b, Obj.cells cs.toArray T fz) ∈ X) (hv : (cs.drop o).take n = vs) (hl : vs.length = n) : Yld P N E (Mm X S) ⟨dst, .load t x, ty, pos, af, g⟩ (.agg vs.toArray) := fun a ha w hC => by
  have h1 := run_loadVarN (P := P) (w := w) t (b := b) (o := o) hl (fun j v hj => by
    subst hv
    rw [List.getElem?_take] at hj
    split at hj
    · rw [List.getElem?_drop] at hj
      simp [World.cell?, hC.1 _ hb, hj]
    · cases hj)
  simp [execOp, ha.eval hx, Instr.loadAt, Instr.sureAddr, h1]
/-- What a reading tells of a cell. -/
def Asn.reads (A : Asn) (b o : Nat) (v : Value) : Prop := ∀ w : World, A.hold w → w.cell? ⟨b, o, none⟩ = some v
def Asn.readsL (A : Asn) (b o : Nat) (vs : List Value) : Prop := ∀ j v, vs[j]? = some v → A.reads b (o + j) v
theorem Y.loadS {X : List (Nat × Obj)} {S : List Asn} {x : Operand} {t b o : Nat} {A : Asn} {v : Value} [Scl P t] (hx : evo E x = some (.pointer (some ⟨b, o, none⟩))) (hA : A ∈ S) (hv : A.reads b o v) : Yld P N E (Mm X S) ⟨dst, .load t x, ty, pos, af, g⟩ v := fun a ha w hC => by
  simp [execOp, ha.eval hx, Instr.loadAt, Instr.sureAddr, run_loadVar1 t (hv w (hC.2 A hA))]
theorem Y.loadSN {X : List (Nat × Obj)} {S : List Asn} {x : Operand} {t b o n : Nat} {A : Asn} {vs : List Value} [Agt P t n] (hx : evo E x = some (.pointer (some ⟨b, o, none⟩))) (hA : A ∈ S) (hv : A.readsL b o vs) (hl : vs.length = n) : Yld P N E (Mm X S) ⟨dst, .load t x, ty, pos, af, g⟩ (.agg vs.toArray) := fun a ha w hC => by
  simp [execOp, ha.eval hx, Instr.loadAt, Instr.sureAddr, run_loadVarN (P := P) (w := w) t (b := b) (o := o) hl (fun j v hj => hv j v hj w (hC.2 A hA))]
end
end Go.Proofs.Ytpfooiepmnaoaaa.E
