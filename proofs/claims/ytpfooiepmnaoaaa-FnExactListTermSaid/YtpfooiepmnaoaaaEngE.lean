/- The engine, fifth part: calls and bodies. -/
import Derived.Test.YtpfooiepmnaoaaaEngD
namespace Go.Proofs.Ytpfooiepmnaoaaa.E
open Go Go.RowKit
set_option linter.unusedVariables false
set_option linter.unusedSimpArgs false
def Ent (P : Program) (f : FuncId) : Prop := ∃ fn : Func, P.funcs[f]? = some fn ∧ (fn.name == "runtime.NumGoroutine") = false ∧ fn.body.isSome = true
/-- A call with these arguments returns, and R holds of what it returns and of the world behind it. -/
def Fn (P : Program) (f : FuncId) (args : List Value) (w : World) (R : Value → World → Prop) : Prop :=
  Ent P f ∧ Calls P f args.toArray w fun e w' => ∃ v, e = .returned v ∧ R v w'
theorem Fn.mono {P : Program} {f : FuncId} {args : List Value} {w : World} {R R' : Value → World → Prop} (h : Fn P f args w R) (k : ∀ v w', R v w' → R' v w') : Fn P f args w R' :=
  ⟨h.1, h.2.mono fun e w' ⟨v, he, hv⟩ => ⟨v, he, k v w' hv⟩⟩
theorem Fn.of {P : Program} {f : FuncId} {args : Array Value} {w : World} {v : Value} {R : World → Prop} (he : Ent P f) (h : Calls P f args w fun e w' => e = .returned v ∧ R w') : Fn P f args.toList w fun u w' => u = v ∧ R w' :=
  ⟨he, by rw [Array.toArray_toList]; exact h.mono fun e w' ⟨he, hr⟩ => ⟨v, he, rfl, hr⟩⟩
section
variable {P : Program} {ops : Array Oper} {N : Nat} {Q : Post} {E : Env} {w : World} {rest : List Oper} {ty : TypeId} {pos : String} {af : Array Edge} {d : Nat}
theorem run_enter {f : FuncId} (h : Ent P f) (args : Array Value) (w : World) : (callFunc f args).run P w = .ok (.enter f args) w := by
  obtain ⟨fn, hf, hn, hb⟩ := h
  have hn' : ¬ fn.name = "runtime.NumGoroutine" := by simpa using hn
  cases hbb : fn.body with
  | none => rw [hbb] at hb; cases hb
  | some c => simp [callFunc, hf, hn', hbb]
theorem WL.enter {dst : Option Tmp} {op : Op} {f : FuncId} {args : List Value} {R : Value → World → Prop} (hr : ∀ a, Rp N a E → (execOp a.eval ⟨dst, op, ty, pos, af, none⟩).run P w = .ok (.enter f args.toArray) w) (hF : Fn P f args w R) (hd : dst = some d) (hN : d < N)
    (h : ∀ v w', R v w' → WL P ops N Q rest ((d, v) :: E) w') : WL P ops N Q (⟨dst, op, ty, pos, af, none⟩ :: rest) E w := ⟨fun a ha => by
  refine wpList_plain rfl fun K hK => ?_
  unfold Oper.wp
  rw [hr a ha, Oper.upon_enter]
  refine hF.2.mono fun e w' ⟨v, he, hv⟩ => ?_
  subst he
  subst hd
  exact hK _ _ ((h v w' hv).go _ (ha.put hN _))⟩
theorem WL.call {f : FuncId} {xs : List Operand} {vs : List Value} {ts : Array TypeId} {R : Value → World → Prop} (hx : evos E xs = some vs) (hF : Fn P f vs w R) (hN : d < N)
    (h : ∀ v w', R v w' → WL P ops N Q rest ((d, v) :: E) w') : WL P ops N Q (⟨some d, .call { callee := .value (.func f), args := xs.toArray, argTypes := ts }, ty, pos, af, none⟩ :: rest) E w :=
  WL.enter (fun a ha => by
    have h1 := ha.evals hx
    have h2 : a.eval (.func f) = .func (.func f) #[] #[] := rfl
    simp [execOp, resolve, Deferred.ofValue, invoke, h1, h2, run_enter hF.1]) hF rfl hN h
theorem WL.callV {f : FuncId} {t : Operand} {xs : List Operand} {vs caps : List Value} {ts : Array TypeId} {R : Value → World → Prop} (ht : evo E t = some (.func (.func f) #[] caps.toArray)) (hx : evos E xs = some vs) (hF : Fn P f (vs ++ caps) w R) (hN : d < N)
    (h : ∀ v w', R v w' → WL P ops N Q rest ((d, v) :: E) w') : WL P ops N Q (⟨some d, .call { callee := .value t, args := xs.toArray, argTypes := ts }, ty, pos, af, none⟩ :: rest) E w :=
  WL.enter (fun a ha => by
    have h1 := ha.evals hx
    simp [execOp, resolve, Deferred.ofValue, invoke, h1, ha.eval ht, run_enter hF.1]) hF rfl hN h
def resVal (P : Program) (E : Env) (w : World) : ResultVar → Value → Prop
  | .tmp t, v => look E t = some v
  | .cell t ty, v => ∃ p, look E t = some (.pointer (some p)) ∧ (loadVar ty p).run P w = .ok v w
inductive resAll (P : Program) (E : Env) (w : World) : List ResultVar → List Value → Prop
  | nil : resAll P E w [] []
  | cons {r : ResultVar} {v : Value} {rs : List ResultVar} {vs : List Value} (h : resVal P E w r v) (t : resAll P E w rs vs) : resAll P E w (r :: rs) (v :: vs)
def tup : List Value → Value
  | [v] => v
  | vs => .tuple vs.toArray
def resQ (P : Program) (rs : List ResultVar) (R : Value → World → Prop) : Post
  | .normal, E, w | .ret, E, w => ∃ vs, resAll P E w rs vs ∧ R (tup vs) w
  | _, _, _ => False
theorem run_results {N : Nat} {a : Act} {E : Env} (ha : Rp N a E) {fn : Func} {rs : List ResultVar} (hr : fn.results = rs.toArray) {vs : List Value} (h : resAll P E w rs vs) : (results fn a.tmps).run P w = .ok (tup vs) w := by
  have key : ∀ (g : ResultVar → Sem Value) (hg : ∀ r v, resVal P E w r v → (g r).run P w = .ok v w) {rs : List ResultVar} {vs : List Value}, resAll P E w rs vs → (rs.mapM g).run P w = .ok vs w := by
    intro g hg rs vs h
    induction h with
    | nil => rfl
    | @cons r v rs vs h t ih =>
      rw [List.mapM_cons]
      simp only [Sem.run_bind, hg r v h, Result.andThen_ok, ih, Sem.run_pure]
  unfold results
  rw [hr, Array.mapM_eq_mapM_toList]
  simp only [Sem.run_bind, Sem.run_map, Sem.run_pure]
  rw [key _ _ h]
  · simp only [Result.andThen_ok]
    match vs with
    | [] => rfl
    | [v] => rfl
    | v :: u :: r => simp [tup]
  · intro r v h
    cases r with
    | tmp t =>
      have := ha.get t v h
      simp [Array.getD_eq_getD_getElem?, this]
    | cell b t =>
      obtain ⟨p, hp, hl⟩ := h
      have := ha.get b _ hp
      simp [Array.getD_eq_getD_getElem?, this, asAddr, hl]
def enumE : Nat → List Value → Env
  | _, [] => []
  | k, v :: r => (k, v) :: enumE (k + 1) r
theorem look_enumE : ∀ (vs : List Value) (k n : Nat) (v : Value), look (enumE k vs) n = some v → k ≤ n ∧ vs[n - k]? = some v
  | [], k, n, v, h => by cases h
  | u :: r, k, n, v, h => by
    rw [enumE, look_cons] at h
    by_cases e : k = n
    · subst e; rw [if_pos rfl] at h; exact ⟨Nat.le_refl _, by simpa using h⟩
    · rw [if_neg e] at h
      obtain ⟨h1, h2⟩ := look_enumE r (k + 1) n v h
      refine ⟨by omega, ?_⟩
      rw [show n - k = (n - (k + 1)) + 1 by omega, List.getElem?_cons_succ]
      exact h2
theorem Fn.body {f : FuncId} {fn : Func} {c : Code} {args : List Value} {R : Value → World → Prop} {rs : List ResultVar} (hf : P.funcs[f]? = some fn) (hn : (fn.name == "runtime.NumGoroutine") = false) (hb : fn.body = some c) (hN : fn.ntmps = N) (hr : fn.results = rs.toArray) (hl : Nat.ble args.length N = true)
    (h : WC P N (resQ P rs R) c (enumE 0 args) w) : Fn P f args w R := by
  have hl := Nat.le_of_ble_eq_true hl
  refine ⟨⟨fn, hf, hn, by rw [hb]; rfl⟩, calls_of_wp hf hb ?_⟩
  refine wp_mono (h.go _ ⟨?_, rfl, fun k v hk => ?_⟩) ?_
  · simp [hN]; omega
  · obtain ⟨_, h2⟩ := look_enumE args 0 k v hk
    rw [Nat.sub_zero] at h2
    have := (List.getElem?_eq_some_iff.1 h2).1
    rw [Array.getElem?_append_left (by simpa using this)]
    simpa using h2
  · rintro e a' w' ⟨E', hr', hq⟩
    cases e with
    | normal => obtain ⟨vs, h1, h2⟩ := hq; exact ⟨hr'.defers, _, run_results hr' hr h1, _, rfl, h2⟩
    | ret => obtain ⟨vs, h1, h2⟩ := hq; exact ⟨hr'.defers, _, run_results hr' hr h1, _, rfl, h2⟩
    | _ => exact hq.elim
/-! ends -/
theorem AtQ.r0 {R : Value → World → Prop} (h : R (.tuple #[]) w) : AtQ (resQ P [] R) .ret E w := ⟨⟨[], .nil, h⟩⟩
theorem AtQ.r0' {R : Value → World → Prop} (h : R (.tuple #[]) w) : AtQ (resQ P [] R) .normal E w := ⟨⟨[], .nil, h⟩⟩
theorem AtQ.r1 {R : Value → World → Prop} {r : ResultVar} {v : Value} (h1 : resVal P E w r v) (h : R v w) : AtQ (resQ P [r] R) .ret E w := ⟨⟨[v], .cons h1 .nil, h⟩⟩
theorem AtQ.r2 {R : Value → World → Prop} {r r2 : ResultVar} {v v2 : Value} (h1 : resVal P E w r v) (h2 : resVal P E w r2 v2) (h : R (.tuple #[v, v2]) w) : AtQ (resQ P [r, r2] R) .ret E w := ⟨⟨[v, v2], .cons h1 (.cons h2 .nil), h⟩⟩
theorem AtQ.r3 {R : Value → World → Prop} {r r2 r3 : ResultVar} {v v2 v3 : Value} (h1 : resVal P E w r v) (h2 : resVal P E w r2 v2) (h3 : resVal P E w r3 v3) (h : R (.tuple #[v, v2, v3]) w) : AtQ (resQ P [r, r2, r3] R) .ret E w := ⟨⟨[v, v2, v3], .cons h1 (.cons h2 (.cons h3 .nil)), h⟩⟩
theorem resVal.t {t : Nat} {v : Value} (h : look E t = some v) : resVal P E w (.tmp t) v := h
theorem resVal.c1 {w0 : World} {F0 : Nat → Prop} {X : List (Nat × Obj)} {S : List Asn} {t T b o : Nat} {ty : TypeId} {cs : List Value} {fz : Nat × Nat} {v : Value} [Scl P ty] (H : SH w0 F0 w X S) (h : look E t = some (.pointer (some ⟨b, o, none⟩))) (hb : (b, Obj.cells cs.toArray T fz) ∈ X) (hv : cs[o]? = some v) : resVal P E w (.cell t ty) v :=
  ⟨_, h, run_loadVar1 ty (by simp [World.cell?, H.blk hb, hv])⟩
theorem resVal.cN {w0 : World} {F0 : Nat → Prop} {X : List (Nat × Obj)} {S : List Asn} {t T b n : Nat} {ty : TypeId} {cs : List Value} {fz : Nat × Nat} [Agt P ty n] (H : SH w0 F0 w X S) (h : look E t = some (.pointer (some ⟨b, 0, none⟩))) (hb : (b, Obj.cells cs.toArray T fz) ∈ X) (hl : Nat.beq cs.length n = true) : resVal P E w (.cell t ty) (.agg cs.toArray) :=
  ⟨_, h, run_loadVarN ty (Nat.eq_of_beq_eq_true hl) (fun j v hj => by simp [World.cell?, H.blk hb, hj])⟩
theorem AtQ.then_ret {K : Env → World → Prop} (h : AtQ Q .ret E w) : AtQ (thenQ K Q) .ret E w := ⟨h.ok⟩
theorem AtQ.then_exit {K : Env → World → Prop} {i : Nat} (h : AtQ Q (.exit i) E w) : AtQ (thenQ K Q) (.exit i) E w := ⟨h.ok⟩
theorem AtQ.then_norm {K : Env → World → Prop} (h : K E w) : AtQ (thenQ K Q) .normal E w := ⟨h⟩
theorem AtQ.block_ret {i : Nat} (h : AtQ Q .ret E w) : AtQ (blockQ i Q) .ret E w := ⟨h.ok⟩
theorem AtQ.block_norm {i : Nat} (h : AtQ Q .normal E w) : AtQ (blockQ i Q) .normal E w := ⟨h.ok⟩
theorem AtQ.block_here {i : Nat} (h : AtQ Q .normal E w) : AtQ (blockQ i Q) (.exit i) E w := ⟨by
  show (if i = i then _ else _)
  rw [if_pos rfl]; exact h.ok⟩
theorem AtQ.block_other {i j : Nat} (hne : Nat.beq j i = false) (h : AtQ Q (.exit j) E w) : AtQ (blockQ i Q) (.exit j) E w := ⟨by
  show (if j = i then _ else _)
  rw [if_neg (fun e => by subst e; simp [Nat.beq_refl] at hne)]; exact h.ok⟩
theorem AtQ.loop_ret {σ : Type} {env : σ → Env} {inv : σ → World → Prop} {m : σ → Nat} {s : σ} (h : AtQ Q .ret E w) : AtQ (loopQ env inv m s Q) .ret E w := ⟨h.ok⟩
theorem AtQ.loop_exit {σ : Type} {env : σ → Env} {inv : σ → World → Prop} {m : σ → Nat} {s : σ} {i : Nat} (h : AtQ Q (.exit i) E w) : AtQ (loopQ env inv m s Q) (.exit i) E w := ⟨h.ok⟩
theorem AtQ.loop_norm {σ : Type} {env : σ → Env} {inv : σ → World → Prop} {m : σ → Nat} {s : σ} (s' : σ) (h1 : Sub (env s') E) (h2 : inv s' w) (h3 : m s' < m s) : AtQ (loopQ env inv m s Q) .normal E w := ⟨⟨s', h1, h2, h3⟩⟩
/-! which operation stands next -/
theorem is_move {x : Operand} (h : WL P ops N Q (⟨some d, .move x, ty, pos, af, none⟩ :: rest) E w) : WL P ops N Q (⟨some d, .move x, ty, pos, af, none⟩ :: rest) E w := h
theorem is_assign {x : Operand} (h : WL P ops N Q (⟨some d, .assign x, ty, pos, af, none⟩ :: rest) E w) : WL P ops N Q (⟨some d, .assign x, ty, pos, af, none⟩ :: rest) E w := h
theorem is_pick {x y z : Operand} (h : WL P ops N Q (⟨some d, .pick x y z, ty, pos, af, none⟩ :: rest) E w) : WL P ops N Q (⟨some d, .pick x y z, ty, pos, af, none⟩ :: rest) E w := h
theorem is_not {t : TypeId} {x : Operand} (h : WL P ops N Q (⟨some d, .unOp .not t x, ty, pos, af, none⟩ :: rest) E w) : WL P ops N Q (⟨some d, .unOp .not t x, ty, pos, af, none⟩ :: rest) E w := h
theorem is_neg {t : TypeId} {x : Operand} (h : WL P ops N Q (⟨some d, .unOp .neg t x, ty, pos, af, none⟩ :: rest) E w) : WL P ops N Q (⟨some d, .unOp .neg t x, ty, pos, af, none⟩ :: rest) E w := h
theorem is_extract {x : Operand} {i : Nat} (h : WL P ops N Q (⟨some d, .extract x i, ty, pos, af, none⟩ :: rest) E w) : WL P ops N Q (⟨some d, .extract x i, ty, pos, af, none⟩ :: rest) E w := h
theorem is_fld {t i : Nat} {x : Operand} (h : WL P ops N Q (⟨some d, .fieldAddr t x i, ty, pos, af, none⟩ :: rest) E w) : WL P ops N Q (⟨some d, .fieldAddr t x i, ty, pos, af, none⟩ :: rest) E w := h
theorem is_idx {t : Nat} {x y : Operand} (h : WL P ops N Q (⟨some d, .indexAddr t x y, ty, pos, af, none⟩ :: rest) E w) : WL P ops N Q (⟨some d, .indexAddr t x y, ty, pos, af, none⟩ :: rest) E w := h
theorem is_load {t : Nat} {x : Operand} (h : WL P ops N Q (⟨some d, .load t x, ty, pos, af, none⟩ :: rest) E w) : WL P ops N Q (⟨some d, .load t x, ty, pos, af, none⟩ :: rest) E w := h
theorem is_alloc {t : Nat} (h : WL P ops N Q (⟨some d, .alloc t, ty, pos, af, none⟩ :: rest) E w) : WL P ops N Q (⟨some d, .alloc t, ty, pos, af, none⟩ :: rest) E w := h
theorem is_box {t : Nat} {x : Operand} (h : WL P ops N Q (⟨some d, .box t x, ty, pos, af, none⟩ :: rest) E w) : WL P ops N Q (⟨some d, .box t x, ty, pos, af, none⟩ :: rest) E w := h
theorem is_bslice {t n : Nat} {xs : Array (Nat × Operand)} (h : WL P ops N Q (⟨some d, .buildSlice t n xs, ty, pos, af, none⟩ :: rest) E w) : WL P ops N Q (⟨some d, .buildSlice t n xs, ty, pos, af, none⟩ :: rest) E w := h
theorem is_build {t : Nat} {xs : Array (Nat × Operand)} (h : WL P ops N Q (⟨some d, .build t xs, ty, pos, af, none⟩ :: rest) E w) : WL P ops N Q (⟨some d, .build t xs, ty, pos, af, none⟩ :: rest) E w := h
theorem is_func {fn : Go.Fn} {x y : Array Operand} (h : WL P ops N Q (⟨some d, .makeFunc fn x y, ty, pos, af, none⟩ :: rest) E w) : WL P ops N Q (⟨some d, .makeFunc fn x y, ty, pos, af, none⟩ :: rest) E w := h
theorem is_mkmap {t : Nat} {x : Option Operand} (h : WL P ops N Q (⟨some d, .makeMap t x, ty, pos, af, none⟩ :: rest) E w) : WL P ops N Q (⟨some d, .makeMap t x, ty, pos, af, none⟩ :: rest) E w := h
theorem is_mksl {t : Nat} {x y : Operand} (h : WL P ops N Q (⟨some d, .makeSlice t x y, ty, pos, af, none⟩ :: rest) E w) : WL P ops N Q (⟨some d, .makeSlice t x y, ty, pos, af, none⟩ :: rest) E w := h
theorem is_lookup {t : Nat} {x y : Operand} {b : Bool} (h : WL P ops N Q (⟨some d, .lookup t x y b, ty, pos, af, none⟩ :: rest) E w) : WL P ops N Q (⟨some d, .lookup t x y b, ty, pos, af, none⟩ :: rest) E w := h
theorem is_nilc {x : Operand} (h : WL P ops N Q (⟨some d, .nilCheck x, ty, pos, af, none⟩ :: rest) E w) : WL P ops N Q (⟨some d, .nilCheck x, ty, pos, af, none⟩ :: rest) E w := h
theorem is_index {t : Nat} {x y : Operand} (h : WL P ops N Q (⟨some d, .index t x y, ty, pos, af, none⟩ :: rest) E w) : WL P ops N Q (⟨some d, .index t x y, ty, pos, af, none⟩ :: rest) E w := h
theorem is_slice {t : Nat} {x : Operand} {l u m : Option Operand} (h : WL P ops N Q (⟨some d, .slice t x l u m, ty, pos, af, none⟩ :: rest) E w) : WL P ops N Q (⟨some d, .slice t x l u m, ty, pos, af, none⟩ :: rest) E w := h
theorem is_conv {t u : Nat} {x : Operand} (h : WL P ops N Q (⟨some d, .convert t u x, ty, pos, af, none⟩ :: rest) E w) : WL P ops N Q (⟨some d, .convert t u x, ty, pos, af, none⟩ :: rest) E w := h
theorem is_range {t : Nat} {x : Operand} (h : WL P ops N Q (⟨some d, .range t x, ty, pos, af, none⟩ :: rest) E w) : WL P ops N Q (⟨some d, .range t x, ty, pos, af, none⟩ :: rest) E w := h
theorem is_next {x : Operand} {b : Bool} (h : WL P ops N Q (⟨some d, .next x b, ty, pos, af, none⟩ :: rest) E w) : WL P ops N Q (⟨some d, .next x b, ty, pos, af, none⟩ :: rest) E w := h
theorem is_entry {x : Operand} (h : WL P ops N Q (⟨some d, .entry x, ty, pos, af, none⟩ :: rest) E w) : WL P ops N Q (⟨some d, .entry x, ty, pos, af, none⟩ :: rest) E w := h
theorem is_call {f : FuncId} {xs : Array Operand} {ts : Array TypeId} (h : WL P ops N Q (⟨some d, .call { callee := .value (.func f), args := xs, argTypes := ts }, ty, pos, af, none⟩ :: rest) E w) : WL P ops N Q (⟨some d, .call { callee := .value (.func f), args := xs, argTypes := ts }, ty, pos, af, none⟩ :: rest) E w := h
theorem is_callV {t : Tmp} {xs : Array Operand} {ts : Array TypeId} (h : WL P ops N Q (⟨some d, .call { callee := .value (.tmp t), args := xs, argTypes := ts }, ty, pos, af, none⟩ :: rest) E w) : WL P ops N Q (⟨some d, .call { callee := .value (.tmp t), args := xs, argTypes := ts }, ty, pos, af, none⟩ :: rest) E w := h
theorem is_len {xs : Array Operand} {ts : Array TypeId} (h : WL P ops N Q (⟨some d, .call { callee := .builtin .len, args := xs, argTypes := ts }, ty, pos, af, none⟩ :: rest) E w) : WL P ops N Q (⟨some d, .call { callee := .builtin .len, args := xs, argTypes := ts }, ty, pos, af, none⟩ :: rest) E w := h
theorem is_min {xs : Array Operand} {ts : Array TypeId} (h : WL P ops N Q (⟨some d, .call { callee := .builtin .min, args := xs, argTypes := ts }, ty, pos, af, none⟩ :: rest) E w) : WL P ops N Q (⟨some d, .call { callee := .builtin .min, args := xs, argTypes := ts }, ty, pos, af, none⟩ :: rest) E w := h
theorem is_max {xs : Array Operand} {ts : Array TypeId} (h : WL P ops N Q (⟨some d, .call { callee := .builtin .max, args := xs, argTypes := ts }, ty, pos, af, none⟩ :: rest) E w) : WL P ops N Q (⟨some d, .call { callee := .builtin .max, args := xs, argTypes := ts }, ty, pos, af, none⟩ :: rest) E w := h
theorem is_append {xs : Array Operand} {ts : Array TypeId} (h : WL P ops N Q (⟨some d, .call { callee := .builtin .append, args := xs, argTypes := ts }, ty, pos, af, none⟩ :: rest) E w) : WL P ops N Q (⟨some d, .call { callee := .builtin .append, args := xs, argTypes := ts }, ty, pos, af, none⟩ :: rest) E w := h
theorem is_cap {xs : Array Operand} {ts : Array TypeId} (h : WL P ops N Q (⟨some d, .call { callee := .builtin .cap, args := xs, argTypes := ts }, ty, pos, af, none⟩ :: rest) E w) : WL P ops N Q (⟨some d, .call { callee := .builtin .cap, args := xs, argTypes := ts }, ty, pos, af, none⟩ :: rest) E w := h
theorem is_copy {xs : Array Operand} {ts : Array TypeId} (h : WL P ops N Q (⟨some d, .call { callee := .builtin .copy, args := xs, argTypes := ts }, ty, pos, af, none⟩ :: rest) E w) : WL P ops N Q (⟨some d, .call { callee := .builtin .copy, args := xs, argTypes := ts }, ty, pos, af, none⟩ :: rest) E w := h
theorem is_eql {t u : TypeId} {x y : Operand} (h : WL P ops N Q (⟨some d, .binOp .eql t x y u, ty, pos, af, none⟩ :: rest) E w) : WL P ops N Q (⟨some d, .binOp .eql t x y u, ty, pos, af, none⟩ :: rest) E w := h
theorem is_neq {t u : TypeId} {x y : Operand} (h : WL P ops N Q (⟨some d, .binOp .neq t x y u, ty, pos, af, none⟩ :: rest) E w) : WL P ops N Q (⟨some d, .binOp .neq t x y u, ty, pos, af, none⟩ :: rest) E w := h
theorem is_lss {t u : TypeId} {x y : Operand} (h : WL P ops N Q (⟨some d, .binOp .lss t x y u, ty, pos, af, none⟩ :: rest) E w) : WL P ops N Q (⟨some d, .binOp .lss t x y u, ty, pos, af, none⟩ :: rest) E w := h
theorem is_leq {t u : TypeId} {x y : Operand} (h : WL P ops N Q (⟨some d, .binOp .leq t x y u, ty, pos, af, none⟩ :: rest) E w) : WL P ops N Q (⟨some d, .binOp .leq t x y u, ty, pos, af, none⟩ :: rest) E w := h
theorem is_gtr {t u : TypeId} {x y : Operand} (h : WL P ops N Q (⟨some d, .binOp .gtr t x y u, ty, pos, af, none⟩ :: rest) E w) : WL P ops N Q (⟨some d, .binOp .gtr t x y u, ty, pos, af, none⟩ :: rest) E w := h
theorem is_geq {t u : TypeId} {x y : Operand} (h : WL P ops N Q (⟨some d, .binOp .geq t x y u, ty, pos, af, none⟩ :: rest) E w) : WL P ops N Q (⟨some d, .binOp .geq t x y u, ty, pos, af, none⟩ :: rest) E w := h
theorem is_add {t u : TypeId} {x y : Operand} (h : WL P ops N Q (⟨some d, .binOp .add t x y u, ty, pos, af, none⟩ :: rest) E w) : WL P ops N Q (⟨some d, .binOp .add t x y u, ty, pos, af, none⟩ :: rest) E w := h
theorem is_sub {t u : TypeId} {x y : Operand} (h : WL P ops N Q (⟨some d, .binOp .sub t x y u, ty, pos, af, none⟩ :: rest) E w) : WL P ops N Q (⟨some d, .binOp .sub t x y u, ty, pos, af, none⟩ :: rest) E w := h
theorem is_mul {t u : TypeId} {x y : Operand} (h : WL P ops N Q (⟨some d, .binOp .mul t x y u, ty, pos, af, none⟩ :: rest) E w) : WL P ops N Q (⟨some d, .binOp .mul t x y u, ty, pos, af, none⟩ :: rest) E w := h
theorem is_quo {t u : TypeId} {x y : Operand} (h : WL P ops N Q (⟨some d, .binOp .quo t x y u, ty, pos, af, none⟩ :: rest) E w) : WL P ops N Q (⟨some d, .binOp .quo t x y u, ty, pos, af, none⟩ :: rest) E w := h
theorem is_rem {t u : TypeId} {x y : Operand} (h : WL P ops N Q (⟨some d, .binOp .rem t x y u, ty, pos, af, none⟩ :: rest) E w) : WL P ops N Q (⟨some d, .binOp .rem t x y u, ty, pos, af, none⟩ :: rest) E w := h
theorem is_store {t : Nat} {x y : Operand} (h : WL P ops N Q (⟨none, .store t x y, ty, pos, af, none⟩ :: rest) E w) : WL P ops N Q (⟨none, .store t x y, ty, pos, af, none⟩ :: rest) E w := h
theorem is_mapup {t : Nat} {x y z : Operand} (h : WL P ops N Q (⟨none, .mapUpdate t x y z, ty, pos, af, none⟩ :: rest) E w) : WL P ops N Q (⟨none, .mapUpdate t x y z, ty, pos, af, none⟩ :: rest) E w := h
theorem is_grd {dst : Option Tmp} {op : Op} {g : Nat × Bool} (h : WL P ops N Q (⟨dst, op, ty, pos, af, some g⟩ :: rest) E w) : WL P ops N Q (⟨dst, op, ty, pos, af, some g⟩ :: rest) E w := h
theorem is_cond {c : Operand} {x y : Code} (h : WC P N Q (.cond c x y) E w) : WC P N Q (.cond c x y) E w := h
theorem WC.reg {id : Nat} {l : List Oper} (h : WL P l.toArray N Q l E w) : WC P N Q (.region id l.toArray false) E w := ⟨fun a ha => wp_region_lit (h.go a ha)⟩
end
end Go.Proofs.Ytpfooiepmnaoaaa.E
