/- The engine, first part: environments, control, calls. Forward steps through the code of a function, one lemma an operation. -/
import Derived.WalkKit
import Derived.OrdersHeld
namespace Go.Proofs.Ytpfooiepmnaoaaa.E
open Go Go.RowKit
set_option linter.unusedVariables false
set_option linter.unusedSimpArgs false

abbrev Env := List (Nat × Value)
def look : Env → Nat → Option Value
  | [], _ => none
  | (k, v) :: r, n => bif Nat.beq k n then some v else look r n
def evo (E : Env) : Operand → Option Value
  | .tmp t => look E t
  | .const v => some v
  | .global g => some (.pointer (some ⟨g, 0, none⟩))
  | .func f => some (.func (.func f) #[] #[])
def evos (E : Env) : List Operand → Option (List Value)
  | [] => some []
  | x :: r => match evo E x with
    | none => none
    | some v => match evos E r with
      | none => none
      | some vs => some (v :: vs)
/-- The frame holds what the environment says. -/
structure Rp (N : Nat) (a : Act) (E : Env) : Prop where
  size : a.tmps.size = N
  defers : a.defers = []
  get : ∀ k v, look E k = some v → a.tmps[k]? = some v
theorem look_cons (k : Nat) (v : Value) (E : Env) (n : Nat) : look ((k, v) :: E) n = if k = n then some v else look E n := by
  show (bif Nat.beq k n then some v else look E n) = _
  by_cases h : k = n
  · subst h; simp [Nat.beq_refl]
  · have : Nat.beq k n = false := by
      cases hb : Nat.beq k n with
      | false => rfl
      | true => exact absurd (Nat.eq_of_beq_eq_true hb) h
    simp [this, h]
theorem Rp.put {N : Nat} {a : Act} {E : Env} (h : Rp N a E) {d : Nat} (hd : d < N) (v : Value) : Rp N (a.put (some d) v) ((d, v) :: E) := by
  refine ⟨by simp [Act.put, h.size], by simp [Act.put, h.defers], fun k u hk => ?_⟩
  rw [look_cons] at hk
  by_cases e : d = k
  · subst e
    rw [if_pos rfl] at hk
    obtain rfl := Option.some.inj hk
    simp [Act.put, h.size, hd]
  · rw [if_neg e] at hk
    have := h.get k u hk
    simpa [Act.put, Array.getElem?_setIfInBounds_ne e] using this
theorem Rp.eval {N : Nat} {a : Act} {E : Env} (h : Rp N a E) {x : Operand} {v : Value} (hx : evo E x = some v) : a.eval x = v := by
  cases x with
  | tmp t => simp only [evo] at hx; have := h.get t v hx; simp [Act.eval, Array.getD_eq_getD_getElem?, this]
  | const u => exact Option.some.inj hx
  | global g => exact Option.some.inj hx
  | func f => exact Option.some.inj hx
theorem Rp.evals {N : Nat} {a : Act} {E : Env} (h : Rp N a E) : ∀ {xs : List Operand} {vs : List Value}, evos E xs = some vs → xs.map a.eval = vs
  | [], vs, hx => by simp only [evos, Option.some.injEq] at hx; subst hx; rfl
  | x :: r, vs, hx => by
    simp only [evos] at hx
    cases h1 : evo E x with
    | none => simp [h1] at hx
    | some v =>
      cases h2 : evos E r with
      | none => simp [h1, h2] at hx
      | some us =>
        simp only [h1, h2, Option.some.injEq] at hx
        subst hx
        rw [List.map_cons, h.eval h1, h.evals h2]
/-- The slots of one environment stand in another. -/
def Sub (E' E : Env) : Prop := ∀ k v, look E' k = some v → look E k = some v
theorem Sub.nil {E : Env} : Sub [] E := fun _ _ h => by cases h
theorem Sub.cons {E E' : Env} {k : Nat} {v : Value} (h : look E k = some v) (t : Sub E' E) : Sub ((k, v) :: E') E := fun n u hu => by
  rw [look_cons] at hu
  by_cases e : k = n
  · subst e; rw [if_pos rfl] at hu; rw [← hu]; exact h
  · rw [if_neg e] at hu; exact t n u hu
theorem Sub.refl (E : Env) : Sub E E := fun _ _ h => h
theorem Rp.sub {N : Nat} {a : Act} {E E' : Env} (h : Rp N a E) (s : Sub E' E) : Rp N a E' := ⟨h.size, h.defers, fun k v hk => h.get k v (s k v hk)⟩

abbrev Post := Exit → Env → World → Prop
def lift (N : Nat) (Q : Post) : Exit → Act → World → Prop := fun e a w => ∃ E, Rp N a E ∧ Q e E w
structure WC (P : Program) (N : Nat) (Q : Post) (c : Code) (E : Env) (w : World) : Prop where
  go : ∀ a, Rp N a E → c.wp P (lift N Q) a w
structure WL (P : Program) (ops : Array Oper) (N : Nat) (Q : Post) (l : List Oper) (E : Env) (w : World) : Prop where
  go : ∀ a, Rp N a E → wpList P ops (lift N Q) l a w
structure AtQ (Q : Post) (e : Exit) (E : Env) (w : World) : Prop where
  ok : Q e E w

def thenQ (K : Env → World → Prop) (Q : Post) : Post
  | .normal, E, w => K E w
  | e, E, w => Q e E w
def blockQ (id : Nat) (Q : Post) : Post
  | .exit id', E, w => if id' = id then Q .normal E w else Q (.exit id') E w
  | e, E, w => Q e E w
def loopQ {σ : Type} (env : σ → Env) (inv : σ → World → Prop) (m : σ → Nat) (s : σ) (Q : Post) : Post
  | .normal, E, w => ∃ s', Sub (env s') E ∧ inv s' w ∧ m s' < m s
  | e, E, w => Q e E w

section
variable {P : Program} {N : Nat} {Q : Post} {E : Env} {w : World}
theorem WC.seq {x y : Code} (h : WC P N (thenQ (fun E w => WC P N Q y E w) Q) x E w) : WC P N Q (.seq x y) E w := ⟨fun a ha =>
  wp_seq (wp_mono (h.go a ha) fun e a' w' ⟨E', hr, hq⟩ => by
    cases e with
    | normal => exact hq.go a' hr
    | _ => exact ⟨E', hr, hq⟩)⟩
theorem WC.block {id : Nat} {c : Code} (h : WC P N (blockQ id Q) c E w) : WC P N Q (.block id c) E w := ⟨fun a ha =>
  wp_block (wp_mono (h.go a ha) fun e a' w' ⟨E', hr, hq⟩ => by
    cases e with
    | exit id' =>
      simp only [Exit.inBlock]
      simp only [blockQ] at hq
      split
      · rename_i e; rw [if_pos e] at hq; exact ⟨E', hr, hq⟩
      · rename_i e; rw [if_neg e] at hq; exact ⟨E', hr, hq⟩
    | _ => exact ⟨E', hr, hq⟩)⟩
theorem WC.skip (h : AtQ Q .normal E w) : WC P N Q .skip E w := ⟨fun a ha => wp_skip ⟨E, ha, h.ok⟩⟩
theorem WC.exit {id : Nat} (h : AtQ Q (.exit id) E w) : WC P N Q (.exit id) E w := ⟨fun a ha => wp_exit ⟨E, ha, h.ok⟩⟩
theorem WC.ret (h : AtQ Q .ret E w) : WC P N Q .ret E w := ⟨fun a ha => wp_ret ⟨E, ha, h.ok⟩⟩
theorem WC.ctrue {c : Operand} {x y : Code} (hc : evo E c = some (.bool true)) (h : WC P N Q x E w) : WC P N Q (.cond c x y) E w := ⟨fun a ha => wp_cond_true (ha.eval hc) (h.go a ha)⟩
theorem WC.cfalse {c : Operand} {x y : Code} (hc : evo E c = some (.bool false)) (h : WC P N Q y E w) : WC P N Q (.cond c x y) E w := ⟨fun a ha => wp_cond_false (ha.eval hc) (h.go a ha)⟩
theorem WC.cbool {c : Operand} {x y : Code} {b : Bool} (hc : evo E c = some (.bool b)) (h : b = true → WC P N Q x E w) (h' : b = false → WC P N Q y E w) : WC P N Q (.cond c x y) E w := by
  cases b
  · exact WC.cfalse hc (h' rfl)
  · exact WC.ctrue hc (h rfl)
theorem WC.sub {c : Code} {E' : Env} (s : Sub E' E) (h : WC P N Q c E' w) : WC P N Q c E w := ⟨fun a ha => h.go a (ha.sub s)⟩
theorem WC.mono {c : Code} {Q' : Post} (h : WC P N Q c E w) (k : ∀ e E w, Q e E w → Q' e E w) : WC P N Q' c E w := ⟨fun a ha =>
  wp_mono (h.go a ha) fun e a' w' ⟨E', hr, hq⟩ => ⟨E', hr, k _ _ _ hq⟩⟩
theorem WC.loop {σ : Type} {c : Code} (env : σ → Env) (inv : σ → World → Prop) (m : σ → Nat) (s0 : σ) (hs : Sub (env s0) E) (h0 : inv s0 w)
    (round : ∀ s w, inv s w → WC P N (loopQ env inv m s Q) c (env s) w) : WC P N Q (.loop c) E w := by
  refine ⟨fun a ha b k cs => ?_⟩
  have key : ∀ n s a w, m s = n → Rp N a (env s) → inv s w →
      ∃ e a' w', lift N Q e a' w' ∧ Arrives P (lone (b.at a (.code c :: .inLoop c :: k)) cs w) b k cs e a' w' := by
    intro n
    induction n using Nat.strongRecOn with
    | _ n ih =>
      intro s a w hn ha hi
      obtain ⟨e, a1, w1, ⟨E1, hr1, hq1⟩, harr⟩ := (round s w hi).go a ha b (.inLoop c :: k) cs
      cases e with
      | normal =>
        obtain ⟨s', hsub, hi', hlt⟩ := hq1
        obtain ⟨e2, a2, w2, hq2, harr2⟩ := ih (m s') (hn ▸ hlt) s' a1 w1 rfl (hr1.sub hsub) hi'
        exact ⟨e2, a2, w2, hq2, .of_steps (Steps.trans harr (.one step_inLoop)) harr2⟩
      | exit id => exact ⟨_, a1, w1, ⟨E1, hr1, hq1⟩, .pass (x := .inLoop c) rfl (fun _ _ => .inl (by simp)) harr⟩
      | goto l => exact ⟨_, a1, w1, ⟨E1, hr1, hq1⟩, .pass (x := .inLoop c) rfl (fun _ _ => .inl (by simp)) harr⟩
      | ret => exact ⟨_, a1, w1, ⟨E1, hr1, hq1⟩, .pass (x := .inLoop c) rfl (fun _ _ => .inl (by simp)) harr⟩
      | panic ch => exact ⟨_, a1, w1, ⟨E1, hr1, hq1⟩, .pass (x := .inLoop c) rfl (fun _ _ => .inl (by simp)) harr⟩
      | outgrown => exact ⟨_, a1, w1, ⟨E1, hr1, hq1⟩, .pass (x := .inLoop c) rfl (fun _ _ => .inl (by simp)) harr⟩
  obtain ⟨e, a', w', hq, harr⟩ := key _ s0 a w rfl (ha.sub hs) h0
  exact ⟨e, a', w', hq, .of_steps (.one step_loop) harr⟩
end
end Go.Proofs.Ytpfooiepmnaoaaa.E
