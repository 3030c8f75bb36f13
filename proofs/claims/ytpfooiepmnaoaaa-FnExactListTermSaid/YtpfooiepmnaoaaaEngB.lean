/- The engine, second part: what an operation yields; memory as a list of known blocks and of shared readings. -/
import Derived.Test.YtpfooiepmnaoaaaEngA
namespace Go.Proofs.Ytpfooiepmnaoaaa.E
open Go Go.RowKit
set_option linter.unusedVariables false
set_option linter.unusedSimpArgs false

/-! ### memory -/
/-- The blocks that it stands on and what it says of a world. -/
structure Asn where
  ft : Nat → Prop
  hold : World → Prop
  fr : ∀ w w' : World, (∀ b, ft b → w'.heap[b]? = w.heap[b]?) → hold w → hold w'
  lt : ∀ w : World, hold w → ∀ b, ft b → b < w.heap.size
def Mm (X : List (Nat × Obj)) (S : List Asn) (w : World) : Prop := (∀ p ∈ X, w.heap[p.1]? = some p.2) ∧ ∀ A ∈ S, A.hold w
/-- From w to w' nothing has turned but the blocks of F, and what is new. -/
structure Chg (F : Nat → Prop) (w w' : World) : Prop where
  os : w'.os = w.os
  tape : w'.tape = w.tape
  output : w'.output = w.output
  size : w.heap.size ≤ w'.heap.size
  block : ∀ k, k < w.heap.size → ¬ F k → w'.heap[k]? = w.heap[k]?
def noF : Nat → Prop := fun _ => False
theorem Chg.refl (F : Nat → Prop) (w : World) : Chg F w w := ⟨rfl, rfl, rfl, Nat.le_refl _, fun _ _ _ => rfl⟩
theorem Chg.trans {F G : Nat → Prop} {a b c : World} (h : Chg F a b) (k : Chg G b c) (hG : ∀ i, G i → F i ∨ a.heap.size ≤ i) : Chg F a c :=
  ⟨k.os.trans h.os, k.tape.trans h.tape, k.output.trans h.output, Nat.le_trans h.size k.size, fun i hi hn => (k.block i (Nat.lt_of_lt_of_le hi h.size) (fun g => by rcases hG i g with f | f; exact hn f; omega)).trans (h.block i hi hn)⟩
theorem Chg.mono {F G : Nat → Prop} {a b : World} (h : Chg F a b) (k : ∀ i, F i → G i) : Chg G a b := ⟨h.os, h.tape, h.output, h.size, fun i hi hn => h.block i hi (fun f => hn (k i f))⟩
theorem Chg.of_below {a b : World} (F : Nat → Prop) (h : Below a.heap.size a b) : Chg F a b := ⟨h.os, h.tape, h.output, h.size, fun i hi _ => h.block i hi⟩
theorem Chg.below {a b : World} (h : Chg noF a b) : Below a.heap.size a b := ⟨h.os, h.tape, h.output, h.size, fun i hi => h.block i hi (fun f => f)⟩
structure SH (w0 : World) (F0 : Nat → Prop) (w : World) (X : List (Nat × Obj)) (S : List Asn) : Prop where
  chg : Chg F0 w0 w
  xo : ∀ p ∈ X, w0.heap.size ≤ p.1 ∨ F0 p.1
  nd : (X.map (·.1)).Nodup
  m : Mm X S w
  sep : ∀ A ∈ S, ∀ p ∈ X, ¬ A.ft p.1
section
variable {w0 w w' : World} {F0 : Nat → Prop} {X X' : List (Nat × Obj)} {S S' : List Asn}
theorem SH.start (w : World) (F0 : Nat → Prop) (S : List Asn) (h : ∀ A ∈ S, A.hold w) : SH w F0 w [] S :=
  ⟨Chg.refl _ _, fun _ h => (by cases h), List.nodup_nil, ⟨fun _ h => (by cases h), h⟩, fun _ _ _ h => (by cases h)⟩
theorem SH.lt (H : SH w0 F0 w X S) {p : Nat × Obj} (hp : p ∈ X) : p.1 < w.heap.size := (Array.getElem?_eq_some_iff.1 (H.m.1 p hp)).1
theorem SH.alloc (H : SH w0 F0 w X S) (o : Obj) : SH w0 F0 (w.alloc o) ((w.heap.size, o) :: X) S := by
  refine ⟨H.chg.trans (G := noF) ⟨rfl, rfl, rfl, by simp, fun k hk _ => Below.heap_alloc _ _ _ hk⟩ (fun _ f => f.elim), ?_, ?_, ⟨?_, fun A hA => A.fr w _ (fun b hb => Below.heap_alloc _ _ _ (A.lt w (H.m.2 A hA) b hb)) (H.m.2 A hA)⟩, ?_⟩
  · intro p hp
    rcases List.mem_cons.1 hp with rfl | hp
    · exact .inl H.chg.size
    · exact H.xo p hp
  · rw [List.map_cons, List.nodup_cons]
    refine ⟨fun h => ?_, H.nd⟩
    obtain ⟨p, hp, e⟩ := List.mem_map.1 h
    have := H.lt hp
    have e' : p.1 = w.heap.size := e
    omega
  · intro p hp
    rcases List.mem_cons.1 hp with rfl | hp
    · exact heap_alloc_new w o
    · exact (Below.heap_alloc _ _ _ (H.lt hp)).trans (H.m.1 p hp)
  · intro A hA p hp hf
    rcases List.mem_cons.1 hp with rfl | hp
    · have := A.lt w (H.m.2 A hA) _ hf
      simp at this
    · exact H.sep A hA p hp hf
theorem SH.drew (H : SH w0 F0 w X S) : SH w0 F0 w.drew X S :=
  ⟨H.chg.trans (G := noF) ⟨rfl, rfl, rfl, Nat.le_refl _, fun _ _ _ => rfl⟩ (fun _ f => f.elim), H.xo, H.nd, ⟨H.m.1, fun A hA => A.fr w _ (fun _ _ => rfl) (H.m.2 A hA)⟩, H.sep⟩
/-- A block of the list is replaced. -/
inductive Upd : List (Nat × Obj) → Nat → Obj → Obj → List (Nat × Obj) → Prop
  | here (b : Nat) (o o' : Obj) (l : List (Nat × Obj)) : Upd ((b, o) :: l) b o o' ((b, o') :: l)
  | there {x : Nat × Obj} {l l' : List (Nat × Obj)} {b : Nat} {o o' : Obj} (h : Upd l b o o' l') : Upd (x :: l) b o o' (x :: l')
theorem Upd.mem {b : Nat} {o o' : Obj} (h : Upd X b o o' X') : (b, o) ∈ X := by
  induction h with
  | here => exact List.mem_cons_self ..
  | there _ ih => exact List.mem_cons_of_mem _ ih
theorem Upd.fst {b : Nat} {o o' : Obj} (h : Upd X b o o' X') : X'.map (·.1) = X.map (·.1) := by
  induction h with
  | here => rfl
  | there _ ih => simp [ih]
theorem Upd.of {b : Nat} {o o' : Obj} (h : Upd X b o o' X') (hn : (X.map (·.1)).Nodup) : ∀ p ∈ X', p = (b, o') ∨ (p ∈ X ∧ p.1 ≠ b) := by
  induction h with
  | here b o o' l =>
    intro p hp
    rw [List.map_cons, List.nodup_cons] at hn
    rcases List.mem_cons.1 hp with rfl | hp
    · exact .inl rfl
    · exact .inr ⟨List.mem_cons_of_mem _ hp, fun e => hn.1 (by have e' : (b, o).1 = p.1 := e.symm; rw [e']; exact List.mem_map_of_mem (f := (·.1)) hp)⟩
  | @there x l l' b o o' h ih =>
    intro p hp
    rw [List.map_cons, List.nodup_cons] at hn
    rcases List.mem_cons.1 hp with rfl | hp
    · exact .inr ⟨List.mem_cons_self .., fun e => hn.1 (by have e' : p.1 = b := e; rw [e']; exact List.mem_map_of_mem (f := (·.1)) h.mem)⟩
    · rcases ih hn.2 p hp with e | ⟨h1, h2⟩
      · exact .inl e
      · exact .inr ⟨List.mem_cons_of_mem _ h1, h2⟩
/-- One block of the list has turned (and new ones may have come). -/
theorem SH.put {b : Nat} {o o' : Obj} (H : SH w0 F0 w X S) (U : Upd X b o o' X') (hc : Chg (fun k => k = b) w w') (hb : w'.heap[b]? = some o') : SH w0 F0 w' X' S := by
  have hm := U.mem
  refine ⟨H.chg.trans hc (fun i e => by subst e; exact (H.xo _ hm).symm), ?_, by rw [U.fst]; exact H.nd, ⟨?_, ?_⟩, ?_⟩
  · intro p hp
    rcases U.of H.nd p hp with rfl | ⟨h, _⟩
    · exact H.xo (b, o) hm
    · exact H.xo p h
  · intro p hp
    rcases U.of H.nd p hp with rfl | ⟨h, hne⟩
    · exact hb
    · exact (hc.block p.1 (H.lt h) hne).trans (H.m.1 p h)
  · intro A hA
    exact A.fr w _ (fun k hk => hc.block k (A.lt w (H.m.2 A hA) k hk) (fun e => by subst e; exact H.sep A hA _ hm hk)) (H.m.2 A hA)
  · intro A hA p hp hf
    rcases U.of H.nd p hp with rfl | ⟨h, _⟩
    · exact H.sep A hA (b, o) hm hf
    · exact H.sep A hA p h hf
/-- A call that turns nothing that was there. -/
theorem SH.call (H : SH w0 F0 w X S) (hc : Chg noF w w') : SH w0 F0 w' X S :=
  ⟨H.chg.trans hc (fun _ f => f.elim), H.xo, H.nd, ⟨fun p hp => (hc.block p.1 (H.lt hp) (fun f => f)).trans (H.m.1 p hp), fun A hA => A.fr w _ (fun k hk => hc.block k (A.lt w (H.m.2 A hA) k hk) (fun f => f)) (H.m.2 A hA)⟩, H.sep⟩
theorem SH.below (H : SH w0 F0 w X S) (hc : Below w.heap.size w w') : SH w0 F0 w' X S := H.call (Chg.of_below _ hc)
/-- A reading is added that stands on nothing of the known blocks. -/
theorem SH.add (H : SH w0 F0 w X S) (A : Asn) (h : A.hold w) (hs : ∀ p ∈ X, ¬ A.ft p.1) : SH w0 F0 w X (A :: S) := by
  refine ⟨H.chg, H.xo, H.nd, ⟨H.m.1, fun B hB => ?_⟩, fun B hB => ?_⟩
  · rcases List.mem_cons.1 hB with rfl | hB
    · exact h
    · exact H.m.2 B hB
  · rcases List.mem_cons.1 hB with rfl | hB
    · exact hs
    · exact H.sep B hB
/-- A reading that is part of one that is there. -/
theorem SH.part (H : SH w0 F0 w X S) (B : Asn) (hB : B ∈ S) (A : Asn) (h : A.hold w) (hs : ∀ b, A.ft b → B.ft b) : SH w0 F0 w X (A :: S) :=
  H.add A h (fun p hp hf => H.sep B hB p hp (hs _ hf))
/-- What a call has made: it stands on new blocks alone. -/
theorem SH.made (H : SH w0 F0 w X S) (hc : Chg noF w w') (A : Asn) (h : A.hold w') (hs : ∀ b, A.ft b → w.heap.size ≤ b) : SH w0 F0 w' X (A :: S) :=
  (H.call hc).add A h (fun p hp hf => by have := hs _ hf; have := H.lt hp; omega)
theorem SH.dropS (H : SH w0 F0 w X S) (h : ∀ A ∈ S', A ∈ S) : SH w0 F0 w X S' := ⟨H.chg, H.xo, H.nd, ⟨H.m.1, fun A hA => H.m.2 A (h A hA)⟩, fun A hA => H.sep A (h A hA)⟩
theorem SH.dropX (H : SH w0 F0 w X S) (h : X'.Sublist X) : SH w0 F0 w X' S :=
  ⟨H.chg, fun p hp => H.xo p (h.subset hp), (h.map _).nodup H.nd, ⟨fun p hp => H.m.1 p (h.subset hp), H.m.2⟩, fun A hA p hp => H.sep A hA p (h.subset hp)⟩
theorem SH.mm (H : SH w0 F0 w X S) (h : ∀ p ∈ X', p ∈ X) (h' : ∀ A ∈ S', A ∈ S) : Mm X' S' w := ⟨fun p hp => H.m.1 p (h p hp), fun A hA => H.m.2 A (h' A hA)⟩
theorem SH.of (H : SH w0 F0 w X S) {A : Asn} (hA : A ∈ S) : A.hold w := H.m.2 A hA
theorem SH.blk (H : SH w0 F0 w X S) {b : Nat} {o : Obj} (h : (b, o) ∈ X) : w.heap[b]? = some o := H.m.1 _ h
end

/-! ### what an operation yields -/
def Yld (P : Program) (N : Nat) (E : Env) (C : World → Prop) (o : Oper) (v : Value) : Prop := ∀ a, Rp N a E → ∀ w, C w → (execOp a.eval o).run P w = .ok (.value v) w
def Wd (ops : Array Oper) (N : Nat) (E : Env) (o : Oper) (b : Bool) : Prop := ∀ a, Rp N a E → Region.wanted o (yielded ops a.tmps) = b
theorem Wd.none {ops : Array Oper} {N : Nat} {E : Env} {o : Oper} (h : o.guard = none) : Wd ops N E o true := fun a _ => by simp [Region.wanted, h]
theorem Wd.some {ops : Array Oper} {N : Nat} {E : Env} {o : Oper} {j t : Nat} {want b : Bool} (hg : o.guard = some (j, want)) (hj : (ops[j]?).bind (·.dst) = some t) (ht : look E t = some (.bool b)) : Wd ops N E o (b == want) := fun a ha => by
  have h1 := ha.get t _ ht
  simp [Region.wanted, hg, yielded, hj, h1]
section
variable {P : Program} {ops : Array Oper} {N : Nat} {Q : Post} {E : Env} {w : World} {rest : List Oper} {o : Oper}
theorem WL.nil (h : AtQ Q .normal E w) : WL P ops N Q [] E w := ⟨fun a ha => ⟨E, ha, h.ok⟩⟩
theorem WL.nilK {K : Env → World → Prop} (h : K E w) : WL P ops N (thenQ K Q) [] E w := ⟨fun a ha => ⟨E, ha, h⟩⟩
theorem WL.grd {dst : Option Tmp} {op : Op} {ty : TypeId} {pos : String} {af : Array Edge} {g : Option (Nat × Bool)} {bb : Bool} (hW : Wd ops N E ⟨dst, op, ty, pos, af, g⟩ bb) (hbb : bb = true) (h : WL P ops N Q (⟨dst, op, ty, pos, af, none⟩ :: rest) E w) : WL P ops N Q (⟨dst, op, ty, pos, af, g⟩ :: rest) E w := ⟨fun a ha => by
  have h1 := h.go a ha
  subst hbb
  unfold wpList at h1 ⊢
  rw [hW a ha]
  rw [if_pos (by simp [Region.wanted])] at h1
  rw [if_pos rfl]
  exact h1⟩
theorem WL.pass {d : Nat} {bb : Bool} (hW : Wd ops N E o bb) (hbb : bb = false) (hd : o.dst = some d) (hN : d < N) (h : WL P ops N Q rest ((d, undef) :: E) w) : WL P ops N Q (o :: rest) E w := ⟨fun a ha => by
  subst hbb
  unfold wpList
  rw [hW a ha, if_neg (by simp), hd]
  exact h.go _ (ha.put hN _)⟩
theorem WL.pass0 {bb : Bool} (hW : Wd ops N E o bb) (hbb : bb = false) (hd : o.dst = none) (h : WL P ops N Q rest E w) : WL P ops N Q (o :: rest) E w := ⟨fun a ha => by
  subst hbb
  unfold wpList
  rw [hW a ha, if_neg (by simp), hd]
  exact h.go _ ha⟩
theorem WL.run {d : Nat} {v : Value} {w' : World} (hg : o.guard = none) (hd : o.dst = some d) (hN : d < N) (hr : ∀ a, Rp N a E → (execOp a.eval o).run P w = .ok (.value v) w') (h : WL P ops N Q rest ((d, v) :: E) w') : WL P ops N Q (o :: rest) E w := ⟨fun a ha => by
  refine wpList_plain hg fun K hK => ?_
  unfold Oper.wp
  rw [hr a ha, Oper.upon_value, hd]
  exact hK _ _ (h.go _ (ha.put hN _))⟩
theorem WL.unit {w' : World} (hg : o.guard = none) (hd : o.dst = none) (hr : ∀ a, Rp N a E → (execOp a.eval o).run P w = .ok .skip w') (h : WL P ops N Q rest E w') : WL P ops N Q (o :: rest) E w := ⟨fun a ha => by
  refine wpList_plain hg fun K hK => ?_
  unfold Oper.wp
  rw [hr a ha, Oper.upon_skip, hd]
  exact hK _ _ (h.go _ ha)⟩
theorem WL.y {w0 : World} {F0 : Nat → Prop} {X : List (Nat × Obj)} {S : List Asn} {op : Op} {ty : TypeId} {pos : String} {af : Array Edge} {d : Nat} {v : Value} (H : SH w0 F0 w X S) (hy : Yld P N E (Mm X S) ⟨some d, op, ty, pos, af, none⟩ v) (hN : d < N) (h : WL P ops N Q rest ((d, v) :: E) w) : WL P ops N Q (⟨some d, op, ty, pos, af, none⟩ :: rest) E w :=
  WL.run rfl rfl hN (fun a ha => hy a ha w H.m) h
end

/-! ### regions that draw their order -/
structure WR (P : Program) (ops : Array Oper) (N : Nat) (Q : Post) (C : World → Prop) (fuel : Nat) (listed : Array Bool) (E : Env) (w : World) : Prop where
  go : C w → ∀ a, Rp N a E → wpAnyH P .any ops (lift N Q) C fuel listed a w
section
variable {P : Program} {ops : Array Oper} {N : Nat} {Q : Post} {E : Env} {w : World} {oi : Oper} {C : World → Prop} {fuel : Nat} {listed : Array Bool}
/-- A part of a list. -/
inductive Sel {α : Type} : List α → List α → Prop
  | nil : Sel [] []
  | keep {x : α} {l l' : List α} (h : Sel l l') : Sel (x :: l) (x :: l')
  | skip {x : α} {l l' : List α} (h : Sel l l') : Sel (x :: l) l'
theorem Sel.mem {α : Type} {l l' : List α} (h : Sel l l') : ∀ p ∈ l', p ∈ l := by
  induction h with
  | nil => exact fun _ h => h
  | keep _ ih =>
    intro p hp
    rcases List.mem_cons.1 hp with rfl | hp
    · exact List.mem_cons_self ..
    · exact List.mem_cons_of_mem _ (ih p hp)
  | skip _ ih => exact fun p hp => List.mem_cons_of_mem _ (ih p hp)
inductive Incl {α : Type} : List α → List α → Prop
  | nil (l : List α) : Incl [] l
  | cons {x : α} {l l' : List α} (h : x ∈ l') (t : Incl l l') : Incl (x :: l) l'
theorem Incl.mem {α : Type} {l l' : List α} (h : Incl l l') : ∀ p ∈ l, p ∈ l' := by
  induction h with
  | nil => exact fun _ h => (by cases h)
  | cons h _ ih =>
    intro p hp
    rcases List.mem_cons.1 hp with rfl | hp
    · exact h
    · exact ih p hp
theorem SH.mi {w0 w : World} {F0 : Nat → Prop} {X X' : List (Nat × Obj)} {S S' : List Asn} (H : SH w0 F0 w X S) (h : Incl X' X) (h' : Incl S' S) : Mm X' S' w := H.mm h.mem h'.mem
theorem WC.draw {id : Nat} {w0 : World} {F0 : Nat → Prop} {X X1 : List (Nat × Obj)} {S : List Asn} (hm : P.follows .mixedOrders = true) (H : SH w0 F0 w X S) (hX : Sel X X1) (k : ∀ w', SH w0 F0 w' X S → w'.heap.size = w.heap.size → WR P ops N Q (Mm X1 S) ops.size (Array.replicate ops.size false) E w') : WC P N Q (.region id ops true) E w := ⟨fun a ha =>
  wp_region_held hm ((k _ H.drew rfl).go (H.drew.mm hX.mem fun _ h => h) a ha)⟩
inductive Nth {α : Type} : List α → Nat → α → Prop
  | zero (x : α) (l : List α) : Nth (x :: l) 0 x
  | succ {y x : α} {l : List α} {i : Nat} (h : Nth l i x) : Nth (y :: l) (i + 1) x
theorem Nth.get {α : Type} {l : List α} {i : Nat} {x : α} (h : Nth l i x) : l.toArray[i]? = some x := by
  rw [List.getElem?_toArray]
  induction h with
  | zero => rfl
  | succ _ ih => rw [List.getElem?_cons_succ]; exact ih
theorem WR.take (i : Nat) {d : Nat} {v : Value} (hs : Region.noSelect ops = true) (hQ : ∀ c E w, ¬ Q (.panic c) E w) (hi : ops[i]? = some oi) (hd : oi.dst = some d) (hN : d < N) {bb : Bool} (hW : Wd ops N E oi bb) (hbb : bb = true) (hy : Yld P N E C oi v)
    (hf : (Region.free .any ops listed i && (Region.ready .any ops listed).contains i) = true)
    (h : WR P ops N Q C fuel (listed.setIfInBounds i true) ((d, v) :: E) w) : WR P ops N Q C (fuel + 1) listed E w := ⟨fun hC a ha => by
  subst hbb
  rw [Bool.and_eq_true] at hf
  refine wpAnyH_take hi hs hf.1 hf.2 (fun c a w ⟨E', _, hq⟩ => absurd hq (hQ _ _ _)) (.inl ⟨hW a ha, hy a ha⟩) hC ?_
  rw [hd]
  exact h.go hC _ (ha.put hN _)⟩
theorem WR.pass (i : Nat) {d : Nat} (hs : Region.noSelect ops = true) (hQ : ∀ c E w, ¬ Q (.panic c) E w) (hi : ops[i]? = some oi) (hd : oi.dst = some d) (hN : d < N) {bb : Bool} (hW : Wd ops N E oi bb) (hbb : bb = false)
    (hf : (Region.free .any ops listed i && (Region.ready .any ops listed).contains i) = true)
    (h : WR P ops N Q C fuel (listed.setIfInBounds i true) ((d, undef) :: E) w) : WR P ops N Q C (fuel + 1) listed E w := ⟨fun hC a ha => by
  subst hbb
  rw [Bool.and_eq_true] at hf
  refine wpAnyH_take hi hs hf.1 hf.2 (fun c a w ⟨E', _, hq⟩ => absurd hq (hQ _ _ _)) (.inr ⟨hW a ha, rfl⟩) hC ?_
  rw [hd]
  exact h.go hC _ (ha.put hN _)⟩
theorem WR.run (i : Nat) (hi : ops[i]? = some oi) (hr : (Region.ready .any ops listed == [i]) = true)
    (h : WL P ops N (thenQ (fun E w => C w ∧ WR P ops N Q C fuel (listed.setIfInBounds i true) E w) Q) [oi] E w) : WR P ops N Q C (fuel + 1) listed E w := ⟨fun hC a ha => by
  refine wpAnyH_all (beq_iff_eq.1 hr) (by simp) fun j hj => ?_
  obtain rfl := List.mem_singleton.1 hj
  have h1 := h.go a ha
  unfold wpList at h1
  unfold wpOp
  rw [hi]
  simp only
  have hend : ∀ a' w', wpList P ops (lift N (thenQ (fun E w => C w ∧ WR P ops N Q C fuel (listed.setIfInBounds j true) E w) Q)) [] a' w' → C w' ∧ wpAnyH P .any ops (lift N Q) C fuel (listed.setIfInBounds j true) a' w' := by
    rintro a' w' ⟨E', hr', hq'⟩
    exact ⟨hq'.1, hq'.2.go hq'.1 a' hr'⟩
  have hq : ∀ e a' w', e ≠ .normal → lift N (thenQ (fun E w => C w ∧ WR P ops N Q C fuel (listed.setIfInBounds j true) E w) Q) e a' w' → lift N Q e a' w' := by
    rintro e a' w' hne ⟨E', hr', hq'⟩
    cases e with
    | normal => exact absurd rfl hne
    | _ => exact ⟨E', hr', hq'⟩
  split at h1
  · rename_i hw
    rw [if_pos hw]
    rcases h1 with h1 | ⟨h1, a0, w1, h2⟩
    · refine .inl ?_
      unfold Oper.wp at h1 ⊢
      generalize (execOp a.eval oi).run P w = r at *
      cases r with
      | ok n w' =>
        cases n <;> simp only [Oper.upon] at h1 ⊢ <;>
          first
            | exact hend _ _ h1
            | (refine Calls.mono h1 fun e w'' he => ?_
               cases e with
               | returned v => exact hend _ _ he
               | panicked c => exact hq _ _ _ (by simp) he
               | outgrown => exact he.elim fun a0 ⟨w1, h2⟩ => ⟨a0, w1, hq _ _ _ (by simp) h2⟩)
            | exact Rows.mono h1 (fun _ _ he => hend _ _ he)
            | exact h1
      | halt x w' =>
        cases x <;> simp only [Oper.upon] at h1 ⊢ <;> first | exact hq _ _ _ (by simp) h1 | exact h1
    · exact .inr ⟨h1, a0, w1, hq _ _ _ (by simp) h2⟩
  · rename_i hw
    rw [if_neg hw]
    exact hend _ _ h1⟩
theorem WR.done (hr : (Region.ready .any ops listed).isEmpty = true) (h : AtQ Q .normal E w) : WR P ops N Q C fuel listed E w := ⟨fun _ a ha =>
  wpAnyH_done (by simpa using hr) ⟨E, ha, h.ok⟩ fuel⟩
end
end Go.Proofs.Ytpfooiepmnaoaaa.E
