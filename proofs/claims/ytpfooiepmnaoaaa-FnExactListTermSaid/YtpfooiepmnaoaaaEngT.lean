/- Trees in memory, with the places where they lie. -/
import Derived.Test.YtpfooiepmnaoaaaEngH
import Derived.Test.YtpfooiepmnaoaaaTerms
namespace Go.Proofs.Ytpfooiepmnaoaaa.E
open Go Go.RowKit Go.Proofs.Ytpfooiepmnaoaaa.X
set_option linter.unusedVariables false
set_option linter.unusedSimpArgs false
/-- A term with the place of its parts. -/
structure LT where
  k : Int
  i : Int
  s : ByteArray
  a : Option Addr
  c : Nat
  l : List LT
theorem indT {P : LT → Prop} (h : ∀ t : LT, (∀ y ∈ t.l, P y) → P t) : ∀ t, P t := by
  have key : ∀ n, ∀ t : LT, SizeOf.sizeOf t < n → P t := by
    intro n
    induction n with
    | zero => intro t ht; omega
    | succ n ih =>
      intro t ht
      refine h t fun y hy => ih y ?_
      have h1 := List.sizeOf_lt_of_mem hy
      have h2 : SizeOf.sizeOf t = 1 + SizeOf.sizeOf t.k + SizeOf.sizeOf t.i + SizeOf.sizeOf t.s + SizeOf.sizeOf t.a + SizeOf.sizeOf t.c + SizeOf.sizeOf t.l := by cases t; simp
      omega
  exact fun t => key _ t (Nat.lt_succ_self _)
abbrev sl (a : Option Addr) (n c : Nat) : Value := .slice a n c
abbrev tcs (t : LT) : List Value := [.int .i64 t.k, .int .i64 t.i, .string t.s, sl t.a t.l.length t.c]
abbrev tv (t : LT) : Value := .agg (tcs t).toArray
mutual
def er : LT → ITm
  | ⟨k, i, s, _, _, l⟩ => ⟨k, i, s, erL l⟩
def erL : List LT → List ITm
  | [] => []
  | x :: r => er x :: erL r
end
theorem erL_map : ∀ l : List LT, erL l = l.map er
  | [] => rfl
  | x :: r => by rw [erL, List.map_cons, erL_map r]
theorem er_eq (t : LT) : er t = ⟨t.k, t.i, t.s, t.l.map er⟩ := by
  obtain ⟨k, i, s, a, c, l⟩ := t
  rw [er, erL_map]
mutual
def ft : LT → List Nat
  | ⟨_, _, _, a, _, l⟩ => ftL a l
def ftL : Option Addr → List LT → List Nat
  | _, [] => []
  | a, x :: r => (a.getD ⟨0, 0, none⟩).block :: (ft x ++ ftR r)
def ftR : List LT → List Nat
  | [] => []
  | x :: r => ft x ++ ftR r
end
theorem ft_eq (t : LT) : ft t = ftL t.a t.l := by
  obtain ⟨k, i, s, a, c, l⟩ := t
  rw [ft]
theorem ftR_flat : ∀ l : List LT, ftR l = l.flatMap ft
  | [] => by rw [ftR]; rfl
  | x :: r => by rw [ftR, List.flatMap_cons, ftR_flat r]
theorem ftL_ne (a : Option Addr) {l : List LT} (h : l ≠ []) : ftL a l = (a.getD ⟨0, 0, none⟩).block :: ftR l := by
  cases l with
  | nil => exact absurd rfl h
  | cons x r => rw [ftL, ftR]
theorem ftL_nil (a : Option Addr) : ftL a [] = [] := by rw [ftL]
theorem mem_ftL {a : Option Addr} {l : List LT} {b : Nat} : b ∈ ftL a l ↔ l ≠ [] ∧ (b = (a.getD ⟨0, 0, none⟩).block ∨ ∃ x ∈ l, b ∈ ft x) := by
  cases l with
  | nil => simp [ftL_nil]
  | cons x r => rw [ftL_ne a (by simp), ftR_flat]; simp
/-- The cells of a row of terms. -/
def tcells (l : List LT) : List Value := l.flatMap tcs
theorem tcells_length (l : List LT) : (tcells l).length = l.length * 4 := by
  induction l with
  | nil => rfl
  | cons x r ih => simp [tcells] at ih ⊢; omega
theorem tcells_get (l : List LT) (i j : Nat) (hi : i < l.length) (hj : j < 4) : (tcells l)[i * 4 + j]? = (tcs l[i])[j]? := by
  induction l generalizing i with
  | nil => simp at hi
  | cons x r ih =>
    rw [tcells, List.flatMap_cons]
    cases i with
    | zero => rw [Nat.zero_mul, Nat.zero_add, List.getElem?_append_left (by simpa using hj)]; rfl
    | succ n =>
      rw [List.getElem?_append_right (by simp; omega)]
      have := ih n (by simpa using hi)
      rw [tcells] at this
      rw [show (n + 1) * 4 + j - (tcs x).length = n * 4 + j by simp; omega]
      simpa using this
/-- In w the parts of t lie where t says. -/
inductive HT (w : World) : LT → Prop
  | mk (t : LT) (hc : t.l.length ≤ t.c) (hr : t.l ≠ [] → ∃ b o cs T fz, t.a = some ⟨b, o, none⟩ ∧ w.heap[b]? = some (.cells cs T fz) ∧ ∀ j v, (tcells t.l)[j]? = some v → cs[o + j]? = some v) (hk : ∀ x ∈ t.l, HT w x) : HT w t
theorem HT.cap {w : World} {t : LT} (h : HT w t) : t.l.length ≤ t.c := by cases h; assumption
theorem HT.row {w : World} {t : LT} (h : HT w t) : t.l ≠ [] → ∃ b o cs T fz, t.a = some ⟨b, o, none⟩ ∧ w.heap[b]? = some (.cells cs T fz) ∧ ∀ j v, (tcells t.l)[j]? = some v → cs[o + j]? = some v := by cases h; assumption
theorem HT.kid {w : World} {t : LT} (h : HT w t) : ∀ x ∈ t.l, HT w x := by cases h; assumption
theorem HT.fr {w w' : World} {t : LT} (h : HT w t) : (∀ b ∈ ft t, w'.heap[b]? = w.heap[b]?) → HT w' t := by
  induction h with
  | mk t hc hr hk ih =>
    intro hb
    refine .mk t hc (fun hne => ?_) (fun x hx => ih x hx fun b hbx => hb b ?_)
    · obtain ⟨b, o, cs, T, fz, ha, hh, hv⟩ := hr hne
      refine ⟨b, o, cs, T, fz, ha, ?_, hv⟩
      rw [hb b ?_]; exact hh
      rw [ft_eq, mem_ftL]
      exact ⟨hne, .inl (by rw [ha]; rfl)⟩
    · rw [ft_eq, mem_ftL]
      exact ⟨List.ne_nil_of_mem hx, .inr ⟨x, hx, hbx⟩⟩
theorem HT.lt {w : World} {t : LT} (h : HT w t) : ∀ b ∈ ft t, b < w.heap.size := by
  induction h with
  | mk t hc hr hk ih =>
    intro b hb
    rw [ft_eq, mem_ftL] at hb
    obtain ⟨hne, hb⟩ := hb
    rcases hb with rfl | ⟨x, hx, hbx⟩
    · obtain ⟨b, o, cs, T, fz, ha, hh, hv⟩ := hr hne
      rw [ha]
      exact (Array.getElem?_eq_some_iff.1 hh).1
    · exact ih x hx b hbx
def tA (t : LT) : Asn where
  ft b := b ∈ ft t
  hold w := HT w t
  fr _ _ h hh := hh.fr h
  lt _ h := h.lt
theorem tA_reads {t : LT} {b o : Nat} (ha : t.a = some ⟨b, o, none⟩) {i : Nat} (hi : i < t.l.length) : (tA t).readsL b (o + i * 4) (tcs t.l[i]) := by
  intro j v hj w hw
  have hne : t.l ≠ [] := by intro e; rw [e] at hi; simp at hi
  obtain ⟨b', o', cs, T, fz, ha', hh, hv⟩ := HT.row hw hne
  rw [ha] at ha'
  obtain ⟨rfl, rfl, _⟩ := Addr.mk.inj (Option.some.inj ha')
  have hj4 : j < 4 := by have := (List.getElem?_eq_some_iff.1 hj).1; simpa using this
  have := hv (i * 4 + j) v (by rw [tcells_get t.l i j hi hj4]; exact hj)
  simp [World.cell?, hh, ← this, Nat.add_assoc]
theorem tA_readsK {t : LT} {b o i : Nat} (x : LT) (ha : t.a = some ⟨b, o, none⟩) (hi : t.l[i]? = some x) : (tA t).readsL b (o + i * 4) (tcs x) := by
  obtain ⟨h, rfl⟩ := List.getElem?_eq_some_iff.1 hi
  exact tA_reads ha h
theorem tA_kid {t x : LT} (h : x ∈ t.l) : ∀ b, (tA x).ft b → (tA t).ft b := fun b hb => by
  show b ∈ ft t
  rw [ft_eq, mem_ftL]
  exact ⟨List.ne_nil_of_mem h, .inr ⟨x, h, hb⟩⟩
/-- Made anew: the parts of t lie in blocks of their own, from B on, each once. -/
structure Own (B : Nat) (w : World) (t : LT) : Prop where
  ht : HT w t
  nd : (ft t).Nodup
  new : ∀ b ∈ ft t, B ≤ b
  free : ∀ b ∈ ft t, ∃ cs T, w.heap[b]? = some (.cells cs T (0, 0))
theorem Own.fr {B : Nat} {w w' : World} {t : LT} (h : Own B w t) (k : ∀ b ∈ ft t, w'.heap[b]? = w.heap[b]?) : Own B w' t :=
  ⟨h.ht.fr k, h.nd, h.new, fun b hb => by rw [k b hb]; exact h.free b hb⟩
theorem Own.mono {B B' : Nat} {w : World} {t : LT} (h : Own B w t) (k : B' ≤ B) : Own B' w t := ⟨h.ht, h.nd, fun b hb => Nat.le_trans k (h.new b hb), h.free⟩
theorem Own.chg {B : Nat} {w w' : World} {t : LT} {F : Nat → Prop} (h : Own B w t) (c : Chg F w w') (k : ∀ b ∈ ft t, ¬ F b) : Own B w' t := h.fr fun b hb => c.block b (h.ht.lt b hb) (k b hb)
/-- What a call has made, as a reading. -/
def oA (B : Nat) (t : LT) : Asn where
  ft b := b ∈ ft t
  hold w := Own B w t
  fr _ _ h hh := hh.fr h
  lt _ h := h.ht.lt
theorem oA_reads {B : Nat} {t : LT} {b o : Nat} (ha : t.a = some ⟨b, o, none⟩) {i : Nat} (hi : i < t.l.length) : (oA B t).readsL b (o + i * 4) (tcs t.l[i]) := fun j v hj w hw => tA_reads ha hi j v hj w hw.ht
theorem SH.ht {w0 w : World} {F0 : Nat → Prop} {X : List (Nat × Obj)} {S : List Asn} (H : SH w0 F0 w X S) (t : LT) (h : tA t ∈ S) : HT w t := H.of h
theorem SH.own {w0 w : World} {F0 : Nat → Prop} {X : List (Nat × Obj)} {S : List Asn} (H : SH w0 F0 w X S) (B : Nat) (t : LT) (h : oA B t ∈ S) : Own B w t := H.of h
theorem HT.chg {w w' : World} {t : LT} {F : Nat → Prop} (h : HT w t) (c : Chg F w w') (k : ∀ b ∈ ft t, ¬ F b) : HT w' t := h.fr fun b hb => c.block b (h.lt b hb) (k b hb)
/-- A term without parts. -/
theorem HT.leaf {w : World} {t : LT} (h : t.l = []) : HT w t := .mk t (by rw [h]; exact Nat.zero_le _) (fun hne => absurd h hne) (by rw [h]; intro x hx; cases hx)
theorem ft_leaf {t : LT} (h : t.l = []) : ft t = [] := by rw [ft_eq, h, ftL_nil]
theorem Own.leaf {B : Nat} {w : World} {t : LT} (h : t.l = []) : Own B w t := ⟨.leaf h, (by rw [ft_leaf h]; exact List.nodup_nil), (by rw [ft_leaf h]; intro b hb; cases hb), (by rw [ft_leaf h]; intro b hb; cases hb)⟩
theorem ft_pair (k i : Int) (s : ByteArray) (b o c : Nat) (x y : LT) : ft ⟨k, i, s, some ⟨b, o, none⟩, c, [x, y]⟩ = b :: (ft x ++ ft y) := by
  rw [ft_eq, ftL_ne _ (by simp), ftR_flat]
  simp
/-- A pair laid out in a block of its own. -/
theorem HT.pair {w : World} {k i : Int} {s : ByteArray} {b T c : Nat} {fz : Nat × Nat} {x y : LT} (hb : w.heap[b]? = some (.cells (tcs x ++ tcs y).toArray T fz)) (hc : 2 ≤ c) (hx : HT w x) (hy : HT w y) : HT w ⟨k, i, s, some ⟨b, 0, none⟩, c, [x, y]⟩ := by
  refine .mk _ hc (fun _ => ⟨b, 0, _, T, fz, rfl, hb, fun j v hj => ?_⟩) (fun z hz => ?_)
  · rw [Nat.zero_add]; simpa [tcells] using hj
  · simp only [List.mem_cons, List.not_mem_nil, or_false] at hz
    rcases hz with rfl | rfl <;> assumption
theorem Own.pair {B : Nat} {w : World} {k i : Int} {s : ByteArray} {b T c : Nat} {x y : LT} (hb : w.heap[b]? = some (.cells (tcs x ++ tcs y).toArray T (0, 0))) (hB : B ≤ b) (hc : 2 ≤ c) (hx : Own B w x) (hy : Own B w y) (h1 : b ∉ ft x) (h2 : b ∉ ft y) (h3 : ∀ z ∈ ft x, z ∉ ft y) : Own B w ⟨k, i, s, some ⟨b, 0, none⟩, c, [x, y]⟩ := by
  refine ⟨.pair hb hc hx.ht hy.ht, ?_, ?_, ?_⟩
  · rw [ft_pair, List.nodup_cons, List.mem_append, List.nodup_append]
    exact ⟨(by rintro (h | h); exact h1 h; exact h2 h), hx.nd, hy.nd, fun z hz u hu e => h3 z hz (e ▸ hu)⟩
  · rw [ft_pair]
    intro z hz
    rcases List.mem_cons.1 hz with rfl | hz
    · exact hB
    · rcases List.mem_append.1 hz with h | h
      · exact hx.new z h
      · exact hy.new z h
  · rw [ft_pair]
    intro z hz
    rcases List.mem_cons.1 hz with rfl | hz
    · exact ⟨_, _, hb⟩
    · rcases List.mem_append.1 hz with h | h
      · exact hx.free z h
      · exact hy.free z h
theorem enc_leaf {m : Tm} {t : LT} (he : er t = m.enc) (hm : ∀ x y, m ≠ .pair x y) : t.l = [] ∧ t.k ≠ 4 ∧ 0 ≤ t.k ∧ t.k ≤ 3 := by
  rw [er_eq] at he
  cases m with
  | pair x y => exact absurd rfl (hm x y)
  | _ =>
    simp only [Tm.enc, S47.mk.injEq, List.map_eq_nil_iff] at he
    obtain ⟨h1, _, _, h4⟩ := he
    exact ⟨h4, by omega, by omega, by omega⟩
theorem enc_pair {x y : Tm} {t : LT} {w : World} (he : er t = (Tm.pair x y).enc) (ht : HT w t) : ∃ b o c p q, t = ⟨4, 0, ⟨#[]⟩, some ⟨b, o, none⟩, c, [p, q]⟩ ∧ er p = x.enc ∧ er q = y.enc ∧ HT w p ∧ HT w q := by
  rw [er_eq] at he
  obtain ⟨k, i, s, a, c, l⟩ := t
  simp only [Tm.enc, S47.mk.injEq] at he
  obtain ⟨rfl, rfl, rfl, hl⟩ := he
  obtain ⟨p, l2, rfl, hp, hl⟩ := List.map_eq_cons_iff.1 hl
  obtain ⟨q, l3, rfl, hq, hl⟩ := List.map_eq_cons_iff.1 hl
  obtain rfl := List.map_eq_nil_iff.1 hl
  obtain ⟨b, o, cs, T, fz, ha, _, _⟩ := ht.row (by simp)
  simp only at ha
  subst ha
  exact ⟨b, o, c, p, q, rfl, hp, hq, ht.kid p (by simp), ht.kid q (by simp)⟩
theorem er_same {t t' : LT} (h : er t' = er t) {m : Tm} (he : er t = m.enc) : er t' = m.enc := h.trans he
/-- What a call has made: a term in new blocks. -/
def Mk (m : Tm) (w : World) (v : Value) (w' : World) : Prop := ∃ t, v = tv t ∧ er t = m.enc ∧ Own w.heap.size w' t ∧ Chg noF w w'
end Go.Proofs.Ytpfooiepmnaoaaa.E
