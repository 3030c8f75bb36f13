/- Terms: the plain data type, what is well formed, what the reference and the program count and check. -/
import Derived.Test.YtpfooiepmnaoaaaBase
import Derived.Test.YtpfooiepmnaoaaaIsName
import Derived.Test.YtpfooiepmnaoaaaTy
import Derived.Test.YtpfooiepmnaoaaaX120
import Derived.Test.YtpfooiepmnaoaaaX121
import Derived.Test.YtpfooiepmnaoaaaX109
namespace Go.Proofs.Ytpfooiepmnaoaaa.X
open Go.RowKit Go.Proofs.YtpfooiepmnaoaaaW.PrintWords Go.Proofs.Ytpfooiepmnaoaaa.Base
set_option linter.unusedVariables false
set_option linter.unusedSimpArgs false

abbrev LTm := S44
abbrev ITm := S47

theorem indI {P : ITm → Prop} (h : ∀ t : ITm, (∀ y ∈ t.f3, P y) → P t) : ∀ t, P t := by
  have key : ∀ n, ∀ t : ITm, SizeOf.sizeOf t < n → P t := by
    intro n
    induction n with
    | zero => intro t ht; omega
    | succ n ih =>
      intro t ht
      refine h t fun y hy => ih y ?_
      have h1 := List.sizeOf_lt_of_mem hy
      have h2 : SizeOf.sizeOf t = 1 + SizeOf.sizeOf t.f0 + SizeOf.sizeOf t.f1 + SizeOf.sizeOf t.f2 + SizeOf.sizeOf t.f3 := by cases t; simp
      omega
  exact fun t => key _ t (Nat.lt_succ_self _)
theorem indL {P : LTm → Prop} (h : ∀ t : LTm, (∀ y ∈ t.f3, P y) → P t) : ∀ t, P t := by
  have key : ∀ n, ∀ t : LTm, SizeOf.sizeOf t < n → P t := by
    intro n
    induction n with
    | zero => intro t ht; omega
    | succ n ih =>
      intro t ht
      refine h t fun y hy => ih y ?_
      have h1 := List.sizeOf_lt_of_mem hy
      have h2 : SizeOf.sizeOf t = 1 + SizeOf.sizeOf t.f0 + SizeOf.sizeOf t.f1 + SizeOf.sizeOf t.f2 + SizeOf.sizeOf t.f3 := by cases t; simp
      omega
  exact fun t => key _ t (Nat.lt_succ_self _)

/-- Well-formed terms. -/
inductive Tm where
  | nil : Tm
  | var : Int → Tm
  | sym : ByteArray → Tm
  | int : Int → Tm
  | pair : Tm → Tm → Tm

def Tm.size : Tm → Nat
  | .pair a b => 1 + a.size + b.size
  | _ => 1
theorem Tm.size_pos (m : Tm) : 1 ≤ m.size := by cases m <;> simp [Tm.size] <;> omega
def Tm.enc : Tm → ITm
  | .nil => ⟨0, 0, ⟨#[]⟩, []⟩
  | .var n => ⟨1, n, ⟨#[]⟩, []⟩
  | .sym s => ⟨2, 0, s, []⟩
  | .int i => ⟨3, i, ⟨#[]⟩, []⟩
  | .pair a b => ⟨4, 0, ⟨#[]⟩, [a.enc, b.enc]⟩
def Tm.Ok : Tm → Prop
  | .nil => True
  | .var n => 0 ≤ n ∧ n ≤ 100000
  | .sym s => isNm s = true
  | .int i => -1000000000 ≤ i ∧ i ≤ 1000000000
  | .pair a b => a.Ok ∧ b.Ok
theorem Tm.enc_inj : ∀ (a b : Tm), a.enc = b.enc → a = b := by
  intro a
  induction a with
  | nil => intro b h; cases b <;> simp [Tm.enc] at h ⊢
  | var n => intro b h; cases b <;> simp [Tm.enc] at h ⊢; exact h
  | sym s => intro b h; cases b <;> simp [Tm.enc] at h ⊢; exact h
  | int i => intro b h; cases b <;> simp [Tm.enc] at h ⊢; exact h
  | pair a1 a2 ih1 ih2 =>
    intro b h
    cases b <;> simp [Tm.enc] at h ⊢
    exact ⟨ih1 _ h.1, ih2 _ h.2⟩
def Wf (t : ITm) : Prop := ∃ m : Tm, m.Ok ∧ m.enc = t
noncomputable instance (t : ITm) : Decidable (Wf t) := Classical.propDecidable _

theorem nil_str {s : ByteArray} (h : s.toList = []) : s = ⟨#[]⟩ := by
  have h2 : s.data.toList = [] := by rw [← ByteArray.toList_eq]; exact h
  cases s with
  | mk d => simp at h2; rw [h2]

theorem rd_cons (a : ITm) (l : List ITm) : rd_T47 (a :: l) 0 = a := rfl
theorem rd_one (a b : ITm) (l : List ITm) : rd_T47 (a :: b :: l) 1 = b := rfl
theorem rd_at (l : List ITm) (i : Nat) (h : i < l.length) : rd_T47 l (i : Int) = l[i]'h := by
  unfold rd_T47
  simp [List.getD, h]
theorem rdL_at (l : List LTm) (i : Nat) (h : i < l.length) : rd_T44 l (i : Int) = l[i]'h := by
  unfold rd_T44
  simp [List.getD, h]

theorem Wf_iff (t : ITm) : Wf t ↔ (t.f0 = 0 ∧ t.f1 = 0 ∧ t.f2.toList = [] ∧ t.f3 = []) ∨ (t.f0 = 1 ∧ (0 ≤ t.f1 ∧ t.f1 ≤ 100000) ∧ t.f2.toList = [] ∧ t.f3 = []) ∨ (t.f0 = 2 ∧ t.f1 = 0 ∧ isNm t.f2 = true ∧ t.f3 = []) ∨
    (t.f0 = 3 ∧ (-1000000000 ≤ t.f1 ∧ t.f1 ≤ 1000000000) ∧ t.f2.toList = [] ∧ t.f3 = []) ∨ (t.f0 = 4 ∧ t.f1 = 0 ∧ t.f2.toList = [] ∧ ∃ a b, t.f3 = [a, b] ∧ Wf a ∧ Wf b) := by
  have he : (⟨#[]⟩ : ByteArray).toList = [] := by rw [ByteArray.toList_eq]
  constructor
  · rintro ⟨m, hm, rfl⟩
    cases m with
    | nil => exact .inl ⟨rfl, rfl, he, rfl⟩
    | var n => exact .inr (.inl ⟨rfl, hm, he, rfl⟩)
    | sym s => exact .inr (.inr (.inl ⟨rfl, rfl, hm, rfl⟩))
    | int i => exact .inr (.inr (.inr (.inl ⟨rfl, hm, he, rfl⟩)))
    | pair a b => exact .inr (.inr (.inr (.inr ⟨rfl, rfl, he, _, _, rfl, ⟨a, hm.1, rfl⟩, ⟨b, hm.2, rfl⟩⟩)))
  · obtain ⟨k, i, s, l⟩ := t
    rintro (⟨h0, h1, h2, h3⟩ | ⟨h0, h1, h2, h3⟩ | ⟨h0, h1, h2, h3⟩ | ⟨h0, h1, h2, h3⟩ | ⟨h0, h1, h2, a, b, h3, ⟨ma, ha, rfl⟩, ⟨mb, hb, rfl⟩⟩)
    all_goals simp only at h0 h1 h2 h3
    · have := nil_str h2; subst h0 h1 h3 this; exact ⟨.nil, trivial, rfl⟩
    · have := nil_str h2; subst h0 h3 this; exact ⟨.var i, h1, rfl⟩
    · subst h0 h1 h3; exact ⟨.sym s, h2, rfl⟩
    · have := nil_str h2; subst h0 h3 this; exact ⟨.int i, h1, rfl⟩
    · have := nil_str h2; subst h0 h1 h3 this; exact ⟨.pair ma mb, ⟨ha, hb⟩, rfl⟩

/-- Small: no name and no list beyond 2^20. -/
inductive Sm : ITm → Prop
  | mk (t : ITm) (h1 : t.f2.size ≤ 1048576) (h2 : t.f3.length ≤ 1048576) (h3 : ∀ y ∈ t.f3, Sm y) : Sm t
theorem Sm.name {t : ITm} (h : Sm t) : t.f2.size ≤ 1048576 := by cases h; assumption
theorem Sm.len {t : ITm} (h : Sm t) : t.f3.length ≤ 1048576 := by cases h; assumption
theorem Sm.sub {t : ITm} (h : Sm t) : ∀ y ∈ t.f3, Sm y := by cases h; assumption

/-- l02Count ends, whatever the term. -/
theorem count_ends {t : ITm} (hs : Sm t) : ∀ (most : Int), ∃ c, Ev (fun k => spec_l02Count.f k t.f0 t.f1 t.f2 t.f3 most) c := by
  induction hs with
  | mk t h1 h2 h3 ih =>
  intro most
  have loop : ∀ (d i : Nat), t.f3.length - i = d → i ≤ t.f3.length → ∀ n : Int, ∃ c, Ev (fun k => spec_l02Count.l0 k most n t.f3 (t.f3.length : Int) (i : Int)) c := by
    intro d
    induction d with
    | zero =>
      intro i hi hl n
      exact ⟨n, Ev.step (f := fun _ => some n) (fun k => by rw [spec_l02Count.l0, if_neg (by omega)]) (Ev.now _)⟩
    | succ d ihd =>
      intro i hi hl n
      by_cases hm : n > most
      · exact ⟨n, Ev.step (f := fun _ => some n) (fun k => by rw [spec_l02Count.l0, if_pos (by omega), if_pos (by omega), if_pos (by omega), if_pos hm]) (Ev.now _)⟩
      · have hy := List.getElem_mem (l := t.f3) (n := i) (by omega)
        obtain ⟨c, hc⟩ := ih _ hy (wrap64 (most - n))
        obtain ⟨c2, hc2⟩ := ihd (i + 1) (by omega) (by omega) (wrap64 (n + c))
        refine ⟨c2, Ev.step (fun k => by rw [spec_l02Count.l0, if_pos (by omega), if_pos (by omega), if_pos (by omega), if_neg hm, rd_at t.f3 i (by omega), w64s (by omega)]) (Ev.bind hc hc2)⟩
  obtain ⟨c, hc⟩ := loop t.f3.length 0 (by omega) (by omega) 1
  exact ⟨c, Ev.step (f := fun k => spec_l02Count.l0 k most 1 t.f3 (t.f3.length : Int) ((0 : Nat) : Int)) (fun k => by rw [spec_l02Count.f]; rfl) hc⟩

/-- On well formed terms it counts, up to one above the limit. -/
theorem count_enc : ∀ (m : Tm) (most : Int), 0 ≤ most → most ≤ 1000000 → Ev (fun k => spec_l02Count.f k m.enc.f0 m.enc.f1 m.enc.f2 m.enc.f3 most) (min (m.size : Int) (most + 1)) := by
  intro m
  have leaf : ∀ (t : ITm) (most : Int), 0 ≤ most → t.f3 = [] → Ev (fun k => spec_l02Count.f k t.f0 t.f1 t.f2 t.f3 most) (min 1 (most + 1)) := by
    intro t most h0 he
    rw [he]
    exact Ev.eq (Ev.step (f := fun k => spec_l02Count.l0 k most 1 [] 0 0) (fun k => by rw [spec_l02Count.f]; rfl) (Ev.step (f := fun _ => some 1) (fun k => by rw [spec_l02Count.l0, if_neg (by omega)]) (Ev.now _))) (by omega)
  induction m with
  | nil => intro most h0 h1; exact leaf _ most h0 rfl
  | var n => intro most h0 h1; exact leaf _ most h0 rfl
  | sym s => intro most h0 h1; exact leaf _ most h0 rfl
  | int i => intro most h0 h1; exact leaf _ most h0 rfl
  | pair a b iha ihb =>
    intro most h0 h1
    have pa := a.size_pos
    have pb := b.size_pos
    have hz : ((Tm.pair a b).size : Int) = 1 + a.size + b.size := by simp only [Tm.size]; omega
    rw [hz]
    show Ev (fun k => spec_l02Count.f k 4 0 _ [a.enc, b.enc] most) _
    refine Ev.step (f := fun k => spec_l02Count.l0 k most 1 [a.enc, b.enc] 2 0) (fun k => by rw [spec_l02Count.f]; rfl) ?_
    by_cases hm : (1 : Int) > most
    · exact Ev.eq (Ev.step (f := fun _ => some 1) (fun k => by rw [spec_l02Count.l0, if_pos (by omega), if_pos (by omega), if_pos (by simp), if_pos hm]) (Ev.now _)) (by omega)
    · refine Ev.step (fun k => by rw [spec_l02Count.l0, if_pos (by omega), if_pos (by omega), if_pos (by simp), if_neg hm, rd_cons, w64 (i := most - 1) (by omega) (by omega), show wrap64 ((0 : Int) + 1) = 1 from by unfold wrap64; omega]) (Ev.bind (iha (most - 1) (by omega) (by omega)) ?_)
      show Ev (fun k => spec_l02Count.l0 k most (wrap64 (1 + min (a.size : Int) (most - 1 + 1))) [a.enc, b.enc] 2 1) _
      rw [w64 (i := 1 + min (a.size : Int) (most - 1 + 1)) (by omega) (by omega)]
      by_cases ha : (a.size : Int) ≤ most - 1
      · rw [show 1 + min (a.size : Int) (most - 1 + 1) = 1 + (a.size : Int) by omega]
        refine Ev.step (fun k => by rw [spec_l02Count.l0, if_pos (by omega), if_pos (by omega), if_pos (by simp), if_neg (by omega), rd_one, w64 (i := most - (1 + (a.size : Int))) (by omega) (by omega), show wrap64 ((1 : Int) + 1) = 2 from by unfold wrap64; omega]) (Ev.bind (ihb (most - (1 + (a.size : Int))) (by omega) (by omega)) ?_)
        refine Ev.eq (Ev.step (f := fun _ => some _) (fun k => by rw [spec_l02Count.l0, if_neg (by omega)]) (Ev.now _)) ?_
        rw [w64 (by omega) (by omega)]
        omega
      · exact Ev.eq (Ev.step (f := fun _ => some (1 + min (a.size : Int) (most - 1 + 1))) (fun k => by rw [spec_l02Count.l0, if_pos (by omega), if_pos (by omega), if_pos (by simp), if_pos (by omega)]) (Ev.now _)) (by omega)
end Go.Proofs.Ytpfooiepmnaoaaa.X
