/- TermOk, TermSize: what the reference and the program answer. -/
import Derived.Test.YtpfooiepmnaoaaaTerms
import Derived.Test.YtpfooiepmnaoaaaX82
import Derived.Test.YtpfooiepmnaoaaaX63
namespace Go.Proofs.Ytpfooiepmnaoaaa.X
open Go.RowKit Go.Proofs.YtpfooiepmnaoaaaW.PrintWords Go.Proofs.Ytpfooiepmnaoaaa.Base
set_option linter.unusedVariables false
set_option linter.unusedSimpArgs false

/-- The first test of l02Shape, as one Bool. -/
def shFlag (t : ITm) : Bool := (decide (t.f0 ≠ 1) && decide (t.f0 ≠ 3) && decide (t.f1 ≠ 0)) || (decide (t.f0 ≠ 2) && decide (t.f2.toList ≠ [])) || (decide (t.f0 ≠ 4) && decide ((t.f3.length : Int) > 0))
theorem shape_step (t : ITm) (k : Nat) : spec_l02Shape.f (k + 1) t.f0 t.f1 t.f2 t.f3 = spec_l02Shape.j0 k (shFlag t) t.f0 t.f1 t.f2 t.f3 := by
  rw [spec_l02Shape.f]
  unfold shFlag
  by_cases a1 : t.f0 = 1 <;> by_cases a2 : t.f0 = 2 <;> by_cases a3 : t.f0 = 3 <;> by_cases a4 : t.f0 = 4 <;> by_cases b : t.f1 = 0 <;> by_cases c : t.f2.toList = [] <;> simp [a1, a2, a3, a4, b, c] <;> omega
theorem sh_true {t : ITm} (h : shFlag t = true) : ¬ Wf t := by
  intro hw
  rw [Wf_iff] at hw
  unfold shFlag at h
  rcases hw with ⟨h0, h1, h2, h3⟩ | ⟨h0, h1, h2, h3⟩ | ⟨h0, h1, h2, h3⟩ | ⟨h0, h1, h2, h3⟩ | ⟨h0, h1, h2, a, b, h3, _⟩ <;> simp_all
theorem sh_false {t : ITm} (h : shFlag t = false) : (t.f0 = 1 ∨ t.f0 = 3 ∨ t.f1 = 0) ∧ (t.f0 = 2 ∨ t.f2.toList = []) ∧ (t.f0 = 4 ∨ t.f3 = []) := by
  unfold shFlag at h
  simp only [Bool.or_eq_false_iff, Bool.and_eq_false_iff, decide_eq_false_iff_not, Decidable.not_not] at h
  obtain ⟨⟨h1, h2⟩, h3⟩ := h
  refine ⟨?_, h2, ?_⟩
  · rcases h1 with (h1 | h1) | h1
    · exact .inl h1
    · exact .inr (.inl h1)
    · exact .inr (.inr h1)
  · rcases h3 with h3 | h3
    · exact .inl h3
    · exact .inr (List.eq_nil_of_length_eq_zero (by omega))
theorem l01In_ev (a b c : Int) : spec_l01In.f a b c = some (decide (b ≤ a ∧ a ≤ c)) := by
  unfold spec_l01In.f
  by_cases h : a ≥ b
  · rw [if_pos h]
    simp [show b ≤ a from h]
  · rw [if_neg h]
    simp; omega
theorem shape_ev {t : ITm} (hs : Sm t) : Ev (fun k => spec_l02Shape.f k t.f0 t.f1 t.f2 t.f3) (decide (Wf t)) := by
  induction hs with
  | mk t h1 h2 h3 ih =>
  refine Ev.step (shape_step t) ?_
  cases hf : shFlag t with
  | true =>
    refine Ev.eq (Ev.step (f := fun _ => some false) (fun k => by rw [spec_l02Shape.j0, if_pos rfl]) (Ev.now _)) ?_
    simp [sh_true hf]
  | false =>
    obtain ⟨c1, c2, c3⟩ := sh_false hf
    refine Ev.step (fun k => by rw [spec_l02Shape.j0, if_neg (by simp)]) ?_
    refine Ev.ite (fun a0 => ?_) (fun a0 => Ev.ite (fun a1 => ?_) (fun a1 => Ev.ite (fun a2 => ?_) (fun a2 => Ev.ite (fun a3 => ?_) (fun a3 => Ev.ite (fun a4 => ?_) (fun a4 => ?_)))))
    · refine Ev.eq (Ev.now _) ?_
      rw [eq_comm, decide_eq_true_eq, Wf_iff]
      refine .inl ⟨a0, ?_, ?_, ?_⟩
      · rcases c1 with c | c | c <;> omega
      · rcases c2 with c | c
        · omega
        · exact c
      · rcases c3 with c | c
        · omega
        · exact c
    · refine Ev.eq (Ev.bindc (l01In_ev _ _ _) (Ev.now _)) ?_
      have d2 : t.f2.toList = [] := by rcases c2 with c | c; omega; exact c
      have d3 : t.f3 = [] := by rcases c3 with c | c; omega; exact c
      rw [decide_eq_decide, Wf_iff]
      simp [a1, d2, d3]
    · refine Ev.eq (Ev.bind (Ev.of (spec_IsName.mono _) (spec_IsName_ev t.f2 (by omega))) (Ev.now _)) ?_
      have d1 : t.f1 = 0 := by rcases c1 with c | c | c <;> omega
      have d3 : t.f3 = [] := by rcases c3 with c | c; omega; exact c
      rw [eq_comm, Bool.eq_iff_iff, decide_eq_true_eq, Wf_iff]
      simp [a2, d1, d3]
    · refine Ev.eq (Ev.bindc (l01In_ev _ _ _) (Ev.now _)) ?_
      have d2 : t.f2.toList = [] := by rcases c2 with c | c; omega; exact c
      have d3 : t.f3 = [] := by rcases c3 with c | c; omega; exact c
      rw [decide_eq_decide, Wf_iff]
      simp [a3, d2, d3]
    · have d1 : t.f1 = 0 := by rcases c1 with c | c | c <;> omega
      have d2 : t.f2.toList = [] := by rcases c2 with c | c; omega; exact c
      refine Ev.ite (fun al => ?_) (fun al => ?_)
      · obtain ⟨a, b, hab⟩ : ∃ a b, t.f3 = [a, b] := by
          match t.f3, al with
          | [a, b], _ => exact ⟨a, b, rfl⟩
        have iha := ih a (by rw [hab]; simp)
        have ihb := ih b (by rw [hab]; simp)
        rw [hab, rd_cons, rd_one]
        refine Ev.pos (by simp) (Ev.bind iha ?_)
        have hw : Wf t ↔ Wf a ∧ Wf b := by
          rw [Wf_iff]
          constructor
          · rintro (⟨h, _⟩ | ⟨h, _⟩ | ⟨h, _⟩ | ⟨h, _⟩ | ⟨_, _, _, a', b', h, h', h''⟩)
            · omega
            · omega
            · omega
            · omega
            · rw [hab] at h
              simp only [List.cons.injEq, and_true] at h
              obtain ⟨rfl, rfl⟩ := h
              exact ⟨h', h''⟩
          · exact fun h => .inr (.inr (.inr (.inr ⟨a4, d1, d2, a, b, hab, h.1, h.2⟩)))
        by_cases ha : Wf a
        · refine Ev.pos (by simp [ha]) (Ev.pos (by simp) (Ev.eq (Ev.bind ihb (Ev.now _)) ?_))
          simp [hw, ha]
        · refine Ev.neg (by simp [ha]) (Ev.eq (Ev.now _) ?_)
          simp [hw, ha]
      · refine Ev.eq (Ev.now _) ?_
        rw [eq_comm, decide_eq_false_iff_not, Wf_iff]
        rintro (⟨h, _⟩ | ⟨h, _⟩ | ⟨h, _⟩ | ⟨h, _⟩ | ⟨_, _, _, a', b', h, _⟩)
        · omega
        · omega
        · omega
        · omega
        · exact al (by rw [h]; rfl)
    · refine Ev.eq (Ev.now _) ?_
      rw [eq_comm, decide_eq_false_iff_not, Wf_iff]
      rintro (⟨h, _⟩ | ⟨h, _⟩ | ⟨h, _⟩ | ⟨h, _⟩ | ⟨h, _⟩) <;> omega

/-! the program's count -/
theorem nodes_leaf (t : ITm) (h4 : t.f0 ≠ 4) (h2 : t.f2.size ≤ 140737488351232) (room : Int) : Ev (fun k => impl_nodesOf.f k t.f0 t.f1 t.f2 t.f3 room) (if 1 ≤ room ∧ Wf t then 1 else -1) := by
  have he : (if 1 ≤ room ∧ Wf t then (1 : Int) else -1) = (if room < 1 then -1 else if Wf t then 1 else -1) := by
    by_cases a : room < 1
    · rw [if_pos a, if_neg (fun h => by omega)]
    · rw [if_neg a]
      by_cases b : Wf t
      · rw [if_pos ⟨by omega, b⟩, if_pos b]
      · rw [if_neg (fun h => b h.2), if_neg b]
  rw [he]
  have wy : ∀ {p : Prop} [Decidable p], (Wf t ↔ p) → (if Wf t then (1 : Int) else -1) = if p then 1 else -1 := by
    intro p _ h
    by_cases b : p
    · rw [if_pos b, if_pos (h.2 b)]
    · rw [if_neg b, if_neg (fun x => b (h.1 x))]
  refine Ev.step (fun k => by rw [impl_nodesOf.f]) ?_
  refine Ev.ite (fun a => by rw [if_pos a]; exact Ev.now _) (fun a => ?_)
  rw [if_neg a]
  refine Ev.neg h4 ?_
  refine Ev.ite (fun b => ?_) (fun b => ?_)
  · have d3 : t.f3 = [] := List.eq_nil_of_length_eq_zero (by omega)
    refine Ev.ite (fun a0 => ?_) (fun a0 => Ev.ite (fun a1 => ?_) (fun a1 => Ev.ite (fun a2 => ?_) (fun a2 => Ev.ite (fun a3 => ?_) (fun a3 => ?_))))
    · rw [wy (p := t.f1 = 0 ∧ t.f2.toList = []) (by rw [Wf_iff]; simp [a0, d3])]
      by_cases e1 : t.f1 = 0 <;> by_cases e2 : t.f2.toList = [] <;> simp [e1, e2] <;> exact Ev.now _
    · rw [wy (p := (0 ≤ t.f1 ∧ t.f1 ≤ 100000) ∧ t.f2.toList = []) (by rw [Wf_iff]; simp [a1, d3])]
      by_cases e0 : t.f1 < 0
      · exact rneg (fun h => by omega) (Ev.pos e0 (Ev.now _))
      · by_cases e1 : t.f1 > 100000
        · exact rneg (fun h => by omega) (Ev.neg e0 (Ev.pos e1 (Ev.now _)))
        · by_cases e2 : t.f2.toList = []
          · exact rpos ⟨by omega, e2⟩ (Ev.neg e0 (Ev.neg e1 (Ev.pos e2 (Ev.now _))))
          · exact rneg (fun h => e2 h.2) (Ev.neg e0 (Ev.neg e1 (Ev.neg e2 (Ev.now _))))
    · rw [wy (p := t.f1 = 0 ∧ isNm t.f2 = true) (by rw [Wf_iff]; simp [a2, d3])]
      refine Ev.ite (fun e1 => ?_) (fun e1 => by rw [if_neg (fun h => e1 h.1)]; exact Ev.now _)
      refine Ev.bind (Ev.of (impl_IsName.mono _) (impl_IsName_ev t.f2 h2)) ?_
      refine Ev.ite (fun e2 => by rw [if_pos ⟨e1, e2⟩]; exact Ev.now _) (fun e2 => by rw [if_neg (fun h => e2 h.2)]; exact Ev.now _)
    · rw [wy (p := (-1000000000 ≤ t.f1 ∧ t.f1 ≤ 1000000000) ∧ t.f2.toList = []) (by rw [Wf_iff]; simp [a3, d3])]
      by_cases e0 : t.f1 < -1000000000
      · exact rneg (fun h => by omega) (Ev.pos e0 (Ev.now _))
      · by_cases e1 : t.f1 > 1000000000
        · exact rneg (fun h => by omega) (Ev.neg e0 (Ev.pos e1 (Ev.now _)))
        · by_cases e2 : t.f2.toList = []
          · exact rpos ⟨by omega, e2⟩ (Ev.neg e0 (Ev.neg e1 (Ev.pos e2 (Ev.now _))))
          · exact rneg (fun h => e2 h.2) (Ev.neg e0 (Ev.neg e1 (Ev.neg e2 (Ev.now _))))
    · rw [wy (p := False) (by rw [Wf_iff]; simp [a0, a1, a2, a3, h4]), if_neg (fun h => h)]
      exact Ev.now _
  · rw [wy (p := False) (by rw [Wf_iff]; constructor; (rintro (⟨_, _, _, h⟩ | ⟨_, _, _, h⟩ | ⟨_, _, _, h⟩ | ⟨_, _, _, h⟩ | ⟨h, _⟩) <;> first | exact h4 h | exact b (by rw [h]; rfl)); exact fun h => h.elim), if_neg (fun h => h)]
    exact Ev.now _
theorem nodes_enc : ∀ (m : Tm), m.Ok → ∀ room : Int, -1000000 ≤ room → room ≤ 1000000 → Ev (fun k => impl_nodesOf.f k m.enc.f0 m.enc.f1 m.enc.f2 m.enc.f3 room) (if (m.size : Int) ≤ room then m.size else -1) := by
  have leaf : ∀ (m : Tm), m.Ok → m.enc.f0 ≠ 4 → m.size = 1 → m.enc.f2.size ≤ 140737488351232 → ∀ room : Int, Ev (fun k => impl_nodesOf.f k m.enc.f0 m.enc.f1 m.enc.f2 m.enc.f3 room) (if (m.size : Int) ≤ room then m.size else -1) := by
    intro m hm h4 hz h2 room
    refine Ev.eq (nodes_leaf m.enc h4 h2 room) ?_
    have hw : Wf m.enc := ⟨m, hm, rfl⟩
    rw [hz]
    by_cases a : 1 ≤ room
    · rw [if_pos ⟨a, hw⟩, if_pos (by omega)]; rfl
    · rw [if_neg (fun h => a h.1), if_neg (by omega)]
  intro m
  induction m with
  | nil => intro hm room h0 h1; exact leaf _ hm (by simp [Tm.enc]) rfl (by simp [Tm.enc]; decide) room
  | var n => intro hm room h0 h1; exact leaf _ hm (by simp [Tm.enc]) rfl (by simp [Tm.enc]; decide) room
  | sym s => intro hm room h0 h1; exact leaf _ hm (by simp [Tm.enc]) rfl (by have := isNm_size hm; simp only [Tm.enc]; omega) room
  | int i => intro hm room h0 h1; exact leaf _ hm (by simp [Tm.enc]) rfl (by simp [Tm.enc]; decide) room
  | pair a b iha ihb =>
    intro hm room h0 h1
    have pa := a.size_pos
    have pb := b.size_pos
    show Ev (fun k => impl_nodesOf.f k 4 0 ⟨#[]⟩ [a.enc, b.enc] room) _
    have he : (⟨#[]⟩ : ByteArray).toList = [] := by rw [ByteArray.toList_eq]
    refine Ev.step (fun k => by rw [impl_nodesOf.f, if_pos rfl, if_pos rfl, if_pos he]) ?_
    refine Ev.ite (fun c => rneg (by simp only [Tm.size]; omega) (Ev.now _)) (fun c => ?_)
    refine Ev.step (fun k => by rw [impl_nodesOf.j0, if_neg (by simp), if_pos (by simp), rd_cons, w64 (i := room - 1) (by omega) (by omega)]) (Ev.bind (iha hm.1 (room - 1) (by omega) (by omega)) ?_)
    by_cases ca : (a.size : Int) ≤ room - 1
    · rw [if_pos ca]
      refine Ev.neg (by omega) (Ev.pos (by simp) ?_)
      rw [rd_one, w64 (i := room - 1 - (a.size : Int)) (by omega) (by omega)]
      refine Ev.bind (ihb hm.2 (room - 1 - (a.size : Int)) (by omega) (by omega)) ?_
      by_cases cb : (b.size : Int) ≤ room - 1 - (a.size : Int)
      · rw [if_pos cb]
        refine rpos (by simp only [Tm.size]; omega) (Ev.neg (by omega) (Ev.eq (Ev.now _) ?_))
        rw [w64 (i := 1 + (a.size : Int)) (by omega) (by omega), w64 (by omega) (by omega)]
        simp only [Tm.size]; omega
      · rw [if_neg cb]
        exact rneg (by simp only [Tm.size]; omega) (Ev.pos (by omega) (Ev.now _))
    · rw [if_neg ca]
      exact rneg (by simp only [Tm.size]; omega) (Ev.pos (by omega) (Ev.now _))
theorem nodes_bad {t : ITm} (hs : Sm t) : ¬ Wf t → ∀ room : Int, -1000000 ≤ room → room ≤ 1000000 → Ev (fun k => impl_nodesOf.f k t.f0 t.f1 t.f2 t.f3 room) (-1) := by
  induction hs with
  | mk t h1 h2 h3 ih =>
  intro hw room r0 r1
  by_cases h4 : t.f0 = 4
  · refine Ev.step (fun k => by rw [impl_nodesOf.f, if_pos h4]) ?_
    refine Ev.ite (fun _ => Ev.now _) (fun c => ?_)
    have jt : Ev (fun k => impl_nodesOf.j0 k room true t.f0 t.f1 t.f2 t.f3) (-1) := Ev.step (f := fun _ => some (-1)) (fun k => by rw [impl_nodesOf.j0, if_pos rfl]) (Ev.now _)
    refine Ev.ite (fun d1 => Ev.ite (fun d2 => ?_) (fun _ => jt)) (fun _ => jt)
    by_cases al : (t.f3.length : Int) = 2
    · obtain ⟨a, b, hab⟩ : ∃ a b, t.f3 = [a, b] := by
        match t.f3, al with
        | [a, b], _ => exact ⟨a, b, rfl⟩
      have hna : ¬ (Wf a ∧ Wf b) := fun h => hw ((Wf_iff t).2 (.inr (.inr (.inr (.inr ⟨h4, d1, d2, a, b, hab, h.1, h.2⟩)))))
      have iha := ih a (by rw [hab]; simp)
      have ihb := ih b (by rw [hab]; simp)
      rw [hab]
      refine Ev.step (fun k => by rw [impl_nodesOf.j0, if_neg (by simp), if_pos (by simp), rd_cons, w64 (i := room - 1) (by omega) (by omega)]) ?_
      by_cases ha : Wf a
      · obtain ⟨ma, hma, rfl⟩ := ha
        have pa := ma.size_pos
        refine Ev.bind (nodes_enc ma hma (room - 1) (by omega) (by omega)) ?_
        by_cases ca : (ma.size : Int) ≤ room - 1
        · rw [if_pos ca]
          refine Ev.neg (by omega) (Ev.pos (by simp) ?_)
          rw [rd_one, w64 (i := room - 1 - (ma.size : Int)) (by omega) (by omega)]
          exact Ev.bind (ihb (fun h => hna ⟨⟨ma, hma, rfl⟩, h⟩) _ (by omega) (by omega)) (Ev.pos (by omega) (Ev.now _))
        · rw [if_neg ca]
          exact Ev.pos (by omega) (Ev.now _)
      · exact Ev.bind (iha ha _ (by omega) (by omega)) (Ev.pos (by omega) (Ev.now _))
    · have e : ((t.f3.length : Int) != 2) = true := by simpa using al
      rw [e]
      exact jt
  · refine Ev.eq (nodes_leaf t h4 (by omega) room) ?_
    rw [if_neg (fun h => hw h.2)]

/-- A valid term: well formed and of at most 5000 nodes. -/
def TOk (t : ITm) : Prop := ∃ m : Tm, m.Ok ∧ m.enc = t ∧ m.size ≤ 5000
noncomputable instance (t : ITm) : Decidable (TOk t) := Classical.propDecidable _
theorem TOk_enc {m : Tm} (hm : m.Ok) : TOk m.enc ↔ m.size ≤ 5000 := by
  constructor
  · rintro ⟨m', _, h, hz⟩
    rw [← Tm.enc_inj _ _ h]; exact hz
  · exact fun h => ⟨m, hm, rfl, h⟩
theorem TOk.wf {t : ITm} (h : TOk t) : Wf t := by obtain ⟨m, hm, h, _⟩ := h; exact ⟨m, hm, h⟩
noncomputable def tsz (t : ITm) : Int := if h : TOk t then (Classical.choose h).size else -1
theorem tsz_enc {m : Tm} (hm : m.Ok) (h : m.size ≤ 5000) : tsz m.enc = m.size := by
  have ht : TOk m.enc := (TOk_enc hm).2 h
  unfold tsz
  rw [dif_pos ht, Tm.enc_inj _ _ (Classical.choose_spec ht).2.1]
theorem tsz_bad {t : ITm} (h : ¬ TOk t) : tsz t = -1 := by unfold tsz; rw [dif_neg h]

theorem spec_TermOk_ev {t : ITm} (hs : Sm t) : Ev (fun k => spec_TermOk.f k t.f0 t.f1 t.f2 t.f3) (decide (TOk t)) := by
  unfold spec_TermOk.f
  by_cases hw : Wf t
  · obtain ⟨m, hm, rfl⟩ := hw
    refine Ev.bind (count_enc m 5000 (by omega) (by omega)) ?_
    have hb := TOk_enc hm
    by_cases hz : m.size ≤ 5000
    · refine Ev.pos (by omega) (Ev.eq (Ev.bind (shape_ev hs) (Ev.now _)) ?_)
      rw [decide_eq_decide]
      exact ⟨fun _ => hb.2 hz, fun _ => ⟨m, hm, rfl⟩⟩
    · refine Ev.neg (by omega) (Ev.eq (Ev.now _) ?_)
      simp [hb, hz]
  · obtain ⟨c, hc⟩ := count_ends hs 5000
    refine Ev.bind hc (Ev.ite (fun _ => Ev.eq (Ev.bind (shape_ev hs) (Ev.now _)) ?_) (fun _ => Ev.eq (Ev.now _) ?_))
    · rw [decide_eq_decide]
      exact ⟨fun h => absurd h hw, fun h => absurd h.wf hw⟩
    · rw [eq_comm, decide_eq_false_iff_not]
      exact fun h => hw h.wf
theorem nodes_ev {t : ITm} (hs : Sm t) : Ev (fun k => impl_nodesOf.f k t.f0 t.f1 t.f2 t.f3 5000) (tsz t) := by
  by_cases hw : Wf t
  · obtain ⟨m, hm, rfl⟩ := hw
    refine Ev.eq (nodes_enc m hm 5000 (by omega) (by omega)) ?_
    by_cases hz : m.size ≤ 5000
    · rw [if_pos (by omega), tsz_enc hm hz]
    · rw [if_neg (by omega), tsz_bad (fun h => hz ((TOk_enc hm).1 h))]
  · exact Ev.eq (nodes_bad hs hw 5000 (by omega) (by omega)) (tsz_bad (fun h => hw h.wf)).symm
theorem tsz_pos (t : ITm) : (TOk t ∧ 1 ≤ tsz t ∧ tsz t ≤ 5000) ∨ (¬ TOk t ∧ tsz t = -1) := by
  by_cases h : TOk t
  · obtain ⟨m, hm, rfl, hz⟩ := h
    have := m.size_pos
    exact .inl ⟨(TOk_enc hm).2 hz, by rw [tsz_enc hm hz]; omega, by rw [tsz_enc hm hz]; omega⟩
  · exact .inr ⟨h, tsz_bad h⟩
theorem impl_TermOk_ev {t : ITm} (hs : Sm t) : Ev (fun k => impl_TermOk.f k t.f0 t.f1 t.f2 t.f3) (decide (TOk t)) := by
  unfold impl_TermOk.f
  refine Ev.eq (Ev.bind (nodes_ev hs) (Ev.now _)) ?_
  rw [decide_eq_decide]
  rcases tsz_pos t with ⟨h, h1, _⟩ | ⟨h, h1⟩
  · exact ⟨fun _ => h, fun _ => by omega⟩
  · exact ⟨fun h2 => by omega, fun h2 => absurd h2 h⟩
end Go.Proofs.Ytpfooiepmnaoaaa.X
