/- OccursIn on valid terms. -/
import Derived.Test.YtkpaomcnjnojcaaTermOk
import Derived.Test.YtkpaomcnjnojcaaX31
import Derived.Test.YtkpaomcnjnojcaaX33
namespace Go.Proofs.Ytkpaomcnjnojcaa.X
open Go.RowKit Go.Proofs.YtkpaomcnjnojcaaW.PrintWords Go.Proofs.Ytkpaomcnjnojcaa.Base
set_option linter.unusedVariables false
set_option linter.unusedSimpArgs false
def Tm.occ (v : Int) : Tm → Bool
  | .var n => n == v
  | .pair a b => a.occ v || b.occ v
  | _ => false
theorem occurs_ev (v : Int) : ∀ m : Tm, Ev (fun k => impl_occurs.f k v m.enc.f0 m.enc.f1 m.enc.f2 m.enc.f3) (m.occ v) := by
  intro m
  induction m with
  | nil => exact Ev.step (f := fun _ => some false) (fun k => rfl) (Ev.now _)
  | var n => exact Ev.step (f := fun _ => some (n == v)) (fun k => rfl) (Ev.now _)
  | sym x => exact Ev.step (f := fun _ => some false) (fun k => rfl) (Ev.now _)
  | int i => exact Ev.step (f := fun _ => some false) (fun k => rfl) (Ev.now _)
  | pair a b iha ihb =>
    show Ev (fun k => impl_occurs.f k v 4 0 ⟨#[]⟩ [a.enc, b.enc]) _
    refine Ev.step (fun k => by rw [impl_occurs.f, if_neg (by omega), if_pos rfl, if_pos (by simp), rd_cons]) ?_
    refine Ev.bind iha ?_
    cases h : a.occ v with
    | true => exact Ev.pos rfl (Ev.eq (Ev.now _) (by simp [Tm.occ, h]))
    | false =>
      refine Ev.neg (by simp) ?_
      refine Ev.pos (by simp) ?_
      rw [rd_one]
      exact Ev.eq (Ev.bind ihb (Ev.now _)) (by simp [Tm.occ, h])
theorem l02Occurs_ev (v : Int) : ∀ m : Tm, Ev (fun k => spec_l02Occurs.f k v m.enc.f0 m.enc.f1 m.enc.f2 m.enc.f3) (m.occ v) := by
  have leaf : ∀ (t : ITm), t.f3 = [] → Ev (fun k => spec_l02Occurs.f k v t.f0 t.f1 t.f2 t.f3) (if t.f0 = 1 then t.f1 == v else false) := by
    intro t h
    rw [h]
    refine Ev.step (f := fun k => spec_l02Occurs.l0 k v [] 0 0 t.f0 t.f1 t.f2 []) (fun k => by rw [spec_l02Occurs.f]; rfl) ?_
    refine Ev.step (fun k => by rw [spec_l02Occurs.l0, if_neg (by omega)]) ?_
    exact Ev.ite (fun c => Ev.eq (Ev.now _) (if_pos c).symm) (fun c => Ev.eq (Ev.now _) (if_neg c).symm)
  intro m
  induction m with
  | nil => exact leaf _ rfl
  | var n => exact leaf _ rfl
  | sym x => exact leaf _ rfl
  | int i => exact leaf _ rfl
  | pair a b iha ihb =>
    show Ev (fun k => spec_l02Occurs.f k v 4 0 ⟨#[]⟩ [a.enc, b.enc]) _
    refine Ev.step (f := fun k => spec_l02Occurs.l0 k v [a.enc, b.enc] 2 0 4 0 ⟨#[]⟩ [a.enc, b.enc]) (fun k => by rw [spec_l02Occurs.f]; rfl) ?_
    refine Ev.step (fun k => by rw [spec_l02Occurs.l0, if_pos (by omega), if_pos (by omega), if_pos (by simp), rd_cons, show wrap64 ((0 : Int) + 1) = 1 from by unfold wrap64; omega]) ?_
    refine Ev.bind iha ?_
    cases h : a.occ v with
    | true => exact Ev.pos rfl (Ev.eq (Ev.now _) (by simp [Tm.occ, h]))
    | false =>
      refine Ev.neg (by simp) ?_
      refine Ev.step (fun k => by rw [spec_l02Occurs.l0, if_pos (by omega), if_pos (by omega), if_pos (by simp), rd_one, show wrap64 ((1 : Int) + 1) = 2 from by unfold wrap64; omega]) ?_
      refine Ev.bind ihb ?_
      cases h2 : b.occ v with
      | true => exact Ev.pos rfl (Ev.eq (Ev.now _) (by simp [Tm.occ, h, h2]))
      | false =>
        refine Ev.neg (by simp) ?_
        refine Ev.step (fun k => by rw [spec_l02Occurs.l0, if_neg (by omega), if_neg (by omega)]) ?_
        exact Ev.eq (Ev.now _) (by simp [Tm.occ, h, h2])
theorem OccursIn_ev {t : ITm} (hs : Sm t) (v : Int) : ∃ b : Bool, Ev (fun k => spec_OccursIn.f k v t.f0 t.f1 t.f2 t.f3) b ∧ Ev (fun k => impl_OccursIn.f k v t.f0 t.f1 t.f2 t.f3) b := by
  unfold spec_OccursIn.f impl_OccursIn.f
  by_cases h : TOk t
  · obtain ⟨m, hm, rfl, hz⟩ := h
    have ht := (TOk_enc hm).2 hz
    exact ⟨m.occ v, Ev.bind (spec_TermOk_ev hs) (Ev.pos (by simpa using ht) (Ev.bind (l02Occurs_ev v m) (Ev.now _))), Ev.bind (impl_TermOk_ev hs) (Ev.pos (by simpa using ht) (Ev.bind (occurs_ev v m) (Ev.now _)))⟩
  · exact ⟨false, Ev.bind (spec_TermOk_ev hs) (Ev.neg (by simpa using h) (Ev.now _)), Ev.bind (impl_TermOk_ev hs) (Ev.neg (by simpa using h) (Ev.now _))⟩
end Go.Proofs.Ytkpaomcnjnojcaa.X
