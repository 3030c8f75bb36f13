/- ContainsSymbol on valid terms. -/
import Derived.Test.YtaoabfhabejmgaaTermOk
import Derived.Test.YtaoabfhabejmgaaX50
import Derived.Test.YtaoabfhabejmgaaX51
namespace Go.Proofs.Ytaoabfhabejmgaa.X
open Go.RowKit Go.Proofs.YtaoabfhabejmgaaW.PrintWords Go.Proofs.Ytaoabfhabejmgaa.Base
set_option linter.unusedVariables false
set_option linter.unusedSimpArgs false
def Tm.hasSym (s : ByteArray) : Tm → Bool
  | .sym x => x.toList == s.toList
  | .pair a b => a.hasSym s || b.hasSym s
  | _ => false
theorem hasSym_ev (s : ByteArray) : ∀ m : Tm, Ev (fun k => impl_hasSymbol.f k m.enc.f0 m.enc.f1 m.enc.f2 m.enc.f3 s) (m.hasSym s) := by
  intro m
  induction m with
  | nil => exact Ev.step (f := fun _ => some false) (fun k => rfl) (Ev.now _)
  | var n => exact Ev.step (f := fun _ => some false) (fun k => rfl) (Ev.now _)
  | sym x => exact Ev.step (f := fun _ => some (x.toList == s.toList)) (fun k => rfl) (Ev.now _)
  | int i => exact Ev.step (f := fun _ => some false) (fun k => rfl) (Ev.now _)
  | pair a b iha ihb =>
    show Ev (fun k => impl_hasSymbol.f k 4 0 ⟨#[]⟩ [a.enc, b.enc] s) _
    refine Ev.step (fun k => by rw [impl_hasSymbol.f, if_pos rfl, if_pos (by simp), rd_cons]) ?_
    refine Ev.bind iha ?_
    cases h : a.hasSym s with
    | true => exact Ev.pos rfl (Ev.eq (Ev.now _) (by simp [Tm.hasSym, h]))
    | false =>
      refine Ev.neg (by simp) ?_
      refine Ev.pos (by simp) ?_
      rw [rd_one]
      exact Ev.eq (Ev.bind ihb (Ev.now _)) (by simp [Tm.hasSym, h])
theorem l10Contains_ev (s : ByteArray) : ∀ m : Tm, Ev (fun k => spec_l10Contains.f k m.enc.f0 m.enc.f1 m.enc.f2 m.enc.f3 s) (m.hasSym s) := by
  have leaf : ∀ (t : ITm), t.f3 = [] → Ev (fun k => spec_l10Contains.f k t.f0 t.f1 t.f2 t.f3 s) (if t.f0 = 2 then t.f2.toList == s.toList else false) := by
    intro t h
    rw [h]
    refine Ev.step (f := fun k => spec_l10Contains.l0 k s [] 0 0 t.f0 t.f1 t.f2 []) (fun k => by rw [spec_l10Contains.f]; rfl) ?_
    refine Ev.step (fun k => by rw [spec_l10Contains.l0, if_neg (by omega)]) ?_
    exact Ev.ite (fun c => Ev.eq (Ev.now _) (if_pos c).symm) (fun c => Ev.eq (Ev.now _) (if_neg c).symm)
  intro m
  induction m with
  | nil => exact leaf _ rfl
  | var n => exact leaf _ rfl
  | sym x => exact leaf _ rfl
  | int i => exact leaf _ rfl
  | pair a b iha ihb =>
    show Ev (fun k => spec_l10Contains.f k 4 0 ⟨#[]⟩ [a.enc, b.enc] s) _
    refine Ev.step (f := fun k => spec_l10Contains.l0 k s [a.enc, b.enc] 2 0 4 0 ⟨#[]⟩ [a.enc, b.enc]) (fun k => by rw [spec_l10Contains.f]; rfl) ?_
    refine Ev.step (fun k => by rw [spec_l10Contains.l0, if_pos (by omega), if_pos (by omega), if_pos (by simp), rd_cons, show wrap64 ((0 : Int) + 1) = 1 from by unfold wrap64; omega]) ?_
    refine Ev.bind iha ?_
    cases h : a.hasSym s with
    | true => exact Ev.pos rfl (Ev.eq (Ev.now _) (by simp [Tm.hasSym, h]))
    | false =>
      refine Ev.neg (by simp) ?_
      refine Ev.step (fun k => by rw [spec_l10Contains.l0, if_pos (by omega), if_pos (by omega), if_pos (by simp), rd_one, show wrap64 ((1 : Int) + 1) = 2 from by unfold wrap64; omega]) ?_
      refine Ev.bind ihb ?_
      cases h2 : b.hasSym s with
      | true => exact Ev.pos rfl (Ev.eq (Ev.now _) (by simp [Tm.hasSym, h, h2]))
      | false =>
        refine Ev.neg (by simp) ?_
        refine Ev.step (fun k => by rw [spec_l10Contains.l0, if_neg (by omega), if_neg (by omega)]) ?_
        exact Ev.eq (Ev.now _) (by simp [Tm.hasSym, h, h2])
theorem Contains_ev {t : ITm} (hs : Sm t) (s : ByteArray) : ∃ b : Bool, Ev (fun k => spec_ContainsSymbol.f k t.f0 t.f1 t.f2 t.f3 s) b ∧ Ev (fun k => impl_ContainsSymbol.f k t.f0 t.f1 t.f2 t.f3 s) b := by
  unfold spec_ContainsSymbol.f impl_ContainsSymbol.f
  by_cases h : TOk t
  · obtain ⟨m, hm, rfl, hz⟩ := h
    have ht := (TOk_enc hm).2 hz
    exact ⟨m.hasSym s, Ev.bind (spec_TermOk_ev hs) (Ev.pos (by simpa using ht) (Ev.bind (l10Contains_ev s m) (Ev.now _))), Ev.bind (impl_TermOk_ev hs) (Ev.pos (by simpa using ht) (Ev.bind (hasSym_ev s m) (Ev.now _)))⟩
  · exact ⟨false, Ev.bind (spec_TermOk_ev hs) (Ev.neg (by simpa using h) (Ev.now _)), Ev.bind (impl_TermOk_ev hs) (Ev.neg (by simpa using h) (Ev.now _))⟩
end Go.Proofs.Ytaoabfhabejmgaa.X
