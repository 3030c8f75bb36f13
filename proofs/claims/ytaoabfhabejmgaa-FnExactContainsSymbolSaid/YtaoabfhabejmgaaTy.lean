/- What bounds arguments have, and how a row's data are laid open. (Made by xrow.py.) -/
import Derived.Test.YtaoabfhabejmgaaX0
import Derived.Test.YtaoabfhabejmgaaOpen
import Derived.KernelRfl
namespace Go.Proofs.Ytaoabfhabejmgaa.X
open Go.RowKit Go.Proofs.YtaoabfhabejmgaaW.PrintWords Go.Proofs.Ytaoabfhabejmgaa.Open
set_option linter.unusedVariables false
inductive B69 : S69 → Prop
  | mk (x : S69) (h0_0 : (Lit.int .i64 x.f0).wf = true) (h1_0 : (Lit.int .i64 x.f1).wf = true) : B69 x
theorem B69.b0 {x : S69} (h : B69 x) : ((Lit.int .i64 x.f0).wf = true) := by cases h; exact by assumption
theorem B69.b1 {x : S69} (h : B69 x) : ((Lit.int .i64 x.f1).wf = true) := by cases h; exact by assumption
theorem open69 {H : Type} {enc : TypeId × Value → H} {w : World} : ∀ n, OpnAt enc Try.prog w n k69 69 B69 := by
  intro n cs x h hf
  obtain ⟨a, hK, hB⟩ := opn_struct (fun x : S69 => (x.f0, x.f1)) (fun a => (⟨a.1, a.2⟩ : S69)) (fun _ => rfl) Try.underlying69 (by kernel_rfl) n (fun m hm => (opnF_cons (o := 0) (o2 := 1) rfl (by kernel_rfl) rfl (opn_int Try.underlying3 m) (opnF_one (o := 1) rfl (by kernel_rfl) (opn_int Try.underlying3 m)))) cs x h hf
  obtain ⟨h0, h1⟩ := hB
  exact ⟨a, hK, .mk a h0 h1⟩
inductive B74 : S74 → Prop
  | mk (x : S74) (h0_0 : (Lit.int .i64 x.f0).wf = true) (h1_0 : (x.f1).size ≤ 140737488351232) : B74 x
theorem B74.b0 {x : S74} (h : B74 x) : ((Lit.int .i64 x.f0).wf = true) := by cases h; exact by assumption
theorem B74.b1 {x : S74} (h : B74 x) : ((x.f1).size ≤ 140737488351232) := by cases h; exact by assumption
theorem open74 {H : Type} {enc : TypeId × Value → H} {w : World} : ∀ n, OpnAt enc Try.prog w n k74 74 B74 := by
  intro n cs x h hf
  obtain ⟨a, hK, hB⟩ := opn_struct (fun x : S74 => (x.f0, x.f1)) (fun a => (⟨a.1, a.2⟩ : S74)) (fun _ => rfl) Try.underlying74 (by kernel_rfl) n (fun m hm => (opnF_cons (o := 0) (o2 := 1) rfl (by kernel_rfl) rfl (opn_int Try.underlying3 m) (opnF_one (o := 1) rfl (by kernel_rfl) (opn_str Try.underlying9 m)))) cs x h hf
  obtain ⟨h0, h1⟩ := hB
  exact ⟨a, hK, .mk a h0 h1⟩
inductive B49 : S49 → Prop
  | mk (x : S49) (h0_0 : (Lit.int .i64 x.f0).wf = true) (h1_0 : (Lit.int .i64 x.f1).wf = true) (h2_0 : (x.f2).size ≤ 140737488351232) (h3_0 : (x.f3).length * 56 ≤ 140737488351232) (h3_1 : ∀ y_ ∈ x.f3, B49 y_) : B49 x
theorem B49.b0 {x : S49} (h : B49 x) : ((Lit.int .i64 x.f0).wf = true) := by cases h; exact by assumption
theorem B49.b1 {x : S49} (h : B49 x) : ((Lit.int .i64 x.f1).wf = true) := by cases h; exact by assumption
theorem B49.b2 {x : S49} (h : B49 x) : ((x.f2).size ≤ 140737488351232) := by cases h; exact by assumption
theorem B49.b3 {x : S49} (h : B49 x) : ((x.f3).length * 56 ≤ 140737488351232) ∧ (∀ y_ ∈ x.f3, B49 y_) := by cases h; exact ⟨by assumption, by assumption⟩
theorem open49 {H : Type} {enc : TypeId × Value → H} {w : World} : ∀ n, OpnAt enc Try.prog w n k49 49 B49 := by
  intro n
  induction n using Nat.strongRecOn with
  | _ n ih =>
  intro cs x h hf
  obtain ⟨a, hK, hB⟩ := opn_struct (fun x : S49 => (x.f0, x.f1, x.f2, x.f3)) (fun a => (⟨a.1, a.2.1, a.2.2.1, a.2.2.2⟩ : S49)) (fun _ => rfl) Try.underlying49 (by kernel_rfl) n (fun m hm => (opnF_cons (o := 0) (o2 := 1) rfl (by kernel_rfl) rfl (opn_int Try.underlying3 m) (opnF_cons (o := 1) (o2 := 2) rfl (by kernel_rfl) rfl (opn_int Try.underlying3 m) (opnF_cons (o := 2) (o2 := 3) rfl (by kernel_rfl) rfl (opn_str Try.underlying9 m) (opnF_one (o := 3) rfl (by kernel_rfl) (opn_slice 49 Try.underlying47 (by kernel_rfl) (bytes := 56) (by kernel_rfl) m (fun m_ hm_ => (ih m_ (by omega))))))))) cs x h hf
  obtain ⟨_, _, rfl, rfl, ⟨_, _, rfl, rfl, ⟨_, _, rfl, rfl, ⟨A3, c3, rfl, l3, g3⟩⟩⟩⟩ := hK
  obtain ⟨h0, h1, h2, h3⟩ := hB
  exact ⟨a, k49_mk _ a l3 g3, .mk a h0 h1 h2 h3.1 h3.2⟩
end Go.Proofs.Ytaoabfhabejmgaa.X
