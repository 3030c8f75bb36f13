/- What bounds arguments have, and how a row's data are laid open. (Made by xrow.py.) -/
import Derived.Test.YtkpaomcnjnojcaaX0
import Derived.Test.YtkpaomcnjnojcaaOpen
import Derived.KernelRfl
namespace Go.Proofs.Ytkpaomcnjnojcaa.X
open Go.RowKit Go.Proofs.YtkpaomcnjnojcaaW.PrintWords Go.Proofs.Ytkpaomcnjnojcaa.Open
set_option linter.unusedVariables false
inductive B24 : S24 → Prop
  | mk (x : S24) (h0_0 : (Lit.int .i64 x.f0).wf = true) (h1_0 : (Lit.int .i64 x.f1).wf = true) (h2_0 : (x.f2).size ≤ 140737488351232) (h3_0 : (x.f3).length * 56 ≤ 140737488351232) (h3_1 : ∀ y_ ∈ x.f3, B24 y_) : B24 x
theorem B24.b0 {x : S24} (h : B24 x) : ((Lit.int .i64 x.f0).wf = true) := by cases h; exact by assumption
theorem B24.b1 {x : S24} (h : B24 x) : ((Lit.int .i64 x.f1).wf = true) := by cases h; exact by assumption
theorem B24.b2 {x : S24} (h : B24 x) : ((x.f2).size ≤ 140737488351232) := by cases h; exact by assumption
theorem B24.b3 {x : S24} (h : B24 x) : ((x.f3).length * 56 ≤ 140737488351232) ∧ (∀ y_ ∈ x.f3, B24 y_) := by cases h; exact ⟨by assumption, by assumption⟩
theorem open24 {H : Type} {enc : TypeId × Value → H} {w : World} : ∀ n, OpnAt enc Try.prog w n k24 24 B24 := by
  intro n
  induction n using Nat.strongRecOn with
  | _ n ih =>
  intro cs x h hf
  obtain ⟨a, hK, hB⟩ := opn_struct (fun x : S24 => (x.f0, x.f1, x.f2, x.f3)) (fun a => (⟨a.1, a.2.1, a.2.2.1, a.2.2.2⟩ : S24)) (fun _ => rfl) Try.underlying24 (by kernel_rfl) n (fun m hm => (opnF_cons (o := 0) (o2 := 1) rfl (by kernel_rfl) rfl (opn_int Try.underlying3 m) (opnF_cons (o := 1) (o2 := 2) rfl (by kernel_rfl) rfl (opn_int Try.underlying3 m) (opnF_cons (o := 2) (o2 := 3) rfl (by kernel_rfl) rfl (opn_str Try.underlying9 m) (opnF_one (o := 3) rfl (by kernel_rfl) (opn_slice 24 Try.underlying22 (by kernel_rfl) (bytes := 56) (by kernel_rfl) m (fun m_ hm_ => (ih m_ (by omega))))))))) cs x h hf
  obtain ⟨_, _, rfl, rfl, ⟨_, _, rfl, rfl, ⟨_, _, rfl, rfl, ⟨A3, c3, rfl, l3, g3⟩⟩⟩⟩ := hK
  obtain ⟨h0, h1, h2, h3⟩ := hB
  exact ⟨a, k24_mk _ a l3 g3, .mk a h0 h1 h2 h3.1 h3.2⟩
inductive B120 : S120 → Prop
  | mk (x : S120) (h0_0 : (Lit.int .i64 x.f0).wf = true) (h1_0 : B24 x.f1) : B120 x
theorem B120.b0 {x : S120} (h : B120 x) : ((Lit.int .i64 x.f0).wf = true) := by cases h; exact by assumption
theorem B120.b1 {x : S120} (h : B120 x) : (B24 x.f1) := by cases h; exact by assumption
theorem open120 {H : Type} {enc : TypeId × Value → H} {w : World} : ∀ n, OpnAt enc Try.prog w n k120 120 B120 := by
  intro n cs x h hf
  obtain ⟨a, hK, hB⟩ := opn_struct (fun x : S120 => (x.f0, x.f1)) (fun a => (⟨a.1, a.2⟩ : S120)) (fun _ => rfl) Try.underlying120 (by kernel_rfl) n (fun m hm => (opnF_cons (o := 0) (o2 := 1) rfl (by kernel_rfl) rfl (opn_int Try.underlying3 m) (opnF_one (o := 1) rfl (by kernel_rfl) (open24 m)))) cs x h hf
  obtain ⟨h0, h1⟩ := hB
  exact ⟨a, hK, .mk a h0 h1⟩
end Go.Proofs.Ytkpaomcnjnojcaa.X
