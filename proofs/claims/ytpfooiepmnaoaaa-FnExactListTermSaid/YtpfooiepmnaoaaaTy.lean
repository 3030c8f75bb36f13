/- What bounds arguments have, and how a row's data are laid open. (Made by xrow.py.) -/
import Derived.Test.YtpfooiepmnaoaaaX0
import Derived.Test.YtpfooiepmnaoaaaOpen
import Derived.KernelRfl
namespace Go.Proofs.Ytpfooiepmnaoaaa.X
open Go.RowKit Go.Proofs.YtpfooiepmnaoaaaW.PrintWords Go.Proofs.Ytpfooiepmnaoaaa.Open
set_option linter.unusedVariables false
inductive B44 : S44 → Prop
  | mk (x : S44) (h0_0 : (Lit.int .i64 x.f0).wf = true) (h1_0 : (Lit.int .i64 x.f1).wf = true) (h2_0 : (x.f2).size ≤ 140737488351232) (h3_0 : (x.f3).length * 56 ≤ 140737488351232) (h3_1 : ∀ y_ ∈ x.f3, B44 y_) : B44 x
theorem B44.b0 {x : S44} (h : B44 x) : ((Lit.int .i64 x.f0).wf = true) := by cases h; exact by assumption
theorem B44.b1 {x : S44} (h : B44 x) : ((Lit.int .i64 x.f1).wf = true) := by cases h; exact by assumption
theorem B44.b2 {x : S44} (h : B44 x) : ((x.f2).size ≤ 140737488351232) := by cases h; exact by assumption
theorem B44.b3 {x : S44} (h : B44 x) : ((x.f3).length * 56 ≤ 140737488351232) ∧ (∀ y_ ∈ x.f3, B44 y_) := by cases h; exact ⟨by assumption, by assumption⟩
theorem open44 {H : Type} {enc : TypeId × Value → H} {w : World} : ∀ n, OpnAt enc Try.prog w n k44 44 B44 := by
  intro n
  induction n using Nat.strongRecOn with
  | _ n ih =>
  intro cs x h hf
  obtain ⟨a, hK, hB⟩ := opn_struct (fun x : S44 => (x.f0, x.f1, x.f2, x.f3)) (fun a => (⟨a.1, a.2.1, a.2.2.1, a.2.2.2⟩ : S44)) (fun _ => rfl) Try.underlying44 (by kernel_rfl) n (fun m hm => (opnF_cons (o := 0) (o2 := 1) rfl (by kernel_rfl) rfl (opn_int Try.underlying3 m) (opnF_cons (o := 1) (o2 := 2) rfl (by kernel_rfl) rfl (opn_int Try.underlying3 m) (opnF_cons (o := 2) (o2 := 3) rfl (by kernel_rfl) rfl (opn_str Try.underlying9 m) (opnF_one (o := 3) rfl (by kernel_rfl) (opn_slice 44 Try.underlying22 (by kernel_rfl) (bytes := 56) (by kernel_rfl) m (fun m_ hm_ => (ih m_ (by omega))))))))) cs x h hf
  obtain ⟨_, _, rfl, rfl, ⟨_, _, rfl, rfl, ⟨_, _, rfl, rfl, ⟨A3, c3, rfl, l3, g3⟩⟩⟩⟩ := hK
  obtain ⟨h0, h1, h2, h3⟩ := hB
  exact ⟨a, k44_mk _ a l3 g3, .mk a h0 h1 h2 h3.1 h3.2⟩
inductive B88 : S88 → Prop
  | mk (x : S88) (h0_0 : (Lit.int .i64 x.f0).wf = true) (h1_0 : B44 x.f1) : B88 x
theorem B88.b0 {x : S88} (h : B88 x) : ((Lit.int .i64 x.f0).wf = true) := by cases h; exact by assumption
theorem B88.b1 {x : S88} (h : B88 x) : (B44 x.f1) := by cases h; exact by assumption
theorem open88 {H : Type} {enc : TypeId × Value → H} {w : World} : ∀ n, OpnAt enc Try.prog w n k88 88 B88 := by
  intro n cs x h hf
  obtain ⟨a, hK, hB⟩ := opn_struct (fun x : S88 => (x.f0, x.f1)) (fun a => (⟨a.1, a.2⟩ : S88)) (fun _ => rfl) Try.underlying88 (by kernel_rfl) n (fun m hm => (opnF_cons (o := 0) (o2 := 1) rfl (by kernel_rfl) rfl (opn_int Try.underlying3 m) (opnF_one (o := 1) rfl (by kernel_rfl) (open44 m)))) cs x h hf
  obtain ⟨h0, h1⟩ := hB
  exact ⟨a, hK, .mk a h0 h1⟩
end Go.Proofs.Ytpfooiepmnaoaaa.X
