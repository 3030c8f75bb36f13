/- The law FnExactListTerm answers true at every input that its row reads, and leaves its arguments as they were; no condition beyond the row's own. (Made by xrow.py out of the pure statement and the printed contract.) -/
import Derived.Test.YtpfooiepmnaoaaaRows
import Derived.Test.YtpfooiepmnaoaaaEnt
import Derived.Test.YtpfooiepmnaoaaaPu8
import Derived.Test.YtpfooiepmnaoaaaPureFnExactListTerm
import Derived.WalkKit
import Derived.ProofKit
import Derived.OpenShut
import Derived.ShutString
import Derived.ChangeOld
import Derived.Below
import Derived.SizedLaws
import Derived.Carry
namespace Go.Proofs.Ytpfooiepmnaoaaa.fnExactListTerm
open Go.ChangeShapes Go.WideShapes Go.ChangeAt Go.RowKit Go.Proofs.Ytpfooiepmnaoaaa.Open Go.Proofs.Ytpfooiepmnaoaaa.X Go.Proofs.YtpfooiepmnaoaaaW.PrintWords
open Go.ChangeMaps (open_string shut_string)
set_option linter.unusedVariables false
theorem own : ownKnob Try.prog.godebug = none := by kernel_rfl
theorem laidOut : laidOutB Try.prog = true := Ent.laidOut
set_option maxHeartbeats 1000000 in
set_option maxRecDepth 100000 in
theorem lifted (os : Os) (started : os.Started) (H : Type) (enc : TypeId × Value → H) :
    ReturnsInHanded {} Try.checked os 8 .any (Rows.fnExactListTermSpec.pre6 enc Try.prog Try.f8 Rows.fnExactListTermRow.domain false) (Rows.fnExactListTermSpec.post enc Try.prog Try.f8 false true false false) := by
  refine returnsInHanded_of_change_sized (C := Try.checked) own started (by kernel_rfl) Try.func8
    (ChangeSpec.witness6 (enc := enc) (C := Try.checked) false ⟨#[], #[.slice none 0 0, .agg #[.int .i64 0, .int .i64 0, .string ByteArray.empty, .slice none 0 0]], []⟩ 8 (by kernel_rfl) (by kernel_rfl) (by kernel_rfl) (by kernel_rfl)) ?_
  intro W base args ds gs before hval0 hW hcnd hsz0 _
  have hsz : (DataW.weightsEach Try.prog (Try.f8.params.toList ++ Rows.fnExactListTermSpec.plain.varTypes Try.prog) (ds ++ gs)).all (· ≤ reachBytes) = true := hsz0
  have hval : ∀ (j : Nat) t v, Try.f8.params[j]? = some t → args[j]? = some v → Value.okWide Try.prog W .any base t v := hval0
  have hW' := hW
  obtain ⟨p, q, hA0, hV, rfl, hfz, hnd⟩ := hW
  have hA : DataW.TrodAll enc Try.prog W 0 (fun _ => true) true Try.f8.params.toList args.toList ds p := hA0
  rw [Try.params8] at hA hval hsz
  obtain ⟨v0, vs0, d0, ds0, p0, q0, hargs, rfl, rfl, h0, r0⟩ := trodAll_cons hA
  obtain ⟨v1, vs1, d1, ds1, p1, q1, rfl, rfl, rfl, h1, r1⟩ := trodAll_cons r0
  obtain ⟨rfl, rfl, rfl⟩ := trodAll_nil r1
  obtain rfl : args = #[v0, v1] := by cases args; simp_all
  obtain ⟨rfl, rfl⟩ := trodVars_none hV
  have k0 := h0
  have lt0 : ∀ x ∈ p0, x.block < W.heap.size := by obtain ⟨m, hm⟩ := k0; exact DataW.trod_lt m _ _ _ hm
  obtain ⟨A0, n0, c0, rfl⟩ := okWide_slice Try.underlying22 (hval 0 22 v0 rfl rfl)
  obtain ⟨f0, hf0⟩ := h0
  have w0 : Fit Try.prog 22 d0 := fun q hq => by have := List.all_eq_true.1 hsz _ (DataW.weights_mem_each (j := 0) rfl rfl q hq); simpa using this
  obtain ⟨x0, hK0, hB0⟩ := (opn_slice 44 Try.underlying22 (by kernel_rfl) (bytes := 56) (by kernel_rfl) f0 (fun m_ hm_ => (open44 m_))) _ _ hf0 w0
  obtain ⟨A0', c0', hv0, l0, g0⟩ := hK0
  obtain ⟨rfl, rfl, rfl⟩ : A0 = A0' ∧ n0 = x0.length ∧ c0 = c0' := by simpa [Value.cells] using hv0
  have k1 := h1
  have lt1 : ∀ x ∈ p1, x.block < W.heap.size := by obtain ⟨m, hm⟩ := k1; exact DataW.trod_lt m _ _ _ hm
  obtain ⟨cs1, rfl, hcs1⟩ := okWide_struct Try.underlying44 (hval 1 44 v1 rfl rfl)
  obtain ⟨f1, hf1⟩ := h1
  have w1 : Fit Try.prog 44 d1 := fun q hq => by have := List.all_eq_true.1 hsz _ (DataW.weights_mem_each (j := 1) rfl rfl q hq); simpa using this
  obtain ⟨x1, hK1, hB1⟩ := (open44 f1) _ _ hf1 w1
  obtain ⟨A1_3, c1_3, ehv1, l1, g1⟩ := k44_open hK1
  have hag1 : Value.agg cs1 = .agg #[.int .i64 x1.f0, .int .i64 x1.f1, .string x1.f2, .slice A1_3 (x1.f3).length c1_3] := by congr 1; exact Array.ext' (by simpa [Value.cells] using ehv1)
  obtain ⟨kr, hr⟩ := (Pure.FnExactListTerm : X.laws_FnExactListTerm.Pure) x0 x1 hB0 hB1
  clear hA0 hval0 hsz0 hsz
  rw [hag1]
  refine (X.laws_FnExactListTerm.calls kr _ _ x0 x1.f0 x1.f1 x1.f2 A1_3 c1_3 x1.f3 W g0 l0 g1 l1 hr).mono fun e W' ⟨he, bel0⟩ => ?_
  have bel : Below W.heap.size W W' := bel0
  rw [← hag1]
  subst he
  exact ⟨_, rfl, _, _, _, [], _, [], hW', trodAll_mk1 (shut_bool Try.underlying4 _), (trodAll_cons_mk (Below.trod laidOut (by kernel_rfl) (of_decide_eq_true (by kernel_rfl)) k0 bel lt0) (trodAll_cons_mk (Below.trod laidOut (by kernel_rfl) (of_decide_eq_true (by kernel_rfl)) k1 bel lt1) trodAll_mk0)), rfl, bel.frame _, fun h => by cases h⟩
theorem over : Rows.fnExactListTermRow.holds Try.pinned (OpenSpec.ofChange Rows.fnExactListTermSpec) :=
  OpenClaim.holds_of_wide 8 Try.f8 rfl rfl rfl rfl rfl rfl rfl ⟨rfl, rfl, rfl, rfl, rfl⟩ rfl rfl rfl rfl rfl (by kernel_rfl) Try.func8 (Ent.closed_of Ent.laidOut Ent.rowed Ent.stops Ent.stopKnobs Ent.plainKeys Ent.stopsHeard Ent.enters Ent.finals Ent.made (by kernel_rfl) (by kernel_rfl) (by kernel_rfl) (by kernel_rfl) (by kernel_rfl) (by kernel_rfl) (by kernel_rfl) (by kernel_rfl) (by kernel_rfl) (by kernel_rfl) (by kernel_rfl) (by kernel_rfl) (by kernel_rfl) (by kernel_rfl) (by kernel_rfl) (by kernel_rfl) (by kernel_rfl) (by kernel_rfl) (by kernel_rfl) (by kernel_rfl) (by kernel_rfl) (by kernel_rfl) (by kernel_rfl) (by kernel_rfl) (by kernel_rfl) (by kernel_rfl))
    (of_decide_eq_true (by kernel_rfl)) (by unfold Func.isWrapper; first | (rw [if_pos (by decide +kernel)]; kernel_rfl) | (rw [if_neg (by decide +kernel)]; exact ⟨rfl, rfl⟩))
    (fun os started H enc _ => lifted os started H enc)
theorem proved : Rows.FnExactListTermSaid := over
end Go.Proofs.Ytpfooiepmnaoaaa.fnExactListTerm
namespace Go.Proofs.Ytpfooiepmnaoaaa
theorem fnExactListTerm_holds : Rows.FnExactListTermSaid := fnExactListTerm.proved
#print axioms fnExactListTerm_holds
end Go.Proofs.Ytpfooiepmnaoaaa
