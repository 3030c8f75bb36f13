/- The law FnExactItemsOf answers true at every input that its row reads, and leaves its arguments as they were; no condition beyond the row's own. (Made by xrow.py out of the pure statement and the printed contract.) -/
import Derived.Test.YtpfooiepmnaoaaaRows
import Derived.Test.YtpfooiepmnaoaaaEnt
import Derived.Test.YtpfooiepmnaoaaaPu7
import Derived.Test.YtpfooiepmnaoaaaPureFnExactItemsOf
import Derived.WalkKit
import Derived.ProofKit
import Derived.OpenShut
import Derived.ShutString
import Derived.ChangeOld
import Derived.Below
import Derived.SizedLaws
import Derived.Carry
namespace Go.Proofs.Ytpfooiepmnaoaaa.fnExactItemsOf
open Go.ChangeShapes Go.WideShapes Go.ChangeAt Go.RowKit Go.Proofs.Ytpfooiepmnaoaaa.Open Go.Proofs.Ytpfooiepmnaoaaa.X Go.Proofs.YtpfooiepmnaoaaaW.PrintWords
open Go.ChangeMaps (open_string shut_string)
set_option linter.unusedVariables false
theorem own : ownKnob Try.prog.godebug = none := by kernel_rfl
theorem laidOut : laidOutB Try.prog = true := Ent.laidOut
set_option maxHeartbeats 1000000 in
set_option maxRecDepth 100000 in
theorem lifted (os : Os) (started : os.Started) (H : Type) (enc : TypeId × Value → H) :
    ReturnsInHanded {} Try.checked os 7 .any (Rows.fnExactItemsOfSpec.pre6 enc Try.prog Try.f7 Rows.fnExactItemsOfRow.domain false) (Rows.fnExactItemsOfSpec.post enc Try.prog Try.f7 false true false false) := by
  refine returnsInHanded_of_change_sized (C := Try.checked) own started (by kernel_rfl) Try.func7
    (ChangeSpec.witness6 (enc := enc) (C := Try.checked) false ⟨#[], #[.agg #[.int .i64 0, .int .i64 0, .string ByteArray.empty, .slice none 0 0]], []⟩ 8 (by kernel_rfl) (by kernel_rfl) (by kernel_rfl) (by kernel_rfl)) ?_
  intro W base args ds gs before hval0 hW hcnd hsz0 _
  have hsz : (DataW.weightsEach Try.prog (Try.f7.params.toList ++ Rows.fnExactItemsOfSpec.plain.varTypes Try.prog) (ds ++ gs)).all (· ≤ reachBytes) = true := hsz0
  have hval : ∀ (j : Nat) t v, Try.f7.params[j]? = some t → args[j]? = some v → Value.okWide Try.prog W .any base t v := hval0
  have hW' := hW
  obtain ⟨p, q, hA0, hV, rfl, hfz, hnd⟩ := hW
  have hA : DataW.TrodAll enc Try.prog W 0 (fun _ => true) true Try.f7.params.toList args.toList ds p := hA0
  rw [Try.params7] at hA hval hsz
  obtain ⟨v0, vs0, d0, ds0, p0, q0, hargs, rfl, rfl, h0, r0⟩ := trodAll_cons hA
  obtain ⟨rfl, rfl, rfl⟩ := trodAll_nil r0
  obtain rfl : args = #[v0] := by cases args; simp_all
  obtain ⟨rfl, rfl⟩ := trodVars_none hV
  have k0 := h0
  have lt0 : ∀ x ∈ p0, x.block < W.heap.size := by obtain ⟨m, hm⟩ := k0; exact DataW.trod_lt m _ _ _ hm
  obtain ⟨cs0, rfl, hcs0⟩ := okWide_struct Try.underlying44 (hval 0 44 v0 rfl rfl)
  obtain ⟨f0, hf0⟩ := h0
  have w0 : Fit Try.prog 44 d0 := fun q hq => by have := List.all_eq_true.1 hsz _ (DataW.weights_mem_each (j := 0) rfl rfl q hq); simpa using this
  obtain ⟨x0, hK0, hB0⟩ := (open44 f0) _ _ hf0 w0
  obtain ⟨A0_3, c0_3, ehv0, l0, g0⟩ := k44_open hK0
  have hag0 : Value.agg cs0 = .agg #[.int .i64 x0.f0, .int .i64 x0.f1, .string x0.f2, .slice A0_3 (x0.f3).length c0_3] := by congr 1; exact Array.ext' (by simpa [Value.cells] using ehv0)
  obtain ⟨kr, hr⟩ := (Pure.FnExactItemsOf : X.laws_FnExactItemsOf.Pure) x0 hB0
  clear hA0 hval0 hsz0 hsz
  rw [hag0]
  refine (X.laws_FnExactItemsOf.calls kr x0.f0 x0.f1 x0.f2 A0_3 c0_3 x0.f3 W g0 l0 hr).mono fun e W' ⟨he, bel0⟩ => ?_
  have bel : Below W.heap.size W W' := bel0
  rw [← hag0]
  subst he
  exact ⟨_, rfl, _, _, _, [], _, [], hW', trodAll_mk1 (shut_bool Try.underlying4 _), (trodAll_cons_mk (Below.trod laidOut (by kernel_rfl) (of_decide_eq_true (by kernel_rfl)) k0 bel lt0) trodAll_mk0), rfl, bel.frame _, fun h => by cases h⟩
theorem over : Rows.fnExactItemsOfRow.holds Try.pinned (OpenSpec.ofChange Rows.fnExactItemsOfSpec) :=
  OpenClaim.holds_of_wide 7 Try.f7 rfl rfl rfl rfl rfl rfl rfl ⟨rfl, rfl, rfl, rfl, rfl⟩ rfl rfl rfl rfl rfl (by kernel_rfl) Try.func7 (Ent.closed_of Ent.laidOut Ent.rowed Ent.stops Ent.stopKnobs Ent.plainKeys Ent.stopsHeard Ent.enters Ent.finals Ent.made (by kernel_rfl) (by kernel_rfl) (by kernel_rfl) (by kernel_rfl) (by kernel_rfl) (by kernel_rfl) (by kernel_rfl) (by kernel_rfl) (by kernel_rfl) (by kernel_rfl) (by kernel_rfl) (by kernel_rfl) (by kernel_rfl) (by kernel_rfl) (by kernel_rfl) (by kernel_rfl) (by kernel_rfl) (by kernel_rfl) (by kernel_rfl) (by kernel_rfl) (by kernel_rfl) (by kernel_rfl) (by kernel_rfl) (by kernel_rfl) (by kernel_rfl) (by kernel_rfl))
    (of_decide_eq_true (by kernel_rfl)) (by unfold Func.isWrapper; first | (rw [if_pos (by decide +kernel)]; kernel_rfl) | (rw [if_neg (by decide +kernel)]; exact ⟨rfl, rfl⟩))
    (fun os started H enc _ => lifted os started H enc)
theorem proved : Rows.FnExactItemsOfSaid := over
end Go.Proofs.Ytpfooiepmnaoaaa.fnExactItemsOf
namespace Go.Proofs.Ytpfooiepmnaoaaa
theorem fnExactItemsOf_holds : Rows.FnExactItemsOfSaid := fnExactItemsOf.proved
#print axioms fnExactItemsOf_holds
end Go.Proofs.Ytpfooiepmnaoaaa
