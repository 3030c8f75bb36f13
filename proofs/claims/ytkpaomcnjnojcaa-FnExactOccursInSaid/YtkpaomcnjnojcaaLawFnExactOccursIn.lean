/- The law FnExactOccursIn answers true at every input that its row reads, and leaves its arguments as they were; no condition beyond the row's own. (Made by xrow.py out of the pure statement and the printed contract.) -/
import Derived.Test.YtkpaomcnjnojcaaRows
import Derived.Test.YtkpaomcnjnojcaaEnt
import Derived.Test.YtkpaomcnjnojcaaPu3
import Derived.Test.YtkpaomcnjnojcaaPureFnExactOccursIn
import Derived.WalkKit
import Derived.ProofKit
import Derived.OpenShut
import Derived.ShutString
import Derived.ChangeOld
import Derived.Below
import Derived.SizedLaws
import Derived.Carry
namespace Go.Proofs.Ytkpaomcnjnojcaa.fnExactOccursIn
open Go.ChangeShapes Go.WideShapes Go.ChangeAt Go.RowKit Go.Proofs.Ytkpaomcnjnojcaa.Open Go.Proofs.Ytkpaomcnjnojcaa.X Go.Proofs.YtkpaomcnjnojcaaW.PrintWords
open Go.ChangeMaps (open_string shut_string)
set_option linter.unusedVariables false
theorem own : ownKnob Try.prog.godebug = none := by kernel_rfl
theorem laidOut : laidOutB Try.prog = true := Ent.laidOut
set_option maxHeartbeats 1000000 in
set_option maxRecDepth 100000 in
theorem lifted (os : Os) (started : os.Started) (H : Type) (enc : TypeId × Value → H) :
    ReturnsInHanded {} Try.checked os 3 .any (Rows.fnExactOccursInSpec.pre6 enc Try.prog Try.f3 Rows.fnExactOccursInRow.domain false) (Rows.fnExactOccursInSpec.post enc Try.prog Try.f3 false true false false) := by
  refine returnsInHanded_of_change_sized (C := Try.checked) own started (by kernel_rfl) Try.func3
    (ChangeSpec.witness6 (enc := enc) (C := Try.checked) false ⟨#[], #[.int .i64 0, .agg #[.int .i64 0, .int .i64 0, .string ByteArray.empty, .slice none 0 0]], []⟩ 8 (by kernel_rfl) (by kernel_rfl) (by kernel_rfl) (by kernel_rfl)) ?_
  intro W base args ds gs before hval0 hW hcnd hsz0 _
  have hsz : (DataW.weightsEach Try.prog (Try.f3.params.toList ++ Rows.fnExactOccursInSpec.plain.varTypes Try.prog) (ds ++ gs)).all (· ≤ reachBytes) = true := hsz0
  have hval : ∀ (j : Nat) t v, Try.f3.params[j]? = some t → args[j]? = some v → Value.okWide Try.prog W .any base t v := hval0
  have hW' := hW
  obtain ⟨p, q, hA0, hV, rfl, hfz, hnd⟩ := hW
  have hA : DataW.TrodAll enc Try.prog W 0 (fun _ => true) true Try.f3.params.toList args.toList ds p := hA0
  rw [Try.params3] at hA hval hsz
  obtain ⟨v0, vs0, d0, ds0, p0, q0, hargs, rfl, rfl, h0, r0⟩ := trodAll_cons hA
  obtain ⟨v1, vs1, d1, ds1, p1, q1, rfl, rfl, rfl, h1, r1⟩ := trodAll_cons r0
  obtain ⟨rfl, rfl, rfl⟩ := trodAll_nil r1
  obtain rfl : args = #[v0, v1] := by cases args; simp_all
  obtain ⟨rfl, rfl⟩ := trodVars_none hV
  obtain ⟨x0, rfl, rfl, rfl, hB0⟩ := open_int Try.underlying3 (hval 0 3 v0 rfl rfl) h0
  have k1 := h1
  have lt1 : ∀ x ∈ p1, x.block < W.heap.size := by obtain ⟨m, hm⟩ := k1; exact DataW.trod_lt m _ _ _ hm
  obtain ⟨cs1, rfl, hcs1⟩ := okWide_struct Try.underlying24 (hval 1 24 v1 rfl rfl)
  obtain ⟨f1, hf1⟩ := h1
  have w1 : Fit Try.prog 24 d1 := fun q hq => by have := List.all_eq_true.1 hsz _ (DataW.weights_mem_each (j := 1) rfl rfl q hq); simpa using this
  obtain ⟨x1, hK1, hB1⟩ := (open24 f1) _ _ hf1 w1
  obtain ⟨A1_3, c1_3, ehv1, l1, g1⟩ := k24_open hK1
  have hag1 : Value.agg cs1 = .agg #[.int .i64 x1.f0, .int .i64 x1.f1, .string x1.f2, .slice A1_3 (x1.f3).length c1_3] := by congr 1; exact Array.ext' (by simpa [Value.cells] using ehv1)
  obtain ⟨kr, hr⟩ := (Pure.FnExactOccursIn : X.laws_FnExactOccursIn.Pure) x0 x1 hB0 hB1
  clear hA0 hval0 hsz0 hsz
  rw [hag1]
  refine (X.laws_FnExactOccursIn.calls kr x0 x1.f0 x1.f1 x1.f2 A1_3 c1_3 x1.f3 W g1 l1 hr).mono fun e W' ⟨he, bel0⟩ => ?_
  have bel : Below W.heap.size W W' := bel0
  rw [← hag1]
  subst he
  exact ⟨_, rfl, _, _, _, [], _, [], hW', trodAll_mk1 (shut_bool Try.underlying4 _), (trodAll_cons_mk (shut_int Try.underlying3 hB0) (trodAll_cons_mk (Below.trod laidOut (by kernel_rfl) (of_decide_eq_true (by kernel_rfl)) k1 bel lt1) trodAll_mk0)), rfl, bel.frame _, fun h => by cases h⟩
theorem over : Rows.fnExactOccursInRow.holds Try.pinned (OpenSpec.ofChange Rows.fnExactOccursInSpec) :=
  OpenClaim.holds_of_wide 3 Try.f3 rfl rfl rfl rfl rfl rfl rfl ⟨rfl, rfl, rfl, rfl, rfl⟩ rfl rfl rfl rfl rfl (by kernel_rfl) Try.func3 (Ent.closed_of Ent.laidOut Ent.rowed Ent.stops Ent.stopKnobs Ent.plainKeys Ent.stopsHeard Ent.enters Ent.finals Ent.made (by kernel_rfl) (by kernel_rfl) (by kernel_rfl) (by kernel_rfl) (by kernel_rfl) (by kernel_rfl) (by kernel_rfl) (by kernel_rfl) (by kernel_rfl) (by kernel_rfl) (by kernel_rfl) (by kernel_rfl) (by kernel_rfl) (by kernel_rfl) (by kernel_rfl) (by kernel_rfl) (by kernel_rfl) (by kernel_rfl) (by kernel_rfl) (by kernel_rfl) (by kernel_rfl) (by kernel_rfl) (by kernel_rfl) (by kernel_rfl) (by kernel_rfl) (by kernel_rfl))
    (of_decide_eq_true (by kernel_rfl)) (by unfold Func.isWrapper; first | (rw [if_pos (by decide +kernel)]; kernel_rfl) | (rw [if_neg (by decide +kernel)]; exact ⟨rfl, rfl⟩))
    (fun os started H enc _ => lifted os started H enc)
theorem proved : Rows.FnExactOccursInSaid := over
end Go.Proofs.Ytkpaomcnjnojcaa.fnExactOccursIn
namespace Go.Proofs.Ytkpaomcnjnojcaa
theorem fnExactOccursIn_holds : Rows.FnExactOccursInSaid := fnExactOccursIn.proved
#print axioms fnExactOccursIn_holds
end Go.Proofs.Ytkpaomcnjnojcaa
