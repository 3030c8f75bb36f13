/-
  NARROWER THAN 'FOR EVERY INPUT', by the rows' own cells (each row's printed sentence says how): FnExactOccursIn: loops · FnExactIsGround: loops · FnExactCompareTerms: loops · FnExactValuesOk: loops · FnExactVarBound: loops · FnExactItemsOf: loops · FnExactUniverseOk: loops · FnExactListTerm: loops · FnExactOrderedVars: loops · FnExactReplaceVar: loops · FnExactShiftTerm: loops · FnExactSubstOk: loops · FnExactGoalOk: loops · FnExactGoalSize: loops · FnExactCanonical: loops · FnExactGeneralize: loops · FnExactCompareDisequalities: loops · FnExactLookup: loops · FnExactNewBindings: loops · FnExactRestrictSubst: loops · FnExactSubtermsOf: loops · FnExactTermVars: loops · FnExactGroundTerms: loops · FnExactMatchTerm: loops.
  DERIVED. THE GIVEN ROWS OF THIS SEAT. 27 by the template 'for every input the law returns true; each argument reads behind the call as it read before'; 0 by the template 'total and deterministic' (their statements: YtkpaomcnjnojcaaTotals.lean).
  GIVEN WITH THE SEED: the statements are not yours to turn. If you find one false, say at which input.
  Laid BY PROGRAM, IN A SANDBOX (cutbox-rows.mjs): the forced cells as the released guide's own fill.sh prints them over the translation 574044b443576b94… (all of the seat's roots in one cut). By AI agents, Wed Nov 11 2026. No macro, syntax, notation, axiom, sorry.
-/
import Derived.Test.YtkpaomcnjnojcaaChecked
import GoSem.Claim
import GoSem.ClaimJoined
import GoSem.ClaimMapViews
import Derived.JoinedTies
import Derived.KernelRfl
namespace Go.Proofs.Ytkpaomcnjnojcaa
/- THE CELL 'sum', in the pinned program and in every row, IS THE sha256 OF THE DUMP (.gsa) THAT YtkpaomcnjnojcaaProg.lean LOADS. Nothing in Lean hashes anything: it is a label: what it is worth is what the hold of that sum in a sandbox is worth. -/
noncomputable def Try.pinned : Pinned := { name := "ytkpaomcnjnojcaa", sum := "574044b443576b94a678addb6c1600230874159499e39d3d7cbd10683807732e", checked := Try.checked }
namespace Rows
def none {H : Type} : Left H := { results := [], args := [] }

/-- 'laws.FnExactOccursIn': WHATEVER THE INPUT: true; the input reads as it did. -/
def fnExactOccursInSpec : ChangeSpec := { name := "fnExactOccursIn", fn := fun _ => fun
  | [d1, d2] => { results := [.lit (.bool true)], args := [d1, d2] }
  | _ => none }
def fnExactOccursInRow : OpenClaim := { program := "ytkpaomcnjnojcaa", sum := "574044b443576b94a678addb6c1600230874159499e39d3d7cbd10683807732e", func := "loop.example/g03210/laws.FnExactOccursIn", spec := "fnExactOccursIn", recurses := true, loops := true, apart := false }
def FnExactOccursInSaid : Prop := fnExactOccursInRow.holds Try.pinned (OpenSpec.ofChange fnExactOccursInSpec)

/-- ITS FALSE NEIGHBOUR: 'it returns false'. Refute it at one input. -/
def fnExactOccursInWrong : ChangeSpec := { name := "fnExactOccursIn", fn := fun _ => fun
  | [d1, d2] => { results := [.lit (.bool false)], args := [d1, d2] }
  | _ => none }
def FnExactOccursInWrongFalsely : Prop := fnExactOccursInRow.holds Try.pinned (OpenSpec.ofChange fnExactOccursInWrong)

/-- 'laws.FnExactIsGround': WHATEVER THE INPUT: true; the input reads as it did. -/
def fnExactIsGroundSpec : ChangeSpec := { name := "fnExactIsGround", fn := fun _ => fun
  | [d] => { results := [.lit (.bool true)], args := [d] }
  | _ => none }
def fnExactIsGroundRow : OpenClaim := { program := "ytkpaomcnjnojcaa", sum := "574044b443576b94a678addb6c1600230874159499e39d3d7cbd10683807732e", func := "loop.example/g03210/laws.FnExactIsGround", spec := "fnExactIsGround", unfollowed := true, recurses := true, loops := true, apart := false }
def FnExactIsGroundSaid : Prop := fnExactIsGroundRow.holds Try.pinned (OpenSpec.ofChange fnExactIsGroundSpec)

/-- ITS FALSE NEIGHBOUR: 'it returns false'. Refute it at one input. -/
def fnExactIsGroundWrong : ChangeSpec := { name := "fnExactIsGround", fn := fun _ => fun
  | [d] => { results := [.lit (.bool false)], args := [d] }
  | _ => none }
def FnExactIsGroundWrongFalsely : Prop := fnExactIsGroundRow.holds Try.pinned (OpenSpec.ofChange fnExactIsGroundWrong)

/-- 'laws.FnExactCompareTerms': WHATEVER THE INPUT: true; the input reads as it did. -/
def fnExactCompareTermsSpec : ChangeSpec := { name := "fnExactCompareTerms", fn := fun _ => fun
  | [d1, d2] => { results := [.lit (.bool true)], args := [d1, d2] }
  | _ => none }
def fnExactCompareTermsRow : OpenClaim := { program := "ytkpaomcnjnojcaa", sum := "574044b443576b94a678addb6c1600230874159499e39d3d7cbd10683807732e", func := "loop.example/g03210/laws.FnExactCompareTerms", spec := "fnExactCompareTerms", recurses := true, loops := true, apart := false }
def FnExactCompareTermsSaid : Prop := fnExactCompareTermsRow.holds Try.pinned (OpenSpec.ofChange fnExactCompareTermsSpec)

/-- ITS FALSE NEIGHBOUR: 'it returns false'. Refute it at one input. -/
def fnExactCompareTermsWrong : ChangeSpec := { name := "fnExactCompareTerms", fn := fun _ => fun
  | [d1, d2] => { results := [.lit (.bool false)], args := [d1, d2] }
  | _ => none }
def FnExactCompareTermsWrongFalsely : Prop := fnExactCompareTermsRow.holds Try.pinned (OpenSpec.ofChange fnExactCompareTermsWrong)

/-- 'laws.FnTerms': WHATEVER THE INPUT: true; the input reads as it did. -/
def fnTermsSpec : ChangeSpec := { name := "fnTerms", fn := fun _ => fun
  | [d] => { results := [.lit (.bool true)], args := [d] }
  | _ => none }
def fnTermsRow : OpenClaim := { program := "ytkpaomcnjnojcaa", sum := "574044b443576b94a678addb6c1600230874159499e39d3d7cbd10683807732e", func := "loop.example/g03210/laws.FnTerms", spec := "fnTerms", unfollowed := true, recurses := true, apart := false }
def FnTermsSaid : Prop := fnTermsRow.holds Try.pinned (OpenSpec.ofChange fnTermsSpec)

/-- ITS FALSE NEIGHBOUR: 'it returns false'. Refute it at one input. -/
def fnTermsWrong : ChangeSpec := { name := "fnTerms", fn := fun _ => fun
  | [d] => { results := [.lit (.bool false)], args := [d] }
  | _ => none }
def FnTermsWrongFalsely : Prop := fnTermsRow.holds Try.pinned (OpenSpec.ofChange fnTermsWrong)

/-- 'laws.FnExactValuesOk': WHATEVER THE INPUT: true; the input reads as it did. -/
def fnExactValuesOkSpec : ChangeSpec := { name := "fnExactValuesOk", fn := fun _ => fun
  | [d] => { results := [.lit (.bool true)], args := [d] }
  | _ => none }
def fnExactValuesOkRow : OpenClaim := { program := "ytkpaomcnjnojcaa", sum := "574044b443576b94a678addb6c1600230874159499e39d3d7cbd10683807732e", func := "loop.example/g03210/laws.FnExactValuesOk", spec := "fnExactValuesOk", recurses := true, loops := true, apart := false }
def FnExactValuesOkSaid : Prop := fnExactValuesOkRow.holds Try.pinned (OpenSpec.ofChange fnExactValuesOkSpec)

/-- ITS FALSE NEIGHBOUR: 'it returns false'. Refute it at one input. -/
def fnExactValuesOkWrong : ChangeSpec := { name := "fnExactValuesOk", fn := fun _ => fun
  | [d] => { results := [.lit (.bool false)], args := [d] }
  | _ => none }
def FnExactValuesOkWrongFalsely : Prop := fnExactValuesOkRow.holds Try.pinned (OpenSpec.ofChange fnExactValuesOkWrong)

/-- 'laws.FnExactVarBound': WHATEVER THE INPUT: true; the input reads as it did. -/
def fnExactVarBoundSpec : ChangeSpec := { name := "fnExactVarBound", fn := fun _ => fun
  | [d] => { results := [.lit (.bool true)], args := [d] }
  | _ => none }
def fnExactVarBoundRow : OpenClaim := { program := "ytkpaomcnjnojcaa", sum := "574044b443576b94a678addb6c1600230874159499e39d3d7cbd10683807732e", func := "loop.example/g03210/laws.FnExactVarBound", spec := "fnExactVarBound", unfollowed := true, recurses := true, loops := true, apart := false }
def FnExactVarBoundSaid : Prop := fnExactVarBoundRow.holds Try.pinned (OpenSpec.ofChange fnExactVarBoundSpec)

/-- ITS FALSE NEIGHBOUR: 'it returns false'. Refute it at one input. -/
def fnExactVarBoundWrong : ChangeSpec := { name := "fnExactVarBound", fn := fun _ => fun
  | [d] => { results := [.lit (.bool false)], args := [d] }
  | _ => none }
def FnExactVarBoundWrongFalsely : Prop := fnExactVarBoundRow.holds Try.pinned (OpenSpec.ofChange fnExactVarBoundWrong)

/-- 'laws.FnExactItemsOf': WHATEVER THE INPUT: true; the input reads as it did. -/
def fnExactItemsOfSpec : ChangeSpec := { name := "fnExactItemsOf", fn := fun _ => fun
  | [d] => { results := [.lit (.bool true)], args := [d] }
  | _ => none }
def fnExactItemsOfRow : OpenClaim := { program := "ytkpaomcnjnojcaa", sum := "574044b443576b94a678addb6c1600230874159499e39d3d7cbd10683807732e", func := "loop.example/g03210/laws.FnExactItemsOf", spec := "fnExactItemsOf", recurses := true, loops := true, apart := false }
def FnExactItemsOfSaid : Prop := fnExactItemsOfRow.holds Try.pinned (OpenSpec.ofChange fnExactItemsOfSpec)

/-- ITS FALSE NEIGHBOUR: 'it returns false'. Refute it at one input. -/
def fnExactItemsOfWrong : ChangeSpec := { name := "fnExactItemsOf", fn := fun _ => fun
  | [d] => { results := [.lit (.bool false)], args := [d] }
  | _ => none }
def FnExactItemsOfWrongFalsely : Prop := fnExactItemsOfRow.holds Try.pinned (OpenSpec.ofChange fnExactItemsOfWrong)

/-- 'laws.FnExactUniverseOk': WHATEVER THE INPUT: true; the input reads as it did. -/
def fnExactUniverseOkSpec : ChangeSpec := { name := "fnExactUniverseOk", fn := fun _ => fun
  | [d] => { results := [.lit (.bool true)], args := [d] }
  | _ => none }
def fnExactUniverseOkRow : OpenClaim := { program := "ytkpaomcnjnojcaa", sum := "574044b443576b94a678addb6c1600230874159499e39d3d7cbd10683807732e", func := "loop.example/g03210/laws.FnExactUniverseOk", spec := "fnExactUniverseOk", unfollowed := true, recurses := true, loops := true, apart := false }
def FnExactUniverseOkSaid : Prop := fnExactUniverseOkRow.holds Try.pinned (OpenSpec.ofChange fnExactUniverseOkSpec)

/-- ITS FALSE NEIGHBOUR: 'it returns false'. Refute it at one input. -/
def fnExactUniverseOkWrong : ChangeSpec := { name := "fnExactUniverseOk", fn := fun _ => fun
  | [d] => { results := [.lit (.bool false)], args := [d] }
  | _ => none }
def FnExactUniverseOkWrongFalsely : Prop := fnExactUniverseOkRow.holds Try.pinned (OpenSpec.ofChange fnExactUniverseOkWrong)

/-- 'laws.FnExactListTerm': WHATEVER THE INPUT: true; the input reads as it did. -/
def fnExactListTermSpec : ChangeSpec := { name := "fnExactListTerm", fn := fun _ => fun
  | [d1, d2] => { results := [.lit (.bool true)], args := [d1, d2] }
  | _ => none }
def fnExactListTermRow : OpenClaim := { program := "ytkpaomcnjnojcaa", sum := "574044b443576b94a678addb6c1600230874159499e39d3d7cbd10683807732e", func := "loop.example/g03210/laws.FnExactListTerm", spec := "fnExactListTerm", recurses := true, loops := true, apart := false }
def FnExactListTermSaid : Prop := fnExactListTermRow.holds Try.pinned (OpenSpec.ofChange fnExactListTermSpec)

/-- ITS FALSE NEIGHBOUR: 'it returns false'. Refute it at one input. -/
def fnExactListTermWrong : ChangeSpec := { name := "fnExactListTerm", fn := fun _ => fun
  | [d1, d2] => { results := [.lit (.bool false)], args := [d1, d2] }
  | _ => none }
def FnExactListTermWrongFalsely : Prop := fnExactListTermRow.holds Try.pinned (OpenSpec.ofChange fnExactListTermWrong)

/-- 'laws.FnExactOrderedVars': WHATEVER THE INPUT: true; the input reads as it did. -/
def fnExactOrderedVarsSpec : ChangeSpec := { name := "fnExactOrderedVars", fn := fun _ => fun
  | [d] => { results := [.lit (.bool true)], args := [d] }
  | _ => none }
def fnExactOrderedVarsRow : OpenClaim := { program := "ytkpaomcnjnojcaa", sum := "574044b443576b94a678addb6c1600230874159499e39d3d7cbd10683807732e", func := "loop.example/g03210/laws.FnExactOrderedVars", spec := "fnExactOrderedVars", unfollowed := true, recurses := true, loops := true, apart := false }
def FnExactOrderedVarsSaid : Prop := fnExactOrderedVarsRow.holds Try.pinned (OpenSpec.ofChange fnExactOrderedVarsSpec)

/-- ITS FALSE NEIGHBOUR: 'it returns false'. Refute it at one input. -/
def fnExactOrderedVarsWrong : ChangeSpec := { name := "fnExactOrderedVars", fn := fun _ => fun
  | [d] => { results := [.lit (.bool false)], args := [d] }
  | _ => none }
def FnExactOrderedVarsWrongFalsely : Prop := fnExactOrderedVarsRow.holds Try.pinned (OpenSpec.ofChange fnExactOrderedVarsWrong)

/-- 'laws.FnExactReplaceVar': WHATEVER THE INPUT: true; the input reads as it did. -/
def fnExactReplaceVarSpec : ChangeSpec := { name := "fnExactReplaceVar", fn := fun _ => fun
  | [d1, d2, d3] => { results := [.lit (.bool true)], args := [d1, d2, d3] }
  | _ => none }
def fnExactReplaceVarRow : OpenClaim := { program := "ytkpaomcnjnojcaa", sum := "574044b443576b94a678addb6c1600230874159499e39d3d7cbd10683807732e", func := "loop.example/g03210/laws.FnExactReplaceVar", spec := "fnExactReplaceVar", unfollowed := true, recurses := true, loops := true, apart := false }
def FnExactReplaceVarSaid : Prop := fnExactReplaceVarRow.holds Try.pinned (OpenSpec.ofChange fnExactReplaceVarSpec)

/-- ITS FALSE NEIGHBOUR: 'it returns false'. Refute it at one input. -/
def fnExactReplaceVarWrong : ChangeSpec := { name := "fnExactReplaceVar", fn := fun _ => fun
  | [d1, d2, d3] => { results := [.lit (.bool false)], args := [d1, d2, d3] }
  | _ => none }
def FnExactReplaceVarWrongFalsely : Prop := fnExactReplaceVarRow.holds Try.pinned (OpenSpec.ofChange fnExactReplaceVarWrong)

/-- 'laws.FnExactNewState': WHATEVER THE INPUT: true; the input reads as it did. -/
def fnExactNewStateSpec : ChangeSpec := { name := "fnExactNewState", fn := fun _ => fun
  | [d] => { results := [.lit (.bool true)], args := [d] }
  | _ => none }
def fnExactNewStateRow : OpenClaim := { program := "ytkpaomcnjnojcaa", sum := "574044b443576b94a678addb6c1600230874159499e39d3d7cbd10683807732e", func := "loop.example/g03210/laws.FnExactNewState", spec := "fnExactNewState", recurses := true, apart := false }
def FnExactNewStateSaid : Prop := fnExactNewStateRow.holds Try.pinned (OpenSpec.ofChange fnExactNewStateSpec)

/-- ITS FALSE NEIGHBOUR: 'it returns false'. Refute it at one input. -/
def fnExactNewStateWrong : ChangeSpec := { name := "fnExactNewState", fn := fun _ => fun
  | [d] => { results := [.lit (.bool false)], args := [d] }
  | _ => none }
def FnExactNewStateWrongFalsely : Prop := fnExactNewStateRow.holds Try.pinned (OpenSpec.ofChange fnExactNewStateWrong)

/-- 'laws.FnExactShiftTerm': WHATEVER THE INPUT: true; the input reads as it did. -/
def fnExactShiftTermSpec : ChangeSpec := { name := "fnExactShiftTerm", fn := fun _ => fun
  | [d1, d2] => { results := [.lit (.bool true)], args := [d1, d2] }
  | _ => none }
def fnExactShiftTermRow : OpenClaim := { program := "ytkpaomcnjnojcaa", sum := "574044b443576b94a678addb6c1600230874159499e39d3d7cbd10683807732e", func := "loop.example/g03210/laws.FnExactShiftTerm", spec := "fnExactShiftTerm", unfollowed := true, recurses := true, loops := true, apart := false }
def FnExactShiftTermSaid : Prop := fnExactShiftTermRow.holds Try.pinned (OpenSpec.ofChange fnExactShiftTermSpec)

/-- ITS FALSE NEIGHBOUR: 'it returns false'. Refute it at one input. -/
def fnExactShiftTermWrong : ChangeSpec := { name := "fnExactShiftTerm", fn := fun _ => fun
  | [d1, d2] => { results := [.lit (.bool false)], args := [d1, d2] }
  | _ => none }
def FnExactShiftTermWrongFalsely : Prop := fnExactShiftTermRow.holds Try.pinned (OpenSpec.ofChange fnExactShiftTermWrong)

/-- 'laws.FnExactSubstOk': WHATEVER THE INPUT: true; the input reads as it did. -/
def fnExactSubstOkSpec : ChangeSpec := { name := "fnExactSubstOk", fn := fun _ => fun
  | [d] => { results := [.lit (.bool true)], args := [d] }
  | _ => none }
def fnExactSubstOkRow : OpenClaim := { program := "ytkpaomcnjnojcaa", sum := "574044b443576b94a678addb6c1600230874159499e39d3d7cbd10683807732e", func := "loop.example/g03210/laws.FnExactSubstOk", spec := "fnExactSubstOk", unfollowed := true, recurses := true, loops := true, apart := false }
def FnExactSubstOkSaid : Prop := fnExactSubstOkRow.holds Try.pinned (OpenSpec.ofChange fnExactSubstOkSpec)

/-- ITS FALSE NEIGHBOUR: 'it returns false'. Refute it at one input. -/
def fnExactSubstOkWrong : ChangeSpec := { name := "fnExactSubstOk", fn := fun _ => fun
  | [d] => { results := [.lit (.bool false)], args := [d] }
  | _ => none }
def FnExactSubstOkWrongFalsely : Prop := fnExactSubstOkRow.holds Try.pinned (OpenSpec.ofChange fnExactSubstOkWrong)

/-- 'laws.FnExactGoalOk': WHATEVER THE INPUT: true; the input reads as it did. -/
def fnExactGoalOkSpec : ChangeSpec := { name := "fnExactGoalOk", fn := fun _ => fun
  | [d] => { results := [.lit (.bool true)], args := [d] }
  | _ => none }
def fnExactGoalOkRow : OpenClaim := { program := "ytkpaomcnjnojcaa", sum := "574044b443576b94a678addb6c1600230874159499e39d3d7cbd10683807732e", func := "loop.example/g03210/laws.FnExactGoalOk", spec := "fnExactGoalOk", recurses := true, loops := true, apart := false }
def FnExactGoalOkSaid : Prop := fnExactGoalOkRow.holds Try.pinned (OpenSpec.ofChange fnExactGoalOkSpec)

/-- ITS FALSE NEIGHBOUR: 'it returns false'. Refute it at one input. -/
def fnExactGoalOkWrong : ChangeSpec := { name := "fnExactGoalOk", fn := fun _ => fun
  | [d] => { results := [.lit (.bool false)], args := [d] }
  | _ => none }
def FnExactGoalOkWrongFalsely : Prop := fnExactGoalOkRow.holds Try.pinned (OpenSpec.ofChange fnExactGoalOkWrong)

/-- 'laws.FnExactGoalSize': WHATEVER THE INPUT: true; the input reads as it did. -/
def fnExactGoalSizeSpec : ChangeSpec := { name := "fnExactGoalSize", fn := fun _ => fun
  | [d] => { results := [.lit (.bool true)], args := [d] }
  | _ => none }
def fnExactGoalSizeRow : OpenClaim := { program := "ytkpaomcnjnojcaa", sum := "574044b443576b94a678addb6c1600230874159499e39d3d7cbd10683807732e", func := "loop.example/g03210/laws.FnExactGoalSize", spec := "fnExactGoalSize", recurses := true, loops := true, apart := false }
def FnExactGoalSizeSaid : Prop := fnExactGoalSizeRow.holds Try.pinned (OpenSpec.ofChange fnExactGoalSizeSpec)

/-- ITS FALSE NEIGHBOUR: 'it returns false'. Refute it at one input. -/
def fnExactGoalSizeWrong : ChangeSpec := { name := "fnExactGoalSize", fn := fun _ => fun
  | [d] => { results := [.lit (.bool false)], args := [d] }
  | _ => none }
def FnExactGoalSizeWrongFalsely : Prop := fnExactGoalSizeRow.holds Try.pinned (OpenSpec.ofChange fnExactGoalSizeWrong)

/-- 'laws.FnGeneral': WHATEVER THE INPUT: true; the input reads as it did. -/
def fnGeneralSpec : ChangeSpec := { name := "fnGeneral", fn := fun _ => fun
  | [d] => { results := [.lit (.bool true)], args := [d] }
  | _ => none }
def fnGeneralRow : OpenClaim := { program := "ytkpaomcnjnojcaa", sum := "574044b443576b94a678addb6c1600230874159499e39d3d7cbd10683807732e", func := "loop.example/g03210/laws.FnGeneral", spec := "fnGeneral", unfollowed := true, recurses := true, apart := false }
def FnGeneralSaid : Prop := fnGeneralRow.holds Try.pinned (OpenSpec.ofChange fnGeneralSpec)

/-- ITS FALSE NEIGHBOUR: 'it returns false'. Refute it at one input. -/
def fnGeneralWrong : ChangeSpec := { name := "fnGeneral", fn := fun _ => fun
  | [d] => { results := [.lit (.bool false)], args := [d] }
  | _ => none }
def FnGeneralWrongFalsely : Prop := fnGeneralRow.holds Try.pinned (OpenSpec.ofChange fnGeneralWrong)

/-- 'laws.FnExactCanonical': WHATEVER THE INPUT: true; the input reads as it did. -/
def fnExactCanonicalSpec : ChangeSpec := { name := "fnExactCanonical", fn := fun _ => fun
  | [d] => { results := [.lit (.bool true)], args := [d] }
  | _ => none }
def fnExactCanonicalRow : OpenClaim := { program := "ytkpaomcnjnojcaa", sum := "574044b443576b94a678addb6c1600230874159499e39d3d7cbd10683807732e", func := "loop.example/g03210/laws.FnExactCanonical", spec := "fnExactCanonical", unfollowed := true, recurses := true, loops := true, apart := false }
def FnExactCanonicalSaid : Prop := fnExactCanonicalRow.holds Try.pinned (OpenSpec.ofChange fnExactCanonicalSpec)

/-- ITS FALSE NEIGHBOUR: 'it returns false'. Refute it at one input. -/
def fnExactCanonicalWrong : ChangeSpec := { name := "fnExactCanonical", fn := fun _ => fun
  | [d] => { results := [.lit (.bool false)], args := [d] }
  | _ => none }
def FnExactCanonicalWrongFalsely : Prop := fnExactCanonicalRow.holds Try.pinned (OpenSpec.ofChange fnExactCanonicalWrong)

/-- 'laws.FnExactGeneralize': WHATEVER THE INPUT: true; the input reads as it did. -/
def fnExactGeneralizeSpec : ChangeSpec := { name := "fnExactGeneralize", fn := fun _ => fun
  | [d] => { results := [.lit (.bool true)], args := [d] }
  | _ => none }
def fnExactGeneralizeRow : OpenClaim := { program := "ytkpaomcnjnojcaa", sum := "574044b443576b94a678addb6c1600230874159499e39d3d7cbd10683807732e", func := "loop.example/g03210/laws.FnExactGeneralize", spec := "fnExactGeneralize", recurses := true, loops := true, apart := false }
def FnExactGeneralizeSaid : Prop := fnExactGeneralizeRow.holds Try.pinned (OpenSpec.ofChange fnExactGeneralizeSpec)

/-- ITS FALSE NEIGHBOUR: 'it returns false'. Refute it at one input. -/
def fnExactGeneralizeWrong : ChangeSpec := { name := "fnExactGeneralize", fn := fun _ => fun
  | [d] => { results := [.lit (.bool false)], args := [d] }
  | _ => none }
def FnExactGeneralizeWrongFalsely : Prop := fnExactGeneralizeRow.holds Try.pinned (OpenSpec.ofChange fnExactGeneralizeWrong)

/-- 'laws.FnExactCompareDisequalities': WHATEVER THE INPUT: true; the input reads as it did. -/
def fnExactCompareDisequalitiesSpec : ChangeSpec := { name := "fnExactCompareDisequalities", fn := fun _ => fun
  | [d1, d2] => { results := [.lit (.bool true)], args := [d1, d2] }
  | _ => none }
def fnExactCompareDisequalitiesRow : OpenClaim := { program := "ytkpaomcnjnojcaa", sum := "574044b443576b94a678addb6c1600230874159499e39d3d7cbd10683807732e", func := "loop.example/g03210/laws.FnExactCompareDisequalities", spec := "fnExactCompareDisequalities", unfollowed := true, recurses := true, loops := true, apart := false }
def FnExactCompareDisequalitiesSaid : Prop := fnExactCompareDisequalitiesRow.holds Try.pinned (OpenSpec.ofChange fnExactCompareDisequalitiesSpec)

/-- ITS FALSE NEIGHBOUR: 'it returns false'. Refute it at one input. -/
def fnExactCompareDisequalitiesWrong : ChangeSpec := { name := "fnExactCompareDisequalities", fn := fun _ => fun
  | [d1, d2] => { results := [.lit (.bool false)], args := [d1, d2] }
  | _ => none }
def FnExactCompareDisequalitiesWrongFalsely : Prop := fnExactCompareDisequalitiesRow.holds Try.pinned (OpenSpec.ofChange fnExactCompareDisequalitiesWrong)

/-- 'laws.FnExactLookup': WHATEVER THE INPUT: true; the input reads as it did. -/
def fnExactLookupSpec : ChangeSpec := { name := "fnExactLookup", fn := fun _ => fun
  | [d1, d2] => { results := [.lit (.bool true)], args := [d1, d2] }
  | _ => none }
def fnExactLookupRow : OpenClaim := { program := "ytkpaomcnjnojcaa", sum := "574044b443576b94a678addb6c1600230874159499e39d3d7cbd10683807732e", func := "loop.example/g03210/laws.FnExactLookup", spec := "fnExactLookup", unfollowed := true, recurses := true, loops := true, apart := false }
def FnExactLookupSaid : Prop := fnExactLookupRow.holds Try.pinned (OpenSpec.ofChange fnExactLookupSpec)

/-- ITS FALSE NEIGHBOUR: 'it returns false'. Refute it at one input. -/
def fnExactLookupWrong : ChangeSpec := { name := "fnExactLookup", fn := fun _ => fun
  | [d1, d2] => { results := [.lit (.bool false)], args := [d1, d2] }
  | _ => none }
def FnExactLookupWrongFalsely : Prop := fnExactLookupRow.holds Try.pinned (OpenSpec.ofChange fnExactLookupWrong)

/-- 'laws.FnExactNewBindings': WHATEVER THE INPUT: true; the input reads as it did. -/
def fnExactNewBindingsSpec : ChangeSpec := { name := "fnExactNewBindings", fn := fun _ => fun
  | [d1, d2] => { results := [.lit (.bool true)], args := [d1, d2] }
  | _ => none }
def fnExactNewBindingsRow : OpenClaim := { program := "ytkpaomcnjnojcaa", sum := "574044b443576b94a678addb6c1600230874159499e39d3d7cbd10683807732e", func := "loop.example/g03210/laws.FnExactNewBindings", spec := "fnExactNewBindings", unfollowed := true, recurses := true, loops := true, apart := false }
def FnExactNewBindingsSaid : Prop := fnExactNewBindingsRow.holds Try.pinned (OpenSpec.ofChange fnExactNewBindingsSpec)

/-- ITS FALSE NEIGHBOUR: 'it returns false'. Refute it at one input. -/
def fnExactNewBindingsWrong : ChangeSpec := { name := "fnExactNewBindings", fn := fun _ => fun
  | [d1, d2] => { results := [.lit (.bool false)], args := [d1, d2] }
  | _ => none }
def FnExactNewBindingsWrongFalsely : Prop := fnExactNewBindingsRow.holds Try.pinned (OpenSpec.ofChange fnExactNewBindingsWrong)

/-- 'laws.FnExactRestrictSubst': WHATEVER THE INPUT: true; the input reads as it did. -/
def fnExactRestrictSubstSpec : ChangeSpec := { name := "fnExactRestrictSubst", fn := fun _ => fun
  | [d1, d2] => { results := [.lit (.bool true)], args := [d1, d2] }
  | _ => none }
def fnExactRestrictSubstRow : OpenClaim := { program := "ytkpaomcnjnojcaa", sum := "574044b443576b94a678addb6c1600230874159499e39d3d7cbd10683807732e", func := "loop.example/g03210/laws.FnExactRestrictSubst", spec := "fnExactRestrictSubst", unfollowed := true, recurses := true, loops := true, apart := false }
def FnExactRestrictSubstSaid : Prop := fnExactRestrictSubstRow.holds Try.pinned (OpenSpec.ofChange fnExactRestrictSubstSpec)

/-- ITS FALSE NEIGHBOUR: 'it returns false'. Refute it at one input. -/
def fnExactRestrictSubstWrong : ChangeSpec := { name := "fnExactRestrictSubst", fn := fun _ => fun
  | [d1, d2] => { results := [.lit (.bool false)], args := [d1, d2] }
  | _ => none }
def FnExactRestrictSubstWrongFalsely : Prop := fnExactRestrictSubstRow.holds Try.pinned (OpenSpec.ofChange fnExactRestrictSubstWrong)

/-- 'laws.FnExactSubtermsOf': WHATEVER THE INPUT: true; the input reads as it did. -/
def fnExactSubtermsOfSpec : ChangeSpec := { name := "fnExactSubtermsOf", fn := fun _ => fun
  | [d] => { results := [.lit (.bool true)], args := [d] }
  | _ => none }
def fnExactSubtermsOfRow : OpenClaim := { program := "ytkpaomcnjnojcaa", sum := "574044b443576b94a678addb6c1600230874159499e39d3d7cbd10683807732e", func := "loop.example/g03210/laws.FnExactSubtermsOf", spec := "fnExactSubtermsOf", inPlace := ["internal/reflectlite.ValueOf", "internal/reflectlite.Swapper", "(internal/reflectlite.Value).Len"], unfollowed := true, recurses := true, loops := true, apart := false }
def FnExactSubtermsOfSaid : Prop := fnExactSubtermsOfRow.holds Try.pinned (OpenSpec.ofChange fnExactSubtermsOfSpec)

/-- ITS FALSE NEIGHBOUR: 'it returns false'. Refute it at one input. -/
def fnExactSubtermsOfWrong : ChangeSpec := { name := "fnExactSubtermsOf", fn := fun _ => fun
  | [d] => { results := [.lit (.bool false)], args := [d] }
  | _ => none }
def FnExactSubtermsOfWrongFalsely : Prop := fnExactSubtermsOfRow.holds Try.pinned (OpenSpec.ofChange fnExactSubtermsOfWrong)

/-- 'laws.FnExactTermVars': WHATEVER THE INPUT: true; the input reads as it did. -/
def fnExactTermVarsSpec : ChangeSpec := { name := "fnExactTermVars", fn := fun _ => fun
  | [d] => { results := [.lit (.bool true)], args := [d] }
  | _ => none }
def fnExactTermVarsRow : OpenClaim := { program := "ytkpaomcnjnojcaa", sum := "574044b443576b94a678addb6c1600230874159499e39d3d7cbd10683807732e", func := "loop.example/g03210/laws.FnExactTermVars", spec := "fnExactTermVars", unfollowed := true, recurses := true, loops := true, apart := false }
def FnExactTermVarsSaid : Prop := fnExactTermVarsRow.holds Try.pinned (OpenSpec.ofChange fnExactTermVarsSpec)

/-- ITS FALSE NEIGHBOUR: 'it returns false'. Refute it at one input. -/
def fnExactTermVarsWrong : ChangeSpec := { name := "fnExactTermVars", fn := fun _ => fun
  | [d] => { results := [.lit (.bool false)], args := [d] }
  | _ => none }
def FnExactTermVarsWrongFalsely : Prop := fnExactTermVarsRow.holds Try.pinned (OpenSpec.ofChange fnExactTermVarsWrong)

/-- 'laws.FnExactGroundTerms': WHATEVER THE INPUT: true; the input reads as it did. -/
def fnExactGroundTermsSpec : ChangeSpec := { name := "fnExactGroundTerms", fn := fun _ => fun
  | [d1, d2] => { results := [.lit (.bool true)], args := [d1, d2] }
  | _ => none }
def fnExactGroundTermsRow : OpenClaim := { program := "ytkpaomcnjnojcaa", sum := "574044b443576b94a678addb6c1600230874159499e39d3d7cbd10683807732e", func := "loop.example/g03210/laws.FnExactGroundTerms", spec := "fnExactGroundTerms", inPlace := ["internal/reflectlite.ValueOf", "internal/reflectlite.Swapper", "(internal/reflectlite.Value).Len"], unfollowed := true, recurses := true, loops := true, apart := false }
def FnExactGroundTermsSaid : Prop := fnExactGroundTermsRow.holds Try.pinned (OpenSpec.ofChange fnExactGroundTermsSpec)

/-- ITS FALSE NEIGHBOUR: 'it returns false'. Refute it at one input. -/
def fnExactGroundTermsWrong : ChangeSpec := { name := "fnExactGroundTerms", fn := fun _ => fun
  | [d1, d2] => { results := [.lit (.bool false)], args := [d1, d2] }
  | _ => none }
def FnExactGroundTermsWrongFalsely : Prop := fnExactGroundTermsRow.holds Try.pinned (OpenSpec.ofChange fnExactGroundTermsWrong)

/-- 'laws.FnExactMatchTerm': WHATEVER THE INPUT: true; the input reads as it did. -/
def fnExactMatchTermSpec : ChangeSpec := { name := "fnExactMatchTerm", fn := fun _ => fun
  | [d1, d2] => { results := [.lit (.bool true)], args := [d1, d2] }
  | _ => none }
def fnExactMatchTermRow : OpenClaim := { program := "ytkpaomcnjnojcaa", sum := "574044b443576b94a678addb6c1600230874159499e39d3d7cbd10683807732e", func := "loop.example/g03210/laws.FnExactMatchTerm", spec := "fnExactMatchTerm", inPlace := ["internal/reflectlite.ValueOf", "internal/reflectlite.Swapper", "(internal/reflectlite.Value).Len"], unfollowed := true, recurses := true, loops := true, apart := false }
def FnExactMatchTermSaid : Prop := fnExactMatchTermRow.holds Try.pinned (OpenSpec.ofChange fnExactMatchTermSpec)

/-- ITS FALSE NEIGHBOUR: 'it returns false'. Refute it at one input. -/
def fnExactMatchTermWrong : ChangeSpec := { name := "fnExactMatchTerm", fn := fun _ => fun
  | [d1, d2] => { results := [.lit (.bool false)], args := [d1, d2] }
  | _ => none }
def FnExactMatchTermWrongFalsely : Prop := fnExactMatchTermRow.holds Try.pinned (OpenSpec.ofChange fnExactMatchTermWrong)

/- THE SECOND FORM. 'bulk': how many values and letters a reading holds, each counted each time it is reached (what is shared counts as often as it is met; a slice's spare places count too). A statement '..UptoSaid' is the law's where the arguments, and the package variables that the reading takes, are together of bulk at most 1048576: NARROWER than '..Said'. Prove '..Said' where nothing that the law and all that it calls make is longer than what came in: it says more and counts as full. Else prove '..UptoSaid'. A law counts once. -/
mutual
def uptoBulk {H : Type} : DataW H → Nat
  | .lit (.string bytes) => bytes.length + 1
  | .lit _ => 1
  | .nil => 1
  | .ptr d => uptoBulk d + 1
  | .slice elems spare => uptoBulkAll elems + uptoBulkAll spare + 1
  | .agg parts => uptoBulkAll parts + 1
  | .iface _ d => uptoBulk d + 1
  | .map entries => uptoBulkEntries entries + 1
  | .held _ => 1
def uptoBulkAll {H : Type} : List (DataW H) → Nat
  | [] => 0
  | d :: r => uptoBulk d + uptoBulkAll r
def uptoBulkEntries {H : Type} : List (Lit × DataW H) → Nat
  | [] => 0
  | x :: r => uptoBulkEntry x + uptoBulkEntries r
def uptoBulkEntry {H : Type} : Lit × DataW H → Nat
  | (.string bytes, d) => bytes.length + uptoBulk d + 1
  | (_, d) => uptoBulk d + 1
 end
def uptoSmall : (H : Type) → List (DataW H) → Bool := fun _ ds => decide (uptoBulkAll ds ≤ 1048576)
def OpenSpec.upto (s : _root_.Go.ChangeSpec) : _root_.Go.OpenSpec := { _root_.Go.OpenSpec.ofChange s with cond := some uptoSmall }

/-- 'laws.FnExactOccursIn', WHERE WHAT IT READS IS OF BULK AT MOST 1048576: true; the input reads as it did. -/
def fnExactOccursInUptoRow : OpenClaim := { program := "ytkpaomcnjnojcaa", sum := "574044b443576b94a678addb6c1600230874159499e39d3d7cbd10683807732e", func := "loop.example/g03210/laws.FnExactOccursIn", spec := "fnExactOccursIn", recurses := true, loops := true, apart := false, narrowed := true }
def FnExactOccursInUptoSaid : Prop := fnExactOccursInUptoRow.holds Try.pinned (OpenSpec.upto fnExactOccursInSpec)

/-- 'laws.FnExactIsGround', WHERE WHAT IT READS IS OF BULK AT MOST 1048576: true; the input reads as it did. -/
def fnExactIsGroundUptoRow : OpenClaim := { program := "ytkpaomcnjnojcaa", sum := "574044b443576b94a678addb6c1600230874159499e39d3d7cbd10683807732e", func := "loop.example/g03210/laws.FnExactIsGround", spec := "fnExactIsGround", unfollowed := true, recurses := true, loops := true, apart := false, narrowed := true }
def FnExactIsGroundUptoSaid : Prop := fnExactIsGroundUptoRow.holds Try.pinned (OpenSpec.upto fnExactIsGroundSpec)

/-- 'laws.FnExactCompareTerms', WHERE WHAT IT READS IS OF BULK AT MOST 1048576: true; the input reads as it did. -/
def fnExactCompareTermsUptoRow : OpenClaim := { program := "ytkpaomcnjnojcaa", sum := "574044b443576b94a678addb6c1600230874159499e39d3d7cbd10683807732e", func := "loop.example/g03210/laws.FnExactCompareTerms", spec := "fnExactCompareTerms", recurses := true, loops := true, apart := false, narrowed := true }
def FnExactCompareTermsUptoSaid : Prop := fnExactCompareTermsUptoRow.holds Try.pinned (OpenSpec.upto fnExactCompareTermsSpec)

/-- 'laws.FnTerms', WHERE WHAT IT READS IS OF BULK AT MOST 1048576: true; the input reads as it did. -/
def fnTermsUptoRow : OpenClaim := { program := "ytkpaomcnjnojcaa", sum := "574044b443576b94a678addb6c1600230874159499e39d3d7cbd10683807732e", func := "loop.example/g03210/laws.FnTerms", spec := "fnTerms", unfollowed := true, recurses := true, apart := false, narrowed := true }
def FnTermsUptoSaid : Prop := fnTermsUptoRow.holds Try.pinned (OpenSpec.upto fnTermsSpec)

/-- 'laws.FnExactValuesOk', WHERE WHAT IT READS IS OF BULK AT MOST 1048576: true; the input reads as it did. -/
def fnExactValuesOkUptoRow : OpenClaim := { program := "ytkpaomcnjnojcaa", sum := "574044b443576b94a678addb6c1600230874159499e39d3d7cbd10683807732e", func := "loop.example/g03210/laws.FnExactValuesOk", spec := "fnExactValuesOk", recurses := true, loops := true, apart := false, narrowed := true }
def FnExactValuesOkUptoSaid : Prop := fnExactValuesOkUptoRow.holds Try.pinned (OpenSpec.upto fnExactValuesOkSpec)

/-- 'laws.FnExactVarBound', WHERE WHAT IT READS IS OF BULK AT MOST 1048576: true; the input reads as it did. -/
def fnExactVarBoundUptoRow : OpenClaim := { program := "ytkpaomcnjnojcaa", sum := "574044b443576b94a678addb6c1600230874159499e39d3d7cbd10683807732e", func := "loop.example/g03210/laws.FnExactVarBound", spec := "fnExactVarBound", unfollowed := true, recurses := true, loops := true, apart := false, narrowed := true }
def FnExactVarBoundUptoSaid : Prop := fnExactVarBoundUptoRow.holds Try.pinned (OpenSpec.upto fnExactVarBoundSpec)

/-- 'laws.FnExactItemsOf', WHERE WHAT IT READS IS OF BULK AT MOST 1048576: true; the input reads as it did. -/
def fnExactItemsOfUptoRow : OpenClaim := { program := "ytkpaomcnjnojcaa", sum := "574044b443576b94a678addb6c1600230874159499e39d3d7cbd10683807732e", func := "loop.example/g03210/laws.FnExactItemsOf", spec := "fnExactItemsOf", recurses := true, loops := true, apart := false, narrowed := true }
def FnExactItemsOfUptoSaid : Prop := fnExactItemsOfUptoRow.holds Try.pinned (OpenSpec.upto fnExactItemsOfSpec)

/-- 'laws.FnExactUniverseOk', WHERE WHAT IT READS IS OF BULK AT MOST 1048576: true; the input reads as it did. -/
def fnExactUniverseOkUptoRow : OpenClaim := { program := "ytkpaomcnjnojcaa", sum := "574044b443576b94a678addb6c1600230874159499e39d3d7cbd10683807732e", func := "loop.example/g03210/laws.FnExactUniverseOk", spec := "fnExactUniverseOk", unfollowed := true, recurses := true, loops := true, apart := false, narrowed := true }
def FnExactUniverseOkUptoSaid : Prop := fnExactUniverseOkUptoRow.holds Try.pinned (OpenSpec.upto fnExactUniverseOkSpec)

/-- 'laws.FnExactListTerm', WHERE WHAT IT READS IS OF BULK AT MOST 1048576: true; the input reads as it did. -/
def fnExactListTermUptoRow : OpenClaim := { program := "ytkpaomcnjnojcaa", sum := "574044b443576b94a678addb6c1600230874159499e39d3d7cbd10683807732e", func := "loop.example/g03210/laws.FnExactListTerm", spec := "fnExactListTerm", recurses := true, loops := true, apart := false, narrowed := true }
def FnExactListTermUptoSaid : Prop := fnExactListTermUptoRow.holds Try.pinned (OpenSpec.upto fnExactListTermSpec)

/-- 'laws.FnExactOrderedVars', WHERE WHAT IT READS IS OF BULK AT MOST 1048576: true; the input reads as it did. -/
def fnExactOrderedVarsUptoRow : OpenClaim := { program := "ytkpaomcnjnojcaa", sum := "574044b443576b94a678addb6c1600230874159499e39d3d7cbd10683807732e", func := "loop.example/g03210/laws.FnExactOrderedVars", spec := "fnExactOrderedVars", unfollowed := true, recurses := true, loops := true, apart := false, narrowed := true }
def FnExactOrderedVarsUptoSaid : Prop := fnExactOrderedVarsUptoRow.holds Try.pinned (OpenSpec.upto fnExactOrderedVarsSpec)

/-- 'laws.FnExactReplaceVar', WHERE WHAT IT READS IS OF BULK AT MOST 1048576: true; the input reads as it did. -/
def fnExactReplaceVarUptoRow : OpenClaim := { program := "ytkpaomcnjnojcaa", sum := "574044b443576b94a678addb6c1600230874159499e39d3d7cbd10683807732e", func := "loop.example/g03210/laws.FnExactReplaceVar", spec := "fnExactReplaceVar", unfollowed := true, recurses := true, loops := true, apart := false, narrowed := true }
def FnExactReplaceVarUptoSaid : Prop := fnExactReplaceVarUptoRow.holds Try.pinned (OpenSpec.upto fnExactReplaceVarSpec)

/-- 'laws.FnExactNewState', WHERE WHAT IT READS IS OF BULK AT MOST 1048576: true; the input reads as it did. -/
def fnExactNewStateUptoRow : OpenClaim := { program := "ytkpaomcnjnojcaa", sum := "574044b443576b94a678addb6c1600230874159499e39d3d7cbd10683807732e", func := "loop.example/g03210/laws.FnExactNewState", spec := "fnExactNewState", recurses := true, apart := false, narrowed := true }
def FnExactNewStateUptoSaid : Prop := fnExactNewStateUptoRow.holds Try.pinned (OpenSpec.upto fnExactNewStateSpec)

/-- 'laws.FnExactShiftTerm', WHERE WHAT IT READS IS OF BULK AT MOST 1048576: true; the input reads as it did. -/
def fnExactShiftTermUptoRow : OpenClaim := { program := "ytkpaomcnjnojcaa", sum := "574044b443576b94a678addb6c1600230874159499e39d3d7cbd10683807732e", func := "loop.example/g03210/laws.FnExactShiftTerm", spec := "fnExactShiftTerm", unfollowed := true, recurses := true, loops := true, apart := false, narrowed := true }
def FnExactShiftTermUptoSaid : Prop := fnExactShiftTermUptoRow.holds Try.pinned (OpenSpec.upto fnExactShiftTermSpec)

/-- 'laws.FnExactSubstOk', WHERE WHAT IT READS IS OF BULK AT MOST 1048576: true; the input reads as it did. -/
def fnExactSubstOkUptoRow : OpenClaim := { program := "ytkpaomcnjnojcaa", sum := "574044b443576b94a678addb6c1600230874159499e39d3d7cbd10683807732e", func := "loop.example/g03210/laws.FnExactSubstOk", spec := "fnExactSubstOk", unfollowed := true, recurses := true, loops := true, apart := false, narrowed := true }
def FnExactSubstOkUptoSaid : Prop := fnExactSubstOkUptoRow.holds Try.pinned (OpenSpec.upto fnExactSubstOkSpec)

/-- 'laws.FnExactGoalOk', WHERE WHAT IT READS IS OF BULK AT MOST 1048576: true; the input reads as it did. -/
def fnExactGoalOkUptoRow : OpenClaim := { program := "ytkpaomcnjnojcaa", sum := "574044b443576b94a678addb6c1600230874159499e39d3d7cbd10683807732e", func := "loop.example/g03210/laws.FnExactGoalOk", spec := "fnExactGoalOk", recurses := true, loops := true, apart := false, narrowed := true }
def FnExactGoalOkUptoSaid : Prop := fnExactGoalOkUptoRow.holds Try.pinned (OpenSpec.upto fnExactGoalOkSpec)

/-- 'laws.FnExactGoalSize', WHERE WHAT IT READS IS OF BULK AT MOST 1048576: true; the input reads as it did. -/
def fnExactGoalSizeUptoRow : OpenClaim := { program := "ytkpaomcnjnojcaa", sum := "574044b443576b94a678addb6c1600230874159499e39d3d7cbd10683807732e", func := "loop.example/g03210/laws.FnExactGoalSize", spec := "fnExactGoalSize", recurses := true, loops := true, apart := false, narrowed := true }
def FnExactGoalSizeUptoSaid : Prop := fnExactGoalSizeUptoRow.holds Try.pinned (OpenSpec.upto fnExactGoalSizeSpec)

/-- 'laws.FnGeneral', WHERE WHAT IT READS IS OF BULK AT MOST 1048576: true; the input reads as it did. -/
def fnGeneralUptoRow : OpenClaim := { program := "ytkpaomcnjnojcaa", sum := "574044b443576b94a678addb6c1600230874159499e39d3d7cbd10683807732e", func := "loop.example/g03210/laws.FnGeneral", spec := "fnGeneral", unfollowed := true, recurses := true, apart := false, narrowed := true }
def FnGeneralUptoSaid : Prop := fnGeneralUptoRow.holds Try.pinned (OpenSpec.upto fnGeneralSpec)

/-- 'laws.FnExactCanonical', WHERE WHAT IT READS IS OF BULK AT MOST 1048576: true; the input reads as it did. -/
def fnExactCanonicalUptoRow : OpenClaim := { program := "ytkpaomcnjnojcaa", sum := "574044b443576b94a678addb6c1600230874159499e39d3d7cbd10683807732e", func := "loop.example/g03210/laws.FnExactCanonical", spec := "fnExactCanonical", unfollowed := true, recurses := true, loops := true, apart := false, narrowed := true }
def FnExactCanonicalUptoSaid : Prop := fnExactCanonicalUptoRow.holds Try.pinned (OpenSpec.upto fnExactCanonicalSpec)

/-- 'laws.FnExactGeneralize', WHERE WHAT IT READS IS OF BULK AT MOST 1048576: true; the input reads as it did. -/
def fnExactGeneralizeUptoRow : OpenClaim := { program := "ytkpaomcnjnojcaa", sum := "574044b443576b94a678addb6c1600230874159499e39d3d7cbd10683807732e", func := "loop.example/g03210/laws.FnExactGeneralize", spec := "fnExactGeneralize", recurses := true, loops := true, apart := false, narrowed := true }
def FnExactGeneralizeUptoSaid : Prop := fnExactGeneralizeUptoRow.holds Try.pinned (OpenSpec.upto fnExactGeneralizeSpec)

/-- 'laws.FnExactCompareDisequalities', WHERE WHAT IT READS IS OF BULK AT MOST 1048576: true; the input reads as it did. -/
def fnExactCompareDisequalitiesUptoRow : OpenClaim := { program := "ytkpaomcnjnojcaa", sum := "574044b443576b94a678addb6c1600230874159499e39d3d7cbd10683807732e", func := "loop.example/g03210/laws.FnExactCompareDisequalities", spec := "fnExactCompareDisequalities", unfollowed := true, recurses := true, loops := true, apart := false, narrowed := true }
def FnExactCompareDisequalitiesUptoSaid : Prop := fnExactCompareDisequalitiesUptoRow.holds Try.pinned (OpenSpec.upto fnExactCompareDisequalitiesSpec)

/-- 'laws.FnExactLookup', WHERE WHAT IT READS IS OF BULK AT MOST 1048576: true; the input reads as it did. -/
def fnExactLookupUptoRow : OpenClaim := { program := "ytkpaomcnjnojcaa", sum := "574044b443576b94a678addb6c1600230874159499e39d3d7cbd10683807732e", func := "loop.example/g03210/laws.FnExactLookup", spec := "fnExactLookup", unfollowed := true, recurses := true, loops := true, apart := false, narrowed := true }
def FnExactLookupUptoSaid : Prop := fnExactLookupUptoRow.holds Try.pinned (OpenSpec.upto fnExactLookupSpec)

/-- 'laws.FnExactNewBindings', WHERE WHAT IT READS IS OF BULK AT MOST 1048576: true; the input reads as it did. -/
def fnExactNewBindingsUptoRow : OpenClaim := { program := "ytkpaomcnjnojcaa", sum := "574044b443576b94a678addb6c1600230874159499e39d3d7cbd10683807732e", func := "loop.example/g03210/laws.FnExactNewBindings", spec := "fnExactNewBindings", unfollowed := true, recurses := true, loops := true, apart := false, narrowed := true }
def FnExactNewBindingsUptoSaid : Prop := fnExactNewBindingsUptoRow.holds Try.pinned (OpenSpec.upto fnExactNewBindingsSpec)

/-- 'laws.FnExactRestrictSubst', WHERE WHAT IT READS IS OF BULK AT MOST 1048576: true; the input reads as it did. -/
def fnExactRestrictSubstUptoRow : OpenClaim := { program := "ytkpaomcnjnojcaa", sum := "574044b443576b94a678addb6c1600230874159499e39d3d7cbd10683807732e", func := "loop.example/g03210/laws.FnExactRestrictSubst", spec := "fnExactRestrictSubst", unfollowed := true, recurses := true, loops := true, apart := false, narrowed := true }
def FnExactRestrictSubstUptoSaid : Prop := fnExactRestrictSubstUptoRow.holds Try.pinned (OpenSpec.upto fnExactRestrictSubstSpec)

/-- 'laws.FnExactSubtermsOf', WHERE WHAT IT READS IS OF BULK AT MOST 1048576: true; the input reads as it did. -/
def fnExactSubtermsOfUptoRow : OpenClaim := { program := "ytkpaomcnjnojcaa", sum := "574044b443576b94a678addb6c1600230874159499e39d3d7cbd10683807732e", func := "loop.example/g03210/laws.FnExactSubtermsOf", spec := "fnExactSubtermsOf", inPlace := ["internal/reflectlite.ValueOf", "internal/reflectlite.Swapper", "(internal/reflectlite.Value).Len"], unfollowed := true, recurses := true, loops := true, apart := false, narrowed := true }
def FnExactSubtermsOfUptoSaid : Prop := fnExactSubtermsOfUptoRow.holds Try.pinned (OpenSpec.upto fnExactSubtermsOfSpec)

/-- 'laws.FnExactTermVars', WHERE WHAT IT READS IS OF BULK AT MOST 1048576: true; the input reads as it did. -/
def fnExactTermVarsUptoRow : OpenClaim := { program := "ytkpaomcnjnojcaa", sum := "574044b443576b94a678addb6c1600230874159499e39d3d7cbd10683807732e", func := "loop.example/g03210/laws.FnExactTermVars", spec := "fnExactTermVars", unfollowed := true, recurses := true, loops := true, apart := false, narrowed := true }
def FnExactTermVarsUptoSaid : Prop := fnExactTermVarsUptoRow.holds Try.pinned (OpenSpec.upto fnExactTermVarsSpec)

/-- 'laws.FnExactGroundTerms', WHERE WHAT IT READS IS OF BULK AT MOST 1048576: true; the input reads as it did. -/
def fnExactGroundTermsUptoRow : OpenClaim := { program := "ytkpaomcnjnojcaa", sum := "574044b443576b94a678addb6c1600230874159499e39d3d7cbd10683807732e", func := "loop.example/g03210/laws.FnExactGroundTerms", spec := "fnExactGroundTerms", inPlace := ["internal/reflectlite.ValueOf", "internal/reflectlite.Swapper", "(internal/reflectlite.Value).Len"], unfollowed := true, recurses := true, loops := true, apart := false, narrowed := true }
def FnExactGroundTermsUptoSaid : Prop := fnExactGroundTermsUptoRow.holds Try.pinned (OpenSpec.upto fnExactGroundTermsSpec)

/-- 'laws.FnExactMatchTerm', WHERE WHAT IT READS IS OF BULK AT MOST 1048576: true; the input reads as it did. -/
def fnExactMatchTermUptoRow : OpenClaim := { program := "ytkpaomcnjnojcaa", sum := "574044b443576b94a678addb6c1600230874159499e39d3d7cbd10683807732e", func := "loop.example/g03210/laws.FnExactMatchTerm", spec := "fnExactMatchTerm", inPlace := ["internal/reflectlite.ValueOf", "internal/reflectlite.Swapper", "(internal/reflectlite.Value).Len"], unfollowed := true, recurses := true, loops := true, apart := false, narrowed := true }
def FnExactMatchTermUptoSaid : Prop := fnExactMatchTermUptoRow.holds Try.pinned (OpenSpec.upto fnExactMatchTermSpec)

end Rows
end Go.Proofs.Ytkpaomcnjnojcaa
