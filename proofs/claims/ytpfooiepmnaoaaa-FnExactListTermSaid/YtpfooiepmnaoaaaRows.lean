/-
  NARROWER THAN 'FOR EVERY INPUT', by the rows' own cells (each row's printed sentence says how): FnExactVarBound: loops · FnExactOrderedVars: loops · FnExactSubstOk: loops · FnExactCompareDisequalities: loops · FnExactItemsOf: loops · FnExactListTerm: loops · FnExactTermVars: loops · FnExactReplaceVar: loops · FnExactLookup: loops · FnExactShiftTerm: loops.
  DERIVED. THE GIVEN ROWS OF THIS SEAT. 12 by the template 'for every input the law returns true; each argument reads behind the call as it read before'; 0 by the template 'total and deterministic' (their statements: YtpfooiepmnaoaaaTotals.lean).
  GIVEN WITH THE SEED: the statements are not yours to turn. If you find one false, say at which input.
  Laid BY PROGRAM, IN A SANDBOX (cutbox-rows.mjs): the forced cells as the released guide's own fill.sh prints them over the translation ad951d31cfa76797… (all of the seat's roots in one cut). By AI agents, Wed Nov 11 2026. No macro, syntax, notation, axiom, sorry.
-/
import Derived.Test.YtpfooiepmnaoaaaChecked
import GoSem.Claim
import GoSem.ClaimJoined
import GoSem.ClaimMapViews
import Derived.JoinedTies
import Derived.KernelRfl
namespace Go.Proofs.Ytpfooiepmnaoaaa
/- THE CELL 'sum', in the pinned program and in every row, IS THE sha256 OF THE DUMP (.gsa) THAT YtpfooiepmnaoaaaProg.lean LOADS. Nothing in Lean hashes anything: it is a label: what it is worth is what the hold of that sum in a sandbox is worth. -/
noncomputable def Try.pinned : Pinned := { name := "ytpfooiepmnaoaaa", sum := "ad951d31cfa76797a590504b848ba3cf44bf9ce6c7696e6bcd35c2cc7c7cfdca", checked := Try.checked }
namespace Rows
def none {H : Type} : Left H := { results := [], args := [] }

/-- 'laws.FnExactVarBound': WHATEVER THE INPUT: true; the input reads as it did. -/
def fnExactVarBoundSpec : ChangeSpec := { name := "fnExactVarBound", fn := fun _ => fun
  | [d] => { results := [.lit (.bool true)], args := [d] }
  | _ => none }
def fnExactVarBoundRow : OpenClaim := { program := "ytpfooiepmnaoaaa", sum := "ad951d31cfa76797a590504b848ba3cf44bf9ce6c7696e6bcd35c2cc7c7cfdca", func := "loop.example/g03210/laws.FnExactVarBound", spec := "fnExactVarBound", unfollowed := true, recurses := true, loops := true, apart := false }
def FnExactVarBoundSaid : Prop := fnExactVarBoundRow.holds Try.pinned (OpenSpec.ofChange fnExactVarBoundSpec)

/-- ITS FALSE NEIGHBOUR: 'it returns false'. Refute it at one input. -/
def fnExactVarBoundWrong : ChangeSpec := { name := "fnExactVarBound", fn := fun _ => fun
  | [d] => { results := [.lit (.bool false)], args := [d] }
  | _ => none }
def FnExactVarBoundWrongFalsely : Prop := fnExactVarBoundRow.holds Try.pinned (OpenSpec.ofChange fnExactVarBoundWrong)

/-- 'laws.FnExactOrderedVars': WHATEVER THE INPUT: true; the input reads as it did. -/
def fnExactOrderedVarsSpec : ChangeSpec := { name := "fnExactOrderedVars", fn := fun _ => fun
  | [d] => { results := [.lit (.bool true)], args := [d] }
  | _ => none }
def fnExactOrderedVarsRow : OpenClaim := { program := "ytpfooiepmnaoaaa", sum := "ad951d31cfa76797a590504b848ba3cf44bf9ce6c7696e6bcd35c2cc7c7cfdca", func := "loop.example/g03210/laws.FnExactOrderedVars", spec := "fnExactOrderedVars", unfollowed := true, recurses := true, loops := true, apart := false }
def FnExactOrderedVarsSaid : Prop := fnExactOrderedVarsRow.holds Try.pinned (OpenSpec.ofChange fnExactOrderedVarsSpec)

/-- ITS FALSE NEIGHBOUR: 'it returns false'. Refute it at one input. -/
def fnExactOrderedVarsWrong : ChangeSpec := { name := "fnExactOrderedVars", fn := fun _ => fun
  | [d] => { results := [.lit (.bool false)], args := [d] }
  | _ => none }
def FnExactOrderedVarsWrongFalsely : Prop := fnExactOrderedVarsRow.holds Try.pinned (OpenSpec.ofChange fnExactOrderedVarsWrong)

/-- 'laws.FnExactSubstOk': WHATEVER THE INPUT: true; the input reads as it did. -/
def fnExactSubstOkSpec : ChangeSpec := { name := "fnExactSubstOk", fn := fun _ => fun
  | [d] => { results := [.lit (.bool true)], args := [d] }
  | _ => none }
def fnExactSubstOkRow : OpenClaim := { program := "ytpfooiepmnaoaaa", sum := "ad951d31cfa76797a590504b848ba3cf44bf9ce6c7696e6bcd35c2cc7c7cfdca", func := "loop.example/g03210/laws.FnExactSubstOk", spec := "fnExactSubstOk", unfollowed := true, recurses := true, loops := true, apart := false }
def FnExactSubstOkSaid : Prop := fnExactSubstOkRow.holds Try.pinned (OpenSpec.ofChange fnExactSubstOkSpec)

/-- ITS FALSE NEIGHBOUR: 'it returns false'. Refute it at one input. -/
def fnExactSubstOkWrong : ChangeSpec := { name := "fnExactSubstOk", fn := fun _ => fun
  | [d] => { results := [.lit (.bool false)], args := [d] }
  | _ => none }
def FnExactSubstOkWrongFalsely : Prop := fnExactSubstOkRow.holds Try.pinned (OpenSpec.ofChange fnExactSubstOkWrong)

/-- 'laws.FnExactCompareDisequalities': WHATEVER THE INPUT: true; the input reads as it did. -/
def fnExactCompareDisequalitiesSpec : ChangeSpec := { name := "fnExactCompareDisequalities", fn := fun _ => fun
  | [d1, d2] => { results := [.lit (.bool true)], args := [d1, d2] }
  | _ => none }
def fnExactCompareDisequalitiesRow : OpenClaim := { program := "ytpfooiepmnaoaaa", sum := "ad951d31cfa76797a590504b848ba3cf44bf9ce6c7696e6bcd35c2cc7c7cfdca", func := "loop.example/g03210/laws.FnExactCompareDisequalities", spec := "fnExactCompareDisequalities", unfollowed := true, recurses := true, loops := true, apart := false }
def FnExactCompareDisequalitiesSaid : Prop := fnExactCompareDisequalitiesRow.holds Try.pinned (OpenSpec.ofChange fnExactCompareDisequalitiesSpec)

/-- ITS FALSE NEIGHBOUR: 'it returns false'. Refute it at one input. -/
def fnExactCompareDisequalitiesWrong : ChangeSpec := { name := "fnExactCompareDisequalities", fn := fun _ => fun
  | [d1, d2] => { results := [.lit (.bool false)], args := [d1, d2] }
  | _ => none }
def FnExactCompareDisequalitiesWrongFalsely : Prop := fnExactCompareDisequalitiesRow.holds Try.pinned (OpenSpec.ofChange fnExactCompareDisequalitiesWrong)

/-- 'laws.FnExactItemsOf': WHATEVER THE INPUT: true; the input reads as it did. -/
def fnExactItemsOfSpec : ChangeSpec := { name := "fnExactItemsOf", fn := fun _ => fun
  | [d] => { results := [.lit (.bool true)], args := [d] }
  | _ => none }
def fnExactItemsOfRow : OpenClaim := { program := "ytpfooiepmnaoaaa", sum := "ad951d31cfa76797a590504b848ba3cf44bf9ce6c7696e6bcd35c2cc7c7cfdca", func := "loop.example/g03210/laws.FnExactItemsOf", spec := "fnExactItemsOf", recurses := true, loops := true, apart := false }
def FnExactItemsOfSaid : Prop := fnExactItemsOfRow.holds Try.pinned (OpenSpec.ofChange fnExactItemsOfSpec)

/-- ITS FALSE NEIGHBOUR: 'it returns false'. Refute it at one input. -/
def fnExactItemsOfWrong : ChangeSpec := { name := "fnExactItemsOf", fn := fun _ => fun
  | [d] => { results := [.lit (.bool false)], args := [d] }
  | _ => none }
def FnExactItemsOfWrongFalsely : Prop := fnExactItemsOfRow.holds Try.pinned (OpenSpec.ofChange fnExactItemsOfWrong)

/-- 'laws.FnExactListTerm': WHATEVER THE INPUT: true; the input reads as it did. -/
def fnExactListTermSpec : ChangeSpec := { name := "fnExactListTerm", fn := fun _ => fun
  | [d1, d2] => { results := [.lit (.bool true)], args := [d1, d2] }
  | _ => none }
def fnExactListTermRow : OpenClaim := { program := "ytpfooiepmnaoaaa", sum := "ad951d31cfa76797a590504b848ba3cf44bf9ce6c7696e6bcd35c2cc7c7cfdca", func := "loop.example/g03210/laws.FnExactListTerm", spec := "fnExactListTerm", recurses := true, loops := true, apart := false }
def FnExactListTermSaid : Prop := fnExactListTermRow.holds Try.pinned (OpenSpec.ofChange fnExactListTermSpec)

/-- ITS FALSE NEIGHBOUR: 'it returns false'. Refute it at one input. -/
def fnExactListTermWrong : ChangeSpec := { name := "fnExactListTerm", fn := fun _ => fun
  | [d1, d2] => { results := [.lit (.bool false)], args := [d1, d2] }
  | _ => none }
def FnExactListTermWrongFalsely : Prop := fnExactListTermRow.holds Try.pinned (OpenSpec.ofChange fnExactListTermWrong)

/-- 'laws.FnExactNewState': WHATEVER THE INPUT: true; the input reads as it did. -/
def fnExactNewStateSpec : ChangeSpec := { name := "fnExactNewState", fn := fun _ => fun
  | [d] => { results := [.lit (.bool true)], args := [d] }
  | _ => none }
def fnExactNewStateRow : OpenClaim := { program := "ytpfooiepmnaoaaa", sum := "ad951d31cfa76797a590504b848ba3cf44bf9ce6c7696e6bcd35c2cc7c7cfdca", func := "loop.example/g03210/laws.FnExactNewState", spec := "fnExactNewState", recurses := true, apart := false }
def FnExactNewStateSaid : Prop := fnExactNewStateRow.holds Try.pinned (OpenSpec.ofChange fnExactNewStateSpec)

/-- ITS FALSE NEIGHBOUR: 'it returns false'. Refute it at one input. -/
def fnExactNewStateWrong : ChangeSpec := { name := "fnExactNewState", fn := fun _ => fun
  | [d] => { results := [.lit (.bool false)], args := [d] }
  | _ => none }
def FnExactNewStateWrongFalsely : Prop := fnExactNewStateRow.holds Try.pinned (OpenSpec.ofChange fnExactNewStateWrong)

/-- 'laws.FnExactTermVars': WHATEVER THE INPUT: true; the input reads as it did. -/
def fnExactTermVarsSpec : ChangeSpec := { name := "fnExactTermVars", fn := fun _ => fun
  | [d] => { results := [.lit (.bool true)], args := [d] }
  | _ => none }
def fnExactTermVarsRow : OpenClaim := { program := "ytpfooiepmnaoaaa", sum := "ad951d31cfa76797a590504b848ba3cf44bf9ce6c7696e6bcd35c2cc7c7cfdca", func := "loop.example/g03210/laws.FnExactTermVars", spec := "fnExactTermVars", unfollowed := true, recurses := true, loops := true, apart := false }
def FnExactTermVarsSaid : Prop := fnExactTermVarsRow.holds Try.pinned (OpenSpec.ofChange fnExactTermVarsSpec)

/-- ITS FALSE NEIGHBOUR: 'it returns false'. Refute it at one input. -/
def fnExactTermVarsWrong : ChangeSpec := { name := "fnExactTermVars", fn := fun _ => fun
  | [d] => { results := [.lit (.bool false)], args := [d] }
  | _ => none }
def FnExactTermVarsWrongFalsely : Prop := fnExactTermVarsRow.holds Try.pinned (OpenSpec.ofChange fnExactTermVarsWrong)

/-- 'laws.FnExactReplaceVar': WHATEVER THE INPUT: true; the input reads as it did. -/
def fnExactReplaceVarSpec : ChangeSpec := { name := "fnExactReplaceVar", fn := fun _ => fun
  | [d1, d2, d3] => { results := [.lit (.bool true)], args := [d1, d2, d3] }
  | _ => none }
def fnExactReplaceVarRow : OpenClaim := { program := "ytpfooiepmnaoaaa", sum := "ad951d31cfa76797a590504b848ba3cf44bf9ce6c7696e6bcd35c2cc7c7cfdca", func := "loop.example/g03210/laws.FnExactReplaceVar", spec := "fnExactReplaceVar", unfollowed := true, recurses := true, loops := true, apart := false }
def FnExactReplaceVarSaid : Prop := fnExactReplaceVarRow.holds Try.pinned (OpenSpec.ofChange fnExactReplaceVarSpec)

/-- ITS FALSE NEIGHBOUR: 'it returns false'. Refute it at one input. -/
def fnExactReplaceVarWrong : ChangeSpec := { name := "fnExactReplaceVar", fn := fun _ => fun
  | [d1, d2, d3] => { results := [.lit (.bool false)], args := [d1, d2, d3] }
  | _ => none }
def FnExactReplaceVarWrongFalsely : Prop := fnExactReplaceVarRow.holds Try.pinned (OpenSpec.ofChange fnExactReplaceVarWrong)

/-- 'laws.FnExactLookup': WHATEVER THE INPUT: true; the input reads as it did. -/
def fnExactLookupSpec : ChangeSpec := { name := "fnExactLookup", fn := fun _ => fun
  | [d1, d2] => { results := [.lit (.bool true)], args := [d1, d2] }
  | _ => none }
def fnExactLookupRow : OpenClaim := { program := "ytpfooiepmnaoaaa", sum := "ad951d31cfa76797a590504b848ba3cf44bf9ce6c7696e6bcd35c2cc7c7cfdca", func := "loop.example/g03210/laws.FnExactLookup", spec := "fnExactLookup", unfollowed := true, recurses := true, loops := true, apart := false }
def FnExactLookupSaid : Prop := fnExactLookupRow.holds Try.pinned (OpenSpec.ofChange fnExactLookupSpec)

/-- ITS FALSE NEIGHBOUR: 'it returns false'. Refute it at one input. -/
def fnExactLookupWrong : ChangeSpec := { name := "fnExactLookup", fn := fun _ => fun
  | [d1, d2] => { results := [.lit (.bool false)], args := [d1, d2] }
  | _ => none }
def FnExactLookupWrongFalsely : Prop := fnExactLookupRow.holds Try.pinned (OpenSpec.ofChange fnExactLookupWrong)

/-- 'laws.FnExactShiftTerm': WHATEVER THE INPUT: true; the input reads as it did. -/
def fnExactShiftTermSpec : ChangeSpec := { name := "fnExactShiftTerm", fn := fun _ => fun
  | [d1, d2] => { results := [.lit (.bool true)], args := [d1, d2] }
  | _ => none }
def fnExactShiftTermRow : OpenClaim := { program := "ytpfooiepmnaoaaa", sum := "ad951d31cfa76797a590504b848ba3cf44bf9ce6c7696e6bcd35c2cc7c7cfdca", func := "loop.example/g03210/laws.FnExactShiftTerm", spec := "fnExactShiftTerm", unfollowed := true, recurses := true, loops := true, apart := false }
def FnExactShiftTermSaid : Prop := fnExactShiftTermRow.holds Try.pinned (OpenSpec.ofChange fnExactShiftTermSpec)

/-- ITS FALSE NEIGHBOUR: 'it returns false'. Refute it at one input. -/
def fnExactShiftTermWrong : ChangeSpec := { name := "fnExactShiftTerm", fn := fun _ => fun
  | [d1, d2] => { results := [.lit (.bool false)], args := [d1, d2] }
  | _ => none }
def FnExactShiftTermWrongFalsely : Prop := fnExactShiftTermRow.holds Try.pinned (OpenSpec.ofChange fnExactShiftTermWrong)

/-- 'laws.FnTerms': WHATEVER THE INPUT: true; the input reads as it did. -/
def fnTermsSpec : ChangeSpec := { name := "fnTerms", fn := fun _ => fun
  | [d] => { results := [.lit (.bool true)], args := [d] }
  | _ => none }
def fnTermsRow : OpenClaim := { program := "ytpfooiepmnaoaaa", sum := "ad951d31cfa76797a590504b848ba3cf44bf9ce6c7696e6bcd35c2cc7c7cfdca", func := "loop.example/g03210/laws.FnTerms", spec := "fnTerms", unfollowed := true, recurses := true, apart := false }
def FnTermsSaid : Prop := fnTermsRow.holds Try.pinned (OpenSpec.ofChange fnTermsSpec)

/-- ITS FALSE NEIGHBOUR: 'it returns false'. Refute it at one input. -/
def fnTermsWrong : ChangeSpec := { name := "fnTerms", fn := fun _ => fun
  | [d] => { results := [.lit (.bool false)], args := [d] }
  | _ => none }
def FnTermsWrongFalsely : Prop := fnTermsRow.holds Try.pinned (OpenSpec.ofChange fnTermsWrong)

/- THE SECOND FORM. 'bulk': how many values and letters a reading holds, each counted each time it is reached (what is shared counts as often as it is met; a slice's spare places count too). A statement '..UptoSaid' is the law's where the arguments, and the package variables that the reading takes, are together of bulk at most 1048576: NARROWER than '..Said'. Prove '..Said' where nothing that the law and all that it calls make is longer than what came in: it says more and counts as full. Else prove '..UptoSaid'. A law counts once. -/
mutual
def uptoBulk {H : Type} : DataW H → Nat
  | .lit (.string bytes) => bytes.length + 1
  | .lit _ => 1
  | .nil => 1
  | .ptr d => uptoBulk d + 1
  | .slice elems spare => uptoBulkAll elems + uptoBulkAll spare + 1
  | .agg parts => uptoBulkAll parts + 1
  | .iface _ d => uptoBulk d + 1
  | .map entries => uptoBulkEntries entries + 1
  | .held _ => 1
def uptoBulkAll {H : Type} : List (DataW H) → Nat
  | [] => 0
  | d :: r => uptoBulk d + uptoBulkAll r
def uptoBulkEntries {H : Type} : List (Lit × DataW H) → Nat
  | [] => 0
  | x :: r => uptoBulkEntry x + uptoBulkEntries r
def uptoBulkEntry {H : Type} : Lit × DataW H → Nat
  | (.string bytes, d) => bytes.length + uptoBulk d + 1
  | (_, d) => uptoBulk d + 1
 end
def uptoSmall : (H : Type) → List (DataW H) → Bool := fun _ ds => decide (uptoBulkAll ds ≤ 1048576)
def OpenSpec.upto (s : _root_.Go.ChangeSpec) : _root_.Go.OpenSpec := { _root_.Go.OpenSpec.ofChange s with cond := some uptoSmall }

/-- 'laws.FnExactVarBound', WHERE WHAT IT READS IS OF BULK AT MOST 1048576: true; the input reads as it did. -/
def fnExactVarBoundUptoRow : OpenClaim := { program := "ytpfooiepmnaoaaa", sum := "ad951d31cfa76797a590504b848ba3cf44bf9ce6c7696e6bcd35c2cc7c7cfdca", func := "loop.example/g03210/laws.FnExactVarBound", spec := "fnExactVarBound", unfollowed := true, recurses := true, loops := true, apart := false, narrowed := true }
def FnExactVarBoundUptoSaid : Prop := fnExactVarBoundUptoRow.holds Try.pinned (OpenSpec.upto fnExactVarBoundSpec)

/-- 'laws.FnExactOrderedVars', WHERE WHAT IT READS IS OF BULK AT MOST 1048576: true; the input reads as it did. -/
def fnExactOrderedVarsUptoRow : OpenClaim := { program := "ytpfooiepmnaoaaa", sum := "ad951d31cfa76797a590504b848ba3cf44bf9ce6c7696e6bcd35c2cc7c7cfdca", func := "loop.example/g03210/laws.FnExactOrderedVars", spec := "fnExactOrderedVars", unfollowed := true, recurses := true, loops := true, apart := false, narrowed := true }
def FnExactOrderedVarsUptoSaid : Prop := fnExactOrderedVarsUptoRow.holds Try.pinned (OpenSpec.upto fnExactOrderedVarsSpec)

/-- 'laws.FnExactSubstOk', WHERE WHAT IT READS IS OF BULK AT MOST 1048576: true; the input reads as it did. -/
def fnExactSubstOkUptoRow : OpenClaim := { program := "ytpfooiepmnaoaaa", sum := "ad951d31cfa76797a590504b848ba3cf44bf9ce6c7696e6bcd35c2cc7c7cfdca", func := "loop.example/g03210/laws.FnExactSubstOk", spec := "fnExactSubstOk", unfollowed := true, recurses := true, loops := true, apart := false, narrowed := true }
def FnExactSubstOkUptoSaid : Prop := fnExactSubstOkUptoRow.holds Try.pinned (OpenSpec.upto fnExactSubstOkSpec)

/-- 'laws.FnExactCompareDisequalities', WHERE WHAT IT READS IS OF BULK AT MOST 1048576: true; the input reads as it did. -/
def fnExactCompareDisequalitiesUptoRow : OpenClaim := { program := "ytpfooiepmnaoaaa", sum := "ad951d31cfa76797a590504b848ba3cf44bf9ce6c7696e6bcd35c2cc7c7cfdca", func := "loop.example/g03210/laws.FnExactCompareDisequalities", spec := "fnExactCompareDisequalities", unfollowed := true, recurses := true, loops := true, apart := false, narrowed := true }
def FnExactCompareDisequalitiesUptoSaid : Prop := fnExactCompareDisequalitiesUptoRow.holds Try.pinned (OpenSpec.upto fnExactCompareDisequalitiesSpec)

/-- 'laws.FnExactItemsOf', WHERE WHAT IT READS IS OF BULK AT MOST 1048576: true; the input reads as it did. -/
def fnExactItemsOfUptoRow : OpenClaim := { program := "ytpfooiepmnaoaaa", sum := "ad951d31cfa76797a590504b848ba3cf44bf9ce6c7696e6bcd35c2cc7c7cfdca", func := "loop.example/g03210/laws.FnExactItemsOf", spec := "fnExactItemsOf", recurses := true, loops := true, apart := false, narrowed := true }
def FnExactItemsOfUptoSaid : Prop := fnExactItemsOfUptoRow.holds Try.pinned (OpenSpec.upto fnExactItemsOfSpec)

/-- 'laws.FnExactListTerm', WHERE WHAT IT READS IS OF BULK AT MOST 1048576: true; the input reads as it did. -/
def fnExactListTermUptoRow : OpenClaim := { program := "ytpfooiepmnaoaaa", sum := "ad951d31cfa76797a590504b848ba3cf44bf9ce6c7696e6bcd35c2cc7c7cfdca", func := "loop.example/g03210/laws.FnExactListTerm", spec := "fnExactListTerm", recurses := true, loops := true, apart := false, narrowed := true }
def FnExactListTermUptoSaid : Prop := fnExactListTermUptoRow.holds Try.pinned (OpenSpec.upto fnExactListTermSpec)

/-- 'laws.FnExactNewState', WHERE WHAT IT READS IS OF BULK AT MOST 1048576: true; the input reads as it did. -/
def fnExactNewStateUptoRow : OpenClaim := { program := "ytpfooiepmnaoaaa", sum := "ad951d31cfa76797a590504b848ba3cf44bf9ce6c7696e6bcd35c2cc7c7cfdca", func := "loop.example/g03210/laws.FnExactNewState", spec := "fnExactNewState", recurses := true, apart := false, narrowed := true }
def FnExactNewStateUptoSaid : Prop := fnExactNewStateUptoRow.holds Try.pinned (OpenSpec.upto fnExactNewStateSpec)

/-- 'laws.FnExactTermVars', WHERE WHAT IT READS IS OF BULK AT MOST 1048576: true; the input reads as it did. -/
def fnExactTermVarsUptoRow : OpenClaim := { program := "ytpfooiepmnaoaaa", sum := "ad951d31cfa76797a590504b848ba3cf44bf9ce6c7696e6bcd35c2cc7c7cfdca", func := "loop.example/g03210/laws.FnExactTermVars", spec := "fnExactTermVars", unfollowed := true, recurses := true, loops := true, apart := false, narrowed := true }
def FnExactTermVarsUptoSaid : Prop := fnExactTermVarsUptoRow.holds Try.pinned (OpenSpec.upto fnExactTermVarsSpec)

/-- 'laws.FnExactReplaceVar', WHERE WHAT IT READS IS OF BULK AT MOST 1048576: true; the input reads as it did. -/
def fnExactReplaceVarUptoRow : OpenClaim := { program := "ytpfooiepmnaoaaa", sum := "ad951d31cfa76797a590504b848ba3cf44bf9ce6c7696e6bcd35c2cc7c7cfdca", func := "loop.example/g03210/laws.FnExactReplaceVar", spec := "fnExactReplaceVar", unfollowed := true, recurses := true, loops := true, apart := false, narrowed := true }
def FnExactReplaceVarUptoSaid : Prop := fnExactReplaceVarUptoRow.holds Try.pinned (OpenSpec.upto fnExactReplaceVarSpec)

/-- 'laws.FnExactLookup', WHERE WHAT IT READS IS OF BULK AT MOST 1048576: true; the input reads as it did. -/
def fnExactLookupUptoRow : OpenClaim := { program := "ytpfooiepmnaoaaa", sum := "ad951d31cfa76797a590504b848ba3cf44bf9ce6c7696e6bcd35c2cc7c7cfdca", func := "loop.example/g03210/laws.FnExactLookup", spec := "fnExactLookup", unfollowed := true, recurses := true, loops := true, apart := false, narrowed := true }
def FnExactLookupUptoSaid : Prop := fnExactLookupUptoRow.holds Try.pinned (OpenSpec.upto fnExactLookupSpec)

/-- 'laws.FnExactShiftTerm', WHERE WHAT IT READS IS OF BULK AT MOST 1048576: true; the input reads as it did. -/
def fnExactShiftTermUptoRow : OpenClaim := { program := "ytpfooiepmnaoaaa", sum := "ad951d31cfa76797a590504b848ba3cf44bf9ce6c7696e6bcd35c2cc7c7cfdca", func := "loop.example/g03210/laws.FnExactShiftTerm", spec := "fnExactShiftTerm", unfollowed := true, recurses := true, loops := true, apart := false, narrowed := true }
def FnExactShiftTermUptoSaid : Prop := fnExactShiftTermUptoRow.holds Try.pinned (OpenSpec.upto fnExactShiftTermSpec)

/-- 'laws.FnTerms', WHERE WHAT IT READS IS OF BULK AT MOST 1048576: true; the input reads as it did. -/
def fnTermsUptoRow : OpenClaim := { program := "ytpfooiepmnaoaaa", sum := "ad951d31cfa76797a590504b848ba3cf44bf9ce6c7696e6bcd35c2cc7c7cfdca", func := "loop.example/g03210/laws.FnTerms", spec := "fnTerms", unfollowed := true, recurses := true, apart := false, narrowed := true }
def FnTermsUptoSaid : Prop := fnTermsUptoRow.holds Try.pinned (OpenSpec.upto fnTermsSpec)

end Rows
end Go.Proofs.Ytpfooiepmnaoaaa
