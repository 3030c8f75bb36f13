/-
  NARROWER THAN 'FOR EVERY INPUT', by the rows' own cells (each row's printed sentence says how): FnExactTermOk: loops · FnExactTermSize: loops · FnExactContainsSymbol: loops.
  DERIVED. THE GIVEN ROWS OF THIS SEAT. 12 by the template 'for every input the law returns true; each argument reads behind the call as it read before'; 0 by the template 'total and deterministic' (their statements: YtaoabfhabejmgaaTotals.lean).
  GIVEN WITH THE SEED: the statements are not yours to turn. If you find one false, say at which input.
  Laid BY PROGRAM, IN A SANDBOX (cutbox-rows.mjs): the forced cells as the released guide's own fill.sh prints them over the translation 6c699a326f3bb50f… (all of the seat's roots in one cut). By AI agents, Wed Nov 11 2026. No macro, syntax, notation, axiom, sorry.
-/
import Derived.Test.YtaoabfhabejmgaaChecked
import GoSem.Claim
import GoSem.ClaimJoined
import GoSem.ClaimMapViews
import Derived.JoinedTies
import Derived.KernelRfl
namespace Go.Proofs.Ytaoabfhabejmgaa
/- THE CELL 'sum', in the pinned program and in every row, IS THE sha256 OF THE DUMP (.gsa) THAT YtaoabfhabejmgaaProg.lean LOADS. Nothing in Lean hashes anything: it is a label: what it is worth is what the hold of that sum in a sandbox is worth. -/
noncomputable def Try.pinned : Pinned := { name := "ytaoabfhabejmgaa", sum := "6c699a326f3bb50f4118ee32a7545b3bec467fe15c9af1709d6274080128e125", checked := Try.checked }
namespace Rows
def none {H : Type} : Left H := { results := [], args := [] }

/-- 'laws.FnExactConstants': WHATEVER THE INPUT: true; the input reads as it did. -/
def fnExactConstantsSpec : ChangeSpec := { name := "fnExactConstants", fn := fun _ => fun
  | [] => { results := [.lit (.bool true)], args := [] }
  | _ => none }
def fnExactConstantsRow : OpenClaim := { program := "ytaoabfhabejmgaa", sum := "6c699a326f3bb50f4118ee32a7545b3bec467fe15c9af1709d6274080128e125", func := "loop.example/g03210/laws.FnExactConstants", spec := "fnExactConstants", apart := false }
def FnExactConstantsSaid : Prop := fnExactConstantsRow.holds Try.pinned (OpenSpec.ofChange fnExactConstantsSpec)

/-- ITS FALSE NEIGHBOUR: 'it returns false'. Refute it at one input. -/
def fnExactConstantsWrong : ChangeSpec := { name := "fnExactConstants", fn := fun _ => fun
  | [] => { results := [.lit (.bool false)], args := [] }
  | _ => none }
def FnExactConstantsWrongFalsely : Prop := fnExactConstantsRow.holds Try.pinned (OpenSpec.ofChange fnExactConstantsWrong)

/-- 'laws.FnExactIsName': WHATEVER THE INPUT: true; the input reads as it did. -/
def fnExactIsNameSpec : ChangeSpec := { name := "fnExactIsName", fn := fun _ => fun
  | [d] => { results := [.lit (.bool true)], args := [d] }
  | _ => none }
def fnExactIsNameRow : OpenClaim := { program := "ytaoabfhabejmgaa", sum := "6c699a326f3bb50f4118ee32a7545b3bec467fe15c9af1709d6274080128e125", func := "loop.example/g03210/laws.FnExactIsName", spec := "fnExactIsName", apart := false }
def FnExactIsNameSaid : Prop := fnExactIsNameRow.holds Try.pinned (OpenSpec.ofChange fnExactIsNameSpec)

/-- ITS FALSE NEIGHBOUR: 'it returns false'. Refute it at one input. -/
def fnExactIsNameWrong : ChangeSpec := { name := "fnExactIsName", fn := fun _ => fun
  | [d] => { results := [.lit (.bool false)], args := [d] }
  | _ => none }
def FnExactIsNameWrongFalsely : Prop := fnExactIsNameRow.holds Try.pinned (OpenSpec.ofChange fnExactIsNameWrong)

/-- 'laws.FnExactIsRelName': WHATEVER THE INPUT: true; the input reads as it did. -/
def fnExactIsRelNameSpec : ChangeSpec := { name := "fnExactIsRelName", fn := fun _ => fun
  | [d] => { results := [.lit (.bool true)], args := [d] }
  | _ => none }
def fnExactIsRelNameRow : OpenClaim := { program := "ytaoabfhabejmgaa", sum := "6c699a326f3bb50f4118ee32a7545b3bec467fe15c9af1709d6274080128e125", func := "loop.example/g03210/laws.FnExactIsRelName", spec := "fnExactIsRelName", apart := false }
def FnExactIsRelNameSaid : Prop := fnExactIsRelNameRow.holds Try.pinned (OpenSpec.ofChange fnExactIsRelNameSpec)

/-- ITS FALSE NEIGHBOUR: 'it returns false'. Refute it at one input. -/
def fnExactIsRelNameWrong : ChangeSpec := { name := "fnExactIsRelName", fn := fun _ => fun
  | [d] => { results := [.lit (.bool false)], args := [d] }
  | _ => none }
def FnExactIsRelNameWrongFalsely : Prop := fnExactIsRelNameRow.holds Try.pinned (OpenSpec.ofChange fnExactIsRelNameWrong)

/-- 'laws.FnExactJoin': WHATEVER THE INPUT: true; the input reads as it did. -/
def fnExactJoinSpec : ChangeSpec := { name := "fnExactJoin", fn := fun _ => fun
  | [d1, d2] => { results := [.lit (.bool true)], args := [d1, d2] }
  | _ => none }
def fnExactJoinRow : OpenClaim := { program := "ytaoabfhabejmgaa", sum := "6c699a326f3bb50f4118ee32a7545b3bec467fe15c9af1709d6274080128e125", func := "loop.example/g03210/laws.FnExactJoin", spec := "fnExactJoin", apart := false }
def FnExactJoinSaid : Prop := fnExactJoinRow.holds Try.pinned (OpenSpec.ofChange fnExactJoinSpec)

/-- ITS FALSE NEIGHBOUR: 'it returns false'. Refute it at one input. -/
def fnExactJoinWrong : ChangeSpec := { name := "fnExactJoin", fn := fun _ => fun
  | [d1, d2] => { results := [.lit (.bool false)], args := [d1, d2] }
  | _ => none }
def FnExactJoinWrongFalsely : Prop := fnExactJoinRow.holds Try.pinned (OpenSpec.ofChange fnExactJoinWrong)

/-- 'laws.FnExactKindsOk': WHATEVER THE INPUT: true; the input reads as it did. -/
def fnExactKindsOkSpec : ChangeSpec := { name := "fnExactKindsOk", fn := fun _ => fun
  | [d] => { results := [.lit (.bool true)], args := [d] }
  | _ => none }
def fnExactKindsOkRow : OpenClaim := { program := "ytaoabfhabejmgaa", sum := "6c699a326f3bb50f4118ee32a7545b3bec467fe15c9af1709d6274080128e125", func := "loop.example/g03210/laws.FnExactKindsOk", spec := "fnExactKindsOk", apart := false }
def FnExactKindsOkSaid : Prop := fnExactKindsOkRow.holds Try.pinned (OpenSpec.ofChange fnExactKindsOkSpec)

/-- ITS FALSE NEIGHBOUR: 'it returns false'. Refute it at one input. -/
def fnExactKindsOkWrong : ChangeSpec := { name := "fnExactKindsOk", fn := fun _ => fun
  | [d] => { results := [.lit (.bool false)], args := [d] }
  | _ => none }
def FnExactKindsOkWrongFalsely : Prop := fnExactKindsOkRow.holds Try.pinned (OpenSpec.ofChange fnExactKindsOkWrong)

/-- 'laws.FnExactSplitLines': WHATEVER THE INPUT: true; the input reads as it did. -/
def fnExactSplitLinesSpec : ChangeSpec := { name := "fnExactSplitLines", fn := fun _ => fun
  | [d] => { results := [.lit (.bool true)], args := [d] }
  | _ => none }
def fnExactSplitLinesRow : OpenClaim := { program := "ytaoabfhabejmgaa", sum := "6c699a326f3bb50f4118ee32a7545b3bec467fe15c9af1709d6274080128e125", func := "loop.example/g03210/laws.FnExactSplitLines", spec := "fnExactSplitLines", apart := false }
def FnExactSplitLinesSaid : Prop := fnExactSplitLinesRow.holds Try.pinned (OpenSpec.ofChange fnExactSplitLinesSpec)

/-- ITS FALSE NEIGHBOUR: 'it returns false'. Refute it at one input. -/
def fnExactSplitLinesWrong : ChangeSpec := { name := "fnExactSplitLines", fn := fun _ => fun
  | [d] => { results := [.lit (.bool false)], args := [d] }
  | _ => none }
def FnExactSplitLinesWrongFalsely : Prop := fnExactSplitLinesRow.holds Try.pinned (OpenSpec.ofChange fnExactSplitLinesWrong)

/-- 'laws.FnExactMarksOk': WHATEVER THE INPUT: true; the input reads as it did. -/
def fnExactMarksOkSpec : ChangeSpec := { name := "fnExactMarksOk", fn := fun _ => fun
  | [d] => { results := [.lit (.bool true)], args := [d] }
  | _ => none }
def fnExactMarksOkRow : OpenClaim := { program := "ytaoabfhabejmgaa", sum := "6c699a326f3bb50f4118ee32a7545b3bec467fe15c9af1709d6274080128e125", func := "loop.example/g03210/laws.FnExactMarksOk", spec := "fnExactMarksOk", apart := false }
def FnExactMarksOkSaid : Prop := fnExactMarksOkRow.holds Try.pinned (OpenSpec.ofChange fnExactMarksOkSpec)

/-- ITS FALSE NEIGHBOUR: 'it returns false'. Refute it at one input. -/
def fnExactMarksOkWrong : ChangeSpec := { name := "fnExactMarksOk", fn := fun _ => fun
  | [d] => { results := [.lit (.bool false)], args := [d] }
  | _ => none }
def FnExactMarksOkWrongFalsely : Prop := fnExactMarksOkRow.holds Try.pinned (OpenSpec.ofChange fnExactMarksOkWrong)

/-- 'laws.FnExactTokens': WHATEVER THE INPUT: true; the input reads as it did. -/
def fnExactTokensSpec : ChangeSpec := { name := "fnExactTokens", fn := fun _ => fun
  | [d] => { results := [.lit (.bool true)], args := [d] }
  | _ => none }
def fnExactTokensRow : OpenClaim := { program := "ytaoabfhabejmgaa", sum := "6c699a326f3bb50f4118ee32a7545b3bec467fe15c9af1709d6274080128e125", func := "loop.example/g03210/laws.FnExactTokens", spec := "fnExactTokens", apart := false }
def FnExactTokensSaid : Prop := fnExactTokensRow.holds Try.pinned (OpenSpec.ofChange fnExactTokensSpec)

/-- ITS FALSE NEIGHBOUR: 'it returns false'. Refute it at one input. -/
def fnExactTokensWrong : ChangeSpec := { name := "fnExactTokens", fn := fun _ => fun
  | [d] => { results := [.lit (.bool false)], args := [d] }
  | _ => none }
def FnExactTokensWrongFalsely : Prop := fnExactTokensRow.holds Try.pinned (OpenSpec.ofChange fnExactTokensWrong)

/-- 'laws.FnExactTermOk': WHATEVER THE INPUT: true; the input reads as it did. -/
def fnExactTermOkSpec : ChangeSpec := { name := "fnExactTermOk", fn := fun _ => fun
  | [d] => { results := [.lit (.bool true)], args := [d] }
  | _ => none }
def fnExactTermOkRow : OpenClaim := { program := "ytaoabfhabejmgaa", sum := "6c699a326f3bb50f4118ee32a7545b3bec467fe15c9af1709d6274080128e125", func := "loop.example/g03210/laws.FnExactTermOk", spec := "fnExactTermOk", recurses := true, loops := true, apart := false }
def FnExactTermOkSaid : Prop := fnExactTermOkRow.holds Try.pinned (OpenSpec.ofChange fnExactTermOkSpec)

/-- ITS FALSE NEIGHBOUR: 'it returns false'. Refute it at one input. -/
def fnExactTermOkWrong : ChangeSpec := { name := "fnExactTermOk", fn := fun _ => fun
  | [d] => { results := [.lit (.bool false)], args := [d] }
  | _ => none }
def FnExactTermOkWrongFalsely : Prop := fnExactTermOkRow.holds Try.pinned (OpenSpec.ofChange fnExactTermOkWrong)

/-- 'laws.FnExactTermSize': WHATEVER THE INPUT: true; the input reads as it did. -/
def fnExactTermSizeSpec : ChangeSpec := { name := "fnExactTermSize", fn := fun _ => fun
  | [d] => { results := [.lit (.bool true)], args := [d] }
  | _ => none }
def fnExactTermSizeRow : OpenClaim := { program := "ytaoabfhabejmgaa", sum := "6c699a326f3bb50f4118ee32a7545b3bec467fe15c9af1709d6274080128e125", func := "loop.example/g03210/laws.FnExactTermSize", spec := "fnExactTermSize", recurses := true, loops := true, apart := false }
def FnExactTermSizeSaid : Prop := fnExactTermSizeRow.holds Try.pinned (OpenSpec.ofChange fnExactTermSizeSpec)

/-- ITS FALSE NEIGHBOUR: 'it returns false'. Refute it at one input. -/
def fnExactTermSizeWrong : ChangeSpec := { name := "fnExactTermSize", fn := fun _ => fun
  | [d] => { results := [.lit (.bool false)], args := [d] }
  | _ => none }
def FnExactTermSizeWrongFalsely : Prop := fnExactTermSizeRow.holds Try.pinned (OpenSpec.ofChange fnExactTermSizeWrong)

/-- 'laws.FnOrder': WHATEVER THE INPUT: true; the input reads as it did. -/
def fnOrderSpec : ChangeSpec := { name := "fnOrder", fn := fun _ => fun
  | [d] => { results := [.lit (.bool true)], args := [d] }
  | _ => none }
def fnOrderRow : OpenClaim := { program := "ytaoabfhabejmgaa", sum := "6c699a326f3bb50f4118ee32a7545b3bec467fe15c9af1709d6274080128e125", func := "loop.example/g03210/laws.FnOrder", spec := "fnOrder", recurses := true, apart := false }
def FnOrderSaid : Prop := fnOrderRow.holds Try.pinned (OpenSpec.ofChange fnOrderSpec)

/-- ITS FALSE NEIGHBOUR: 'it returns false'. Refute it at one input. -/
def fnOrderWrong : ChangeSpec := { name := "fnOrder", fn := fun _ => fun
  | [d] => { results := [.lit (.bool false)], args := [d] }
  | _ => none }
def FnOrderWrongFalsely : Prop := fnOrderRow.holds Try.pinned (OpenSpec.ofChange fnOrderWrong)

/-- 'laws.FnExactContainsSymbol': WHATEVER THE INPUT: true; the input reads as it did. -/
def fnExactContainsSymbolSpec : ChangeSpec := { name := "fnExactContainsSymbol", fn := fun _ => fun
  | [d1, d2] => { results := [.lit (.bool true)], args := [d1, d2] }
  | _ => none }
def fnExactContainsSymbolRow : OpenClaim := { program := "ytaoabfhabejmgaa", sum := "6c699a326f3bb50f4118ee32a7545b3bec467fe15c9af1709d6274080128e125", func := "loop.example/g03210/laws.FnExactContainsSymbol", spec := "fnExactContainsSymbol", recurses := true, loops := true, apart := false }
def FnExactContainsSymbolSaid : Prop := fnExactContainsSymbolRow.holds Try.pinned (OpenSpec.ofChange fnExactContainsSymbolSpec)

/-- ITS FALSE NEIGHBOUR: 'it returns false'. Refute it at one input. -/
def fnExactContainsSymbolWrong : ChangeSpec := { name := "fnExactContainsSymbol", fn := fun _ => fun
  | [d1, d2] => { results := [.lit (.bool false)], args := [d1, d2] }
  | _ => none }
def FnExactContainsSymbolWrongFalsely : Prop := fnExactContainsSymbolRow.holds Try.pinned (OpenSpec.ofChange fnExactContainsSymbolWrong)

/- THE SECOND FORM. 'bulk': how many values and letters a reading holds, each counted each time it is reached (what is shared counts as often as it is met; a slice's spare places count too). A statement '..UptoSaid' is the law's where the arguments, and the package variables that the reading takes, are together of bulk at most 1048576: NARROWER than '..Said'. Prove '..Said' where nothing that the law and all that it calls make is longer than what came in: it says more and counts as full. Else prove '..UptoSaid'. A law counts once. -/
mutual
def uptoBulk {H : Type} : DataW H → Nat
  | .lit (.string bytes) => bytes.length + 1
  | .lit _ => 1
  | .nil => 1
  | .ptr d => uptoBulk d + 1
  | .slice elems spare => uptoBulkAll elems + uptoBulkAll spare + 1
  | .agg parts => uptoBulkAll parts + 1
  | .iface _ d => uptoBulk d + 1
  | .map entries => uptoBulkEntries entries + 1
  | .held _ => 1
def uptoBulkAll {H : Type} : List (DataW H) → Nat
  | [] => 0
  | d :: r => uptoBulk d + uptoBulkAll r
def uptoBulkEntries {H : Type} : List (Lit × DataW H) → Nat
  | [] => 0
  | x :: r => uptoBulkEntry x + uptoBulkEntries r
def uptoBulkEntry {H : Type} : Lit × DataW H → Nat
  | (.string bytes, d) => bytes.length + uptoBulk d + 1
  | (_, d) => uptoBulk d + 1
 end
def uptoSmall : (H : Type) → List (DataW H) → Bool := fun _ ds => decide (uptoBulkAll ds ≤ 1048576)
def OpenSpec.upto (s : _root_.Go.ChangeSpec) : _root_.Go.OpenSpec := { _root_.Go.OpenSpec.ofChange s with cond := some uptoSmall }

/-- 'laws.FnExactConstants', WHERE WHAT IT READS IS OF BULK AT MOST 1048576: true; the input reads as it did. -/
def fnExactConstantsUptoRow : OpenClaim := { program := "ytaoabfhabejmgaa", sum := "6c699a326f3bb50f4118ee32a7545b3bec467fe15c9af1709d6274080128e125", func := "loop.example/g03210/laws.FnExactConstants", spec := "fnExactConstants", apart := false, narrowed := true }
def FnExactConstantsUptoSaid : Prop := fnExactConstantsUptoRow.holds Try.pinned (OpenSpec.upto fnExactConstantsSpec)

/-- 'laws.FnExactIsName', WHERE WHAT IT READS IS OF BULK AT MOST 1048576: true; the input reads as it did. -/
def fnExactIsNameUptoRow : OpenClaim := { program := "ytaoabfhabejmgaa", sum := "6c699a326f3bb50f4118ee32a7545b3bec467fe15c9af1709d6274080128e125", func := "loop.example/g03210/laws.FnExactIsName", spec := "fnExactIsName", apart := false, narrowed := true }
def FnExactIsNameUptoSaid : Prop := fnExactIsNameUptoRow.holds Try.pinned (OpenSpec.upto fnExactIsNameSpec)

/-- 'laws.FnExactIsRelName', WHERE WHAT IT READS IS OF BULK AT MOST 1048576: true; the input reads as it did. -/
def fnExactIsRelNameUptoRow : OpenClaim := { program := "ytaoabfhabejmgaa", sum := "6c699a326f3bb50f4118ee32a7545b3bec467fe15c9af1709d6274080128e125", func := "loop.example/g03210/laws.FnExactIsRelName", spec := "fnExactIsRelName", apart := false, narrowed := true }
def FnExactIsRelNameUptoSaid : Prop := fnExactIsRelNameUptoRow.holds Try.pinned (OpenSpec.upto fnExactIsRelNameSpec)

/-- 'laws.FnExactJoin', WHERE WHAT IT READS IS OF BULK AT MOST 1048576: true; the input reads as it did. -/
def fnExactJoinUptoRow : OpenClaim := { program := "ytaoabfhabejmgaa", sum := "6c699a326f3bb50f4118ee32a7545b3bec467fe15c9af1709d6274080128e125", func := "loop.example/g03210/laws.FnExactJoin", spec := "fnExactJoin", apart := false, narrowed := true }
def FnExactJoinUptoSaid : Prop := fnExactJoinUptoRow.holds Try.pinned (OpenSpec.upto fnExactJoinSpec)

/-- 'laws.FnExactKindsOk', WHERE WHAT IT READS IS OF BULK AT MOST 1048576: true; the input reads as it did. -/
def fnExactKindsOkUptoRow : OpenClaim := { program := "ytaoabfhabejmgaa", sum := "6c699a326f3bb50f4118ee32a7545b3bec467fe15c9af1709d6274080128e125", func := "loop.example/g03210/laws.FnExactKindsOk", spec := "fnExactKindsOk", apart := false, narrowed := true }
def FnExactKindsOkUptoSaid : Prop := fnExactKindsOkUptoRow.holds Try.pinned (OpenSpec.upto fnExactKindsOkSpec)

/-- 'laws.FnExactSplitLines', WHERE WHAT IT READS IS OF BULK AT MOST 1048576: true; the input reads as it did. -/
def fnExactSplitLinesUptoRow : OpenClaim := { program := "ytaoabfhabejmgaa", sum := "6c699a326f3bb50f4118ee32a7545b3bec467fe15c9af1709d6274080128e125", func := "loop.example/g03210/laws.FnExactSplitLines", spec := "fnExactSplitLines", apart := false, narrowed := true }
def FnExactSplitLinesUptoSaid : Prop := fnExactSplitLinesUptoRow.holds Try.pinned (OpenSpec.upto fnExactSplitLinesSpec)

/-- 'laws.FnExactMarksOk', WHERE WHAT IT READS IS OF BULK AT MOST 1048576: true; the input reads as it did. -/
def fnExactMarksOkUptoRow : OpenClaim := { program := "ytaoabfhabejmgaa", sum := "6c699a326f3bb50f4118ee32a7545b3bec467fe15c9af1709d6274080128e125", func := "loop.example/g03210/laws.FnExactMarksOk", spec := "fnExactMarksOk", apart := false, narrowed := true }
def FnExactMarksOkUptoSaid : Prop := fnExactMarksOkUptoRow.holds Try.pinned (OpenSpec.upto fnExactMarksOkSpec)

/-- 'laws.FnExactTokens', WHERE WHAT IT READS IS OF BULK AT MOST 1048576: true; the input reads as it did. -/
def fnExactTokensUptoRow : OpenClaim := { program := "ytaoabfhabejmgaa", sum := "6c699a326f3bb50f4118ee32a7545b3bec467fe15c9af1709d6274080128e125", func := "loop.example/g03210/laws.FnExactTokens", spec := "fnExactTokens", apart := false, narrowed := true }
def FnExactTokensUptoSaid : Prop := fnExactTokensUptoRow.holds Try.pinned (OpenSpec.upto fnExactTokensSpec)

/-- 'laws.FnExactTermOk', WHERE WHAT IT READS IS OF BULK AT MOST 1048576: true; the input reads as it did. -/
def fnExactTermOkUptoRow : OpenClaim := { program := "ytaoabfhabejmgaa", sum := "6c699a326f3bb50f4118ee32a7545b3bec467fe15c9af1709d6274080128e125", func := "loop.example/g03210/laws.FnExactTermOk", spec := "fnExactTermOk", recurses := true, loops := true, apart := false, narrowed := true }
def FnExactTermOkUptoSaid : Prop := fnExactTermOkUptoRow.holds Try.pinned (OpenSpec.upto fnExactTermOkSpec)

/-- 'laws.FnExactTermSize', WHERE WHAT IT READS IS OF BULK AT MOST 1048576: true; the input reads as it did. -/
def fnExactTermSizeUptoRow : OpenClaim := { program := "ytaoabfhabejmgaa", sum := "6c699a326f3bb50f4118ee32a7545b3bec467fe15c9af1709d6274080128e125", func := "loop.example/g03210/laws.FnExactTermSize", spec := "fnExactTermSize", recurses := true, loops := true, apart := false, narrowed := true }
def FnExactTermSizeUptoSaid : Prop := fnExactTermSizeUptoRow.holds Try.pinned (OpenSpec.upto fnExactTermSizeSpec)

/-- 'laws.FnOrder', WHERE WHAT IT READS IS OF BULK AT MOST 1048576: true; the input reads as it did. -/
def fnOrderUptoRow : OpenClaim := { program := "ytaoabfhabejmgaa", sum := "6c699a326f3bb50f4118ee32a7545b3bec467fe15c9af1709d6274080128e125", func := "loop.example/g03210/laws.FnOrder", spec := "fnOrder", recurses := true, apart := false, narrowed := true }
def FnOrderUptoSaid : Prop := fnOrderUptoRow.holds Try.pinned (OpenSpec.upto fnOrderSpec)

/-- 'laws.FnExactContainsSymbol', WHERE WHAT IT READS IS OF BULK AT MOST 1048576: true; the input reads as it did. -/
def fnExactContainsSymbolUptoRow : OpenClaim := { program := "ytaoabfhabejmgaa", sum := "6c699a326f3bb50f4118ee32a7545b3bec467fe15c9af1709d6274080128e125", func := "loop.example/g03210/laws.FnExactContainsSymbol", spec := "fnExactContainsSymbol", recurses := true, loops := true, apart := false, narrowed := true }
def FnExactContainsSymbolUptoSaid : Prop := fnExactContainsSymbolUptoRow.holds Try.pinned (OpenSpec.upto fnExactContainsSymbolSpec)

end Rows
end Go.Proofs.Ytaoabfhabejmgaa
