/- What holds of the whole program: the facts that every row asks, each shown once. -/
import Derived.Test.YtpfooiepmnaoaaaProg
import Derived.Test.YtpfooiepmnaoaaaRows
import Derived.WalkKit
import Derived.ProofKit
import Derived.Carry
namespace Go.Proofs.Ytpfooiepmnaoaaa.Ent
open Go.ChangeShapes Go.WideShapes Go.ChangeAt Go.RowKit
theorem laidOut : laidOutB Try.prog = true := by kernel_rfl
theorem rowed : mapsRowed Try.prog = true := by kernel_rfl
theorem stops : (Try.prog.stops == []) = true := by kernel_rfl
theorem stopKnobs : (Try.prog.stopKnobs == []) = true := by kernel_rfl
theorem plainKeys : Try.prog.plainKeys = true := by kernel_rfl
theorem stopsHeard : Try.prog.stopsHeard = true := by kernel_rfl
theorem later : Try.prog.laysLater = false := by kernel_rfl
theorem reflect : Try.prog.bearsReflect = false := by kernel_rfl
theorem doors : Try.prog.doorRows = [] := by kernel_rfl
theorem word : Try.prog.initOrder = "harness c38527b268a383e3f742e0769e2de976e9720d16bee0c6eb28a6e75d3de07a04 cut at loop.example/g03210/laws.FnExactVarBound loop.example/g03210/laws.FnExactOrderedVars loop.example/g03210/laws.FnExactSubstOk loop.example/g03210/laws.FnExactCompareDisequalities loop.example/g03210/laws.FnExactItemsOf loop.example/g03210/laws.FnExactListTerm loop.example/g03210/laws.FnExactNewState loop.example/g03210/laws.FnExactTermVars loop.example/g03210/laws.FnExactReplaceVar loop.example/g03210/laws.FnExactLookup loop.example/g03210/laws.FnExactShiftTerm loop.example/g03210/laws.FnTerms" := by kernel_rfl
/-- The signs of the word that the program was made by. -/
def codes : List Nat := [104, 97, 114, 110, 101, 115, 115, 32, 99, 51, 56, 53, 50, 55, 98, 50, 54, 56, 97, 51, 56, 51, 101, 51, 102, 55, 52, 50, 101, 48, 55, 54, 57, 101, 50, 100, 101, 57, 55, 54, 101, 57, 55, 50, 48, 100, 49, 54, 98, 101, 101, 48, 99, 54, 101, 98, 50, 56, 97, 54, 101, 55, 53, 100, 51, 100, 101, 48, 55, 97, 48, 52, 32, 99, 117, 116, 32, 97, 116, 32, 108, 111, 111, 112, 46, 101, 120, 97, 109, 112, 108, 101, 47, 103, 48, 51, 50, 49, 48, 47, 108, 97, 119, 115, 46, 70, 110, 69, 120, 97, 99, 116, 86, 97, 114, 66, 111, 117, 110, 100, 32, 108, 111, 111, 112, 46, 101, 120, 97, 109, 112, 108, 101, 47, 103, 48, 51, 50, 49, 48, 47, 108, 97, 119, 115, 46, 70, 110, 69, 120, 97, 99, 116, 79, 114, 100, 101, 114, 101, 100, 86, 97, 114, 115, 32, 108, 111, 111, 112, 46, 101, 120, 97, 109, 112, 108, 101, 47, 103, 48, 51, 50, 49, 48, 47, 108, 97, 119, 115, 46, 70, 110, 69, 120, 97, 99, 116, 83, 117, 98, 115, 116, 79, 107, 32, 108, 111, 111, 112, 46, 101, 120, 97, 109, 112, 108, 101, 47, 103, 48, 51, 50, 49, 48, 47, 108, 97, 119, 115, 46, 70, 110, 69, 120, 97, 99, 116, 67, 111, 109, 112, 97, 114, 101, 68, 105, 115, 101, 113, 117, 97, 108, 105, 116, 105, 101, 115, 32, 108, 111, 111, 112, 46, 101, 120, 97, 109, 112, 108, 101, 47, 103, 48, 51, 50, 49, 48, 47, 108, 97, 119, 115, 46, 70, 110, 69, 120, 97, 99, 116, 73, 116, 101, 109, 115, 79, 102, 32, 108, 111, 111, 112, 46, 101, 120, 97, 109, 112, 108, 101, 47, 103, 48, 51, 50, 49, 48, 47, 108, 97, 119, 115, 46, 70, 110, 69, 120, 97, 99, 116, 76, 105, 115, 116, 84, 101, 114, 109, 32, 108, 111, 111, 112, 46, 101, 120, 97, 109, 112, 108, 101, 47, 103, 48, 51, 50, 49, 48, 47, 108, 97, 119, 115, 46, 70, 110, 69, 120, 97, 99, 116, 78, 101, 119, 83, 116, 97, 116, 101, 32, 108, 111, 111, 112, 46, 101, 120, 97, 109, 112, 108, 101, 47, 103, 48, 51, 50, 49, 48, 47, 108, 97, 119, 115, 46, 70, 110, 69, 120, 97, 99, 116, 84, 101, 114, 109, 86, 97, 114, 115, 32, 108, 111, 111, 112, 46, 101, 120, 97, 109, 112, 108, 101, 47, 103, 48, 51, 50, 49, 48, 47, 108, 97, 119, 115, 46, 70, 110, 69, 120, 97, 99, 116, 82, 101, 112, 108, 97, 99, 101, 86, 97, 114, 32, 108, 111, 111, 112, 46, 101, 120, 97, 109, 112, 108, 101, 47, 103, 48, 51, 50, 49, 48, 47, 108, 97, 119, 115, 46, 70, 110, 69, 120, 97, 99, 116, 76, 111, 111, 107, 117, 112, 32, 108, 111, 111, 112, 46, 101, 120, 97, 109, 112, 108, 101, 47, 103, 48, 51, 50, 49, 48, 47, 108, 97, 119, 115, 46, 70, 110, 69, 120, 97, 99, 116, 83, 104, 105, 102, 116, 84, 101, 114, 109, 32, 108, 111, 111, 112, 46, 101, 120, 97, 109, 112, 108, 101, 47, 103, 48, 51, 50, 49, 48, 47, 108, 97, 119, 115, 46, 70, 110, 84, 101, 114, 109, 115]
theorem opening : "harness c38527b268a383e3f742e0769e2de976e9720d16bee0c6eb28a6e75d3de07a04 cut at loop.example/g03210/laws.FnExactVarBound loop.example/g03210/laws.FnExactOrderedVars loop.example/g03210/laws.FnExactSubstOk loop.example/g03210/laws.FnExactCompareDisequalities loop.example/g03210/laws.FnExactItemsOf loop.example/g03210/laws.FnExactListTerm loop.example/g03210/laws.FnExactNewState loop.example/g03210/laws.FnExactTermVars loop.example/g03210/laws.FnExactReplaceVar loop.example/g03210/laws.FnExactLookup loop.example/g03210/laws.FnExactShiftTerm loop.example/g03210/laws.FnTerms" = String.ofList (codes.map Char.ofNat) := by kernel_rfl
theorem signs : Try.prog.initOrder.toList = codes.map Char.ofNat := by rw [word, opening]; exact String.toList_ofList
/-- The word that says how the program was made. -/
def cutWord : List Char := [Char.ofNat 99, Char.ofNat 117, Char.ofNat 116]
theorem cutFirst : behindMainWord (wordsSigns (codes.map Char.ofNat)) = cutWord :: (behindMainWord (wordsSigns (codes.map Char.ofNat))).tail := by kernel_rfl
theorem strip (r : List (List Char)) : stripLifts liftWords (cutWord :: r) = ([], cutWord :: r) := by kernel_rfl
theorem enters_of {P : Program} {l : List Char} {r : List (List Char)} (h : P.initOrder.toList = l) (hw : behindMainWord (wordsSigns l) = cutWord :: r) (h1 : P.laysLater = false) (h2 : P.bearsReflect = false) (h3 : P.doorRows = []) : P.mayEnter = true := by
  unfold Program.mayEnter Program.doorFits
  rw [h, hw, h1, h2, h3]
  simp only [strip]
  kernel_rfl
theorem finals_of {P : Program} {l : List Char} {r : List (List Char)} (h : P.initOrder.toList = l) (hw : behindMainWord (wordsSigns l) = cutWord :: r) : P.liftsFinal = false := by
  unfold Program.liftsFinal Program.headLifts
  rw [h, hw]
  simp only [strip]
  kernel_rfl
theorem made_of {P : Program} {l : List Char} {r : List (List Char)} (h : P.initOrder.toList = l) (hw : behindMainWord (wordsSigns l) = cutWord :: r) : P.make = some .cut := by
  unfold Program.make Program.headLifts
  rw [h, hw]
  simp only [strip]
  kernel_rfl
theorem enters : Try.prog.mayEnter = true := enters_of signs cutFirst later reflect doors
theorem finals : Try.prog.liftsFinal = false := finals_of signs cutFirst
theorem made : Try.prog.make = some .cut := made_of signs cutFirst
/-- The facts that a row asks of a program, out of the program's own and the function's. -/
theorem closed_of {P : Program} {f : FuncId} {fn : Func} {s : ChangeSpec} {c : OpenClaim} (a1 : laidOutB P = true) (a2 : mapsRowed P = true) (a3 : (P.stops == []) = true) (a4 : (P.stopKnobs == []) = true) (a5 : P.plainKeys = true) (a6 : P.stopsHeard = true) (a7 : P.mayEnter = true) (a8 : P.liftsFinal = false) (a9 : P.make = some .cut)
    (b1 : c.wf (OpenSpec.ofChange s) = true) (b2 : fn.params.all (P.readableRec ·) = true) (b3 : namedTie P c.named s.vars = true) (b4 : (c.stops == []) = true) (b5 : (c.knobs == []) = true) (b6 : (c.inPlace == P.inPlace f) = true) (b7 : (c.unfollowed == P.unfollowed f) = true) (b8 : (c.recurses == P.recurses f) = true) (b9 : (c.named == P.varsNamed f) = true)
    (b10 : (c.maps == (fn.params.toList ++ s.plain.varTypes P).any (P.mapsRec ·)) = true) (b11 : (c.ifaces == (fn.params.toList ++ s.plain.varTypes P).any (P.ifacesRec ·)) = true) (b12 : (c.mapsOut == P.mapsAmong fn.resultTypes.toList) = true)
    (b13 : (c.loops == (fn.params.toList ++ s.plain.varTypes P).any (P.loopsFrom ·)) = true) (b14 : (c.wideKeys == (fn.params.toList ++ s.plain.varTypes P ++ fn.resultTypes.toList).any (P.wideKeysFrom ·)) = true)
    (b15 : s.vars.all (P.varReadable ·) = true) (b16 : fn.resultTypes.all (fun t => P.readableRec t && decide (t < P.types.size)) = true) (b17 : (c.ifacesOut == fn.resultTypes.toList.any (P.ifacesRec ·)) = true) (b18 : (c.loopsOut == fn.resultTypes.toList.any (P.loopsFrom ·)) = true) (b19 : (c.plainKeys == true) = true) (b20 : c.shortTexts.isNone = true) (b21 : (c.lifted == false) = true) (b22 : (some Make.cut == some c.make) = true)
    (b23 : (c.kinds == (if c.domain.isEmpty then [] else fn.params.toList.map fun t => match P.underlying t with | some (.int k) => some k | _ => none)) = true) (b24 : (c.pinned == c.pinnedBy) = true)
    (b25 : (c.veiled == (fn.params.toList ++ s.plain.varTypes P ++ fn.resultTypes.toList).any (P.veiledRec ·)) = true) (b26 : c.veiledFits P fn.params.toList (fn.params.toList ++ s.plain.varTypes P ++ fn.resultTypes.toList) = true) : joinedFacts P f fn s c = true := by
  unfold joinedFacts
  rw [a1, a2, a3, a4, a5, a6, a7, a8, a9, b1, b2, b3, b4, b5, b6, b7, b8, b9, b10, b11, b12, b13, b14, b15, b16, b17, b18, b19, b20, b21, b22]
  simp only [Bool.true_and, Bool.and_eq_true]
  exact ⟨⟨⟨b23, b24⟩, b25⟩, b26⟩
end Go.Proofs.Ytpfooiepmnaoaaa.Ent
