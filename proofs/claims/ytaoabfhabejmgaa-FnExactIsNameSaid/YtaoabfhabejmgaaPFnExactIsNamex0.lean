-- PRINTED BY print.sh 35421559b90ae4d0a3588c463048766b98c2df88dd9212a6774a882060cdf62d: not written by this session
import Derived.Test.YtaoabfhabejmgaaProg
import Derived.Below
import Derived.Deep.Draws
import Derived.Deep.AppendLies
import Derived.Maps.AppendAt
import Derived.OwnWalk
import Derived.Laws.BytesArg
import Derived.Laws.MakeOwn
import Derived.Laws.OwnMore
import Derived.Deep.OwnRows
import Derived.Tactics
import Derived.Lib.ConvBytes
import Derived.Laws.Slices
import Derived.WalkKit
import Derived.KernelRfl
import Derived.RowKit3
import Derived.Deep.LoopGhost
import Derived.Deep.QuietTactic
import Derived.BigQuiet
import Derived.WideLaws
import Derived.Deep.DeepCutAuto
import Derived.Deep.CutBlock
import Derived.Deep.RegionHeld3
import Derived.Laws.Rows
import Derived.Lib.AppendStr
import Derived.ArgAppend
import Derived.Laws.IdiomCopy
import Derived.OrdersHeld
import Derived.Laws.BitsLemmas
import Derived.RowKit
import Derived.Test.YtaoabfhabejmgaaWWords
import Derived.Test.YtaoabfhabejmgaaWLast
import Derived.Test.YtaoabfhabejmgaaWTab
import Derived.Test.YtaoabfhabejmgaaWFour
import Derived.Test.YtaoabfhabejmgaaWQPut
import Derived.Test.YtaoabfhabejmgaaWApart
import Derived.Test.YtaoabfhabejmgaaWArr
import Derived.Test.YtaoabfhabejmgaaWZeros
import Derived.Test.YtaoabfhabejmgaaWFoot
import Derived.Test.YtaoabfhabejmgaaWKept
import Derived.Test.YtaoabfhabejmgaaWShare
import Derived.Test.YtaoabfhabejmgaaWN
import Derived.Test.YtaoabfhabejmgaaWFootNe
import Derived.Test.YtaoabfhabejmgaaWAt
import Derived.Test.YtaoabfhabejmgaaWEqStruct
import Derived.Test.YtaoabfhabejmgaaWRepsOne
import Derived.Test.YtaoabfhabejmgaaWInv
import Derived.Test.YtaoabfhabejmgaaWInvWords
import Derived.Test.YtaoabfhabejmgaaWGuard
import Derived.Test.YtaoabfhabejmgaaWNEv
import Derived.Test.YtaoabfhabejmgaaWMore
namespace Go.Proofs.Ytaoabfhabejmgaa.PFnExactIsName
open Go.RowKit Go.Proofs.YtaoabfhabejmgaaW.PrintWords Go.Proofs.YtaoabfhabejmgaaW.PrintLast Go.Proofs.YtaoabfhabejmgaaW.PrintMore
attribute [local go_sem] max2_int min2_int max_two min_two max_three min_three max_four min_four   -- for this text's walks alone
set_option linter.unusedVariables false
set_option linter.unusedSimpArgs false



def errW : Option Int → Value
  | none => .nilIface
  | some c => .iface 0 (.int .i64 c)
theorem errW_none : errW none = .nilIface := rfl
theorem errW_some (c : Int) : errW (some c) = .iface 0 (.int .i64 c) := rfl

-- the values' own types

end Go.Proofs.Ytaoabfhabejmgaa.PFnExactIsName
