-- Written by this session's program wip/tools/mk.py out of the translation; Lean checks it.
import Derived.Test.YtdcdikajefekkaaProg
import Derived.Test.YtdcdikajefekkaaAid
import Derived.Below
import Derived.Deep.Draws
import Derived.Deep.AppendLies
import Derived.Maps.AppendAt
import Derived.OwnWalk
import Derived.Laws.BytesArg
import Derived.Laws.MakeOwn
import Derived.Laws.OwnMore
import Derived.Deep.OwnRows
import Derived.Tactics
import Derived.Lib.ConvBytes
import Derived.Laws.Slices
import Derived.WalkKit
import Derived.KernelRfl
import Derived.RowKit3
import Derived.Deep.LoopGhost
import Derived.Deep.QuietTactic
import Derived.BigQuiet
import Derived.WideLaws
import Derived.Deep.DeepCutAuto
import Derived.Deep.CutBlock
import Derived.Deep.RegionHeld3
import Derived.Laws.Rows
import Derived.Lib.AppendStr
import Derived.ArgAppend
import Derived.Laws.IdiomCopy
import Derived.OrdersHeld
import Derived.Laws.BitsLemmas
import Derived.RowKit
import Derived.Test.YtdcdikajefekkaaWWords
import Derived.Test.YtdcdikajefekkaaWLast
import Derived.Test.YtdcdikajefekkaaWTab
import Derived.Test.YtdcdikajefekkaaWFour
import Derived.Test.YtdcdikajefekkaaWQPut
import Derived.Test.YtdcdikajefekkaaWApart
import Derived.Test.YtdcdikajefekkaaWArr
import Derived.Test.YtdcdikajefekkaaWZeros
import Derived.Test.YtdcdikajefekkaaWFoot
import Derived.Test.YtdcdikajefekkaaWKept
import Derived.Test.YtdcdikajefekkaaWShare
import Derived.Test.YtdcdikajefekkaaWN
import Derived.Test.YtdcdikajefekkaaWFootNe
import Derived.Test.YtdcdikajefekkaaWAt
import Derived.Test.YtdcdikajefekkaaWEqStruct
import Derived.Test.YtdcdikajefekkaaWRepsOne
import Derived.Test.YtdcdikajefekkaaWInv
import Derived.Test.YtdcdikajefekkaaWInvWords
import Derived.Test.YtdcdikajefekkaaWGuard
import Derived.Test.YtdcdikajefekkaaWNEv
import Derived.Test.YtdcdikajefekkaaWMore
namespace Go.Proofs.Ytdcdikajefekkaa.QFnExactIsDigits
open Go.RowKit Go.Proofs.YtdcdikajefekkaaW.PrintWords Go.Proofs.YtdcdikajefekkaaW.PrintLast Go.Proofs.YtdcdikajefekkaaW.PrintMore
attribute [local go_sem] max2_int min2_int max_two min_two max_three min_three max_four min_four   -- for this text's walks alone
set_option linter.unusedVariables false
set_option linter.unusedSimpArgs false



def errW : Option Int → Value
  | none => .nilIface
  | some c => .iface 0 (.int .i64 c)
theorem errW_none : errW none = .nilIface := rfl
theorem errW_some (c : Int) : errW (some c) = .iface 0 (.int .i64 c) := rfl

-- the values' own types

end Go.Proofs.Ytdcdikajefekkaa.QFnExactIsDigits
