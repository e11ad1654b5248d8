-- Written by this session's program wip/tools/mk.py out of the translation; Lean checks it.
import Derived.Test.YtbjlnjaedikokaaDoorProg
import Derived.Test.YtbjlnjaedikokaaDoorAid
import Derived.Below
import Derived.Deep.Draws
import Derived.Deep.AppendLies
import Derived.Maps.AppendAt
import Derived.OwnWalk
import Derived.Laws.BytesArg
import Derived.Laws.MakeOwn
import Derived.Laws.OwnMore
import Derived.Deep.OwnRows
import Derived.Tactics
import Derived.Lib.ConvBytes
import Derived.Laws.Slices
import Derived.WalkKit
import Derived.KernelRfl
import Derived.RowKit3
import Derived.Deep.LoopGhost
import Derived.Deep.QuietTactic
import Derived.BigQuiet
import Derived.WideLaws
import Derived.Deep.DeepCutAuto
import Derived.Deep.CutBlock
import Derived.Deep.RegionHeld3
import Derived.Laws.Rows
import Derived.Lib.AppendStr
import Derived.ArgAppend
import Derived.Laws.IdiomCopy
import Derived.OrdersHeld
import Derived.Laws.BitsLemmas
import Derived.RowKit
import Derived.Shelf.SlicesQ.IndexFunc
import Derived.Laws.CopyOwn
import Derived.Deep.RegionLaw
import Derived.Lib.SliceRun
import Derived.Lib.Strings
import Derived.Lib.Bytealg
import Derived.Shelf.Strings.Search1
import Derived.Test.YtbjlnjaedikokaaDoorTbC
import Derived.Test.YtbjlnjaedikokaaDoorWWords
import Derived.Test.YtbjlnjaedikokaaDoorWLast
import Derived.Test.YtbjlnjaedikokaaDoorWTab
import Derived.Test.YtbjlnjaedikokaaDoorWFour
import Derived.Test.YtbjlnjaedikokaaDoorWQPut
import Derived.Test.YtbjlnjaedikokaaDoorWApart
import Derived.Test.YtbjlnjaedikokaaDoorWArr
import Derived.Test.YtbjlnjaedikokaaDoorWZeros
import Derived.Test.YtbjlnjaedikokaaDoorWFoot
import Derived.Test.YtbjlnjaedikokaaDoorWKept
import Derived.Test.YtbjlnjaedikokaaDoorWShare
import Derived.Test.YtbjlnjaedikokaaDoorWN
import Derived.Test.YtbjlnjaedikokaaDoorWFootNe
import Derived.Test.YtbjlnjaedikokaaDoorWAt
import Derived.Test.YtbjlnjaedikokaaDoorWEqStruct
import Derived.Test.YtbjlnjaedikokaaDoorWRepsOne
import Derived.Test.YtbjlnjaedikokaaDoorWInv
import Derived.Test.YtbjlnjaedikokaaDoorWInvWords
import Derived.Test.YtbjlnjaedikokaaDoorWGuard
import Derived.Test.YtbjlnjaedikokaaDoorWNEv
import Derived.Test.YtbjlnjaedikokaaDoorWMore
namespace Go.Proofs.YtbjlnjaedikokaaDoor.QFnIntervals
open Go.RowKit Go.Proofs.YtbjlnjaedikokaaDoorW.PrintWords Go.Proofs.YtbjlnjaedikokaaDoorW.PrintLast Go.Proofs.YtbjlnjaedikokaaDoorW.PrintMore
attribute [local go_sem] max2_int min2_int max_two min_two max_three min_three max_four min_four   -- for this text's walks alone
set_option linter.unusedVariables false
set_option linter.unusedSimpArgs false



def errW : Option Int → Value
  | none => .nilIface
  | some c => .iface 0 (.int .i64 c)
theorem errW_none : errW none = .nilIface := rfl
theorem errW_some (c : Int) : errW (some c) = .iface 0 (.int .i64 c) := rfl

-- the values' own types

end Go.Proofs.YtbjlnjaedikokaaDoor.QFnIntervals
