-- Written by this session's program wip/tools/mk.py out of the translation; Lean checks it.
import Derived.Test.YtbjlnjaedikokaaProg
import Derived.Test.YtbjlnjaedikokaaAid
import Derived.Below
import Derived.Deep.Draws
import Derived.Deep.AppendLies
import Derived.Maps.AppendAt
import Derived.OwnWalk
import Derived.Laws.BytesArg
import Derived.Laws.MakeOwn
import Derived.Laws.OwnMore
import Derived.Deep.OwnRows
import Derived.Tactics
import Derived.Lib.ConvBytes
import Derived.Laws.Slices
import Derived.WalkKit
import Derived.KernelRfl
import Derived.RowKit3
import Derived.Deep.LoopGhost
import Derived.Deep.QuietTactic
import Derived.BigQuiet
import Derived.WideLaws
import Derived.Deep.DeepCutAuto
import Derived.Deep.CutBlock
import Derived.Deep.RegionHeld3
import Derived.Laws.Rows
import Derived.Lib.AppendStr
import Derived.ArgAppend
import Derived.Laws.IdiomCopy
import Derived.OrdersHeld
import Derived.Laws.BitsLemmas
import Derived.RowKit
import Derived.Shelf.SlicesQ.IndexFunc
import Derived.Lib.SliceRun
import Derived.Lib.Bytealg
import Derived.Shelf.Strings.Search1
import Derived.Test.YtbjlnjaedikokaaShelf
import Derived.Test.YtbjlnjaedikokaaWWords
import Derived.Test.YtbjlnjaedikokaaWLast
import Derived.Test.YtbjlnjaedikokaaWTab
import Derived.Test.YtbjlnjaedikokaaWFour
import Derived.Test.YtbjlnjaedikokaaWQPut
import Derived.Test.YtbjlnjaedikokaaWApart
import Derived.Test.YtbjlnjaedikokaaWArr
import Derived.Test.YtbjlnjaedikokaaWZeros
import Derived.Test.YtbjlnjaedikokaaWFoot
import Derived.Test.YtbjlnjaedikokaaWKept
import Derived.Test.YtbjlnjaedikokaaWShare
import Derived.Test.YtbjlnjaedikokaaWN
import Derived.Test.YtbjlnjaedikokaaWFootNe
import Derived.Test.YtbjlnjaedikokaaWAt
import Derived.Test.YtbjlnjaedikokaaWEqStruct
import Derived.Test.YtbjlnjaedikokaaWRepsOne
import Derived.Test.YtbjlnjaedikokaaWInv
import Derived.Test.YtbjlnjaedikokaaWInvWords
import Derived.Test.YtbjlnjaedikokaaWGuard
import Derived.Test.YtbjlnjaedikokaaWNEv
import Derived.Test.YtbjlnjaedikokaaWMore
namespace Go.Proofs.Ytbjlnjaedikokaa.QFnExactJoin
open Go.RowKit Go.Proofs.YtbjlnjaedikokaaW.PrintWords Go.Proofs.YtbjlnjaedikokaaW.PrintLast Go.Proofs.YtbjlnjaedikokaaW.PrintMore
attribute [local go_sem] max2_int min2_int max_two min_two max_three min_three max_four min_four   -- for this text's walks alone
set_option linter.unusedVariables false
set_option linter.unusedSimpArgs false



def errW : Option Int → Value
  | none => .nilIface
  | some c => .iface 0 (.int .i64 c)
theorem errW_none : errW none = .nilIface := rfl
theorem errW_some (c : Int) : errW (some c) = .iface 0 (.int .i64 c) := rfl

theorem info9 : (Try.prog.info? 9).map (fun i => (i.zero, i.size, i.bytes)) = some (some (.string ⟨#[]⟩), 1, 16) := by kernel_rfl
-- the values' own types

end Go.Proofs.Ytbjlnjaedikokaa.QFnExactJoin
