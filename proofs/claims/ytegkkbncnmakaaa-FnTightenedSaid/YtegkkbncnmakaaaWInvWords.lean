-- Cut by this session's program wip/tools/trimw.py out of what print.sh wrote for the seat: what the claim uses.
import Derived.Test.YtegkkbncnmakaaaWInv
import Derived.Test.YtegkkbncnmakaaaWFootNe
namespace Go.Proofs.YtegkkbncnmakaaaW.PrintWords
open Go.RowKit
end Go.Proofs.YtegkkbncnmakaaaW.PrintWords
namespace Go.Proofs.YtegkkbncnmakaaaW.PrintLast
section
variable {ops : Array Oper} {a : Act} {o og : Oper} {g : Nat} {t : Tmp} {u : Bool}
end
end Go.Proofs.YtegkkbncnmakaaaW.PrintLast
