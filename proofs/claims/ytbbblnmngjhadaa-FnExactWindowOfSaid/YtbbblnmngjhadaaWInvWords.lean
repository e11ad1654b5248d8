-- Cut by this session's program wip/tools/trimw.py out of what print.sh wrote for the seat: what the claim uses.
import Derived.Test.YtbbblnmngjhadaaWInv
import Derived.Test.YtbbblnmngjhadaaWFootNe
namespace Go.Proofs.YtbbblnmngjhadaaW.PrintWords
open Go.RowKit
end Go.Proofs.YtbbblnmngjhadaaW.PrintWords
namespace Go.Proofs.YtbbblnmngjhadaaW.PrintLast
section
variable {ops : Array Oper} {a : Act} {o og : Oper} {g : Nat} {t : Tmp} {u : Bool}
end
end Go.Proofs.YtbbblnmngjhadaaW.PrintLast
