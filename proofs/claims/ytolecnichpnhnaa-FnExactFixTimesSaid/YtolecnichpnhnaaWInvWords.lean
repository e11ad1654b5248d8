-- Cut by this session's program wip/tools/trimw.py out of what print.sh wrote for the seat: what the claim uses.
import Derived.Test.YtolecnichpnhnaaWInv
import Derived.Test.YtolecnichpnhnaaWFootNe
namespace Go.Proofs.YtolecnichpnhnaaW.PrintWords
open Go.RowKit
end Go.Proofs.YtolecnichpnhnaaW.PrintWords
namespace Go.Proofs.YtolecnichpnhnaaW.PrintLast
section
variable {ops : Array Oper} {a : Act} {o og : Oper} {g : Nat} {t : Tmp} {u : Bool}
end
end Go.Proofs.YtolecnichpnhnaaW.PrintLast
