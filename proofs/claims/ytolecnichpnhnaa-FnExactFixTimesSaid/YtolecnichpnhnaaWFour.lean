-- Cut by this session's program wip/tools/trimw.py out of what print.sh wrote for the seat: what the claim uses.
import Derived.Test.YtolecnichpnhnaaWTab
/-! ### 56. Four, five, six operations that may come up next, in any order -/
namespace Go.Proofs.YtolecnichpnhnaaW.PrintLast
section
variable {P : Program} {ops : Array Oper} {Q : Exit → Act → World → Prop} {md : Region.Mode} {S : World → Prop} {ds : List Nat} {T : Bool × List (List Nat × List Nat)}
end
end Go.Proofs.YtolecnichpnhnaaW.PrintLast
