-- Cut by this session's program wip/tools/trimw.py out of what print.sh wrote for the seat: what the claim uses.
import Derived.Test.YtolecnichpnhnaaWWords
import Derived.Laws.StructEq
/-! ### 53. '==' of structs as_ one Bool -/
namespace Go.Proofs.YtolecnichpnhnaaW.PrintWords
open Go.RowKit
section
variable {P : Program} {d : Nat} {xs ys : Array Value} {f : Field} {fs : List Field} {a b : Value} {r s : Bool} {w : World}
end
end Go.Proofs.YtolecnichpnhnaaW.PrintWords
