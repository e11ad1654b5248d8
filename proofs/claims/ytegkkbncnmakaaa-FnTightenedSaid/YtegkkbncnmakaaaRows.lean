/-
  No cell of these rows narrows 'for every input' (looked for: loops, veiled, ifaces, maps, wideKeys, modest, calm, conditions, laid).
  DERIVED. THE GIVEN ROWS OF THIS SEAT. 12 by the template 'for every input the law returns true; each argument reads behind the call as it read before'; 0 by the template 'total and deterministic' (their statements: YtegkkbncnmakaaaTotals.lean).
  GIVEN WITH THE SEED: the statements are not yours to turn. If you find one false, say at which input.
  Laid BY PROGRAM, IN A SANDBOX (cutbox-rows.mjs): the forced cells as the released guide's own fill.sh prints them over the translation 794572f1eaeaa634… (all of the seat's roots in one cut). By AI agents, Wed Nov 11 2026. No macro, syntax, notation, axiom, sorry.
-/
import Derived.Test.YtegkkbncnmakaaaChecked
import GoSem.Claim
import GoSem.ClaimJoined
import GoSem.ClaimMapViews
import Derived.JoinedTies
import Derived.KernelRfl
namespace Go.Proofs.Ytegkkbncnmakaaa
/- THE CELL 'sum', in the pinned program and in every row, IS THE sha256 OF THE DUMP (.gsa) THAT YtegkkbncnmakaaaProg.lean LOADS. Nothing in Lean hashes anything: it is a label: what it is worth is what the hold of that sum in a sandbox is worth. -/
noncomputable def Try.pinned : Pinned := { name := "ytegkkbncnmakaaa", sum := "794572f1eaeaa6341e87e7925872d32ba983fd6db0dd7cc8fad2260431005d9b", checked := Try.checked }
namespace Rows
def none {H : Type} : Left H := { results := [], args := [] }

/-- 'laws.FnTightened': WHATEVER THE INPUT: true; the input reads as it did. -/
def fnTightenedSpec : ChangeSpec := { name := "fnTightened", fn := fun _ => fun
  | [d] => { results := [.lit (.bool true)], args := [d] }
  | _ => none }
def fnTightenedRow : OpenClaim := { program := "ytegkkbncnmakaaa", sum := "794572f1eaeaa6341e87e7925872d32ba983fd6db0dd7cc8fad2260431005d9b", func := "loop.example/g00827/laws.FnTightened", spec := "fnTightened", unfollowed := true, recurses := true, apart := false }
def FnTightenedSaid : Prop := fnTightenedRow.holds Try.pinned (OpenSpec.ofChange fnTightenedSpec)

/-- ITS FALSE NEIGHBOUR: 'it returns false'. Refute it at one input. -/
def fnTightenedWrong : ChangeSpec := { name := "fnTightened", fn := fun _ => fun
  | [d] => { results := [.lit (.bool false)], args := [d] }
  | _ => none }
def FnTightenedWrongFalsely : Prop := fnTightenedRow.holds Try.pinned (OpenSpec.ofChange fnTightenedWrong)

/-- 'laws.FnExactTableOk': WHATEVER THE INPUT: true; the input reads as it did. -/
def fnExactTableOkSpec : ChangeSpec := { name := "fnExactTableOk", fn := fun _ => fun
  | [d] => { results := [.lit (.bool true)], args := [d] }
  | _ => none }
def fnExactTableOkRow : OpenClaim := { program := "ytegkkbncnmakaaa", sum := "794572f1eaeaa6341e87e7925872d32ba983fd6db0dd7cc8fad2260431005d9b", func := "loop.example/g00827/laws.FnExactTableOk", spec := "fnExactTableOk", apart := false }
def FnExactTableOkSaid : Prop := fnExactTableOkRow.holds Try.pinned (OpenSpec.ofChange fnExactTableOkSpec)

/-- ITS FALSE NEIGHBOUR: 'it returns false'. Refute it at one input. -/
def fnExactTableOkWrong : ChangeSpec := { name := "fnExactTableOk", fn := fun _ => fun
  | [d] => { results := [.lit (.bool false)], args := [d] }
  | _ => none }
def FnExactTableOkWrongFalsely : Prop := fnExactTableOkRow.holds Try.pinned (OpenSpec.ofChange fnExactTableOkWrong)

/-- 'laws.FnExactCellOf': WHATEVER THE INPUT: true; the input reads as it did. -/
def fnExactCellOfSpec : ChangeSpec := { name := "fnExactCellOf", fn := fun _ => fun
  | [d1, d2, d3] => { results := [.lit (.bool true)], args := [d1, d2, d3] }
  | _ => none }
def fnExactCellOfRow : OpenClaim := { program := "ytegkkbncnmakaaa", sum := "794572f1eaeaa6341e87e7925872d32ba983fd6db0dd7cc8fad2260431005d9b", func := "loop.example/g00827/laws.FnExactCellOf", spec := "fnExactCellOf", apart := false }
def FnExactCellOfSaid : Prop := fnExactCellOfRow.holds Try.pinned (OpenSpec.ofChange fnExactCellOfSpec)

/-- ITS FALSE NEIGHBOUR: 'it returns false'. Refute it at one input. -/
def fnExactCellOfWrong : ChangeSpec := { name := "fnExactCellOf", fn := fun _ => fun
  | [d1, d2, d3] => { results := [.lit (.bool false)], args := [d1, d2, d3] }
  | _ => none }
def FnExactCellOfWrongFalsely : Prop := fnExactCellOfRow.holds Try.pinned (OpenSpec.ofChange fnExactCellOfWrong)

/-- 'laws.FnExactGraphOk': WHATEVER THE INPUT: true; the input reads as it did. -/
def fnExactGraphOkSpec : ChangeSpec := { name := "fnExactGraphOk", fn := fun _ => fun
  | [d] => { results := [.lit (.bool true)], args := [d] }
  | _ => none }
def fnExactGraphOkRow : OpenClaim := { program := "ytegkkbncnmakaaa", sum := "794572f1eaeaa6341e87e7925872d32ba983fd6db0dd7cc8fad2260431005d9b", func := "loop.example/g00827/laws.FnExactGraphOk", spec := "fnExactGraphOk", unfollowed := true, recurses := true, apart := false }
def FnExactGraphOkSaid : Prop := fnExactGraphOkRow.holds Try.pinned (OpenSpec.ofChange fnExactGraphOkSpec)

/-- ITS FALSE NEIGHBOUR: 'it returns false'. Refute it at one input. -/
def fnExactGraphOkWrong : ChangeSpec := { name := "fnExactGraphOk", fn := fun _ => fun
  | [d] => { results := [.lit (.bool false)], args := [d] }
  | _ => none }
def FnExactGraphOkWrongFalsely : Prop := fnExactGraphOkRow.holds Try.pinned (OpenSpec.ofChange fnExactGraphOkWrong)

/-- 'laws.FnExactWindowBetween': WHATEVER THE INPUT: true; the input reads as it did. -/
def fnExactWindowBetweenSpec : ChangeSpec := { name := "fnExactWindowBetween", fn := fun _ => fun
  | [d1, d2, d3] => { results := [.lit (.bool true)], args := [d1, d2, d3] }
  | _ => none }
def fnExactWindowBetweenRow : OpenClaim := { program := "ytegkkbncnmakaaa", sum := "794572f1eaeaa6341e87e7925872d32ba983fd6db0dd7cc8fad2260431005d9b", func := "loop.example/g00827/laws.FnExactWindowBetween", spec := "fnExactWindowBetween", apart := false }
def FnExactWindowBetweenSaid : Prop := fnExactWindowBetweenRow.holds Try.pinned (OpenSpec.ofChange fnExactWindowBetweenSpec)

/-- ITS FALSE NEIGHBOUR: 'it returns false'. Refute it at one input. -/
def fnExactWindowBetweenWrong : ChangeSpec := { name := "fnExactWindowBetween", fn := fun _ => fun
  | [d1, d2, d3] => { results := [.lit (.bool false)], args := [d1, d2, d3] }
  | _ => none }
def FnExactWindowBetweenWrongFalsely : Prop := fnExactWindowBetweenRow.holds Try.pinned (OpenSpec.ofChange fnExactWindowBetweenWrong)

/-- 'laws.FnExactIsClosed': WHATEVER THE INPUT: true; the input reads as it did. -/
def fnExactIsClosedSpec : ChangeSpec := { name := "fnExactIsClosed", fn := fun _ => fun
  | [d] => { results := [.lit (.bool true)], args := [d] }
  | _ => none }
def fnExactIsClosedRow : OpenClaim := { program := "ytegkkbncnmakaaa", sum := "794572f1eaeaa6341e87e7925872d32ba983fd6db0dd7cc8fad2260431005d9b", func := "loop.example/g00827/laws.FnExactIsClosed", spec := "fnExactIsClosed", apart := false }
def FnExactIsClosedSaid : Prop := fnExactIsClosedRow.holds Try.pinned (OpenSpec.ofChange fnExactIsClosedSpec)

/-- ITS FALSE NEIGHBOUR: 'it returns false'. Refute it at one input. -/
def fnExactIsClosedWrong : ChangeSpec := { name := "fnExactIsClosed", fn := fun _ => fun
  | [d] => { results := [.lit (.bool false)], args := [d] }
  | _ => none }
def FnExactIsClosedWrongFalsely : Prop := fnExactIsClosedRow.holds Try.pinned (OpenSpec.ofChange fnExactIsClosedWrong)

/-- 'laws.FnExactPathWeight': WHATEVER THE INPUT: true; the input reads as it did. -/
def fnExactPathWeightSpec : ChangeSpec := { name := "fnExactPathWeight", fn := fun _ => fun
  | [d1, d2] => { results := [.lit (.bool true)], args := [d1, d2] }
  | _ => none }
def fnExactPathWeightRow : OpenClaim := { program := "ytegkkbncnmakaaa", sum := "794572f1eaeaa6341e87e7925872d32ba983fd6db0dd7cc8fad2260431005d9b", func := "loop.example/g00827/laws.FnExactPathWeight", spec := "fnExactPathWeight", unfollowed := true, recurses := true, apart := false }
def FnExactPathWeightSaid : Prop := fnExactPathWeightRow.holds Try.pinned (OpenSpec.ofChange fnExactPathWeightSpec)

/-- ITS FALSE NEIGHBOUR: 'it returns false'. Refute it at one input. -/
def fnExactPathWeightWrong : ChangeSpec := { name := "fnExactPathWeight", fn := fun _ => fun
  | [d1, d2] => { results := [.lit (.bool false)], args := [d1, d2] }
  | _ => none }
def FnExactPathWeightWrongFalsely : Prop := fnExactPathWeightRow.holds Try.pinned (OpenSpec.ofChange fnExactPathWeightWrong)

/-- 'laws.FnExactIsNegativeCycle': WHATEVER THE INPUT: true; the input reads as it did. -/
def fnExactIsNegativeCycleSpec : ChangeSpec := { name := "fnExactIsNegativeCycle", fn := fun _ => fun
  | [d1, d2] => { results := [.lit (.bool true)], args := [d1, d2] }
  | _ => none }
def fnExactIsNegativeCycleRow : OpenClaim := { program := "ytegkkbncnmakaaa", sum := "794572f1eaeaa6341e87e7925872d32ba983fd6db0dd7cc8fad2260431005d9b", func := "loop.example/g00827/laws.FnExactIsNegativeCycle", spec := "fnExactIsNegativeCycle", unfollowed := true, recurses := true, apart := false }
def FnExactIsNegativeCycleSaid : Prop := fnExactIsNegativeCycleRow.holds Try.pinned (OpenSpec.ofChange fnExactIsNegativeCycleSpec)

/-- ITS FALSE NEIGHBOUR: 'it returns false'. Refute it at one input. -/
def fnExactIsNegativeCycleWrong : ChangeSpec := { name := "fnExactIsNegativeCycle", fn := fun _ => fun
  | [d1, d2] => { results := [.lit (.bool false)], args := [d1, d2] }
  | _ => none }
def FnExactIsNegativeCycleWrongFalsely : Prop := fnExactIsNegativeCycleRow.holds Try.pinned (OpenSpec.ofChange fnExactIsNegativeCycleWrong)

/-- 'laws.FnExactEdgesOf': WHATEVER THE INPUT: true; the input reads as it did. -/
def fnExactEdgesOfSpec : ChangeSpec := { name := "fnExactEdgesOf", fn := fun _ => fun
  | [d] => { results := [.lit (.bool true)], args := [d] }
  | _ => none }
def fnExactEdgesOfRow : OpenClaim := { program := "ytegkkbncnmakaaa", sum := "794572f1eaeaa6341e87e7925872d32ba983fd6db0dd7cc8fad2260431005d9b", func := "loop.example/g00827/laws.FnExactEdgesOf", spec := "fnExactEdgesOf", apart := false }
def FnExactEdgesOfSaid : Prop := fnExactEdgesOfRow.holds Try.pinned (OpenSpec.ofChange fnExactEdgesOfSpec)

/-- ITS FALSE NEIGHBOUR: 'it returns false'. Refute it at one input. -/
def fnExactEdgesOfWrong : ChangeSpec := { name := "fnExactEdgesOf", fn := fun _ => fun
  | [d] => { results := [.lit (.bool false)], args := [d] }
  | _ => none }
def FnExactEdgesOfWrongFalsely : Prop := fnExactEdgesOfRow.holds Try.pinned (OpenSpec.ofChange fnExactEdgesOfWrong)

/-- 'laws.FnExactTightenTable': WHATEVER THE INPUT: true; the input reads as it did. -/
def fnExactTightenTableSpec : ChangeSpec := { name := "fnExactTightenTable", fn := fun _ => fun
  | [d1, d2] => { results := [.lit (.bool true)], args := [d1, d2] }
  | _ => none }
def fnExactTightenTableRow : OpenClaim := { program := "ytegkkbncnmakaaa", sum := "794572f1eaeaa6341e87e7925872d32ba983fd6db0dd7cc8fad2260431005d9b", func := "loop.example/g00827/laws.FnExactTightenTable", spec := "fnExactTightenTable", apart := false }
def FnExactTightenTableSaid : Prop := fnExactTightenTableRow.holds Try.pinned (OpenSpec.ofChange fnExactTightenTableSpec)

/-- ITS FALSE NEIGHBOUR: 'it returns false'. Refute it at one input. -/
def fnExactTightenTableWrong : ChangeSpec := { name := "fnExactTightenTable", fn := fun _ => fun
  | [d1, d2] => { results := [.lit (.bool false)], args := [d1, d2] }
  | _ => none }
def FnExactTightenTableWrongFalsely : Prop := fnExactTightenTableRow.holds Try.pinned (OpenSpec.ofChange fnExactTightenTableWrong)

/-- 'laws.FnExactShortestFrom': WHATEVER THE INPUT: true; the input reads as it did. -/
def fnExactShortestFromSpec : ChangeSpec := { name := "fnExactShortestFrom", fn := fun _ => fun
  | [d1, d2] => { results := [.lit (.bool true)], args := [d1, d2] }
  | _ => none }
def fnExactShortestFromRow : OpenClaim := { program := "ytegkkbncnmakaaa", sum := "794572f1eaeaa6341e87e7925872d32ba983fd6db0dd7cc8fad2260431005d9b", func := "loop.example/g00827/laws.FnExactShortestFrom", spec := "fnExactShortestFrom", unfollowed := true, recurses := true, apart := false }
def FnExactShortestFromSaid : Prop := fnExactShortestFromRow.holds Try.pinned (OpenSpec.ofChange fnExactShortestFromSpec)

/-- ITS FALSE NEIGHBOUR: 'it returns false'. Refute it at one input. -/
def fnExactShortestFromWrong : ChangeSpec := { name := "fnExactShortestFrom", fn := fun _ => fun
  | [d1, d2] => { results := [.lit (.bool false)], args := [d1, d2] }
  | _ => none }
def FnExactShortestFromWrongFalsely : Prop := fnExactShortestFromRow.holds Try.pinned (OpenSpec.ofChange fnExactShortestFromWrong)

/-- 'laws.FnExactNegativeCycle': WHATEVER THE INPUT: true; the input reads as it did. -/
def fnExactNegativeCycleSpec : ChangeSpec := { name := "fnExactNegativeCycle", fn := fun _ => fun
  | [d] => { results := [.lit (.bool true)], args := [d] }
  | _ => none }
def fnExactNegativeCycleRow : OpenClaim := { program := "ytegkkbncnmakaaa", sum := "794572f1eaeaa6341e87e7925872d32ba983fd6db0dd7cc8fad2260431005d9b", func := "loop.example/g00827/laws.FnExactNegativeCycle", spec := "fnExactNegativeCycle", unfollowed := true, recurses := true, apart := false }
def FnExactNegativeCycleSaid : Prop := fnExactNegativeCycleRow.holds Try.pinned (OpenSpec.ofChange fnExactNegativeCycleSpec)

/-- ITS FALSE NEIGHBOUR: 'it returns false'. Refute it at one input. -/
def fnExactNegativeCycleWrong : ChangeSpec := { name := "fnExactNegativeCycle", fn := fun _ => fun
  | [d] => { results := [.lit (.bool false)], args := [d] }
  | _ => none }
def FnExactNegativeCycleWrongFalsely : Prop := fnExactNegativeCycleRow.holds Try.pinned (OpenSpec.ofChange fnExactNegativeCycleWrong)

/- THE SECOND FORM. 'bulk': how many values and letters a reading holds, each counted each time it is reached (what is shared counts as often as it is met; a slice's spare places count too). A statement '..UptoSaid' is the law's where the arguments, and the package variables that the reading takes, are together of bulk at most 1048576: NARROWER than '..Said'. Prove '..Said' where nothing that the law and all that it calls make is longer than what came in: it says more and counts as full. Else prove '..UptoSaid'. A law counts once. -/
mutual
def uptoBulk {H : Type} : DataW H → Nat
  | .lit (.string bytes) => bytes.length + 1
  | .lit _ => 1
  | .nil => 1
  | .ptr d => uptoBulk d + 1
  | .slice elems spare => uptoBulkAll elems + uptoBulkAll spare + 1
  | .agg parts => uptoBulkAll parts + 1
  | .iface _ d => uptoBulk d + 1
  | .map entries => uptoBulkEntries entries + 1
  | .held _ => 1
def uptoBulkAll {H : Type} : List (DataW H) → Nat
  | [] => 0
  | d :: r => uptoBulk d + uptoBulkAll r
def uptoBulkEntries {H : Type} : List (Lit × DataW H) → Nat
  | [] => 0
  | x :: r => uptoBulkEntry x + uptoBulkEntries r
def uptoBulkEntry {H : Type} : Lit × DataW H → Nat
  | (.string bytes, d) => bytes.length + uptoBulk d + 1
  | (_, d) => uptoBulk d + 1
 end
def uptoSmall : (H : Type) → List (DataW H) → Bool := fun _ ds => decide (uptoBulkAll ds ≤ 1048576)
def OpenSpec.upto (s : _root_.Go.ChangeSpec) : _root_.Go.OpenSpec := { _root_.Go.OpenSpec.ofChange s with cond := some uptoSmall }

/-- 'laws.FnTightened', WHERE WHAT IT READS IS OF BULK AT MOST 1048576: true; the input reads as it did. -/
def fnTightenedUptoRow : OpenClaim := { program := "ytegkkbncnmakaaa", sum := "794572f1eaeaa6341e87e7925872d32ba983fd6db0dd7cc8fad2260431005d9b", func := "loop.example/g00827/laws.FnTightened", spec := "fnTightened", unfollowed := true, recurses := true, apart := false, narrowed := true }
def FnTightenedUptoSaid : Prop := fnTightenedUptoRow.holds Try.pinned (OpenSpec.upto fnTightenedSpec)

/-- 'laws.FnExactTableOk', WHERE WHAT IT READS IS OF BULK AT MOST 1048576: true; the input reads as it did. -/
def fnExactTableOkUptoRow : OpenClaim := { program := "ytegkkbncnmakaaa", sum := "794572f1eaeaa6341e87e7925872d32ba983fd6db0dd7cc8fad2260431005d9b", func := "loop.example/g00827/laws.FnExactTableOk", spec := "fnExactTableOk", apart := false, narrowed := true }
def FnExactTableOkUptoSaid : Prop := fnExactTableOkUptoRow.holds Try.pinned (OpenSpec.upto fnExactTableOkSpec)

/-- 'laws.FnExactCellOf', WHERE WHAT IT READS IS OF BULK AT MOST 1048576: true; the input reads as it did. -/
def fnExactCellOfUptoRow : OpenClaim := { program := "ytegkkbncnmakaaa", sum := "794572f1eaeaa6341e87e7925872d32ba983fd6db0dd7cc8fad2260431005d9b", func := "loop.example/g00827/laws.FnExactCellOf", spec := "fnExactCellOf", apart := false, narrowed := true }
def FnExactCellOfUptoSaid : Prop := fnExactCellOfUptoRow.holds Try.pinned (OpenSpec.upto fnExactCellOfSpec)

/-- 'laws.FnExactGraphOk', WHERE WHAT IT READS IS OF BULK AT MOST 1048576: true; the input reads as it did. -/
def fnExactGraphOkUptoRow : OpenClaim := { program := "ytegkkbncnmakaaa", sum := "794572f1eaeaa6341e87e7925872d32ba983fd6db0dd7cc8fad2260431005d9b", func := "loop.example/g00827/laws.FnExactGraphOk", spec := "fnExactGraphOk", unfollowed := true, recurses := true, apart := false, narrowed := true }
def FnExactGraphOkUptoSaid : Prop := fnExactGraphOkUptoRow.holds Try.pinned (OpenSpec.upto fnExactGraphOkSpec)

/-- 'laws.FnExactWindowBetween', WHERE WHAT IT READS IS OF BULK AT MOST 1048576: true; the input reads as it did. -/
def fnExactWindowBetweenUptoRow : OpenClaim := { program := "ytegkkbncnmakaaa", sum := "794572f1eaeaa6341e87e7925872d32ba983fd6db0dd7cc8fad2260431005d9b", func := "loop.example/g00827/laws.FnExactWindowBetween", spec := "fnExactWindowBetween", apart := false, narrowed := true }
def FnExactWindowBetweenUptoSaid : Prop := fnExactWindowBetweenUptoRow.holds Try.pinned (OpenSpec.upto fnExactWindowBetweenSpec)

/-- 'laws.FnExactIsClosed', WHERE WHAT IT READS IS OF BULK AT MOST 1048576: true; the input reads as it did. -/
def fnExactIsClosedUptoRow : OpenClaim := { program := "ytegkkbncnmakaaa", sum := "794572f1eaeaa6341e87e7925872d32ba983fd6db0dd7cc8fad2260431005d9b", func := "loop.example/g00827/laws.FnExactIsClosed", spec := "fnExactIsClosed", apart := false, narrowed := true }
def FnExactIsClosedUptoSaid : Prop := fnExactIsClosedUptoRow.holds Try.pinned (OpenSpec.upto fnExactIsClosedSpec)

/-- 'laws.FnExactPathWeight', WHERE WHAT IT READS IS OF BULK AT MOST 1048576: true; the input reads as it did. -/
def fnExactPathWeightUptoRow : OpenClaim := { program := "ytegkkbncnmakaaa", sum := "794572f1eaeaa6341e87e7925872d32ba983fd6db0dd7cc8fad2260431005d9b", func := "loop.example/g00827/laws.FnExactPathWeight", spec := "fnExactPathWeight", unfollowed := true, recurses := true, apart := false, narrowed := true }
def FnExactPathWeightUptoSaid : Prop := fnExactPathWeightUptoRow.holds Try.pinned (OpenSpec.upto fnExactPathWeightSpec)

/-- 'laws.FnExactIsNegativeCycle', WHERE WHAT IT READS IS OF BULK AT MOST 1048576: true; the input reads as it did. -/
def fnExactIsNegativeCycleUptoRow : OpenClaim := { program := "ytegkkbncnmakaaa", sum := "794572f1eaeaa6341e87e7925872d32ba983fd6db0dd7cc8fad2260431005d9b", func := "loop.example/g00827/laws.FnExactIsNegativeCycle", spec := "fnExactIsNegativeCycle", unfollowed := true, recurses := true, apart := false, narrowed := true }
def FnExactIsNegativeCycleUptoSaid : Prop := fnExactIsNegativeCycleUptoRow.holds Try.pinned (OpenSpec.upto fnExactIsNegativeCycleSpec)

/-- 'laws.FnExactEdgesOf', WHERE WHAT IT READS IS OF BULK AT MOST 1048576: true; the input reads as it did. -/
def fnExactEdgesOfUptoRow : OpenClaim := { program := "ytegkkbncnmakaaa", sum := "794572f1eaeaa6341e87e7925872d32ba983fd6db0dd7cc8fad2260431005d9b", func := "loop.example/g00827/laws.FnExactEdgesOf", spec := "fnExactEdgesOf", apart := false, narrowed := true }
def FnExactEdgesOfUptoSaid : Prop := fnExactEdgesOfUptoRow.holds Try.pinned (OpenSpec.upto fnExactEdgesOfSpec)

/-- 'laws.FnExactTightenTable', WHERE WHAT IT READS IS OF BULK AT MOST 1048576: true; the input reads as it did. -/
def fnExactTightenTableUptoRow : OpenClaim := { program := "ytegkkbncnmakaaa", sum := "794572f1eaeaa6341e87e7925872d32ba983fd6db0dd7cc8fad2260431005d9b", func := "loop.example/g00827/laws.FnExactTightenTable", spec := "fnExactTightenTable", apart := false, narrowed := true }
def FnExactTightenTableUptoSaid : Prop := fnExactTightenTableUptoRow.holds Try.pinned (OpenSpec.upto fnExactTightenTableSpec)

/-- 'laws.FnExactShortestFrom', WHERE WHAT IT READS IS OF BULK AT MOST 1048576: true; the input reads as it did. -/
def fnExactShortestFromUptoRow : OpenClaim := { program := "ytegkkbncnmakaaa", sum := "794572f1eaeaa6341e87e7925872d32ba983fd6db0dd7cc8fad2260431005d9b", func := "loop.example/g00827/laws.FnExactShortestFrom", spec := "fnExactShortestFrom", unfollowed := true, recurses := true, apart := false, narrowed := true }
def FnExactShortestFromUptoSaid : Prop := fnExactShortestFromUptoRow.holds Try.pinned (OpenSpec.upto fnExactShortestFromSpec)

/-- 'laws.FnExactNegativeCycle', WHERE WHAT IT READS IS OF BULK AT MOST 1048576: true; the input reads as it did. -/
def fnExactNegativeCycleUptoRow : OpenClaim := { program := "ytegkkbncnmakaaa", sum := "794572f1eaeaa6341e87e7925872d32ba983fd6db0dd7cc8fad2260431005d9b", func := "loop.example/g00827/laws.FnExactNegativeCycle", spec := "fnExactNegativeCycle", unfollowed := true, recurses := true, apart := false, narrowed := true }
def FnExactNegativeCycleUptoSaid : Prop := fnExactNegativeCycleUptoRow.holds Try.pinned (OpenSpec.upto fnExactNegativeCycleSpec)

end Rows
end Go.Proofs.Ytegkkbncnmakaaa
