/-
  No cell of these rows narrows 'for every input' (looked for: loops, veiled, ifaces, maps, wideKeys, modest, calm, conditions, laid).
  DERIVED. THE GIVEN ROWS OF THIS SEAT. 9 by the template 'for every input the law returns true; each argument reads behind the call as it read before'; 0 by the template 'total and deterministic' (their statements: YtbbblnmngjhadaaTotals.lean).
  GIVEN WITH THE SEED: the statements are not yours to turn. If you find one false, say at which input.
  Laid BY PROGRAM, IN A SANDBOX (cutbox-rows.mjs): the forced cells as the released guide's own fill.sh prints them over the translation ced912c8b5b3a6ce… (all of the seat's roots in one cut). By AI agents, Wed Nov 11 2026. No macro, syntax, notation, axiom, sorry.
-/
import Derived.Test.YtbbblnmngjhadaaChecked
import GoSem.Claim
import GoSem.ClaimJoined
import GoSem.ClaimMapViews
import Derived.JoinedTies
import Derived.KernelRfl
namespace Go.Proofs.Ytbbblnmngjhadaa
/- THE CELL 'sum', in the pinned program and in every row, IS THE sha256 OF THE DUMP (.gsa) THAT YtbbblnmngjhadaaProg.lean LOADS. Nothing in Lean hashes anything: it is a label: what it is worth is what the hold of that sum in a sandbox is worth. -/
noncomputable def Try.pinned : Pinned := { name := "ytbbblnmngjhadaa", sum := "ced912c8b5b3a6ce63250b0898954f2784d7791b4e27972944decc74f4c4b729", checked := Try.checked }
namespace Rows
def none {H : Type} : Left H := { results := [], args := [] }

/-- 'laws.FnExactCloseGraph': WHATEVER THE INPUT: true; the input reads as it did. -/
def fnExactCloseGraphSpec : ChangeSpec := { name := "fnExactCloseGraph", fn := fun _ => fun
  | [d] => { results := [.lit (.bool true)], args := [d] }
  | _ => none }
def fnExactCloseGraphRow : OpenClaim := { program := "ytbbblnmngjhadaa", sum := "ced912c8b5b3a6ce63250b0898954f2784d7791b4e27972944decc74f4c4b729", func := "loop.example/g00827/laws.FnExactCloseGraph", spec := "fnExactCloseGraph", unfollowed := true, recurses := true, apart := false }
def FnExactCloseGraphSaid : Prop := fnExactCloseGraphRow.holds Try.pinned (OpenSpec.ofChange fnExactCloseGraphSpec)

/-- ITS FALSE NEIGHBOUR: 'it returns false'. Refute it at one input. -/
def fnExactCloseGraphWrong : ChangeSpec := { name := "fnExactCloseGraph", fn := fun _ => fun
  | [d] => { results := [.lit (.bool false)], args := [d] }
  | _ => none }
def FnExactCloseGraphWrongFalsely : Prop := fnExactCloseGraphRow.holds Try.pinned (OpenSpec.ofChange fnExactCloseGraphWrong)

/-- 'laws.FnExactIsConsistent': WHATEVER THE INPUT: true; the input reads as it did. -/
def fnExactIsConsistentSpec : ChangeSpec := { name := "fnExactIsConsistent", fn := fun _ => fun
  | [d] => { results := [.lit (.bool true)], args := [d] }
  | _ => none }
def fnExactIsConsistentRow : OpenClaim := { program := "ytbbblnmngjhadaa", sum := "ced912c8b5b3a6ce63250b0898954f2784d7791b4e27972944decc74f4c4b729", func := "loop.example/g00827/laws.FnExactIsConsistent", spec := "fnExactIsConsistent", unfollowed := true, recurses := true, apart := false }
def FnExactIsConsistentSaid : Prop := fnExactIsConsistentRow.holds Try.pinned (OpenSpec.ofChange fnExactIsConsistentSpec)

/-- ITS FALSE NEIGHBOUR: 'it returns false'. Refute it at one input. -/
def fnExactIsConsistentWrong : ChangeSpec := { name := "fnExactIsConsistent", fn := fun _ => fun
  | [d] => { results := [.lit (.bool false)], args := [d] }
  | _ => none }
def FnExactIsConsistentWrongFalsely : Prop := fnExactIsConsistentRow.holds Try.pinned (OpenSpec.ofChange fnExactIsConsistentWrong)

/-- 'laws.FnExactWindowOf': WHATEVER THE INPUT: true; the input reads as it did. -/
def fnExactWindowOfSpec : ChangeSpec := { name := "fnExactWindowOf", fn := fun _ => fun
  | [d1, d2] => { results := [.lit (.bool true)], args := [d1, d2] }
  | _ => none }
def fnExactWindowOfRow : OpenClaim := { program := "ytbbblnmngjhadaa", sum := "ced912c8b5b3a6ce63250b0898954f2784d7791b4e27972944decc74f4c4b729", func := "loop.example/g00827/laws.FnExactWindowOf", spec := "fnExactWindowOf", unfollowed := true, recurses := true, apart := false }
def FnExactWindowOfSaid : Prop := fnExactWindowOfRow.holds Try.pinned (OpenSpec.ofChange fnExactWindowOfSpec)

/-- ITS FALSE NEIGHBOUR: 'it returns false'. Refute it at one input. -/
def fnExactWindowOfWrong : ChangeSpec := { name := "fnExactWindowOf", fn := fun _ => fun
  | [d1, d2] => { results := [.lit (.bool false)], args := [d1, d2] }
  | _ => none }
def FnExactWindowOfWrongFalsely : Prop := fnExactWindowOfRow.holds Try.pinned (OpenSpec.ofChange fnExactWindowOfWrong)

/-- 'laws.FnExactEarliestTimes': WHATEVER THE INPUT: true; the input reads as it did. -/
def fnExactEarliestTimesSpec : ChangeSpec := { name := "fnExactEarliestTimes", fn := fun _ => fun
  | [d] => { results := [.lit (.bool true)], args := [d] }
  | _ => none }
def fnExactEarliestTimesRow : OpenClaim := { program := "ytbbblnmngjhadaa", sum := "ced912c8b5b3a6ce63250b0898954f2784d7791b4e27972944decc74f4c4b729", func := "loop.example/g00827/laws.FnExactEarliestTimes", spec := "fnExactEarliestTimes", unfollowed := true, recurses := true, apart := false }
def FnExactEarliestTimesSaid : Prop := fnExactEarliestTimesRow.holds Try.pinned (OpenSpec.ofChange fnExactEarliestTimesSpec)

/-- ITS FALSE NEIGHBOUR: 'it returns false'. Refute it at one input. -/
def fnExactEarliestTimesWrong : ChangeSpec := { name := "fnExactEarliestTimes", fn := fun _ => fun
  | [d] => { results := [.lit (.bool false)], args := [d] }
  | _ => none }
def FnExactEarliestTimesWrongFalsely : Prop := fnExactEarliestTimesRow.holds Try.pinned (OpenSpec.ofChange fnExactEarliestTimesWrong)

/-- 'laws.FnExactLatestTimes': WHATEVER THE INPUT: true; the input reads as it did. -/
def fnExactLatestTimesSpec : ChangeSpec := { name := "fnExactLatestTimes", fn := fun _ => fun
  | [d] => { results := [.lit (.bool true)], args := [d] }
  | _ => none }
def fnExactLatestTimesRow : OpenClaim := { program := "ytbbblnmngjhadaa", sum := "ced912c8b5b3a6ce63250b0898954f2784d7791b4e27972944decc74f4c4b729", func := "loop.example/g00827/laws.FnExactLatestTimes", spec := "fnExactLatestTimes", unfollowed := true, recurses := true, apart := false }
def FnExactLatestTimesSaid : Prop := fnExactLatestTimesRow.holds Try.pinned (OpenSpec.ofChange fnExactLatestTimesSpec)

/-- ITS FALSE NEIGHBOUR: 'it returns false'. Refute it at one input. -/
def fnExactLatestTimesWrong : ChangeSpec := { name := "fnExactLatestTimes", fn := fun _ => fun
  | [d] => { results := [.lit (.bool false)], args := [d] }
  | _ => none }
def FnExactLatestTimesWrongFalsely : Prop := fnExactLatestTimesRow.holds Try.pinned (OpenSpec.ofChange fnExactLatestTimesWrong)

/-- 'laws.FnCycles': WHATEVER THE INPUT: true; the input reads as it did. -/
def fnCyclesSpec : ChangeSpec := { name := "fnCycles", fn := fun _ => fun
  | [d] => { results := [.lit (.bool true)], args := [d] }
  | _ => none }
def fnCyclesRow : OpenClaim := { program := "ytbbblnmngjhadaa", sum := "ced912c8b5b3a6ce63250b0898954f2784d7791b4e27972944decc74f4c4b729", func := "loop.example/g00827/laws.FnCycles", spec := "fnCycles", unfollowed := true, recurses := true, apart := false }
def FnCyclesSaid : Prop := fnCyclesRow.holds Try.pinned (OpenSpec.ofChange fnCyclesSpec)

/-- ITS FALSE NEIGHBOUR: 'it returns false'. Refute it at one input. -/
def fnCyclesWrong : ChangeSpec := { name := "fnCycles", fn := fun _ => fun
  | [d] => { results := [.lit (.bool false)], args := [d] }
  | _ => none }
def FnCyclesWrongFalsely : Prop := fnCyclesRow.holds Try.pinned (OpenSpec.ofChange fnCyclesWrong)

/-- 'laws.FnDistances': WHATEVER THE INPUT: true; the input reads as it did. -/
def fnDistancesSpec : ChangeSpec := { name := "fnDistances", fn := fun _ => fun
  | [d] => { results := [.lit (.bool true)], args := [d] }
  | _ => none }
def fnDistancesRow : OpenClaim := { program := "ytbbblnmngjhadaa", sum := "ced912c8b5b3a6ce63250b0898954f2784d7791b4e27972944decc74f4c4b729", func := "loop.example/g00827/laws.FnDistances", spec := "fnDistances", unfollowed := true, recurses := true, apart := false }
def FnDistancesSaid : Prop := fnDistancesRow.holds Try.pinned (OpenSpec.ofChange fnDistancesSpec)

/-- ITS FALSE NEIGHBOUR: 'it returns false'. Refute it at one input. -/
def fnDistancesWrong : ChangeSpec := { name := "fnDistances", fn := fun _ => fun
  | [d] => { results := [.lit (.bool false)], args := [d] }
  | _ => none }
def FnDistancesWrongFalsely : Prop := fnDistancesRow.holds Try.pinned (OpenSpec.ofChange fnDistancesWrong)

/-- 'laws.FnConflicts': WHATEVER THE INPUT: true; the input reads as it did. -/
def fnConflictsSpec : ChangeSpec := { name := "fnConflicts", fn := fun _ => fun
  | [d] => { results := [.lit (.bool true)], args := [d] }
  | _ => none }
def fnConflictsRow : OpenClaim := { program := "ytbbblnmngjhadaa", sum := "ced912c8b5b3a6ce63250b0898954f2784d7791b4e27972944decc74f4c4b729", func := "loop.example/g00827/laws.FnConflicts", spec := "fnConflicts", unfollowed := true, recurses := true, apart := false }
def FnConflictsSaid : Prop := fnConflictsRow.holds Try.pinned (OpenSpec.ofChange fnConflictsSpec)

/-- ITS FALSE NEIGHBOUR: 'it returns false'. Refute it at one input. -/
def fnConflictsWrong : ChangeSpec := { name := "fnConflicts", fn := fun _ => fun
  | [d] => { results := [.lit (.bool false)], args := [d] }
  | _ => none }
def FnConflictsWrongFalsely : Prop := fnConflictsRow.holds Try.pinned (OpenSpec.ofChange fnConflictsWrong)

/-- 'laws.FnSchedules': WHATEVER THE INPUT: true; the input reads as it did. -/
def fnSchedulesSpec : ChangeSpec := { name := "fnSchedules", fn := fun _ => fun
  | [d] => { results := [.lit (.bool true)], args := [d] }
  | _ => none }
def fnSchedulesRow : OpenClaim := { program := "ytbbblnmngjhadaa", sum := "ced912c8b5b3a6ce63250b0898954f2784d7791b4e27972944decc74f4c4b729", func := "loop.example/g00827/laws.FnSchedules", spec := "fnSchedules", unfollowed := true, recurses := true, apart := false }
def FnSchedulesSaid : Prop := fnSchedulesRow.holds Try.pinned (OpenSpec.ofChange fnSchedulesSpec)

/-- ITS FALSE NEIGHBOUR: 'it returns false'. Refute it at one input. -/
def fnSchedulesWrong : ChangeSpec := { name := "fnSchedules", fn := fun _ => fun
  | [d] => { results := [.lit (.bool false)], args := [d] }
  | _ => none }
def FnSchedulesWrongFalsely : Prop := fnSchedulesRow.holds Try.pinned (OpenSpec.ofChange fnSchedulesWrong)

/- THE SECOND FORM. 'bulk': how many values and letters a reading holds, each counted each time it is reached (what is shared counts as often as it is met; a slice's spare places count too). A statement '..UptoSaid' is the law's where the arguments, and the package variables that the reading takes, are together of bulk at most 1048576: NARROWER than '..Said'. Prove '..Said' where nothing that the law and all that it calls make is longer than what came in: it says more and counts as full. Else prove '..UptoSaid'. A law counts once. -/
mutual
def uptoBulk {H : Type} : DataW H → Nat
  | .lit (.string bytes) => bytes.length + 1
  | .lit _ => 1
  | .nil => 1
  | .ptr d => uptoBulk d + 1
  | .slice elems spare => uptoBulkAll elems + uptoBulkAll spare + 1
  | .agg parts => uptoBulkAll parts + 1
  | .iface _ d => uptoBulk d + 1
  | .map entries => uptoBulkEntries entries + 1
  | .held _ => 1
def uptoBulkAll {H : Type} : List (DataW H) → Nat
  | [] => 0
  | d :: r => uptoBulk d + uptoBulkAll r
def uptoBulkEntries {H : Type} : List (Lit × DataW H) → Nat
  | [] => 0
  | x :: r => uptoBulkEntry x + uptoBulkEntries r
def uptoBulkEntry {H : Type} : Lit × DataW H → Nat
  | (.string bytes, d) => bytes.length + uptoBulk d + 1
  | (_, d) => uptoBulk d + 1
 end
def uptoSmall : (H : Type) → List (DataW H) → Bool := fun _ ds => decide (uptoBulkAll ds ≤ 1048576)
def OpenSpec.upto (s : _root_.Go.ChangeSpec) : _root_.Go.OpenSpec := { _root_.Go.OpenSpec.ofChange s with cond := some uptoSmall }

/-- 'laws.FnExactCloseGraph', WHERE WHAT IT READS IS OF BULK AT MOST 1048576: true; the input reads as it did. -/
def fnExactCloseGraphUptoRow : OpenClaim := { program := "ytbbblnmngjhadaa", sum := "ced912c8b5b3a6ce63250b0898954f2784d7791b4e27972944decc74f4c4b729", func := "loop.example/g00827/laws.FnExactCloseGraph", spec := "fnExactCloseGraph", unfollowed := true, recurses := true, apart := false, narrowed := true }
def FnExactCloseGraphUptoSaid : Prop := fnExactCloseGraphUptoRow.holds Try.pinned (OpenSpec.upto fnExactCloseGraphSpec)

/-- 'laws.FnExactIsConsistent', WHERE WHAT IT READS IS OF BULK AT MOST 1048576: true; the input reads as it did. -/
def fnExactIsConsistentUptoRow : OpenClaim := { program := "ytbbblnmngjhadaa", sum := "ced912c8b5b3a6ce63250b0898954f2784d7791b4e27972944decc74f4c4b729", func := "loop.example/g00827/laws.FnExactIsConsistent", spec := "fnExactIsConsistent", unfollowed := true, recurses := true, apart := false, narrowed := true }
def FnExactIsConsistentUptoSaid : Prop := fnExactIsConsistentUptoRow.holds Try.pinned (OpenSpec.upto fnExactIsConsistentSpec)

/-- 'laws.FnExactWindowOf', WHERE WHAT IT READS IS OF BULK AT MOST 1048576: true; the input reads as it did. -/
def fnExactWindowOfUptoRow : OpenClaim := { program := "ytbbblnmngjhadaa", sum := "ced912c8b5b3a6ce63250b0898954f2784d7791b4e27972944decc74f4c4b729", func := "loop.example/g00827/laws.FnExactWindowOf", spec := "fnExactWindowOf", unfollowed := true, recurses := true, apart := false, narrowed := true }
def FnExactWindowOfUptoSaid : Prop := fnExactWindowOfUptoRow.holds Try.pinned (OpenSpec.upto fnExactWindowOfSpec)

/-- 'laws.FnExactEarliestTimes', WHERE WHAT IT READS IS OF BULK AT MOST 1048576: true; the input reads as it did. -/
def fnExactEarliestTimesUptoRow : OpenClaim := { program := "ytbbblnmngjhadaa", sum := "ced912c8b5b3a6ce63250b0898954f2784d7791b4e27972944decc74f4c4b729", func := "loop.example/g00827/laws.FnExactEarliestTimes", spec := "fnExactEarliestTimes", unfollowed := true, recurses := true, apart := false, narrowed := true }
def FnExactEarliestTimesUptoSaid : Prop := fnExactEarliestTimesUptoRow.holds Try.pinned (OpenSpec.upto fnExactEarliestTimesSpec)

/-- 'laws.FnExactLatestTimes', WHERE WHAT IT READS IS OF BULK AT MOST 1048576: true; the input reads as it did. -/
def fnExactLatestTimesUptoRow : OpenClaim := { program := "ytbbblnmngjhadaa", sum := "ced912c8b5b3a6ce63250b0898954f2784d7791b4e27972944decc74f4c4b729", func := "loop.example/g00827/laws.FnExactLatestTimes", spec := "fnExactLatestTimes", unfollowed := true, recurses := true, apart := false, narrowed := true }
def FnExactLatestTimesUptoSaid : Prop := fnExactLatestTimesUptoRow.holds Try.pinned (OpenSpec.upto fnExactLatestTimesSpec)

/-- 'laws.FnCycles', WHERE WHAT IT READS IS OF BULK AT MOST 1048576: true; the input reads as it did. -/
def fnCyclesUptoRow : OpenClaim := { program := "ytbbblnmngjhadaa", sum := "ced912c8b5b3a6ce63250b0898954f2784d7791b4e27972944decc74f4c4b729", func := "loop.example/g00827/laws.FnCycles", spec := "fnCycles", unfollowed := true, recurses := true, apart := false, narrowed := true }
def FnCyclesUptoSaid : Prop := fnCyclesUptoRow.holds Try.pinned (OpenSpec.upto fnCyclesSpec)

/-- 'laws.FnDistances', WHERE WHAT IT READS IS OF BULK AT MOST 1048576: true; the input reads as it did. -/
def fnDistancesUptoRow : OpenClaim := { program := "ytbbblnmngjhadaa", sum := "ced912c8b5b3a6ce63250b0898954f2784d7791b4e27972944decc74f4c4b729", func := "loop.example/g00827/laws.FnDistances", spec := "fnDistances", unfollowed := true, recurses := true, apart := false, narrowed := true }
def FnDistancesUptoSaid : Prop := fnDistancesUptoRow.holds Try.pinned (OpenSpec.upto fnDistancesSpec)

/-- 'laws.FnConflicts', WHERE WHAT IT READS IS OF BULK AT MOST 1048576: true; the input reads as it did. -/
def fnConflictsUptoRow : OpenClaim := { program := "ytbbblnmngjhadaa", sum := "ced912c8b5b3a6ce63250b0898954f2784d7791b4e27972944decc74f4c4b729", func := "loop.example/g00827/laws.FnConflicts", spec := "fnConflicts", unfollowed := true, recurses := true, apart := false, narrowed := true }
def FnConflictsUptoSaid : Prop := fnConflictsUptoRow.holds Try.pinned (OpenSpec.upto fnConflictsSpec)

/-- 'laws.FnSchedules', WHERE WHAT IT READS IS OF BULK AT MOST 1048576: true; the input reads as it did. -/
def fnSchedulesUptoRow : OpenClaim := { program := "ytbbblnmngjhadaa", sum := "ced912c8b5b3a6ce63250b0898954f2784d7791b4e27972944decc74f4c4b729", func := "loop.example/g00827/laws.FnSchedules", spec := "fnSchedules", unfollowed := true, recurses := true, apart := false, narrowed := true }
def FnSchedulesUptoSaid : Prop := fnSchedulesUptoRow.holds Try.pinned (OpenSpec.upto fnSchedulesSpec)

end Rows
end Go.Proofs.Ytbbblnmngjhadaa
