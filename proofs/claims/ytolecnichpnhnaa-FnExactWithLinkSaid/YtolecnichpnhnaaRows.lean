/-
  No cell of these rows narrows 'for every input' (looked for: loops, veiled, ifaces, maps, wideKeys, modest, calm, conditions, laid).
  DERIVED. THE GIVEN ROWS OF THIS SEAT. 8 by the template 'for every input the law returns true; each argument reads behind the call as it read before'; 0 by the template 'total and deterministic' (their statements: YtolecnichpnhnaaTotals.lean).
  GIVEN WITH THE SEED: the statements are not yours to turn. If you find one false, say at which input.
  Laid BY PROGRAM, IN A SANDBOX (cutbox-rows.mjs): the forced cells as the released guide's own fill.sh prints them over the translation bd0d0c7a2def5292… (all of the seat's roots in one cut). By AI agents, Wed Nov 11 2026. No macro, syntax, notation, axiom, sorry.
-/
import Derived.Test.YtolecnichpnhnaaChecked
import GoSem.Claim
import GoSem.ClaimJoined
import GoSem.ClaimMapViews
import Derived.JoinedTies
import Derived.KernelRfl
namespace Go.Proofs.Ytolecnichpnhnaa
/- THE CELL 'sum', in the pinned program and in every row, IS THE sha256 OF THE DUMP (.gsa) THAT YtolecnichpnhnaaProg.lean LOADS. Nothing in Lean hashes anything: it is a label: what it is worth is what the hold of that sum in a sandbox is worth. -/
noncomputable def Try.pinned : Pinned := { name := "ytolecnichpnhnaa", sum := "bd0d0c7a2def529279a08a0b158e35094a4a753de8a0f1a5eb40aaa3941d6cff", checked := Try.checked }
namespace Rows
def none {H : Type} : Left H := { results := [], args := [] }

/-- 'laws.FnExactSimpleOk': WHATEVER THE INPUT: true; the input reads as it did. -/
def fnExactSimpleOkSpec : ChangeSpec := { name := "fnExactSimpleOk", fn := fun _ => fun
  | [d] => { results := [.lit (.bool true)], args := [d] }
  | _ => none }
def fnExactSimpleOkRow : OpenClaim := { program := "ytolecnichpnhnaa", sum := "bd0d0c7a2def529279a08a0b158e35094a4a753de8a0f1a5eb40aaa3941d6cff", func := "loop.example/g00827/laws.FnExactSimpleOk", spec := "fnExactSimpleOk", unfollowed := true, recurses := true, apart := false }
def FnExactSimpleOkSaid : Prop := fnExactSimpleOkRow.holds Try.pinned (OpenSpec.ofChange fnExactSimpleOkSpec)

/-- ITS FALSE NEIGHBOUR: 'it returns false'. Refute it at one input. -/
def fnExactSimpleOkWrong : ChangeSpec := { name := "fnExactSimpleOk", fn := fun _ => fun
  | [d] => { results := [.lit (.bool false)], args := [d] }
  | _ => none }
def FnExactSimpleOkWrongFalsely : Prop := fnExactSimpleOkRow.holds Try.pinned (OpenSpec.ofChange fnExactSimpleOkWrong)

/-- 'laws.FnExactPartialOk': WHATEVER THE INPUT: true; the input reads as it did. -/
def fnExactPartialOkSpec : ChangeSpec := { name := "fnExactPartialOk", fn := fun _ => fun
  | [d1, d2] => { results := [.lit (.bool true)], args := [d1, d2] }
  | _ => none }
def fnExactPartialOkRow : OpenClaim := { program := "ytolecnichpnhnaa", sum := "bd0d0c7a2def529279a08a0b158e35094a4a753de8a0f1a5eb40aaa3941d6cff", func := "loop.example/g00827/laws.FnExactPartialOk", spec := "fnExactPartialOk", unfollowed := true, recurses := true, apart := false }
def FnExactPartialOkSaid : Prop := fnExactPartialOkRow.holds Try.pinned (OpenSpec.ofChange fnExactPartialOkSpec)

/-- ITS FALSE NEIGHBOUR: 'it returns false'. Refute it at one input. -/
def fnExactPartialOkWrong : ChangeSpec := { name := "fnExactPartialOk", fn := fun _ => fun
  | [d1, d2] => { results := [.lit (.bool false)], args := [d1, d2] }
  | _ => none }
def FnExactPartialOkWrongFalsely : Prop := fnExactPartialOkRow.holds Try.pinned (OpenSpec.ofChange fnExactPartialOkWrong)

/-- 'laws.FnExactBrokenLink': WHATEVER THE INPUT: true; the input reads as it did. -/
def fnExactBrokenLinkSpec : ChangeSpec := { name := "fnExactBrokenLink", fn := fun _ => fun
  | [d1, d2] => { results := [.lit (.bool true)], args := [d1, d2] }
  | _ => none }
def fnExactBrokenLinkRow : OpenClaim := { program := "ytolecnichpnhnaa", sum := "bd0d0c7a2def529279a08a0b158e35094a4a753de8a0f1a5eb40aaa3941d6cff", func := "loop.example/g00827/laws.FnExactBrokenLink", spec := "fnExactBrokenLink", unfollowed := true, recurses := true, apart := false }
def FnExactBrokenLinkSaid : Prop := fnExactBrokenLinkRow.holds Try.pinned (OpenSpec.ofChange fnExactBrokenLinkSpec)

/-- ITS FALSE NEIGHBOUR: 'it returns false'. Refute it at one input. -/
def fnExactBrokenLinkWrong : ChangeSpec := { name := "fnExactBrokenLink", fn := fun _ => fun
  | [d1, d2] => { results := [.lit (.bool false)], args := [d1, d2] }
  | _ => none }
def FnExactBrokenLinkWrongFalsely : Prop := fnExactBrokenLinkRow.holds Try.pinned (OpenSpec.ofChange fnExactBrokenLinkWrong)

/-- 'laws.FnExactIsSchedule': WHATEVER THE INPUT: true; the input reads as it did. -/
def fnExactIsScheduleSpec : ChangeSpec := { name := "fnExactIsSchedule", fn := fun _ => fun
  | [d1, d2] => { results := [.lit (.bool true)], args := [d1, d2] }
  | _ => none }
def fnExactIsScheduleRow : OpenClaim := { program := "ytolecnichpnhnaa", sum := "bd0d0c7a2def529279a08a0b158e35094a4a753de8a0f1a5eb40aaa3941d6cff", func := "loop.example/g00827/laws.FnExactIsSchedule", spec := "fnExactIsSchedule", unfollowed := true, recurses := true, apart := false }
def FnExactIsScheduleSaid : Prop := fnExactIsScheduleRow.holds Try.pinned (OpenSpec.ofChange fnExactIsScheduleSpec)

/-- ITS FALSE NEIGHBOUR: 'it returns false'. Refute it at one input. -/
def fnExactIsScheduleWrong : ChangeSpec := { name := "fnExactIsSchedule", fn := fun _ => fun
  | [d1, d2] => { results := [.lit (.bool false)], args := [d1, d2] }
  | _ => none }
def FnExactIsScheduleWrongFalsely : Prop := fnExactIsScheduleRow.holds Try.pinned (OpenSpec.ofChange fnExactIsScheduleWrong)

/-- 'laws.FnExactWithLink': WHATEVER THE INPUT: true; the input reads as it did. -/
def fnExactWithLinkSpec : ChangeSpec := { name := "fnExactWithLink", fn := fun _ => fun
  | [d1, d2] => { results := [.lit (.bool true)], args := [d1, d2] }
  | _ => none }
def fnExactWithLinkRow : OpenClaim := { program := "ytolecnichpnhnaa", sum := "bd0d0c7a2def529279a08a0b158e35094a4a753de8a0f1a5eb40aaa3941d6cff", func := "loop.example/g00827/laws.FnExactWithLink", spec := "fnExactWithLink", unfollowed := true, recurses := true, apart := false }
def FnExactWithLinkSaid : Prop := fnExactWithLinkRow.holds Try.pinned (OpenSpec.ofChange fnExactWithLinkSpec)

/-- ITS FALSE NEIGHBOUR: 'it returns false'. Refute it at one input. -/
def fnExactWithLinkWrong : ChangeSpec := { name := "fnExactWithLink", fn := fun _ => fun
  | [d1, d2] => { results := [.lit (.bool false)], args := [d1, d2] }
  | _ => none }
def FnExactWithLinkWrongFalsely : Prop := fnExactWithLinkRow.holds Try.pinned (OpenSpec.ofChange fnExactWithLinkWrong)

/-- 'laws.FnExactGraphOf': WHATEVER THE INPUT: true; the input reads as it did. -/
def fnExactGraphOfSpec : ChangeSpec := { name := "fnExactGraphOf", fn := fun _ => fun
  | [d] => { results := [.lit (.bool true)], args := [d] }
  | _ => none }
def fnExactGraphOfRow : OpenClaim := { program := "ytolecnichpnhnaa", sum := "bd0d0c7a2def529279a08a0b158e35094a4a753de8a0f1a5eb40aaa3941d6cff", func := "loop.example/g00827/laws.FnExactGraphOf", spec := "fnExactGraphOf", unfollowed := true, recurses := true, apart := false }
def FnExactGraphOfSaid : Prop := fnExactGraphOfRow.holds Try.pinned (OpenSpec.ofChange fnExactGraphOfSpec)

/-- ITS FALSE NEIGHBOUR: 'it returns false'. Refute it at one input. -/
def fnExactGraphOfWrong : ChangeSpec := { name := "fnExactGraphOf", fn := fun _ => fun
  | [d] => { results := [.lit (.bool false)], args := [d] }
  | _ => none }
def FnExactGraphOfWrongFalsely : Prop := fnExactGraphOfRow.holds Try.pinned (OpenSpec.ofChange fnExactGraphOfWrong)

/-- 'laws.FnExactFixTimes': WHATEVER THE INPUT: true; the input reads as it did. -/
def fnExactFixTimesSpec : ChangeSpec := { name := "fnExactFixTimes", fn := fun _ => fun
  | [d1, d2] => { results := [.lit (.bool true)], args := [d1, d2] }
  | _ => none }
def fnExactFixTimesRow : OpenClaim := { program := "ytolecnichpnhnaa", sum := "bd0d0c7a2def529279a08a0b158e35094a4a753de8a0f1a5eb40aaa3941d6cff", func := "loop.example/g00827/laws.FnExactFixTimes", spec := "fnExactFixTimes", unfollowed := true, recurses := true, apart := false }
def FnExactFixTimesSaid : Prop := fnExactFixTimesRow.holds Try.pinned (OpenSpec.ofChange fnExactFixTimesSpec)

/-- ITS FALSE NEIGHBOUR: 'it returns false'. Refute it at one input. -/
def fnExactFixTimesWrong : ChangeSpec := { name := "fnExactFixTimes", fn := fun _ => fun
  | [d1, d2] => { results := [.lit (.bool false)], args := [d1, d2] }
  | _ => none }
def FnExactFixTimesWrongFalsely : Prop := fnExactFixTimesRow.holds Try.pinned (OpenSpec.ofChange fnExactFixTimesWrong)

/-- 'laws.FnExactConflictOf': WHATEVER THE INPUT: true; the input reads as it did. -/
def fnExactConflictOfSpec : ChangeSpec := { name := "fnExactConflictOf", fn := fun _ => fun
  | [d] => { results := [.lit (.bool true)], args := [d] }
  | _ => none }
def fnExactConflictOfRow : OpenClaim := { program := "ytolecnichpnhnaa", sum := "bd0d0c7a2def529279a08a0b158e35094a4a753de8a0f1a5eb40aaa3941d6cff", func := "loop.example/g00827/laws.FnExactConflictOf", spec := "fnExactConflictOf", unfollowed := true, recurses := true, apart := false }
def FnExactConflictOfSaid : Prop := fnExactConflictOfRow.holds Try.pinned (OpenSpec.ofChange fnExactConflictOfSpec)

/-- ITS FALSE NEIGHBOUR: 'it returns false'. Refute it at one input. -/
def fnExactConflictOfWrong : ChangeSpec := { name := "fnExactConflictOf", fn := fun _ => fun
  | [d] => { results := [.lit (.bool false)], args := [d] }
  | _ => none }
def FnExactConflictOfWrongFalsely : Prop := fnExactConflictOfRow.holds Try.pinned (OpenSpec.ofChange fnExactConflictOfWrong)

/- THE SECOND FORM. 'bulk': how many values and letters a reading holds, each counted each time it is reached (what is shared counts as often as it is met; a slice's spare places count too). A statement '..UptoSaid' is the law's where the arguments, and the package variables that the reading takes, are together of bulk at most 1048576: NARROWER than '..Said'. Prove '..Said' where nothing that the law and all that it calls make is longer than what came in: it says more and counts as full. Else prove '..UptoSaid'. A law counts once. -/
mutual
def uptoBulk {H : Type} : DataW H → Nat
  | .lit (.string bytes) => bytes.length + 1
  | .lit _ => 1
  | .nil => 1
  | .ptr d => uptoBulk d + 1
  | .slice elems spare => uptoBulkAll elems + uptoBulkAll spare + 1
  | .agg parts => uptoBulkAll parts + 1
  | .iface _ d => uptoBulk d + 1
  | .map entries => uptoBulkEntries entries + 1
  | .held _ => 1
def uptoBulkAll {H : Type} : List (DataW H) → Nat
  | [] => 0
  | d :: r => uptoBulk d + uptoBulkAll r
def uptoBulkEntries {H : Type} : List (Lit × DataW H) → Nat
  | [] => 0
  | x :: r => uptoBulkEntry x + uptoBulkEntries r
def uptoBulkEntry {H : Type} : Lit × DataW H → Nat
  | (.string bytes, d) => bytes.length + uptoBulk d + 1
  | (_, d) => uptoBulk d + 1
 end
def uptoSmall : (H : Type) → List (DataW H) → Bool := fun _ ds => decide (uptoBulkAll ds ≤ 1048576)
def OpenSpec.upto (s : _root_.Go.ChangeSpec) : _root_.Go.OpenSpec := { _root_.Go.OpenSpec.ofChange s with cond := some uptoSmall }

/-- 'laws.FnExactSimpleOk', WHERE WHAT IT READS IS OF BULK AT MOST 1048576: true; the input reads as it did. -/
def fnExactSimpleOkUptoRow : OpenClaim := { program := "ytolecnichpnhnaa", sum := "bd0d0c7a2def529279a08a0b158e35094a4a753de8a0f1a5eb40aaa3941d6cff", func := "loop.example/g00827/laws.FnExactSimpleOk", spec := "fnExactSimpleOk", unfollowed := true, recurses := true, apart := false, narrowed := true }
def FnExactSimpleOkUptoSaid : Prop := fnExactSimpleOkUptoRow.holds Try.pinned (OpenSpec.upto fnExactSimpleOkSpec)

/-- 'laws.FnExactPartialOk', WHERE WHAT IT READS IS OF BULK AT MOST 1048576: true; the input reads as it did. -/
def fnExactPartialOkUptoRow : OpenClaim := { program := "ytolecnichpnhnaa", sum := "bd0d0c7a2def529279a08a0b158e35094a4a753de8a0f1a5eb40aaa3941d6cff", func := "loop.example/g00827/laws.FnExactPartialOk", spec := "fnExactPartialOk", unfollowed := true, recurses := true, apart := false, narrowed := true }
def FnExactPartialOkUptoSaid : Prop := fnExactPartialOkUptoRow.holds Try.pinned (OpenSpec.upto fnExactPartialOkSpec)

/-- 'laws.FnExactBrokenLink', WHERE WHAT IT READS IS OF BULK AT MOST 1048576: true; the input reads as it did. -/
def fnExactBrokenLinkUptoRow : OpenClaim := { program := "ytolecnichpnhnaa", sum := "bd0d0c7a2def529279a08a0b158e35094a4a753de8a0f1a5eb40aaa3941d6cff", func := "loop.example/g00827/laws.FnExactBrokenLink", spec := "fnExactBrokenLink", unfollowed := true, recurses := true, apart := false, narrowed := true }
def FnExactBrokenLinkUptoSaid : Prop := fnExactBrokenLinkUptoRow.holds Try.pinned (OpenSpec.upto fnExactBrokenLinkSpec)

/-- 'laws.FnExactIsSchedule', WHERE WHAT IT READS IS OF BULK AT MOST 1048576: true; the input reads as it did. -/
def fnExactIsScheduleUptoRow : OpenClaim := { program := "ytolecnichpnhnaa", sum := "bd0d0c7a2def529279a08a0b158e35094a4a753de8a0f1a5eb40aaa3941d6cff", func := "loop.example/g00827/laws.FnExactIsSchedule", spec := "fnExactIsSchedule", unfollowed := true, recurses := true, apart := false, narrowed := true }
def FnExactIsScheduleUptoSaid : Prop := fnExactIsScheduleUptoRow.holds Try.pinned (OpenSpec.upto fnExactIsScheduleSpec)

/-- 'laws.FnExactWithLink', WHERE WHAT IT READS IS OF BULK AT MOST 1048576: true; the input reads as it did. -/
def fnExactWithLinkUptoRow : OpenClaim := { program := "ytolecnichpnhnaa", sum := "bd0d0c7a2def529279a08a0b158e35094a4a753de8a0f1a5eb40aaa3941d6cff", func := "loop.example/g00827/laws.FnExactWithLink", spec := "fnExactWithLink", unfollowed := true, recurses := true, apart := false, narrowed := true }
def FnExactWithLinkUptoSaid : Prop := fnExactWithLinkUptoRow.holds Try.pinned (OpenSpec.upto fnExactWithLinkSpec)

/-- 'laws.FnExactGraphOf', WHERE WHAT IT READS IS OF BULK AT MOST 1048576: true; the input reads as it did. -/
def fnExactGraphOfUptoRow : OpenClaim := { program := "ytolecnichpnhnaa", sum := "bd0d0c7a2def529279a08a0b158e35094a4a753de8a0f1a5eb40aaa3941d6cff", func := "loop.example/g00827/laws.FnExactGraphOf", spec := "fnExactGraphOf", unfollowed := true, recurses := true, apart := false, narrowed := true }
def FnExactGraphOfUptoSaid : Prop := fnExactGraphOfUptoRow.holds Try.pinned (OpenSpec.upto fnExactGraphOfSpec)

/-- 'laws.FnExactFixTimes', WHERE WHAT IT READS IS OF BULK AT MOST 1048576: true; the input reads as it did. -/
def fnExactFixTimesUptoRow : OpenClaim := { program := "ytolecnichpnhnaa", sum := "bd0d0c7a2def529279a08a0b158e35094a4a753de8a0f1a5eb40aaa3941d6cff", func := "loop.example/g00827/laws.FnExactFixTimes", spec := "fnExactFixTimes", unfollowed := true, recurses := true, apart := false, narrowed := true }
def FnExactFixTimesUptoSaid : Prop := fnExactFixTimesUptoRow.holds Try.pinned (OpenSpec.upto fnExactFixTimesSpec)

/-- 'laws.FnExactConflictOf', WHERE WHAT IT READS IS OF BULK AT MOST 1048576: true; the input reads as it did. -/
def fnExactConflictOfUptoRow : OpenClaim := { program := "ytolecnichpnhnaa", sum := "bd0d0c7a2def529279a08a0b158e35094a4a753de8a0f1a5eb40aaa3941d6cff", func := "loop.example/g00827/laws.FnExactConflictOf", spec := "fnExactConflictOf", unfollowed := true, recurses := true, apart := false, narrowed := true }
def FnExactConflictOfUptoSaid : Prop := fnExactConflictOfUptoRow.holds Try.pinned (OpenSpec.upto fnExactConflictOfSpec)

end Rows
end Go.Proofs.Ytolecnichpnhnaa
