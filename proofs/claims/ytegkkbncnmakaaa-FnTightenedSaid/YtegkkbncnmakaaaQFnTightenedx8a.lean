-- Written by this session's program wip/tools/mk.py out of the translation; Lean checks it.
import Derived.Test.YtegkkbncnmakaaaQFnTightenedx0
import Derived.Test.YtegkkbncnmakaaaQFnTightenedx1
import Derived.Test.YtegkkbncnmakaaaQFnTightenedx2
import Derived.Test.YtegkkbncnmakaaaQFnTightenedx4
import Derived.Test.YtegkkbncnmakaaaQFnTightenedx5
import Derived.Test.YtegkkbncnmakaaaQFnTightenedx7
namespace Go.Proofs.Ytegkkbncnmakaaa.QFnTightened
open Go.RowKit Go.Proofs.YtegkkbncnmakaaaW.PrintWords Go.Proofs.YtegkkbncnmakaaaW.PrintLast Go.Proofs.YtegkkbncnmakaaaW.PrintMore
attribute [local go_sem] max2_int min2_int max_two min_two max_three min_three max_four min_four   -- for this text's walks alone
set_option linter.unusedVariables false
set_option linter.unusedSimpArgs false

/-! ### laws_FnTightened: function 3 -/
mutual
def laws_FnTightened.j0 : Nat → Bool → Int → List Int → Int → List Int → Option (Bool)
  | 0, _, _, _, _, _ => none
  | k + 1, x85, x256000, x256001, x275000, x275001 => if x85 = true then (some false) else (laws_FnTightened.l0 k x256001 (x256001.length : Int) 0 x275000 x275001)
def laws_FnTightened.l0 : Nat → List Int → Int → Int → Int → List Int → Option (Bool)
  | 0, _, _, _, _, _ => none
  | k + 1, x87, x88, x89, x275000, x275001 => if x89 < x88 then (if 0 ≤ x89 then (if x89 < (x87.length : Int) then (if x89 < (x275001.length : Int) then (if (rd x87 x89) = (rd x275001 x89) then (laws_FnTightened.l0 k x87 x88 (wrap64 (x89 + 1)) x275000 x275001) else (some false)) else (none)) else (none)) else (none)) else (some true)
end
def laws_FnTightened.f (k : Nat) (l0 : List Int) : Option (Bool) := if (l0.length : Int) > 1048576 then (some true) else ((spec_MakeGraph.f k l0).bind fun bt230 => ((impl_CloseGraph.f k bt230.1 bt230.2).bind fun bt235 => (if bt235.2.2 = true then ((spec_MakeNum.f k l0 30).bind fun t246 => (if bt230.1 = 0 then (none) else ((spec_MakeNum.f k l0 32).bind fun t247 => ((spec_MakeNum.f k l0 34).bind fun t248 => ((impl_TightenTable.f k bt235.1 bt235.2.1 (Int.tmod t246 bt230.1) (Int.tmod t247 bt230.1) (wrap64 ((Int.tmod t248 12) - 3))).bind fun bt250 => ((some (([] : List (S39)) : List (S39))).bind fun y256 => (if y256.length + bt230.2.length < 5864062014805 then ((some (y256 ++ bt230.2 : List (S39))).bind fun y259 => ((some (([(⟨Int.tmod t246 bt230.1, Int.tmod t247 bt230.1, wrap64 ((Int.tmod t248 12) - 3)⟩ : S39)] : List (S39)) : List (S39))).bind fun y262 => (if y259.length + y262.length < 5864062014805 then ((impl_CloseGraph.f k bt230.1 (y259 ++ y262)).bind fun bt269 => (if (bt250.2.2 != bt269.2.2) = true then (laws_FnTightened.j0 k true bt250.1 bt250.2.1 bt269.1 bt269.2.1) else (laws_FnTightened.j0 k ((bt250.2.1.length : Int) != (bt269.2.1.length : Int)) bt250.1 bt250.2.1 bt269.1 bt269.2.1))) else (none)))) else (none)))))))) else ((impl_GraphOk.f bt230.1 bt230.2).bind fun t241 => (if t241 = true then ((impl_EdgesOf.f k bt235.1 bt235.2.1).bind fun t242 => (if (t242.length : Int) = 0 then ((impl_Contains.f 0 1 1).bind fun t245 => (some t245)) else (some false))) else (some false))))))
theorem laws_FnTightened.mono_l : ∀ k, (∀ y0 y1 y2 y3 y4, LeO (laws_FnTightened.j0 k y0 y1 y2 y3 y4) (laws_FnTightened.j0 (k + 1) y0 y1 y2 y3 y4)) ∧ (∀ y0 y1 y2 y3 y4, LeO (laws_FnTightened.l0 k y0 y1 y2 y3 y4) (laws_FnTightened.l0 (k + 1) y0 y1 y2 y3 y4))
  | 0 => ⟨fun _ _ _ _ _ r h => by simp [laws_FnTightened.j0] at h, fun _ _ _ _ _ r h => by simp [laws_FnTightened.l0] at h⟩
  | k + 1 => by
    obtain ⟨ih0, ih1⟩ := laws_FnTightened.mono_l k
    refine ⟨?_, ?_⟩
    · intro y0 y1 y2 y3 y4
      unfold laws_FnTightened.j0
      repeat' first
      | (with_reducible exact ih0 _ _ _ _ _)
      | (with_reducible exact ih1 _ _ _ _ _)
      | (with_reducible exact impl_CloseGraph.mono _ _ _)
      | (with_reducible exact impl_EdgesOf.mono _ _ _)
      | (with_reducible exact impl_TightenTable.mono _ _ _ _ _ _)
      | (with_reducible exact spec_MakeGraph.mono _ _)
      | (with_reducible exact spec_MakeNum.mono _ _ _)
      | (with_reducible exact LeO.refl _)
      | (with_reducible exact LeO.none _)
      | (with_reducible refine LeO.ite ?_ ?_)
      | (with_reducible refine LeO.bind ?_ (fun _ => ?_))
      | exact ih0 _ _ _ _ _
      | exact ih1 _ _ _ _ _
      | exact impl_CloseGraph.mono _ _ _
      | exact impl_EdgesOf.mono _ _ _
      | exact impl_TightenTable.mono _ _ _ _ _ _
      | exact spec_MakeGraph.mono _ _
      | exact spec_MakeNum.mono _ _ _
      | exact LeO.none _
      | refine LeO.ite ?_ ?_
      | refine LeO.bind ?_ (fun _ => ?_)
    · intro y0 y1 y2 y3 y4
      unfold laws_FnTightened.l0
      repeat' first
      | (with_reducible exact ih0 _ _ _ _ _)
      | (with_reducible exact ih1 _ _ _ _ _)
      | (with_reducible exact impl_CloseGraph.mono _ _ _)
      | (with_reducible exact impl_EdgesOf.mono _ _ _)
      | (with_reducible exact impl_TightenTable.mono _ _ _ _ _ _)
      | (with_reducible exact spec_MakeGraph.mono _ _)
      | (with_reducible exact spec_MakeNum.mono _ _ _)
      | (with_reducible exact LeO.refl _)
      | (with_reducible exact LeO.none _)
      | (with_reducible refine LeO.ite ?_ ?_)
      | (with_reducible refine LeO.bind ?_ (fun _ => ?_))
      | exact ih0 _ _ _ _ _
      | exact ih1 _ _ _ _ _
      | exact impl_CloseGraph.mono _ _ _
      | exact impl_EdgesOf.mono _ _ _
      | exact impl_TightenTable.mono _ _ _ _ _ _
      | exact spec_MakeGraph.mono _ _
      | exact spec_MakeNum.mono _ _ _
      | exact LeO.none _
      | refine LeO.ite ?_ ?_
      | refine LeO.bind ?_ (fun _ => ?_)
theorem laws_FnTightened.mono : ∀ a0 k, LeO (laws_FnTightened.f k a0) (laws_FnTightened.f (k + 1) a0) := by
  intro a0 k
  obtain ⟨ih0, ih1⟩ := laws_FnTightened.mono_l k
  unfold laws_FnTightened.f
  repeat' first
      | (with_reducible exact ih0 _ _ _ _ _)
      | (with_reducible exact ih1 _ _ _ _ _)
      | (with_reducible exact impl_CloseGraph.mono _ _ _)
      | (with_reducible exact impl_EdgesOf.mono _ _ _)
      | (with_reducible exact impl_TightenTable.mono _ _ _ _ _ _)
      | (with_reducible exact spec_MakeGraph.mono _ _)
      | (with_reducible exact spec_MakeNum.mono _ _ _)
      | (with_reducible exact LeO.refl _)
      | (with_reducible exact LeO.none _)
      | (with_reducible refine LeO.ite ?_ ?_)
      | (with_reducible refine LeO.bind ?_ (fun _ => ?_))
      | exact ih0 _ _ _ _ _
      | exact ih1 _ _ _ _ _
      | exact impl_CloseGraph.mono _ _ _
      | exact impl_EdgesOf.mono _ _ _
      | exact impl_TightenTable.mono _ _ _ _ _ _
      | exact spec_MakeGraph.mono _ _
      | exact spec_MakeNum.mono _ _ _
      | exact LeO.none _
      | refine LeO.ite ?_ ?_
      | refine LeO.bind ?_ (fun _ => ?_)
def laws_FnTightened.T7 : Bool × List (List Nat × List Nat) := (true, [([], []), ([0], [0]), ([], []), ([2], [2]), ([1, 3], [1, 3]), ([], []), ([5, 1], [5]), ([], []), ([7], [7]), ([6, 8], [6, 8]), ([], []), ([10, 6], [10]), ([11], [11]), ([12], [12]), ([4, 9, 13], [4, 9, 13]), ([], []), ([15, 14, 11, 0, 1, 2, 3, 4, 5, 6, 7, 8, 9, 10, 11, 12, 13, 14, 15], [14, 15])])
def laws_FnTightened.B7 : List Nat := [0, 1, 0, 4, 15, 0, 35, 0, 128, 483, 0, 1123, 3171, 7267, 16383, 0, 65535]
theorem laws_FnTightened.tab7 : rtab .any (opsOf Try.f3 7) = laws_FnTightened.T7 := by kernel_rfl
theorem laws_FnTightened.bits7 : waitsOk laws_FnTightened.T7.2 laws_FnTightened.B7 = true := by kernel_rfl
def laws_FnTightened.T9 : Bool × List (List Nat × List Nat) := (true, [([], []), ([0], [0]), ([], []), ([], []), ([3], [3]), ([2, 4], [2, 4]), ([], []), ([6], [6]), ([5, 7, 5], [5, 7]), ([1, 8], [1, 8]), ([], []), ([10, 9, 8, 0, 1, 2, 3, 4, 5, 6, 7, 8, 9, 10], [9, 10])])
def laws_FnTightened.B9 : List Nat := [0, 1, 0, 0, 8, 28, 0, 64, 252, 511, 0, 2047]
theorem laws_FnTightened.tab9 : rtab .any (opsOf Try.f3 9) = laws_FnTightened.T9 := by kernel_rfl
theorem laws_FnTightened.bits9 : waitsOk laws_FnTightened.T9.2 laws_FnTightened.B9 = true := by kernel_rfl
end Go.Proofs.Ytegkkbncnmakaaa.QFnTightened
