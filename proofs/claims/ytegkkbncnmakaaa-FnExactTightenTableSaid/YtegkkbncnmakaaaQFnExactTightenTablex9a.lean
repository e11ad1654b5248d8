-- Written by this session's program wip/tools/mk.py out of the translation; Lean checks it.
import Derived.Test.YtegkkbncnmakaaaQFnExactTightenTablex0
import Derived.Test.YtegkkbncnmakaaaQFnExactTightenTablex3
import Derived.Test.YtegkkbncnmakaaaQFnExactTightenTablex4
import Derived.Test.YtegkkbncnmakaaaQFnExactTightenTablex7
import Derived.Test.YtegkkbncnmakaaaQFnExactTightenTablex8
namespace Go.Proofs.Ytegkkbncnmakaaa.QFnExactTightenTable
open Go.RowKit Go.Proofs.YtegkkbncnmakaaaW.PrintWords Go.Proofs.YtegkkbncnmakaaaW.PrintLast Go.Proofs.YtegkkbncnmakaaaW.PrintMore
attribute [local go_sem] max2_int min2_int max_two min_two max_three min_three max_four min_four   -- for this text's walks alone
set_option linter.unusedVariables false
set_option linter.unusedSimpArgs false

/-! ### laws_FnExactTightenTable: function 12 -/
mutual
def laws_FnExactTightenTable.j0 : Nat → Bool → Bool → Bool → Int → List Int → Int → Int → Int → Int → List Int → Int → List Int → Int → List Int → Option (Bool)
  | 0, _, _, _, _, _, _, _, _, _, _, _, _, _, _ => none
  | k + 1, x7, x10, x46, x190000, x190001, x191000, x191001, x191002, x205000, x205001, x210000, x210001, x219000, x219001 => if x46 = true then (some false) else ((laws_toTable.f k x190000 x190001).bind fun bt220 => ((laws_eqTable.f k x210000 x210001 bt220.1 bt220.2).bind fun t224 => (if t224 = true then ((laws_markTable.f k x210000 x210001 1).bind fun bt225 => (if bt225.1 < 0 then (laws_FnExactTightenTable.j1 k x7 true x190000 x190001 x191000 x191001 x191002 x205000 x205001 x219000 x219001) else ((laws_eqTable.f k x219000 x219001 x205000 x205001).bind fun t227 => (if t227 = true then (laws_FnExactTightenTable.j1 k x7 (x10 != x7) x190000 x190001 x191000 x191001 x191002 x205000 x205001 x219000 x219001) else (laws_FnExactTightenTable.j1 k x7 true x190000 x190001 x191000 x191001 x191002 x205000 x205001 x219000 x219001))))) else (some false))))
def laws_FnExactTightenTable.j1 : Nat → Bool → Bool → Int → List Int → Int → Int → Int → Int → List Int → Int → List Int → Option (Bool)
  | 0, _, _, _, _, _, _, _, _, _, _, _ => none
  | k + 1, x7, x67, x190000, x190001, x191000, x191001, x191002, x205000, x205001, x219000, x219001 => if x67 = true then (some false) else ((laws_markTable.f k x219000 x219001 1).bind fun bt228 => ((laws_heldTable.f k x219000 bt228.2 1).bind fun t230 => (if t230 < 0 then (some false) else (if t230 = bt228.1 then ((laws_toTable.f k x190000 x190001).bind fun bt231 => ((laws_toEdge.f x191000 x191001 x191002).bind fun bt235 => ((impl_TightenTable.f k bt231.1 bt231.2 bt235.1 bt235.2.1 bt235.2.2).bind fun bt238 => ((laws_eqTable.f k bt238.1 bt238.2.1 x205000 x205001).bind fun t244 => (if t244 = true then (laws_FnExactTightenTable.j2 k bt228.1 (bt238.2.2 != x7) x219000 bt228.2) else (laws_FnExactTightenTable.j2 k bt228.1 true x219000 bt228.2)))))) else (some false)))))
def laws_FnExactTightenTable.j2 : Nat → Int → Bool → Int → List Int → Option (Bool)
  | 0, _, _, _, _ => none
  | k + 1, x12, x95, x219000, x219001 => if x95 = true then (some false) else ((laws_heldTable.f k x219000 x219001 1).bind fun t245 => (if t245 < 0 then (some false) else (if t245 = x12 then (some true) else (some false))))
end
def laws_FnExactTightenTable.f (k : Nat) (a0_0 : Int) (l0_1 : List Int) (a1_0 : Int) (a1_1 : Int) (a1_2 : Int) : Option (Bool) := (laws_szTable.f a0_0 l0_1 1048576).bind fun t191 => (if t191 < 0 then (some true) else ((laws_toTable.f k a0_0 l0_1).bind fun bt192 => ((laws_toEdge.f a1_0 a1_1 a1_2).bind fun bt196 => ((spec_TightenTable.f k bt192.1 bt192.2 bt196.1 bt196.2.1 bt196.2.2).bind fun bt199 => ((laws_toTable.f k a0_0 l0_1).bind fun bt205 => ((laws_toEdge.f a1_0 a1_1 a1_2).bind fun bt210 => ((impl_TightenTable.f k bt205.1 bt205.2 bt210.1 bt210.2.1 bt210.2.2).bind fun bt213 => ((laws_eqTable.f k bt213.1 bt213.2.1 bt199.1 bt199.2.1).bind fun t219 => (if t219 = true then (laws_FnExactTightenTable.j0 k bt199.2.2 bt213.2.2 (bt213.2.2 != bt199.2.2) a0_0 l0_1 a1_0 a1_1 a1_2 bt199.1 bt199.2.1 bt205.1 bt205.2 bt213.1 bt213.2.1) else (laws_FnExactTightenTable.j0 k bt199.2.2 bt213.2.2 true a0_0 l0_1 a1_0 a1_1 a1_2 bt199.1 bt199.2.1 bt205.1 bt205.2 bt213.1 bt213.2.1))))))))))
theorem laws_FnExactTightenTable.mono_l : ∀ k, (∀ y0 y1 y2 y3 y4 y5 y6 y7 y8 y9 y10 y11 y12 y13, LeO (laws_FnExactTightenTable.j0 k y0 y1 y2 y3 y4 y5 y6 y7 y8 y9 y10 y11 y12 y13) (laws_FnExactTightenTable.j0 (k + 1) y0 y1 y2 y3 y4 y5 y6 y7 y8 y9 y10 y11 y12 y13)) ∧ (∀ y0 y1 y2 y3 y4 y5 y6 y7 y8 y9 y10, LeO (laws_FnExactTightenTable.j1 k y0 y1 y2 y3 y4 y5 y6 y7 y8 y9 y10) (laws_FnExactTightenTable.j1 (k + 1) y0 y1 y2 y3 y4 y5 y6 y7 y8 y9 y10)) ∧ (∀ y0 y1 y2 y3, LeO (laws_FnExactTightenTable.j2 k y0 y1 y2 y3) (laws_FnExactTightenTable.j2 (k + 1) y0 y1 y2 y3))
  | 0 => ⟨fun _ _ _ _ _ _ _ _ _ _ _ _ _ _ r h => by simp [laws_FnExactTightenTable.j0] at h, fun _ _ _ _ _ _ _ _ _ _ _ r h => by simp [laws_FnExactTightenTable.j1] at h, fun _ _ _ _ r h => by simp [laws_FnExactTightenTable.j2] at h⟩
  | k + 1 => by
    obtain ⟨ih0, ih1, ih2⟩ := laws_FnExactTightenTable.mono_l k
    refine ⟨?_, ?_, ?_⟩
    · intro y0 y1 y2 y3 y4 y5 y6 y7 y8 y9 y10 y11 y12 y13
      unfold laws_FnExactTightenTable.j0
      repeat' first
      | (with_reducible exact ih0 _ _ _ _ _ _ _ _ _ _ _ _ _ _)
      | (with_reducible exact ih1 _ _ _ _ _ _ _ _ _ _ _)
      | (with_reducible exact ih2 _ _ _ _)
      | (with_reducible exact impl_TightenTable.mono _ _ _ _ _ _)
      | (with_reducible exact laws_eqTable.mono _ _ _ _ _)
      | (with_reducible exact laws_heldTable.mono _ _ _ _)
      | (with_reducible exact laws_markTable.mono _ _ _ _)
      | (with_reducible exact laws_toTable.mono _ _ _)
      | (with_reducible exact spec_TightenTable.mono _ _ _ _ _ _)
      | (with_reducible exact LeO.refl _)
      | (with_reducible exact LeO.none _)
      | (with_reducible refine LeO.ite ?_ ?_)
      | (with_reducible refine LeO.bind ?_ (fun _ => ?_))
      | exact ih0 _ _ _ _ _ _ _ _ _ _ _ _ _ _
      | exact ih1 _ _ _ _ _ _ _ _ _ _ _
      | exact ih2 _ _ _ _
      | exact impl_TightenTable.mono _ _ _ _ _ _
      | exact laws_eqTable.mono _ _ _ _ _
      | exact laws_heldTable.mono _ _ _ _
      | exact laws_markTable.mono _ _ _ _
      | exact laws_toTable.mono _ _ _
      | exact spec_TightenTable.mono _ _ _ _ _ _
      | exact LeO.none _
      | refine LeO.ite ?_ ?_
      | refine LeO.bind ?_ (fun _ => ?_)
    · intro y0 y1 y2 y3 y4 y5 y6 y7 y8 y9 y10
      unfold laws_FnExactTightenTable.j1
      repeat' first
      | (with_reducible exact ih0 _ _ _ _ _ _ _ _ _ _ _ _ _ _)
      | (with_reducible exact ih1 _ _ _ _ _ _ _ _ _ _ _)
      | (with_reducible exact ih2 _ _ _ _)
      | (with_reducible exact impl_TightenTable.mono _ _ _ _ _ _)
      | (with_reducible exact laws_eqTable.mono _ _ _ _ _)
      | (with_reducible exact laws_heldTable.mono _ _ _ _)
      | (with_reducible exact laws_markTable.mono _ _ _ _)
      | (with_reducible exact laws_toTable.mono _ _ _)
      | (with_reducible exact spec_TightenTable.mono _ _ _ _ _ _)
      | (with_reducible exact LeO.refl _)
      | (with_reducible exact LeO.none _)
      | (with_reducible refine LeO.ite ?_ ?_)
      | (with_reducible refine LeO.bind ?_ (fun _ => ?_))
      | exact ih0 _ _ _ _ _ _ _ _ _ _ _ _ _ _
      | exact ih1 _ _ _ _ _ _ _ _ _ _ _
      | exact ih2 _ _ _ _
      | exact impl_TightenTable.mono _ _ _ _ _ _
      | exact laws_eqTable.mono _ _ _ _ _
      | exact laws_heldTable.mono _ _ _ _
      | exact laws_markTable.mono _ _ _ _
      | exact laws_toTable.mono _ _ _
      | exact spec_TightenTable.mono _ _ _ _ _ _
      | exact LeO.none _
      | refine LeO.ite ?_ ?_
      | refine LeO.bind ?_ (fun _ => ?_)
    · intro y0 y1 y2 y3
      unfold laws_FnExactTightenTable.j2
      repeat' first
      | (with_reducible exact ih0 _ _ _ _ _ _ _ _ _ _ _ _ _ _)
      | (with_reducible exact ih1 _ _ _ _ _ _ _ _ _ _ _)
      | (with_reducible exact ih2 _ _ _ _)
      | (with_reducible exact impl_TightenTable.mono _ _ _ _ _ _)
      | (with_reducible exact laws_eqTable.mono _ _ _ _ _)
      | (with_reducible exact laws_heldTable.mono _ _ _ _)
      | (with_reducible exact laws_markTable.mono _ _ _ _)
      | (with_reducible exact laws_toTable.mono _ _ _)
      | (with_reducible exact spec_TightenTable.mono _ _ _ _ _ _)
      | (with_reducible exact LeO.refl _)
      | (with_reducible exact LeO.none _)
      | (with_reducible refine LeO.ite ?_ ?_)
      | (with_reducible refine LeO.bind ?_ (fun _ => ?_))
      | exact ih0 _ _ _ _ _ _ _ _ _ _ _ _ _ _
      | exact ih1 _ _ _ _ _ _ _ _ _ _ _
      | exact ih2 _ _ _ _
      | exact impl_TightenTable.mono _ _ _ _ _ _
      | exact laws_eqTable.mono _ _ _ _ _
      | exact laws_heldTable.mono _ _ _ _
      | exact laws_markTable.mono _ _ _ _
      | exact laws_toTable.mono _ _ _
      | exact spec_TightenTable.mono _ _ _ _ _ _
      | exact LeO.none _
      | refine LeO.ite ?_ ?_
      | refine LeO.bind ?_ (fun _ => ?_)
theorem laws_FnExactTightenTable.mono : ∀ a0 a1 a2 a3 a4 k, LeO (laws_FnExactTightenTable.f k a0 a1 a2 a3 a4) (laws_FnExactTightenTable.f (k + 1) a0 a1 a2 a3 a4) := by
  intro a0 a1 a2 a3 a4 k
  obtain ⟨ih0, ih1, ih2⟩ := laws_FnExactTightenTable.mono_l k
  unfold laws_FnExactTightenTable.f
  repeat' first
      | (with_reducible exact ih0 _ _ _ _ _ _ _ _ _ _ _ _ _ _)
      | (with_reducible exact ih1 _ _ _ _ _ _ _ _ _ _ _)
      | (with_reducible exact ih2 _ _ _ _)
      | (with_reducible exact impl_TightenTable.mono _ _ _ _ _ _)
      | (with_reducible exact laws_eqTable.mono _ _ _ _ _)
      | (with_reducible exact laws_heldTable.mono _ _ _ _)
      | (with_reducible exact laws_markTable.mono _ _ _ _)
      | (with_reducible exact laws_toTable.mono _ _ _)
      | (with_reducible exact spec_TightenTable.mono _ _ _ _ _ _)
      | (with_reducible exact LeO.refl _)
      | (with_reducible exact LeO.none _)
      | (with_reducible refine LeO.ite ?_ ?_)
      | (with_reducible refine LeO.bind ?_ (fun _ => ?_))
      | exact ih0 _ _ _ _ _ _ _ _ _ _ _ _ _ _
      | exact ih1 _ _ _ _ _ _ _ _ _ _ _
      | exact ih2 _ _ _ _
      | exact impl_TightenTable.mono _ _ _ _ _ _
      | exact laws_eqTable.mono _ _ _ _ _
      | exact laws_heldTable.mono _ _ _ _
      | exact laws_markTable.mono _ _ _ _
      | exact laws_toTable.mono _ _ _
      | exact spec_TightenTable.mono _ _ _ _ _ _
      | exact LeO.none _
      | refine LeO.ite ?_ ?_
      | refine LeO.bind ?_ (fun _ => ?_)
def laws_FnExactTightenTable.T5 : Bool × List (List Nat × List Nat) := (true, [([], []), ([0], [0]), ([], []), ([2, 1], [2]), ([1, 3, 3], [1, 3]), ([4], [4]), ([5], [5]), ([5], [5]), ([], []), ([8, 6, 4, 0, 1, 2, 3, 4, 5, 6, 8], [6, 8]), ([7, 9, 0, 1, 2, 3, 4, 5, 6, 7, 8, 9], [7])])
def laws_FnExactTightenTable.B5 : List Nat := [0, 1, 0, 7, 15, 31, 63, 63, 0, 383, 1023]
theorem laws_FnExactTightenTable.tab5 : rtab .any (opsOf Try.f12 5) = laws_FnExactTightenTable.T5 := by kernel_rfl
theorem laws_FnExactTightenTable.bits5 : waitsOk laws_FnExactTightenTable.T5.2 laws_FnExactTightenTable.B5 = true := by kernel_rfl
def laws_FnExactTightenTable.T7 : Bool × List (List Nat × List Nat) := (true, [([], []), ([], []), ([1], [1]), ([0, 2, 2], [0, 2]), ([3], [3]), ([4], [4]), ([4], [4]), ([], []), ([7, 5, 3, 0, 1, 2, 3, 4, 5, 7], [5, 7]), ([6, 8, 0, 1, 2, 3, 4, 5, 6, 7, 8], [6])])
def laws_FnExactTightenTable.B7 : List Nat := [0, 0, 2, 7, 15, 31, 31, 0, 191, 511]
theorem laws_FnExactTightenTable.tab7 : rtab .any (opsOf Try.f12 7) = laws_FnExactTightenTable.T7 := by kernel_rfl
theorem laws_FnExactTightenTable.bits7 : waitsOk laws_FnExactTightenTable.T7.2 laws_FnExactTightenTable.B7 = true := by kernel_rfl
def laws_FnExactTightenTable.T24 : Bool × List (List Nat × List Nat) := (true, [([], []), ([0], [0]), ([], []), ([2, 1], [2]), ([1, 3, 3], [1, 3]), ([4], [4]), ([5], [5]), ([5], [5]), ([], []), ([8, 6, 4, 0, 1, 2, 3, 4, 5, 6, 8], [6, 8]), ([7, 9, 0, 1, 2, 3, 4, 5, 6, 7, 8, 9], [7])])
def laws_FnExactTightenTable.B24 : List Nat := [0, 1, 0, 7, 15, 31, 63, 63, 0, 383, 1023]
theorem laws_FnExactTightenTable.tab24 : rtab .any (opsOf Try.f12 24) = laws_FnExactTightenTable.T24 := by kernel_rfl
theorem laws_FnExactTightenTable.bits24 : waitsOk laws_FnExactTightenTable.T24.2 laws_FnExactTightenTable.B24 = true := by kernel_rfl
end Go.Proofs.Ytegkkbncnmakaaa.QFnExactTightenTable
