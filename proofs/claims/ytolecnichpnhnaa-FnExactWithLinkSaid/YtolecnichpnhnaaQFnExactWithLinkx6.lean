-- Written by this session's program wip/tools/mk.py out of the translation; Lean checks it.
import Derived.Test.YtolecnichpnhnaaQFnExactWithLinkx0
import Derived.Test.YtolecnichpnhnaaQFnExactWithLinkx1
import Derived.Test.YtolecnichpnhnaaQFnExactWithLinkx2
import Derived.Test.YtolecnichpnhnaaQFnExactWithLinkx4
import Derived.Test.YtolecnichpnhnaaQFnExactWithLinkx5
namespace Go.Proofs.Ytolecnichpnhnaa.QFnExactWithLink
open Go.RowKit Go.Proofs.YtolecnichpnhnaaW.PrintWords Go.Proofs.YtolecnichpnhnaaW.PrintLast Go.Proofs.YtolecnichpnhnaaW.PrintMore
attribute [local go_sem] max2_int min2_int max_two min_two max_three min_three max_four min_four   -- for this text's walks alone
set_option linter.unusedVariables false
set_option linter.unusedSimpArgs false

/-! ### laws_FnExactWithLink: function 7 -/
mutual
def laws_FnExactWithLink.j0 : Nat → Bool → Bool → Bool → Int → List (S42) → Int → Int → Int → Int → Int → List (S47) → Int → List (S47) → Int → List (S47) → Option (Bool)
  | 0, _, _, _, _, _, _, _, _, _, _, _, _, _, _, _ => none
  | k + 1, x7, x10, x46, x202000, x202001, x203000, x203001, x203002, x203003, x218000, x218001, x223000, x223001, x233000, x233001 => if x46 = true then (some false) else ((laws_toSimple.f k x202000 x202001).bind fun bt234 => ((laws_eqSimple.f k x223000 x223001 bt234.1 bt234.2).bind fun t238 => (if t238 = true then ((laws_markSimple.f k x223000 x223001 1).bind fun bt239 => (if bt239.1 < 0 then (laws_FnExactWithLink.j1 k x7 true x202000 x202001 x203000 x203001 x203002 x203003 x218000 x218001 x233000 x233001) else ((laws_eqSimple.f k x233000 x233001 x218000 x218001).bind fun t241 => (if t241 = true then (laws_FnExactWithLink.j1 k x7 (x10 != x7) x202000 x202001 x203000 x203001 x203002 x203003 x218000 x218001 x233000 x233001) else (laws_FnExactWithLink.j1 k x7 true x202000 x202001 x203000 x203001 x203002 x203003 x218000 x218001 x233000 x233001))))) else (some false))))
def laws_FnExactWithLink.j1 : Nat → Bool → Bool → Int → List (S42) → Int → Int → Int → Int → Int → List (S47) → Int → List (S47) → Option (Bool)
  | 0, _, _, _, _, _, _, _, _, _, _, _, _ => none
  | k + 1, x7, x67, x202000, x202001, x203000, x203001, x203002, x203003, x218000, x218001, x233000, x233001 => if x67 = true then (some false) else ((laws_markSimple.f k x233000 x233001 1).bind fun bt242 => ((laws_heldSimple.f k x233000 bt242.2 1).bind fun t244 => (if t244 < 0 then (some false) else (if t244 = bt242.1 then ((laws_toSimple.f k x202000 x202001).bind fun bt245 => ((laws_toLink.f x203000 x203001 x203002 x203003).bind fun bt249 => ((impl_WithLink.f bt245.1 bt245.2 bt249.1 bt249.2.1 bt249.2.2.1 bt249.2.2.2).bind fun bt253 => ((laws_eqSimple.f k bt253.1 bt253.2.1 x218000 x218001).bind fun t259 => (if t259 = true then (laws_FnExactWithLink.j2 k bt242.1 (bt253.2.2 != x7) x233000 bt242.2) else (laws_FnExactWithLink.j2 k bt242.1 true x233000 bt242.2)))))) else (some false)))))
def laws_FnExactWithLink.j2 : Nat → Int → Bool → Int → List (S47) → Option (Bool)
  | 0, _, _, _, _ => none
  | k + 1, x12, x95, x233000, x233001 => if x95 = true then (some false) else ((laws_heldSimple.f k x233000 x233001 1).bind fun t260 => (if t260 < 0 then (some false) else (if t260 = x12 then (some true) else (some false))))
end
def laws_FnExactWithLink.f (k : Nat) (a0_0 : Int) (l0_1 : List (S42)) (a1_0 : Int) (a1_1 : Int) (a1_2 : Int) (a1_3 : Int) : Option (Bool) := (laws_szSimple.f a0_0 l0_1 1048576).bind fun t203 => (if t203 < 0 then (some true) else ((laws_toSimple.f k a0_0 l0_1).bind fun bt204 => ((laws_toLink.f a1_0 a1_1 a1_2 a1_3).bind fun bt208 => ((spec_WithLink.f k bt204.1 bt204.2 bt208.1 bt208.2.1 bt208.2.2.1 bt208.2.2.2).bind fun bt212 => ((laws_toSimple.f k a0_0 l0_1).bind fun bt218 => ((laws_toLink.f a1_0 a1_1 a1_2 a1_3).bind fun bt223 => ((impl_WithLink.f bt218.1 bt218.2 bt223.1 bt223.2.1 bt223.2.2.1 bt223.2.2.2).bind fun bt227 => ((laws_eqSimple.f k bt227.1 bt227.2.1 bt212.1 bt212.2.1).bind fun t233 => (if t233 = true then (laws_FnExactWithLink.j0 k bt212.2.2 bt227.2.2 (bt227.2.2 != bt212.2.2) a0_0 l0_1 a1_0 a1_1 a1_2 a1_3 bt212.1 bt212.2.1 bt218.1 bt218.2 bt227.1 bt227.2.1) else (laws_FnExactWithLink.j0 k bt212.2.2 bt227.2.2 true a0_0 l0_1 a1_0 a1_1 a1_2 a1_3 bt212.1 bt212.2.1 bt218.1 bt218.2 bt227.1 bt227.2.1))))))))))
theorem laws_FnExactWithLink.mono_l : ∀ k, (∀ y0 y1 y2 y3 y4 y5 y6 y7 y8 y9 y10 y11 y12 y13 y14, LeO (laws_FnExactWithLink.j0 k y0 y1 y2 y3 y4 y5 y6 y7 y8 y9 y10 y11 y12 y13 y14) (laws_FnExactWithLink.j0 (k + 1) y0 y1 y2 y3 y4 y5 y6 y7 y8 y9 y10 y11 y12 y13 y14)) ∧ (∀ y0 y1 y2 y3 y4 y5 y6 y7 y8 y9 y10 y11, LeO (laws_FnExactWithLink.j1 k y0 y1 y2 y3 y4 y5 y6 y7 y8 y9 y10 y11) (laws_FnExactWithLink.j1 (k + 1) y0 y1 y2 y3 y4 y5 y6 y7 y8 y9 y10 y11)) ∧ (∀ y0 y1 y2 y3, LeO (laws_FnExactWithLink.j2 k y0 y1 y2 y3) (laws_FnExactWithLink.j2 (k + 1) y0 y1 y2 y3))
  | 0 => ⟨fun _ _ _ _ _ _ _ _ _ _ _ _ _ _ _ r h => by simp [laws_FnExactWithLink.j0] at h, fun _ _ _ _ _ _ _ _ _ _ _ _ r h => by simp [laws_FnExactWithLink.j1] at h, fun _ _ _ _ r h => by simp [laws_FnExactWithLink.j2] at h⟩
  | k + 1 => by
    obtain ⟨ih0, ih1, ih2⟩ := laws_FnExactWithLink.mono_l k
    refine ⟨?_, ?_, ?_⟩
    · intro y0 y1 y2 y3 y4 y5 y6 y7 y8 y9 y10 y11 y12 y13 y14
      unfold laws_FnExactWithLink.j0
      repeat' first
      | (with_reducible exact ih0 _ _ _ _ _ _ _ _ _ _ _ _ _ _ _)
      | (with_reducible exact ih1 _ _ _ _ _ _ _ _ _ _ _ _)
      | (with_reducible exact ih2 _ _ _ _)
      | (with_reducible exact laws_eqSimple.mono _ _ _ _ _)
      | (with_reducible exact laws_heldSimple.mono _ _ _ _)
      | (with_reducible exact laws_markSimple.mono _ _ _ _)
      | (with_reducible exact laws_toSimple.mono _ _ _)
      | (with_reducible exact spec_WithLink.mono _ _ _ _ _ _ _)
      | (with_reducible exact LeO.refl _)
      | (with_reducible exact LeO.none _)
      | (with_reducible refine LeO.ite ?_ ?_)
      | (with_reducible refine LeO.bind ?_ (fun _ => ?_))
      | exact ih0 _ _ _ _ _ _ _ _ _ _ _ _ _ _ _
      | exact ih1 _ _ _ _ _ _ _ _ _ _ _ _
      | exact ih2 _ _ _ _
      | exact laws_eqSimple.mono _ _ _ _ _
      | exact laws_heldSimple.mono _ _ _ _
      | exact laws_markSimple.mono _ _ _ _
      | exact laws_toSimple.mono _ _ _
      | exact spec_WithLink.mono _ _ _ _ _ _ _
      | exact LeO.none _
      | refine LeO.ite ?_ ?_
      | refine LeO.bind ?_ (fun _ => ?_)
    · intro y0 y1 y2 y3 y4 y5 y6 y7 y8 y9 y10 y11
      unfold laws_FnExactWithLink.j1
      repeat' first
      | (with_reducible exact ih0 _ _ _ _ _ _ _ _ _ _ _ _ _ _ _)
      | (with_reducible exact ih1 _ _ _ _ _ _ _ _ _ _ _ _)
      | (with_reducible exact ih2 _ _ _ _)
      | (with_reducible exact laws_eqSimple.mono _ _ _ _ _)
      | (with_reducible exact laws_heldSimple.mono _ _ _ _)
      | (with_reducible exact laws_markSimple.mono _ _ _ _)
      | (with_reducible exact laws_toSimple.mono _ _ _)
      | (with_reducible exact spec_WithLink.mono _ _ _ _ _ _ _)
      | (with_reducible exact LeO.refl _)
      | (with_reducible exact LeO.none _)
      | (with_reducible refine LeO.ite ?_ ?_)
      | (with_reducible refine LeO.bind ?_ (fun _ => ?_))
      | exact ih0 _ _ _ _ _ _ _ _ _ _ _ _ _ _ _
      | exact ih1 _ _ _ _ _ _ _ _ _ _ _ _
      | exact ih2 _ _ _ _
      | exact laws_eqSimple.mono _ _ _ _ _
      | exact laws_heldSimple.mono _ _ _ _
      | exact laws_markSimple.mono _ _ _ _
      | exact laws_toSimple.mono _ _ _
      | exact spec_WithLink.mono _ _ _ _ _ _ _
      | exact LeO.none _
      | refine LeO.ite ?_ ?_
      | refine LeO.bind ?_ (fun _ => ?_)
    · intro y0 y1 y2 y3
      unfold laws_FnExactWithLink.j2
      repeat' first
      | (with_reducible exact ih0 _ _ _ _ _ _ _ _ _ _ _ _ _ _ _)
      | (with_reducible exact ih1 _ _ _ _ _ _ _ _ _ _ _ _)
      | (with_reducible exact ih2 _ _ _ _)
      | (with_reducible exact laws_eqSimple.mono _ _ _ _ _)
      | (with_reducible exact laws_heldSimple.mono _ _ _ _)
      | (with_reducible exact laws_markSimple.mono _ _ _ _)
      | (with_reducible exact laws_toSimple.mono _ _ _)
      | (with_reducible exact spec_WithLink.mono _ _ _ _ _ _ _)
      | (with_reducible exact LeO.refl _)
      | (with_reducible exact LeO.none _)
      | (with_reducible refine LeO.ite ?_ ?_)
      | (with_reducible refine LeO.bind ?_ (fun _ => ?_))
      | exact ih0 _ _ _ _ _ _ _ _ _ _ _ _ _ _ _
      | exact ih1 _ _ _ _ _ _ _ _ _ _ _ _
      | exact ih2 _ _ _ _
      | exact laws_eqSimple.mono _ _ _ _ _
      | exact laws_heldSimple.mono _ _ _ _
      | exact laws_markSimple.mono _ _ _ _
      | exact laws_toSimple.mono _ _ _
      | exact spec_WithLink.mono _ _ _ _ _ _ _
      | exact LeO.none _
      | refine LeO.ite ?_ ?_
      | refine LeO.bind ?_ (fun _ => ?_)
theorem laws_FnExactWithLink.mono : ∀ a0 a1 a2 a3 a4 a5 k, LeO (laws_FnExactWithLink.f k a0 a1 a2 a3 a4 a5) (laws_FnExactWithLink.f (k + 1) a0 a1 a2 a3 a4 a5) := by
  intro a0 a1 a2 a3 a4 a5 k
  obtain ⟨ih0, ih1, ih2⟩ := laws_FnExactWithLink.mono_l k
  unfold laws_FnExactWithLink.f
  repeat' first
      | (with_reducible exact ih0 _ _ _ _ _ _ _ _ _ _ _ _ _ _ _)
      | (with_reducible exact ih1 _ _ _ _ _ _ _ _ _ _ _ _)
      | (with_reducible exact ih2 _ _ _ _)
      | (with_reducible exact laws_eqSimple.mono _ _ _ _ _)
      | (with_reducible exact laws_heldSimple.mono _ _ _ _)
      | (with_reducible exact laws_markSimple.mono _ _ _ _)
      | (with_reducible exact laws_toSimple.mono _ _ _)
      | (with_reducible exact spec_WithLink.mono _ _ _ _ _ _ _)
      | (with_reducible exact LeO.refl _)
      | (with_reducible exact LeO.none _)
      | (with_reducible refine LeO.ite ?_ ?_)
      | (with_reducible refine LeO.bind ?_ (fun _ => ?_))
      | exact ih0 _ _ _ _ _ _ _ _ _ _ _ _ _ _ _
      | exact ih1 _ _ _ _ _ _ _ _ _ _ _ _
      | exact ih2 _ _ _ _
      | exact laws_eqSimple.mono _ _ _ _ _
      | exact laws_heldSimple.mono _ _ _ _
      | exact laws_markSimple.mono _ _ _ _
      | exact laws_toSimple.mono _ _ _
      | exact spec_WithLink.mono _ _ _ _ _ _ _
      | exact LeO.none _
      | refine LeO.ite ?_ ?_
      | refine LeO.bind ?_ (fun _ => ?_)
def laws_FnExactWithLink.T5 : Bool × List (List Nat × List Nat) := (true, [([], []), ([0], [0]), ([], []), ([2, 1], [2]), ([1, 3, 3], [1, 3]), ([4], [4]), ([5], [5]), ([5], [5]), ([], []), ([8, 6, 4, 0, 1, 2, 3, 4, 5, 6, 8], [6, 8]), ([7, 9, 0, 1, 2, 3, 4, 5, 6, 7, 8, 9], [7])])
def laws_FnExactWithLink.B5 : List Nat := [0, 1, 0, 7, 15, 31, 63, 63, 0, 383, 1023]
theorem laws_FnExactWithLink.tab5 : rtab .any (opsOf Try.f7 5) = laws_FnExactWithLink.T5 := by kernel_rfl
theorem laws_FnExactWithLink.bits5 : waitsOk laws_FnExactWithLink.T5.2 laws_FnExactWithLink.B5 = true := by kernel_rfl
def laws_FnExactWithLink.T7 : Bool × List (List Nat × List Nat) := (true, [([], []), ([], []), ([1], [1]), ([0, 2, 2], [0, 2]), ([3], [3]), ([4], [4]), ([4], [4]), ([], []), ([7, 5, 3, 0, 1, 2, 3, 4, 5, 7], [5, 7]), ([6, 8, 0, 1, 2, 3, 4, 5, 6, 7, 8], [6])])
def laws_FnExactWithLink.B7 : List Nat := [0, 0, 2, 7, 15, 31, 31, 0, 191, 511]
theorem laws_FnExactWithLink.tab7 : rtab .any (opsOf Try.f7 7) = laws_FnExactWithLink.T7 := by kernel_rfl
theorem laws_FnExactWithLink.bits7 : waitsOk laws_FnExactWithLink.T7.2 laws_FnExactWithLink.B7 = true := by kernel_rfl
def laws_FnExactWithLink.T24 : Bool × List (List Nat × List Nat) := (true, [([], []), ([0], [0]), ([], []), ([2, 1], [2]), ([1, 3, 3], [1, 3]), ([4], [4]), ([5], [5]), ([5], [5]), ([], []), ([8, 6, 4, 0, 1, 2, 3, 4, 5, 6, 8], [6, 8]), ([7, 9, 0, 1, 2, 3, 4, 5, 6, 7, 8, 9], [7])])
def laws_FnExactWithLink.B24 : List Nat := [0, 1, 0, 7, 15, 31, 63, 63, 0, 383, 1023]
theorem laws_FnExactWithLink.tab24 : rtab .any (opsOf Try.f7 24) = laws_FnExactWithLink.T24 := by kernel_rfl
theorem laws_FnExactWithLink.bits24 : waitsOk laws_FnExactWithLink.T24.2 laws_FnExactWithLink.B24 = true := by kernel_rfl
set_option maxHeartbeats 8000000 in
set_option maxRecDepth 100000 in
theorem laws_FnExactWithLink.calls (k : Nat) (a0_0 : Int) (A0_1 : Option Addr) (c0_1 : Nat) (l0_1 : List (S42)) (a1_0 : Int) (a1_1 : Int) (a1_2 : Int) (a1_3 : Int) (r : Bool) (w : World) (hr0_1 : Kd.C k42 w A0_1 l0_1.length l0_1) (hc0_1 : l0_1.length ≤ c0_1) (h : laws_FnExactWithLink.f k a0_0 l0_1 a1_0 a1_1 a1_2 a1_3 = some r) (hr_ : r = true) :
    Calls Try.prog 7 #[.agg #[.int .i64 a0_0, .slice A0_1 l0_1.length c0_1], .agg #[.int .i64 a1_0, .int .i64 a1_1, .int .i64 a1_2, .int .i64 a1_3]] w fun e w' => e = .returned (.bool r) ∧ Below w.heap.size w w' := by
 have hu24 := Try.underlying24
 have hu42 := Try.underlying42
 have hu29 := Try.underlying29
 have HR0_1 := mK hr0_1
 have HC0_1 := mK hc0_1
 clear hr0_1 hc0_1
 have HB := mK (Below.refl w.heap.size w)
 have H : ((laws_szSimple.f a0_0 l0_1 1048576).bind fun t203 => (if t203 < 0 then (some true) else ((laws_toSimple.f k a0_0 l0_1).bind fun bt204 => ((laws_toLink.f a1_0 a1_1 a1_2 a1_3).bind fun bt208 => ((spec_WithLink.f k bt204.1 bt204.2 bt208.1 bt208.2.1 bt208.2.2.1 bt208.2.2.2).bind fun bt212 => ((laws_toSimple.f k a0_0 l0_1).bind fun bt218 => ((laws_toLink.f a1_0 a1_1 a1_2 a1_3).bind fun bt223 => ((impl_WithLink.f bt218.1 bt218.2 bt223.1 bt223.2.1 bt223.2.2.1 bt223.2.2.2).bind fun bt227 => ((laws_eqSimple.f k bt227.1 bt227.2.1 bt212.1 bt212.2.1).bind fun t233 => (if t233 = true then (laws_FnExactWithLink.j0 k bt212.2.2 bt227.2.2 (bt227.2.2 != bt212.2.2) a0_0 l0_1 a1_0 a1_1 a1_2 a1_3 bt212.1 bt212.2.1 bt218.1 bt218.2 bt227.1 bt227.2.1) else (laws_FnExactWithLink.j0 k bt212.2.2 bt227.2.2 true a0_0 l0_1 a1_0 a1_1 a1_2 a1_3 bt212.1 bt212.2.1 bt218.1 bt218.2 bt227.1 bt227.2.1))))))))))) = some r := h
 clear h
 replace H := Option.bind_eq_some_iff.mp H
 obtain ⟨t203, A30, H⟩ := H
 replace H : (if t203 < 0 then (some true) else ((laws_toSimple.f k a0_0 l0_1).bind fun bt204 => ((laws_toLink.f a1_0 a1_1 a1_2 a1_3).bind fun bt208 => ((spec_WithLink.f k bt204.1 bt204.2 bt208.1 bt208.2.1 bt208.2.2.1 bt208.2.2.2).bind fun bt212 => ((laws_toSimple.f k a0_0 l0_1).bind fun bt218 => ((laws_toLink.f a1_0 a1_1 a1_2 a1_3).bind fun bt223 => ((impl_WithLink.f bt218.1 bt218.2 bt223.1 bt223.2.1 bt223.2.2.1 bt223.2.2.2).bind fun bt227 => ((laws_eqSimple.f k bt227.1 bt227.2.1 bt212.1 bt212.2.1).bind fun t233 => (if t233 = true then (laws_FnExactWithLink.j0 k bt212.2.2 bt227.2.2 (bt227.2.2 != bt212.2.2) a0_0 l0_1 a1_0 a1_1 a1_2 a1_3 bt212.1 bt212.2.1 bt218.1 bt218.2 bt227.1 bt227.2.1) else (laws_FnExactWithLink.j0 k bt212.2.2 bt227.2.2 true a0_0 l0_1 a1_0 a1_1 a1_2 a1_3 bt212.1 bt212.2.1 bt218.1 bt218.2 bt227.1 bt227.2.1)))))))))) = some r := H
 have A3 := mK A30
 clear A30
 by_cases c4 : t203 < 0
 {
 rw [if_pos c4] at H
 have c4b0 : decide (t203 < 0) = true := decide_eq_true c4
 clear c4
 obtain rfl := Option.some.inj H
 clear hr_
 go_enter Try.func7, Try.ntmps7
 go_wp2_with (first | ((with_reducible refine gate_dst (N := 2) rfl ?_); refine box_event ?hg (N := 2) ?hd (cs := #[.int .i64 a0_0, .slice A0_1 l0_1.length c0_1]) (t := 24) ?hr ?_; (case hd => rfl); (case hg => rfl); (case hr => go_simp <;> rfl); intro gb201 hg w5 hbox hb; have n0_ := mK (below_step (by repeat first|(with_reducible first|exact HB.out|apply bA|apply bN|apply bD)|exact HB.out) hb); have n1_ := mK (hbox); have n2_ := mK ((by rw [hg]; exact (below_size (by repeat first|(with_reducible first|exact HB.out|apply bA|apply bN|apply bD)|exact HB.out)) : w.heap.size ≤ gb201)); have n3_ := mK ((by rw [hg]; exact (below_size (by repeat first|(with_reducible first|exact HB.out|apply bA|apply bN|apply bD)|exact HB.out)) : w.heap.size ≤ gb201)); clear HB; have HB := n0_; have BK201 := n1_; have GW201 := n2_; have GE201 := n3_; clear n0_ n1_ n2_ n3_; clear hb hbox hg) | ((with_reducible refine gate_dst (N := 3) rfl ?_); refine box_event ?hg (N := 3) ?hd (cs := #[.int .i64 a1_0, .int .i64 a1_1, .int .i64 a1_2, .int .i64 a1_3]) (t := 42) ?hr ?_; (case hd => rfl); (case hg => rfl); (case hr => go_simp <;> rfl); intro gb202 hg w6 hbox hb; have n0_ := mK (blk_below (by (with_reducible repeat first|apply kN|apply kD|apply kA); exact BK201.out) hb); have n1_ := mK (below_step (by repeat first|(with_reducible first|exact HB.out|apply bA|apply bN|apply bD|refine bS ?_ GE201.out)|exact HB.out) hb); have n2_ := mK (hbox); have n3_ := mK ((by rw [hg]; exact (below_size (by repeat first|(with_reducible first|exact HB.out|apply bA|apply bN|apply bD|refine bS ?_ GE201.out)|exact HB.out)) : w.heap.size ≤ gb202)); have n4_ := mK ((by rw [hg]; exact (below_size (by repeat first|(with_reducible first|exact HB.out|apply bA|apply bN|apply bD|refine bS ?_ GE201.out)|exact HB.out)) : w.heap.size ≤ gb202)); have n5_ := mK ((by rw [hg]; exact Nat.ne_of_lt (blk_lt (by (with_reducible repeat first|apply kN|apply kD|apply kA); exact BK201.out)) : gb201 ≠ gb202)); have n6_ := mK ((by rw [hg]; exact Nat.ne_of_gt (blk_lt (by (with_reducible repeat first|apply kN|apply kD|apply kA); exact BK201.out)) : gb202 ≠ gb201)); clear BK201; clear HB; have BK201 := n0_; have HB := n1_; have BK202 := n2_; have GW202 := n3_; have GE202 := n4_; have NB201_202 := n5_; have NB202_201 := n6_; clear n0_ n1_ n2_ n3_ n4_ n5_ n6_; clear hb hbox hg; have hnb7 := NB201_202.out; have hnc7 := NB202_201.out; have hcz8_0 : w6.cell? ⟨gb201, 0, none⟩ = some (.int .i64 a0_0) := (blk_cell BK201.out 0).trans rfl; have hcz8_1 : w6.cell? ⟨gb201, 1, none⟩ = some (.slice A0_1 l0_1.length c0_1) := (blk_cell BK201.out 1).trans rfl; have hfz8_0 := blk_frozen BK201.out 0; have hfz8_1 := blk_frozen BK201.out 1) | ((with_reducible refine gate_callee (f := 11) rfl ?_); refine goesL_ (some 18) rfl rfl Try.func11 (by kernel_rfl) rfl #[.agg #[.int .i64 a0_0, .slice A0_1 l0_1.length c0_1], .int .i64 1048576] rfl (by (try simp only [List.map_toArray, List.map_cons, List.map_nil]); first | done | rfl | (simp only [List.length_drop, List.length_take]; rfl)) ?_; (with_reducible refine (laws_szSimple.calls a0_0 _ _ l0_1 1048576 t203 _ ?side1 ?side2 A3.out).mono ?_); (case side1 => repeat (first | exact (Kd.C_below HR0_1.out HB.out) | (with_reducible refine Kd.C_alloc ?_ _) | (with_reducible refine Kd.C_drewN ?_ _) | (with_reducible refine Kd.C_drew ?_))); (case side2 => exact HC0_1.out); rintro e w9 ⟨rfl, hb⟩; refine ⟨_, rfl, ?_⟩; have n0_ := mK (blk_below (by (with_reducible repeat first|apply kN|apply kD|apply kA); exact BK201.out) hb); have n1_ := mK (blk_below (by (with_reducible repeat first|apply kN|apply kD|apply kA); exact BK202.out) hb); have n2_ := mK (below_step (by repeat first|(with_reducible first|exact HB.out|apply bA|apply bN|apply bD|refine bS ?_ GE201.out|refine bS ?_ GE202.out)|exact HB.out) hb); clear BK201; clear BK202; clear HB; have BK201 := n0_; have BK202 := n1_; have HB := n2_; clear n0_ n1_ n2_; (try clear hb); (try clear hb2); (try clear hk); (try clear hi)))
 go_ret
 exact ⟨by first | rfl | (simp [errW_none, errW_some] <;> rfl) | (simp [*, errW_none, errW_some] <;> rfl), by repeat first|(with_reducible first|exact HB.out|apply bA|apply bN|apply bD|refine bS ?_ GE201.out|refine bS ?_ GE202.out)|exact HB.out⟩
 }
 rw [if_neg c4] at H
 have c4b0 : decide (t203 < 0) = false := decide_eq_false c4
 clear c4
 replace H := Option.bind_eq_some_iff.mp H
 obtain ⟨⟨t204, t205⟩, A100, H⟩ := H
 replace H : ((laws_toLink.f a1_0 a1_1 a1_2 a1_3).bind fun bt208 => ((spec_WithLink.f k t204 t205 bt208.1 bt208.2.1 bt208.2.2.1 bt208.2.2.2).bind fun bt212 => ((laws_toSimple.f k a0_0 l0_1).bind fun bt218 => ((laws_toLink.f a1_0 a1_1 a1_2 a1_3).bind fun bt223 => ((impl_WithLink.f bt218.1 bt218.2 bt223.1 bt223.2.1 bt223.2.2.1 bt223.2.2.2).bind fun bt227 => ((laws_eqSimple.f k bt227.1 bt227.2.1 bt212.1 bt212.2.1).bind fun t233 => (if t233 = true then (laws_FnExactWithLink.j0 k bt212.2.2 bt227.2.2 (bt227.2.2 != bt212.2.2) a0_0 l0_1 a1_0 a1_1 a1_2 a1_3 bt212.1 bt212.2.1 bt218.1 bt218.2 bt227.1 bt227.2.1) else (laws_FnExactWithLink.j0 k bt212.2.2 bt227.2.2 true a0_0 l0_1 a1_0 a1_1 a1_2 a1_3 bt212.1 bt212.2.1 bt218.1 bt218.2 bt227.1 bt227.2.1)))))))) = some r := H
 have A10 := mK A100
 clear A100
 replace H := Option.bind_eq_some_iff.mp H
 obtain ⟨⟨t208, t209, t210, t211⟩, A110, H⟩ := H
 replace H : ((spec_WithLink.f k t204 t205 t208 t209 t210 t211).bind fun bt212 => ((laws_toSimple.f k a0_0 l0_1).bind fun bt218 => ((laws_toLink.f a1_0 a1_1 a1_2 a1_3).bind fun bt223 => ((impl_WithLink.f bt218.1 bt218.2 bt223.1 bt223.2.1 bt223.2.2.1 bt223.2.2.2).bind fun bt227 => ((laws_eqSimple.f k bt227.1 bt227.2.1 bt212.1 bt212.2.1).bind fun t233 => (if t233 = true then (laws_FnExactWithLink.j0 k bt212.2.2 bt227.2.2 (bt227.2.2 != bt212.2.2) a0_0 l0_1 a1_0 a1_1 a1_2 a1_3 bt212.1 bt212.2.1 bt218.1 bt218.2 bt227.1 bt227.2.1) else (laws_FnExactWithLink.j0 k bt212.2.2 bt227.2.2 true a0_0 l0_1 a1_0 a1_1 a1_2 a1_3 bt212.1 bt212.2.1 bt218.1 bt218.2 bt227.1 bt227.2.1))))))) = some r := H
 have A11 := mK A110
 clear A110
 replace H := Option.bind_eq_some_iff.mp H
 obtain ⟨⟨t212, t213, t216⟩, A120, H⟩ := H
 replace H : ((laws_toSimple.f k a0_0 l0_1).bind fun bt218 => ((laws_toLink.f a1_0 a1_1 a1_2 a1_3).bind fun bt223 => ((impl_WithLink.f bt218.1 bt218.2 bt223.1 bt223.2.1 bt223.2.2.1 bt223.2.2.2).bind fun bt227 => ((laws_eqSimple.f k bt227.1 bt227.2.1 t212 t213).bind fun t233 => (if t233 = true then (laws_FnExactWithLink.j0 k t216 bt227.2.2 (bt227.2.2 != t216) a0_0 l0_1 a1_0 a1_1 a1_2 a1_3 t212 t213 bt218.1 bt218.2 bt227.1 bt227.2.1) else (laws_FnExactWithLink.j0 k t216 bt227.2.2 true a0_0 l0_1 a1_0 a1_1 a1_2 a1_3 t212 t213 bt218.1 bt218.2 bt227.1 bt227.2.1)))))) = some r := H
 have A12 := mK A120
 clear A120
 replace H := Option.bind_eq_some_iff.mp H
 obtain ⟨⟨t218, t219⟩, A130, H⟩ := H
 replace H : ((laws_toLink.f a1_0 a1_1 a1_2 a1_3).bind fun bt223 => ((impl_WithLink.f t218 t219 bt223.1 bt223.2.1 bt223.2.2.1 bt223.2.2.2).bind fun bt227 => ((laws_eqSimple.f k bt227.1 bt227.2.1 t212 t213).bind fun t233 => (if t233 = true then (laws_FnExactWithLink.j0 k t216 bt227.2.2 (bt227.2.2 != t216) a0_0 l0_1 a1_0 a1_1 a1_2 a1_3 t212 t213 t218 t219 bt227.1 bt227.2.1) else (laws_FnExactWithLink.j0 k t216 bt227.2.2 true a0_0 l0_1 a1_0 a1_1 a1_2 a1_3 t212 t213 t218 t219 bt227.1 bt227.2.1))))) = some r := H
 have A13 := mK A130
 clear A130
 replace H := Option.bind_eq_some_iff.mp H
 obtain ⟨⟨t223, t224, t225, t226⟩, A140, H⟩ := H
 replace H : ((impl_WithLink.f t218 t219 t223 t224 t225 t226).bind fun bt227 => ((laws_eqSimple.f k bt227.1 bt227.2.1 t212 t213).bind fun t233 => (if t233 = true then (laws_FnExactWithLink.j0 k t216 bt227.2.2 (bt227.2.2 != t216) a0_0 l0_1 a1_0 a1_1 a1_2 a1_3 t212 t213 t218 t219 bt227.1 bt227.2.1) else (laws_FnExactWithLink.j0 k t216 bt227.2.2 true a0_0 l0_1 a1_0 a1_1 a1_2 a1_3 t212 t213 t218 t219 bt227.1 bt227.2.1)))) = some r := H
 have A14 := mK A140
 clear A140
 replace H := Option.bind_eq_some_iff.mp H
 obtain ⟨⟨t227, t228, t231⟩, A150, H⟩ := H
 replace H : ((laws_eqSimple.f k t227 t228 t212 t213).bind fun t233 => (if t233 = true then (laws_FnExactWithLink.j0 k t216 t231 (t231 != t216) a0_0 l0_1 a1_0 a1_1 a1_2 a1_3 t212 t213 t218 t219 t227 t228) else (laws_FnExactWithLink.j0 k t216 t231 true a0_0 l0_1 a1_0 a1_1 a1_2 a1_3 t212 t213 t218 t219 t227 t228))) = some r := H
 have A15 := mK A150
 clear A150
 have HC16 := mK H
 clear H
 go_enter Try.func7, Try.ntmps7
 try go_wp2_with (first | ((with_reducible refine gate_dst (N := 2) rfl ?_); refine box_event ?hg (N := 2) ?hd (cs := #[.int .i64 a0_0, .slice A0_1 l0_1.length c0_1]) (t := 24) ?hr ?_; (case hd => rfl); (case hg => rfl); (case hr => go_simp <;> rfl); intro gb201 hg w17 hbox hb; have n0_ := mK (below_step (by repeat first|(with_reducible first|exact HB.out|apply bA|apply bN|apply bD)|exact HB.out) hb); have n1_ := mK (hbox); have n2_ := mK ((by rw [hg]; exact (below_size (by repeat first|(with_reducible first|exact HB.out|apply bA|apply bN|apply bD)|exact HB.out)) : w.heap.size ≤ gb201)); have n3_ := mK ((by rw [hg]; exact (below_size (by repeat first|(with_reducible first|exact HB.out|apply bA|apply bN|apply bD)|exact HB.out)) : w.heap.size ≤ gb201)); clear HB; have HB := n0_; have BK201 := n1_; have GW201 := n2_; have GE201 := n3_; clear n0_ n1_ n2_ n3_; clear hb hbox hg) | ((with_reducible refine gate_dst (N := 3) rfl ?_); refine box_event ?hg (N := 3) ?hd (cs := #[.int .i64 a1_0, .int .i64 a1_1, .int .i64 a1_2, .int .i64 a1_3]) (t := 42) ?hr ?_; (case hd => rfl); (case hg => rfl); (case hr => go_simp <;> rfl); intro gb202 hg w18 hbox hb; have n0_ := mK (blk_below (by (with_reducible repeat first|apply kN|apply kD|apply kA); exact BK201.out) hb); have n1_ := mK (below_step (by repeat first|(with_reducible first|exact HB.out|apply bA|apply bN|apply bD|refine bS ?_ GE201.out)|exact HB.out) hb); have n2_ := mK (hbox); have n3_ := mK ((by rw [hg]; exact (below_size (by repeat first|(with_reducible first|exact HB.out|apply bA|apply bN|apply bD|refine bS ?_ GE201.out)|exact HB.out)) : w.heap.size ≤ gb202)); have n4_ := mK ((by rw [hg]; exact (below_size (by repeat first|(with_reducible first|exact HB.out|apply bA|apply bN|apply bD|refine bS ?_ GE201.out)|exact HB.out)) : w.heap.size ≤ gb202)); have n5_ := mK ((by rw [hg]; exact Nat.ne_of_lt (blk_lt (by (with_reducible repeat first|apply kN|apply kD|apply kA); exact BK201.out)) : gb201 ≠ gb202)); have n6_ := mK ((by rw [hg]; exact Nat.ne_of_gt (blk_lt (by (with_reducible repeat first|apply kN|apply kD|apply kA); exact BK201.out)) : gb202 ≠ gb201)); clear BK201; clear HB; have BK201 := n0_; have HB := n1_; have BK202 := n2_; have GW202 := n3_; have GE202 := n4_; have NB201_202 := n5_; have NB202_201 := n6_; clear n0_ n1_ n2_ n3_ n4_ n5_ n6_; clear hb hbox hg; have hnb19 := NB201_202.out; have hnc19 := NB202_201.out; have hcz20_0 : w18.cell? ⟨gb201, 0, none⟩ = some (.int .i64 a0_0) := (blk_cell BK201.out 0).trans rfl; have hcz20_1 : w18.cell? ⟨gb201, 1, none⟩ = some (.slice A0_1 l0_1.length c0_1) := (blk_cell BK201.out 1).trans rfl; have hfz20_0 := blk_frozen BK201.out 0; have hfz20_1 := blk_frozen BK201.out 1) | ((with_reducible refine gate_callee (f := 11) rfl ?_); refine goesL_ (some 18) rfl rfl Try.func11 (by kernel_rfl) rfl #[.agg #[.int .i64 a0_0, .slice A0_1 l0_1.length c0_1], .int .i64 1048576] rfl (by (try simp only [List.map_toArray, List.map_cons, List.map_nil]); first | done | rfl | (simp only [List.length_drop, List.length_take]; rfl)) ?_; (with_reducible refine (laws_szSimple.calls a0_0 _ _ l0_1 1048576 t203 _ ?side1 ?side2 A3.out).mono ?_); (case side1 => repeat (first | exact (Kd.C_below HR0_1.out HB.out) | (with_reducible refine Kd.C_alloc ?_ _) | (with_reducible refine Kd.C_drewN ?_ _) | (with_reducible refine Kd.C_drew ?_))); (case side2 => exact HC0_1.out); rintro e w21 ⟨rfl, hb⟩; refine ⟨_, rfl, ?_⟩; have n0_ := mK (blk_below (by (with_reducible repeat first|apply kN|apply kD|apply kA); exact BK201.out) hb); have n1_ := mK (blk_below (by (with_reducible repeat first|apply kN|apply kD|apply kA); exact BK202.out) hb); have n2_ := mK (below_step (by repeat first|(with_reducible first|exact HB.out|apply bA|apply bN|apply bD|refine bS ?_ GE201.out|refine bS ?_ GE202.out)|exact HB.out) hb); clear BK201; clear BK202; clear HB; have BK201 := n0_; have BK202 := n1_; have HB := n2_; clear n0_ n1_ n2_; (try clear hb); (try clear hb2); (try clear hk); (try clear hi)))
 have n0_ := mK (blk_drew BK201.out)
 have n1_ := mK (blk_drew BK202.out)
 have n2_ := mK (below_drew1 HB.out)
 clear BK201
 clear BK202
 clear HB
 have BK201 := n0_
 have BK202 := n1_
 have HB := n2_
 clear n0_ n1_ n2_
 refine start_ (n := 11) (S := fun w' => w'.cell? ⟨gb201, 0, none⟩ = some (.int .i64 a0_0) ∧ w'.cell? ⟨gb201, 1, none⟩ = some (.slice A0_1 l0_1.length c0_1) ∧ w'.cell? ⟨gb202, 0, none⟩ = some (.int .i64 a1_0) ∧ w'.cell? ⟨gb202, 1, none⟩ = some (.int .i64 a1_1) ∧ w'.cell? ⟨gb202, 2, none⟩ = some (.int .i64 a1_2) ∧ w'.cell? ⟨gb202, 3, none⟩ = some (.int .i64 a1_3)) (ds := []) #[false, false, false, false, false, false, false, false, false, false, false] (by kernel_rfl) rfl rfl ⟨(blk_cell BK201.out 0).trans rfl, (blk_cell BK201.out 1).trans rfl, (blk_cell BK202.out 0).trans rfl, (blk_cell BK202.out 1).trans rfl, (blk_cell BK202.out 2).trans rfl, (blk_cell BK202.out 3).trans rfl⟩ (fun hHeld => ?_); refine with_tabW laws_FnExactWithLink.tab5 laws_FnExactWithLink.bits5 (fun HT_ HW_ => ?_)
 generalize w21.drew = w22 at BK201 BK202 HB hHeld ⊢
 refine take_ (i := 0) (N := some 22) (v := ?_) (a' := ?_) #[true, false, false, false, false, false, false, false, false, false, false] rfl rfl (take_ofW HT_.out HW_.out (by kernel_rfl)) (fun _ _ _ h => h) (Or.inl ⟨by rfl, ?_⟩) hHeld ?_ ?_
 rotate_left
 {
 rintro w' ⟨s0, s1, s2, s3, s4, s5⟩
 go_simp
 with_reducible rfl
 }
 rotate_left
 {
 simp only [Act.put, sT, sZ, sU, i64_w, i32_w]
 rfl
 }
 refine take_ (i := 2) (N := some 24) (v := ?_) (a' := ?_) #[true, false, true, false, false, false, false, false, false, false, false] rfl rfl (take_ofW HT_.out HW_.out (by kernel_rfl)) (fun _ _ _ h => h) (Or.inl ⟨by rfl, ?_⟩) hHeld ?_ ?_
 rotate_left
 {
 rintro w' ⟨s0, s1, s2, s3, s4, s5⟩
 go_simp
 with_reducible rfl
 }
 rotate_left
 {
 simp only [Act.put, sT, sZ, sU, i64_w, i32_w]
 rfl
 }
 refine join_ (σ := Value × Value × Nat) 2 #[true, true, true, true, true, true, true, true, true, false, false] (fun s_ => [(23, .agg #[.int .i64 t204, s_.1]), (25, .agg #[.int .i64 t208, .int .i64 t209, .int .i64 t210, .int .i64 t211]), (26, .tuple #[.agg #[.int .i64 t212, s_.2.1], .bool t216]), (6, .pointer (some ⟨s_.2.2, 0, none⟩)), (21, .tuple #[.agg #[.int .i64 t212, s_.2.1], .bool t216]), (27, .agg #[.int .i64 t212, s_.2.1]), (28, .bool t216)]) (fun s_ w' => (w'.cell? ⟨gb201, 0, none⟩ = some (.int .i64 a0_0) ∧ w'.cell? ⟨gb201, 1, none⟩ = some (.slice A0_1 l0_1.length c0_1) ∧ w'.cell? ⟨gb202, 0, none⟩ = some (.int .i64 a1_0) ∧ w'.cell? ⟨gb202, 1, none⟩ = some (.int .i64 a1_1) ∧ w'.cell? ⟨gb202, 2, none⟩ = some (.int .i64 a1_2) ∧ w'.cell? ⟨gb202, 3, none⟩ = some (.int .i64 a1_3)) ∧ (Kd.R k47 47 w' w.heap.size (fun k_ => some k_ ≠ (s_.2.1 : Value).ownBlock) s_.1 t205) ∧ (Kd.R k47 47 w' w.heap.size (fun k_ => some k_ ≠ (s_.1 : Value).ownBlock) s_.2.1 t213) ∧ (w'.heap[gb201]? = some (.cells #[.int .i64 a0_0, .slice A0_1 l0_1.length c0_1] 24 (0, 0))) ∧ (w'.heap[gb202]? = some (.cells #[.int .i64 a1_0, .int .i64 a1_1, .int .i64 a1_2, .int .i64 a1_3] 42 (0, 0))) ∧ (w'.heap[s_.2.2]? = some (.cells #[.int .i64 0, .slice none 0 0] 29 (0, 0))) ∧ (w.heap.size ≤ s_.2.2) ∧ (w.heap.size ≤ s_.2.2) ∧ (gb201 ≠ s_.2.2) ∧ (s_.2.2 ≠ gb201) ∧ (gb202 ≠ s_.2.2) ∧ (s_.2.2 ≠ gb202) ∧ (Below w.heap.size w w')) ?_ ?_
 rotate_left
 {
 intro hCont
 refine two_ (i := 1) (j := 8) (Ni := some 23) (Nj := some 6) #[true, true, true, false, false, false, false, false, false, false, false] #[true, false, true, false, false, false, false, false, true, false, false] rfl rfl rfl rfl (two_of HT_.out (by kernel_rfl)) (by decide) (by decide) (fun K hK => ?_) (fun K hK => ?_)
 {
 skip
 refine goes_ Try.func13 (by kernel_rfl) rfl #[.agg #[.int .i64 a0_0, .slice A0_1 l0_1.length c0_1]] (by rfl) rfl rfl (by (try simp only [List.map_toArray, List.map_cons, List.map_nil]); first | done | rfl | (simp only [List.length_drop, List.length_take]; rfl)) ?_
 with_reducible refine (laws_toSimple.calls k a0_0 _ _ l0_1 t204 t205 _ ?side1 ?side2 A10.out).mono ?_
 (case side1 => repeat (first | exact (Kd.C_below HR0_1.out HB.out) | (with_reducible refine Kd.C_alloc ?_ _) | (with_reducible refine Kd.C_drewN ?_ _) | (with_reducible refine Kd.C_drew ?_)))
 (case side2 => exact HC0_1.out)
 rintro e w23 ⟨v206, rfl, ho0, hb⟩
 refine ⟨_, rfl, ?_⟩
 have n0_ := mK (Kd.R_lower ho0 (below_size (by repeat first|(with_reducible first|exact HB.out|apply bA|apply bN|apply bD|refine bS ?_ GE201.out|refine bS ?_ GE202.out)|exact HB.out)))
 have n1_ := mK (blk_below (by (with_reducible repeat first|apply kN|apply kD|apply kA); exact BK201.out) hb)
 have n2_ := mK (blk_below (by (with_reducible repeat first|apply kN|apply kD|apply kA); exact BK202.out) hb)
 have n3_ := mK (below_step (by repeat first|(with_reducible first|exact HB.out|apply bA|apply bN|apply bD|refine bS ?_ GE201.out|refine bS ?_ GE202.out)|exact HB.out) hb)
 clear BK201
 clear BK202
 clear HB
 have HO207 := n0_
 have BK201 := n1_
 have BK202 := n2_
 have HB := n3_
 clear n0_ n1_ n2_ n3_
 (try clear hb)
 (try clear hb2)
 (try clear hk)
 (try clear hi)
 (try clear ho0)
 refine hK.out _ _ ⟨(blk_cell BK201.out 0).trans rfl, (blk_cell BK201.out 1).trans rfl, (blk_cell BK202.out 0).trans rfl, (blk_cell BK202.out 1).trans rfl, (blk_cell BK202.out 2).trans rfl, (blk_cell BK202.out 3).trans rfl⟩ (fun hHeld => ?_)
 clear hK K
 refine norm_ (a' := ?_) ?_ ?_
 rotate_left
 {
 show Act.put _ (some 23) _ = _
 simp only [Act.put, sT, sZ, sU, i64_w, i32_w]
 rfl
 }
 refine two_ (i := 3) (j := 8) (Ni := some 25) (Nj := some 6) #[true, true, true, true, false, false, false, false, false, false, false] #[true, true, true, false, false, false, false, false, true, false, false] rfl rfl rfl rfl (two_of HT_.out (by kernel_rfl)) (by decide) (by decide) (fun K hK => ?_) (fun K hK => ?_)
 {
 skip
 refine goes_ Try.func25 (by kernel_rfl) rfl #[.agg #[.int .i64 a1_0, .int .i64 a1_1, .int .i64 a1_2, .int .i64 a1_3]] (by rfl) rfl rfl (by (try simp only [List.map_toArray, List.map_cons, List.map_nil]); first | done | rfl | (simp only [List.length_drop, List.length_take]; rfl)) ?_
 with_reducible refine (laws_toLink.calls a1_0 a1_1 a1_2 a1_3 t208 t209 t210 t211 _ A11.out).mono ?_
 rintro e w24 ⟨rfl, hb⟩
 refine ⟨_, rfl, ?_⟩
 have n0_ := mK (Kd.R_below (by (with_reducible repeat first|apply rA|apply rN|apply rD); exact HO207.out) hb)
 have n1_ := mK (blk_below (by (with_reducible repeat first|apply kN|apply kD|apply kA); exact BK201.out) hb)
 have n2_ := mK (blk_below (by (with_reducible repeat first|apply kN|apply kD|apply kA); exact BK202.out) hb)
 have n3_ := mK (below_step (by repeat first|(with_reducible first|exact HB.out|apply bA|apply bN|apply bD|refine bS ?_ GE201.out|refine bS ?_ GE202.out)|exact HB.out) hb)
 clear HO207
 clear BK201
 clear BK202
 clear HB
 have HO207 := n0_
 have BK201 := n1_
 have BK202 := n2_
 have HB := n3_
 clear n0_ n1_ n2_ n3_
 (try clear hb)
 (try clear hb2)
 (try clear hk)
 (try clear hi)
 obtain ⟨Ao25, co25, eo25⟩ := Kd.R_slice HO207.out
 (first | subst eo25 | (injection eo25 with f1_ f2_ f3_; have f4_ := f1_.symm; have f5_ := f3_.symm; clear f1_ f2_ f3_; subst f4_; subst f5_))
 refine hK.out _ _ ⟨(blk_cell BK201.out 0).trans rfl, (blk_cell BK201.out 1).trans rfl, (blk_cell BK202.out 0).trans rfl, (blk_cell BK202.out 1).trans rfl, (blk_cell BK202.out 2).trans rfl, (blk_cell BK202.out 3).trans rfl⟩ (fun hHeld => ?_)
 clear hK K
 refine norm_ (a' := ?_) ?_ ?_
 rotate_left
 {
 show Act.put _ (some 25) _ = _
 simp only [Act.put, sT, sZ, sU, i64_w, i32_w]
 rfl
 }
 refine two_ (i := 4) (j := 8) (Ni := some 26) (Nj := some 6) #[true, true, true, true, true, false, false, false, false, false, false] #[true, true, true, true, false, false, false, false, true, false, false] rfl rfl rfl rfl (two_of HT_.out (by kernel_rfl)) (by decide) (by decide) (fun K hK => ?_) (fun K hK => ?_)
 {
 skip
 refine goes_ Try.func24 (by kernel_rfl) rfl #[.agg #[.int .i64 t204, .slice Ao25 t205.length co25], .agg #[.int .i64 t208, .int .i64 t209, .int .i64 t210, .int .i64 t211]] (by rfl) rfl rfl (by (try simp only [List.map_toArray, List.map_cons, List.map_nil]); first | done | rfl | (simp only [List.length_drop, List.length_take]; rfl)) ?_
 with_reducible refine (spec_WithLink.calls k t204 _ _ t205 t208 t209 t210 t211 t212 t213 t216 _ ?side1 ?side2 A12.out).mono ?_
 (case side1 => repeat (first | exact (Kd.R_reads' HO207.out).2.2 | (with_reducible refine Kd.C_alloc ?_ _) | (with_reducible refine Kd.C_drewN ?_ _) | (with_reducible refine Kd.C_drew ?_)))
 (case side2 => exact (Kd.R_reads' HO207.out).2.1)
 rintro e w26 ⟨v214, rfl, ho0, hb⟩
 refine ⟨_, rfl, ?_⟩
 have n0_ := mK (Kd.R_elder' (by (with_reducible repeat first|apply rA|apply rN|apply rD); exact HO207.out) (Kd.R_base ho0) hb)
 have n1_ := mK (Kd.R_lower (Kd.R_new' ho0 (Kd.R_lt (by (with_reducible repeat first|apply rA|apply rN|apply rD); exact HO207.out))) (below_size (by repeat first|(with_reducible first|exact HB.out|apply bA|apply bN|apply bD|refine bS ?_ GE201.out|refine bS ?_ GE202.out)|exact HB.out)))
 have n2_ := mK (blk_below (by (with_reducible repeat first|apply kN|apply kD|apply kA); exact BK201.out) hb)
 have n3_ := mK (blk_below (by (with_reducible repeat first|apply kN|apply kD|apply kA); exact BK202.out) hb)
 have n4_ := mK (below_step (by repeat first|(with_reducible first|exact HB.out|apply bA|apply bN|apply bD|refine bS ?_ GE201.out|refine bS ?_ GE202.out)|exact HB.out) hb)
 clear HO207
 clear BK201
 clear BK202
 clear HB
 have HO207 := n0_
 have HO215 := n1_
 have BK201 := n2_
 have BK202 := n3_
 have HB := n4_
 clear n0_ n1_ n2_ n3_ n4_
 (try clear hb)
 (try clear hb2)
 (try clear hk)
 (try clear hi)
 (try clear ho0)
 refine hK.out _ _ ⟨(blk_cell BK201.out 0).trans rfl, (blk_cell BK201.out 1).trans rfl, (blk_cell BK202.out 0).trans rfl, (blk_cell BK202.out 1).trans rfl, (blk_cell BK202.out 2).trans rfl, (blk_cell BK202.out 3).trans rfl⟩ (fun hHeld => ?_)
 clear hK K
 refine norm_ (a' := ?_) ?_ ?_
 rotate_left
 {
 show Act.put _ (some 26) _ = _
 simp only [Act.put, sT, sZ, sU, i64_w, i32_w]
 rfl
 }
 refine pure_ (i := 5) (N := some 21) (v := ?_) (a' := ?_) #[true, true, true, true, true, true, false, false, false, false, false] rfl rfl (any_of HT_.out (by kernel_rfl)) (fun _ _ _ h => h) (Or.inl ⟨by rfl, ?_⟩) ?_ ?_
 rotate_left
 {
 intro w'
 go_simp
 with_reducible rfl
 }
 rotate_left
 {
 simp only [Act.put, sT, sZ, sU, i64_w, i32_w]
 rfl
 }
 refine pure_ (i := 6) (N := some 27) (v := ?_) (a' := ?_) #[true, true, true, true, true, true, true, false, false, false, false] rfl rfl (any_of HT_.out (by kernel_rfl)) (fun _ _ _ h => h) (Or.inl ⟨by rfl, ?_⟩) ?_ ?_
 rotate_left
 {
 intro w'
 go_simp
 with_reducible rfl
 }
 rotate_left
 {
 simp only [Act.put, sT, sZ, sU, i64_w, i32_w]
 rfl
 }
 refine pure_ (i := 7) (N := some 28) (v := ?_) (a' := ?_) #[true, true, true, true, true, true, true, true, false, false, false] rfl rfl (any_of HT_.out (by kernel_rfl)) (fun _ _ _ h => h) (Or.inl ⟨by rfl, ?_⟩) ?_ ?_
 rotate_left
 {
 intro w'
 go_simp
 with_reducible rfl
 }
 rotate_left
 {
 simp only [Act.put, sT, sZ, sU, i64_w, i32_w]
 rfl
 }
 refine one_ (i := 8) (N := some 6) #[true, true, true, true, true, true, true, true, true, false, false] rfl rfl (one_of HT_.out (by kernel_rfl)) (by decide) (fun K hK => ?_)
 refine box_step ?hg (N := 6) ?hd (cs := #[.int .i64 0, .slice none 0 0]) (t := 29) ?hr ?_; (case hd => rfl); (case hg => rfl); (case hr => go_simp <;> rfl)
 intro gb217 hg w27 hbox hb
 have n0_ := mK (Kd.R_below (by (with_reducible repeat first|apply rA|apply rN|apply rD); exact HO207.out) hb)
 have n1_ := mK (Kd.R_below (by (with_reducible repeat first|apply rA|apply rN|apply rD); exact HO215.out) hb)
 have n2_ := mK (blk_below (by (with_reducible repeat first|apply kN|apply kD|apply kA); exact BK201.out) hb)
 have n3_ := mK (blk_below (by (with_reducible repeat first|apply kN|apply kD|apply kA); exact BK202.out) hb)
 have n4_ := mK (below_step (by repeat first|(with_reducible first|exact HB.out|apply bA|apply bN|apply bD|refine bS ?_ GE201.out|refine bS ?_ GE202.out)|exact HB.out) hb)
 have n5_ := mK (hbox)
 have n6_ := mK ((by rw [hg]; exact (below_size (by repeat first|(with_reducible first|exact HB.out|apply bA|apply bN|apply bD|refine bS ?_ GE201.out|refine bS ?_ GE202.out)|exact HB.out)) : w.heap.size ≤ gb217))
 have n7_ := mK ((by rw [hg]; exact (below_size (by repeat first|(with_reducible first|exact HB.out|apply bA|apply bN|apply bD|refine bS ?_ GE201.out|refine bS ?_ GE202.out)|exact HB.out)) : w.heap.size ≤ gb217))
 have n8_ := mK ((by rw [hg]; exact Nat.ne_of_lt (blk_lt (by (with_reducible repeat first|apply kN|apply kD|apply kA); exact BK201.out)) : gb201 ≠ gb217))
 have n9_ := mK ((by rw [hg]; exact Nat.ne_of_gt (blk_lt (by (with_reducible repeat first|apply kN|apply kD|apply kA); exact BK201.out)) : gb217 ≠ gb201))
 have n10_ := mK ((by rw [hg]; exact Nat.ne_of_lt (blk_lt (by (with_reducible repeat first|apply kN|apply kD|apply kA); exact BK202.out)) : gb202 ≠ gb217))
 have n11_ := mK ((by rw [hg]; exact Nat.ne_of_gt (blk_lt (by (with_reducible repeat first|apply kN|apply kD|apply kA); exact BK202.out)) : gb217 ≠ gb202))
 clear HO207
 clear HO215
 clear BK201
 clear BK202
 clear HB
 have HO207 := n0_
 have HO215 := n1_
 have BK201 := n2_
 have BK202 := n3_
 have HB := n4_
 have BK217 := n5_
 have GW217 := n6_
 have GE217 := n7_
 have NB201_217 := n8_
 have NB217_201 := n9_
 have NB202_217 := n10_
 have NB217_202 := n11_
 clear n0_ n1_ n2_ n3_ n4_ n5_ n6_ n7_ n8_ n9_ n10_ n11_
 clear hb hbox hg
 refine hK.out _ _ ⟨(blk_cell BK201.out 0).trans rfl, (blk_cell BK201.out 1).trans rfl, (blk_cell BK202.out 0).trans rfl, (blk_cell BK202.out 1).trans rfl, (blk_cell BK202.out 2).trans rfl, (blk_cell BK202.out 3).trans rfl⟩ (fun hHeld => ?_)
 clear hK K
 refine norm_ (a' := ?_) ?_ ?_
 rotate_left
 {
 show Act.put _ (some 6) _ = _
 simp only [Act.put, sT, sZ, sU, i64_w, i32_w]
 rfl
 }
 exact norm_ (by simp only [putAll, Act.put, sT, sZ, sU]) (hCont (.slice Ao25 t205.length co25, v214, gb217) _ ⟨hHeld, (Kd.R_mono HO207.out (fun _ hk => hk.2)), (Kd.R_mono HO215.out (fun _ hk => hk.2)), BK201.out, BK202.out, BK217.out, GW217.out, GE217.out, NB201_217.out, NB217_201.out, NB202_217.out, NB217_202.out, HB.out⟩)
 }
 {
 skip
 refine box_step ?hg (N := 6) ?hd (cs := #[.int .i64 0, .slice none 0 0]) (t := 29) ?hr ?_; (case hd => rfl); (case hg => rfl); (case hr => go_simp <;> rfl)
 intro gb217 hg w25 hbox hb
 have n0_ := mK (Kd.R_below (by (with_reducible repeat first|apply rA|apply rN|apply rD); exact HO207.out) hb)
 have n1_ := mK (blk_below (by (with_reducible repeat first|apply kN|apply kD|apply kA); exact BK201.out) hb)
 have n2_ := mK (blk_below (by (with_reducible repeat first|apply kN|apply kD|apply kA); exact BK202.out) hb)
 have n3_ := mK (below_step (by repeat first|(with_reducible first|exact HB.out|apply bA|apply bN|apply bD|refine bS ?_ GE201.out|refine bS ?_ GE202.out)|exact HB.out) hb)
 have n4_ := mK (hbox)
 have n5_ := mK ((by rw [hg]; exact (below_size (by repeat first|(with_reducible first|exact HB.out|apply bA|apply bN|apply bD|refine bS ?_ GE201.out|refine bS ?_ GE202.out)|exact HB.out)) : w.heap.size ≤ gb217))
 have n6_ := mK ((by rw [hg]; exact (below_size (by repeat first|(with_reducible first|exact HB.out|apply bA|apply bN|apply bD|refine bS ?_ GE201.out|refine bS ?_ GE202.out)|exact HB.out)) : w.heap.size ≤ gb217))
 have n7_ := mK ((by rw [hg]; exact Nat.ne_of_lt (blk_lt (by (with_reducible repeat first|apply kN|apply kD|apply kA); exact BK201.out)) : gb201 ≠ gb217))
 have n8_ := mK ((by rw [hg]; exact Nat.ne_of_gt (blk_lt (by (with_reducible repeat first|apply kN|apply kD|apply kA); exact BK201.out)) : gb217 ≠ gb201))
 have n9_ := mK ((by rw [hg]; exact Nat.ne_of_lt (blk_lt (by (with_reducible repeat first|apply kN|apply kD|apply kA); exact BK202.out)) : gb202 ≠ gb217))
 have n10_ := mK ((by rw [hg]; exact Nat.ne_of_gt (blk_lt (by (with_reducible repeat first|apply kN|apply kD|apply kA); exact BK202.out)) : gb217 ≠ gb202))
 clear HO207
 clear BK201
 clear BK202
 clear HB
 have HO207 := n0_
 have BK201 := n1_
 have BK202 := n2_
 have HB := n3_
 have BK217 := n4_
 have GW217 := n5_
 have GE217 := n6_
 have NB201_217 := n7_
 have NB217_201 := n8_
 have NB202_217 := n9_
 have NB217_202 := n10_
 clear n0_ n1_ n2_ n3_ n4_ n5_ n6_ n7_ n8_ n9_ n10_
 clear hb hbox hg
 obtain ⟨Ao26, co26, eo26⟩ := Kd.R_slice HO207.out
 (first | subst eo26 | (injection eo26 with f1_ f2_ f3_; have f4_ := f1_.symm; have f5_ := f3_.symm; clear f1_ f2_ f3_; subst f4_; subst f5_))
 refine hK.out _ _ ⟨(blk_cell BK201.out 0).trans rfl, (blk_cell BK201.out 1).trans rfl, (blk_cell BK202.out 0).trans rfl, (blk_cell BK202.out 1).trans rfl, (blk_cell BK202.out 2).trans rfl, (blk_cell BK202.out 3).trans rfl⟩ (fun hHeld => ?_)
 clear hK K
 refine norm_ (a' := ?_) ?_ ?_
 rotate_left
 {
 show Act.put _ (some 6) _ = _
 simp only [Act.put, sT, sZ, sU, i64_w, i32_w]
 rfl
 }
 refine one_ (i := 4) (N := some 26) #[true, true, true, true, true, false, false, false, true, false, false] rfl rfl (one_of HT_.out (by kernel_rfl)) (by decide) (fun K hK => ?_)
 refine goes_ Try.func24 (by kernel_rfl) rfl #[.agg #[.int .i64 t204, .slice Ao26 t205.length co26], .agg #[.int .i64 t208, .int .i64 t209, .int .i64 t210, .int .i64 t211]] (by rfl) rfl rfl (by (try simp only [List.map_toArray, List.map_cons, List.map_nil]); first | done | rfl | (simp only [List.length_drop, List.length_take]; rfl)) ?_
 with_reducible refine (spec_WithLink.calls k t204 _ _ t205 t208 t209 t210 t211 t212 t213 t216 _ ?side1 ?side2 A12.out).mono ?_
 (case side1 => repeat (first | exact (Kd.R_reads' HO207.out).2.2 | (with_reducible refine Kd.C_alloc ?_ _) | (with_reducible refine Kd.C_drewN ?_ _) | (with_reducible refine Kd.C_drew ?_)))
 (case side2 => exact (Kd.R_reads' HO207.out).2.1)
 rintro e w27 ⟨v214, rfl, ho0, hb⟩
 refine ⟨_, rfl, ?_⟩
 have n0_ := mK (Kd.R_elder' (by (with_reducible repeat first|apply rA|apply rN|apply rD); exact HO207.out) (Kd.R_base ho0) hb)
 have n1_ := mK (Kd.R_lower (Kd.R_new' ho0 (Kd.R_lt (by (with_reducible repeat first|apply rA|apply rN|apply rD); exact HO207.out))) (below_size (by repeat first|(with_reducible first|exact HB.out|apply bA|apply bN|apply bD|refine bS ?_ GE201.out|refine bS ?_ GE202.out|refine bS ?_ GE217.out)|exact HB.out)))
 have n2_ := mK (blk_below (by (with_reducible repeat first|apply kN|apply kD|apply kA); exact BK201.out) hb)
 have n3_ := mK (blk_below (by (with_reducible repeat first|apply kN|apply kD|apply kA); exact BK202.out) hb)
 have n4_ := mK (blk_below (by (with_reducible repeat first|apply kN|apply kD|apply kA); exact BK217.out) hb)
 have n5_ := mK (below_step (by repeat first|(with_reducible first|exact HB.out|apply bA|apply bN|apply bD|refine bS ?_ GE201.out|refine bS ?_ GE202.out|refine bS ?_ GE217.out)|exact HB.out) hb)
 clear HO207
 clear BK201
 clear BK202
 clear BK217
 clear HB
 have HO207 := n0_
 have HO215 := n1_
 have BK201 := n2_
 have BK202 := n3_
 have BK217 := n4_
 have HB := n5_
 clear n0_ n1_ n2_ n3_ n4_ n5_
 (try clear hb)
 (try clear hb2)
 (try clear hk)
 (try clear hi)
 (try clear ho0)
 refine hK.out _ _ ⟨(blk_cell BK201.out 0).trans rfl, (blk_cell BK201.out 1).trans rfl, (blk_cell BK202.out 0).trans rfl, (blk_cell BK202.out 1).trans rfl, (blk_cell BK202.out 2).trans rfl, (blk_cell BK202.out 3).trans rfl⟩ (fun hHeld => ?_)
 clear hK K
 refine norm_ (a' := ?_) ?_ ?_
 rotate_left
 {
 show Act.put _ (some 26) _ = _
 simp only [Act.put, sT, sZ, sU, i64_w, i32_w]
 rfl
 }
 refine pure_ (i := 5) (N := some 21) (v := ?_) (a' := ?_) #[true, true, true, true, true, true, false, false, true, false, false] rfl rfl (any_of HT_.out (by kernel_rfl)) (fun _ _ _ h => h) (Or.inl ⟨by rfl, ?_⟩) ?_ ?_
 rotate_left
 {
 intro w'
 go_simp
 with_reducible rfl
 }
 rotate_left
 {
 simp only [Act.put, sT, sZ, sU, i64_w, i32_w]
 rfl
 }
 refine pure_ (i := 6) (N := some 27) (v := ?_) (a' := ?_) #[true, true, true, true, true, true, true, false, true, false, false] rfl rfl (any_of HT_.out (by kernel_rfl)) (fun _ _ _ h => h) (Or.inl ⟨by rfl, ?_⟩) ?_ ?_
 rotate_left
 {
 intro w'
 go_simp
 with_reducible rfl
 }
 rotate_left
 {
 simp only [Act.put, sT, sZ, sU, i64_w, i32_w]
 rfl
 }
 refine pure_ (i := 7) (N := some 28) (v := ?_) (a' := ?_) #[true, true, true, true, true, true, true, true, true, false, false] rfl rfl (any_of HT_.out (by kernel_rfl)) (fun _ _ _ h => h) (Or.inl ⟨by rfl, ?_⟩) ?_ ?_
 rotate_left
 {
 intro w'
 go_simp
 with_reducible rfl
 }
 rotate_left
 {
 simp only [Act.put, sT, sZ, sU, i64_w, i32_w]
 rfl
 }
 exact norm_ (by simp only [putAll, Act.put, sT, sZ, sU]) (hCont (.slice Ao26 t205.length co26, v214, gb217) _ ⟨hHeld, (Kd.R_mono HO207.out (fun _ hk => hk.2)), (Kd.R_mono HO215.out (fun _ hk => hk.2)), BK201.out, BK202.out, BK217.out, GW217.out, GE217.out, NB201_217.out, NB217_201.out, NB202_217.out, NB217_202.out, HB.out⟩)
 }
 }
 {
 skip
 refine box_step ?hg (N := 6) ?hd (cs := #[.int .i64 0, .slice none 0 0]) (t := 29) ?hr ?_; (case hd => rfl); (case hg => rfl); (case hr => go_simp <;> rfl)
 intro gb217 hg w24 hbox hb
 have n0_ := mK (Kd.R_below (by (with_reducible repeat first|apply rA|apply rN|apply rD); exact HO207.out) hb)
 have n1_ := mK (blk_below (by (with_reducible repeat first|apply kN|apply kD|apply kA); exact BK201.out) hb)
 have n2_ := mK (blk_below (by (with_reducible repeat first|apply kN|apply kD|apply kA); exact BK202.out) hb)
 have n3_ := mK (below_step (by repeat first|(with_reducible first|exact HB.out|apply bA|apply bN|apply bD|refine bS ?_ GE201.out|refine bS ?_ GE202.out)|exact HB.out) hb)
 have n4_ := mK (hbox)
 have n5_ := mK ((by rw [hg]; exact (below_size (by repeat first|(with_reducible first|exact HB.out|apply bA|apply bN|apply bD|refine bS ?_ GE201.out|refine bS ?_ GE202.out)|exact HB.out)) : w.heap.size ≤ gb217))
 have n6_ := mK ((by rw [hg]; exact (below_size (by repeat first|(with_reducible first|exact HB.out|apply bA|apply bN|apply bD|refine bS ?_ GE201.out|refine bS ?_ GE202.out)|exact HB.out)) : w.heap.size ≤ gb217))
 have n7_ := mK ((by rw [hg]; exact Nat.ne_of_lt (blk_lt (by (with_reducible repeat first|apply kN|apply kD|apply kA); exact BK201.out)) : gb201 ≠ gb217))
 have n8_ := mK ((by rw [hg]; exact Nat.ne_of_gt (blk_lt (by (with_reducible repeat first|apply kN|apply kD|apply kA); exact BK201.out)) : gb217 ≠ gb201))
 have n9_ := mK ((by rw [hg]; exact Nat.ne_of_lt (blk_lt (by (with_reducible repeat first|apply kN|apply kD|apply kA); exact BK202.out)) : gb202 ≠ gb217))
 have n10_ := mK ((by rw [hg]; exact Nat.ne_of_gt (blk_lt (by (with_reducible repeat first|apply kN|apply kD|apply kA); exact BK202.out)) : gb217 ≠ gb202))
 clear HO207
 clear BK201
 clear BK202
 clear HB
 have HO207 := n0_
 have BK201 := n1_
 have BK202 := n2_
 have HB := n3_
 have BK217 := n4_
 have GW217 := n5_
 have GE217 := n6_
 have NB201_217 := n7_
 have NB217_201 := n8_
 have NB202_217 := n9_
 have NB217_202 := n10_
 clear n0_ n1_ n2_ n3_ n4_ n5_ n6_ n7_ n8_ n9_ n10_
 clear hb hbox hg
 refine hK.out _ _ ⟨(blk_cell BK201.out 0).trans rfl, (blk_cell BK201.out 1).trans rfl, (blk_cell BK202.out 0).trans rfl, (blk_cell BK202.out 1).trans rfl, (blk_cell BK202.out 2).trans rfl, (blk_cell BK202.out 3).trans rfl⟩ (fun hHeld => ?_)
 clear hK K
 refine norm_ (a' := ?_) ?_ ?_
 rotate_left
 {
 show Act.put _ (some 6) _ = _
 simp only [Act.put, sT, sZ, sU, i64_w, i32_w]
 rfl
 }
 refine one_ (i := 3) (N := some 25) #[true, true, true, true, false, false, false, false, true, false, false] rfl rfl (one_of HT_.out (by kernel_rfl)) (by decide) (fun K hK => ?_)
 refine goes_ Try.func25 (by kernel_rfl) rfl #[.agg #[.int .i64 a1_0, .int .i64 a1_1, .int .i64 a1_2, .int .i64 a1_3]] (by rfl) rfl rfl (by (try simp only [List.map_toArray, List.map_cons, List.map_nil]); first | done | rfl | (simp only [List.length_drop, List.length_take]; rfl)) ?_
 with_reducible refine (laws_toLink.calls a1_0 a1_1 a1_2 a1_3 t208 t209 t210 t211 _ A11.out).mono ?_
 rintro e w25 ⟨rfl, hb⟩
 refine ⟨_, rfl, ?_⟩
 have n0_ := mK (Kd.R_below (by (with_reducible repeat first|apply rA|apply rN|apply rD); exact HO207.out) hb)
 have n1_ := mK (blk_below (by (with_reducible repeat first|apply kN|apply kD|apply kA); exact BK201.out) hb)
 have n2_ := mK (blk_below (by (with_reducible repeat first|apply kN|apply kD|apply kA); exact BK202.out) hb)
 have n3_ := mK (blk_below (by (with_reducible repeat first|apply kN|apply kD|apply kA); exact BK217.out) hb)
 have n4_ := mK (below_step (by repeat first|(with_reducible first|exact HB.out|apply bA|apply bN|apply bD|refine bS ?_ GE201.out|refine bS ?_ GE202.out|refine bS ?_ GE217.out)|exact HB.out) hb)
 clear HO207
 clear BK201
 clear BK202
 clear BK217
 clear HB
 have HO207 := n0_
 have BK201 := n1_
 have BK202 := n2_
 have BK217 := n3_
 have HB := n4_
 clear n0_ n1_ n2_ n3_ n4_
 (try clear hb)
 (try clear hb2)
 (try clear hk)
 (try clear hi)
 obtain ⟨Ao26, co26, eo26⟩ := Kd.R_slice HO207.out
 (first | subst eo26 | (injection eo26 with f1_ f2_ f3_; have f4_ := f1_.symm; have f5_ := f3_.symm; clear f1_ f2_ f3_; subst f4_; subst f5_))
 refine hK.out _ _ ⟨(blk_cell BK201.out 0).trans rfl, (blk_cell BK201.out 1).trans rfl, (blk_cell BK202.out 0).trans rfl, (blk_cell BK202.out 1).trans rfl, (blk_cell BK202.out 2).trans rfl, (blk_cell BK202.out 3).trans rfl⟩ (fun hHeld => ?_)
 clear hK K
 refine norm_ (a' := ?_) ?_ ?_
 rotate_left
 {
 show Act.put _ (some 25) _ = _
 simp only [Act.put, sT, sZ, sU, i64_w, i32_w]
 rfl
 }
 refine one_ (i := 4) (N := some 26) #[true, true, true, true, true, false, false, false, true, false, false] rfl rfl (one_of HT_.out (by kernel_rfl)) (by decide) (fun K hK => ?_)
 refine goes_ Try.func24 (by kernel_rfl) rfl #[.agg #[.int .i64 t204, .slice Ao26 t205.length co26], .agg #[.int .i64 t208, .int .i64 t209, .int .i64 t210, .int .i64 t211]] (by rfl) rfl rfl (by (try simp only [List.map_toArray, List.map_cons, List.map_nil]); first | done | rfl | (simp only [List.length_drop, List.length_take]; rfl)) ?_
 with_reducible refine (spec_WithLink.calls k t204 _ _ t205 t208 t209 t210 t211 t212 t213 t216 _ ?side1 ?side2 A12.out).mono ?_
 (case side1 => repeat (first | exact (Kd.R_reads' HO207.out).2.2 | (with_reducible refine Kd.C_alloc ?_ _) | (with_reducible refine Kd.C_drewN ?_ _) | (with_reducible refine Kd.C_drew ?_)))
 (case side2 => exact (Kd.R_reads' HO207.out).2.1)
 rintro e w27 ⟨v214, rfl, ho0, hb⟩
 refine ⟨_, rfl, ?_⟩
 have n0_ := mK (Kd.R_elder' (by (with_reducible repeat first|apply rA|apply rN|apply rD); exact HO207.out) (Kd.R_base ho0) hb)
 have n1_ := mK (Kd.R_lower (Kd.R_new' ho0 (Kd.R_lt (by (with_reducible repeat first|apply rA|apply rN|apply rD); exact HO207.out))) (below_size (by repeat first|(with_reducible first|exact HB.out|apply bA|apply bN|apply bD|refine bS ?_ GE201.out|refine bS ?_ GE202.out|refine bS ?_ GE217.out)|exact HB.out)))
 have n2_ := mK (blk_below (by (with_reducible repeat first|apply kN|apply kD|apply kA); exact BK201.out) hb)
 have n3_ := mK (blk_below (by (with_reducible repeat first|apply kN|apply kD|apply kA); exact BK202.out) hb)
 have n4_ := mK (blk_below (by (with_reducible repeat first|apply kN|apply kD|apply kA); exact BK217.out) hb)
 have n5_ := mK (below_step (by repeat first|(with_reducible first|exact HB.out|apply bA|apply bN|apply bD|refine bS ?_ GE201.out|refine bS ?_ GE202.out|refine bS ?_ GE217.out)|exact HB.out) hb)
 clear HO207
 clear BK201
 clear BK202
 clear BK217
 clear HB
 have HO207 := n0_
 have HO215 := n1_
 have BK201 := n2_
 have BK202 := n3_
 have BK217 := n4_
 have HB := n5_
 clear n0_ n1_ n2_ n3_ n4_ n5_
 (try clear hb)
 (try clear hb2)
 (try clear hk)
 (try clear hi)
 (try clear ho0)
 refine hK.out _ _ ⟨(blk_cell BK201.out 0).trans rfl, (blk_cell BK201.out 1).trans rfl, (blk_cell BK202.out 0).trans rfl, (blk_cell BK202.out 1).trans rfl, (blk_cell BK202.out 2).trans rfl, (blk_cell BK202.out 3).trans rfl⟩ (fun hHeld => ?_)
 clear hK K
 refine norm_ (a' := ?_) ?_ ?_
 rotate_left
 {
 show Act.put _ (some 26) _ = _
 simp only [Act.put, sT, sZ, sU, i64_w, i32_w]
 rfl
 }
 refine pure_ (i := 5) (N := some 21) (v := ?_) (a' := ?_) #[true, true, true, true, true, true, false, false, true, false, false] rfl rfl (any_of HT_.out (by kernel_rfl)) (fun _ _ _ h => h) (Or.inl ⟨by rfl, ?_⟩) ?_ ?_
 rotate_left
 {
 intro w'
 go_simp
 with_reducible rfl
 }
 rotate_left
 {
 simp only [Act.put, sT, sZ, sU, i64_w, i32_w]
 rfl
 }
 refine pure_ (i := 6) (N := some 27) (v := ?_) (a' := ?_) #[true, true, true, true, true, true, true, false, true, false, false] rfl rfl (any_of HT_.out (by kernel_rfl)) (fun _ _ _ h => h) (Or.inl ⟨by rfl, ?_⟩) ?_ ?_
 rotate_left
 {
 intro w'
 go_simp
 with_reducible rfl
 }
 rotate_left
 {
 simp only [Act.put, sT, sZ, sU, i64_w, i32_w]
 rfl
 }
 refine pure_ (i := 7) (N := some 28) (v := ?_) (a' := ?_) #[true, true, true, true, true, true, true, true, true, false, false] rfl rfl (any_of HT_.out (by kernel_rfl)) (fun _ _ _ h => h) (Or.inl ⟨by rfl, ?_⟩) ?_ ?_
 rotate_left
 {
 intro w'
 go_simp
 with_reducible rfl
 }
 rotate_left
 {
 simp only [Act.put, sT, sZ, sU, i64_w, i32_w]
 rfl
 }
 exact norm_ (by simp only [putAll, Act.put, sT, sZ, sU]) (hCont (.slice Ao26 t205.length co26, v214, gb217) _ ⟨hHeld, (Kd.R_mono HO207.out (fun _ hk => hk.2)), (Kd.R_mono HO215.out (fun _ hk => hk.2)), BK201.out, BK202.out, BK217.out, GW217.out, GE217.out, NB201_217.out, NB217_201.out, NB202_217.out, NB217_202.out, HB.out⟩)
 }
 }
 {
 skip
 refine box_step ?hg (N := 6) ?hd (cs := #[.int .i64 0, .slice none 0 0]) (t := 29) ?hr ?_; (case hd => rfl); (case hg => rfl); (case hr => go_simp <;> rfl)
 intro gb217 hg w23 hbox hb
 have n0_ := mK (blk_below (by (with_reducible repeat first|apply kN|apply kD|apply kA); exact BK201.out) hb)
 have n1_ := mK (blk_below (by (with_reducible repeat first|apply kN|apply kD|apply kA); exact BK202.out) hb)
 have n2_ := mK (below_step (by repeat first|(with_reducible first|exact HB.out|apply bA|apply bN|apply bD|refine bS ?_ GE201.out|refine bS ?_ GE202.out)|exact HB.out) hb)
 have n3_ := mK (hbox)
 have n4_ := mK ((by rw [hg]; exact (below_size (by repeat first|(with_reducible first|exact HB.out|apply bA|apply bN|apply bD|refine bS ?_ GE201.out|refine bS ?_ GE202.out)|exact HB.out)) : w.heap.size ≤ gb217))
 have n5_ := mK ((by rw [hg]; exact (below_size (by repeat first|(with_reducible first|exact HB.out|apply bA|apply bN|apply bD|refine bS ?_ GE201.out|refine bS ?_ GE202.out)|exact HB.out)) : w.heap.size ≤ gb217))
 have n6_ := mK ((by rw [hg]; exact Nat.ne_of_lt (blk_lt (by (with_reducible repeat first|apply kN|apply kD|apply kA); exact BK201.out)) : gb201 ≠ gb217))
 have n7_ := mK ((by rw [hg]; exact Nat.ne_of_gt (blk_lt (by (with_reducible repeat first|apply kN|apply kD|apply kA); exact BK201.out)) : gb217 ≠ gb201))
 have n8_ := mK ((by rw [hg]; exact Nat.ne_of_lt (blk_lt (by (with_reducible repeat first|apply kN|apply kD|apply kA); exact BK202.out)) : gb202 ≠ gb217))
 have n9_ := mK ((by rw [hg]; exact Nat.ne_of_gt (blk_lt (by (with_reducible repeat first|apply kN|apply kD|apply kA); exact BK202.out)) : gb217 ≠ gb202))
 clear BK201
 clear BK202
 clear HB
 have BK201 := n0_
 have BK202 := n1_
 have HB := n2_
 have BK217 := n3_
 have GW217 := n4_
 have GE217 := n5_
 have NB201_217 := n6_
 have NB217_201 := n7_
 have NB202_217 := n8_
 have NB217_202 := n9_
 clear n0_ n1_ n2_ n3_ n4_ n5_ n6_ n7_ n8_ n9_
 clear hb hbox hg
 refine hK.out _ _ ⟨(blk_cell BK201.out 0).trans rfl, (blk_cell BK201.out 1).trans rfl, (blk_cell BK202.out 0).trans rfl, (blk_cell BK202.out 1).trans rfl, (blk_cell BK202.out 2).trans rfl, (blk_cell BK202.out 3).trans rfl⟩ (fun hHeld => ?_)
 clear hK K
 refine norm_ (a' := ?_) ?_ ?_
 rotate_left
 {
 show Act.put _ (some 6) _ = _
 simp only [Act.put, sT, sZ, sU, i64_w, i32_w]
 rfl
 }
 refine one_ (i := 1) (N := some 23) #[true, true, true, false, false, false, false, false, true, false, false] rfl rfl (one_of HT_.out (by kernel_rfl)) (by decide) (fun K hK => ?_)
 refine goes_ Try.func13 (by kernel_rfl) rfl #[.agg #[.int .i64 a0_0, .slice A0_1 l0_1.length c0_1]] (by rfl) rfl rfl (by (try simp only [List.map_toArray, List.map_cons, List.map_nil]); first | done | rfl | (simp only [List.length_drop, List.length_take]; rfl)) ?_
 with_reducible refine (laws_toSimple.calls k a0_0 _ _ l0_1 t204 t205 _ ?side1 ?side2 A10.out).mono ?_
 (case side1 => repeat (first | exact (Kd.C_below HR0_1.out HB.out) | (with_reducible refine Kd.C_alloc ?_ _) | (with_reducible refine Kd.C_drewN ?_ _) | (with_reducible refine Kd.C_drew ?_)))
 (case side2 => exact HC0_1.out)
 rintro e w24 ⟨v206, rfl, ho0, hb⟩
 refine ⟨_, rfl, ?_⟩
 have n0_ := mK (Kd.R_lower ho0 (below_size (by repeat first|(with_reducible first|exact HB.out|apply bA|apply bN|apply bD|refine bS ?_ GE201.out|refine bS ?_ GE202.out|refine bS ?_ GE217.out)|exact HB.out)))
 have n1_ := mK (blk_below (by (with_reducible repeat first|apply kN|apply kD|apply kA); exact BK201.out) hb)
 have n2_ := mK (blk_below (by (with_reducible repeat first|apply kN|apply kD|apply kA); exact BK202.out) hb)
 have n3_ := mK (blk_below (by (with_reducible repeat first|apply kN|apply kD|apply kA); exact BK217.out) hb)
 have n4_ := mK (below_step (by repeat first|(with_reducible first|exact HB.out|apply bA|apply bN|apply bD|refine bS ?_ GE201.out|refine bS ?_ GE202.out|refine bS ?_ GE217.out)|exact HB.out) hb)
 clear BK201
 clear BK202
 clear BK217
 clear HB
 have HO207 := n0_
 have BK201 := n1_
 have BK202 := n2_
 have BK217 := n3_
 have HB := n4_
 clear n0_ n1_ n2_ n3_ n4_
 (try clear hb)
 (try clear hb2)
 (try clear hk)
 (try clear hi)
 (try clear ho0)
 refine hK.out _ _ ⟨(blk_cell BK201.out 0).trans rfl, (blk_cell BK201.out 1).trans rfl, (blk_cell BK202.out 0).trans rfl, (blk_cell BK202.out 1).trans rfl, (blk_cell BK202.out 2).trans rfl, (blk_cell BK202.out 3).trans rfl⟩ (fun hHeld => ?_)
 clear hK K
 refine norm_ (a' := ?_) ?_ ?_
 rotate_left
 {
 show Act.put _ (some 23) _ = _
 simp only [Act.put, sT, sZ, sU, i64_w, i32_w]
 rfl
 }
 refine one_ (i := 3) (N := some 25) #[true, true, true, true, false, false, false, false, true, false, false] rfl rfl (one_of HT_.out (by kernel_rfl)) (by decide) (fun K hK => ?_)
 refine goes_ Try.func25 (by kernel_rfl) rfl #[.agg #[.int .i64 a1_0, .int .i64 a1_1, .int .i64 a1_2, .int .i64 a1_3]] (by rfl) rfl rfl (by (try simp only [List.map_toArray, List.map_cons, List.map_nil]); first | done | rfl | (simp only [List.length_drop, List.length_take]; rfl)) ?_
 with_reducible refine (laws_toLink.calls a1_0 a1_1 a1_2 a1_3 t208 t209 t210 t211 _ A11.out).mono ?_
 rintro e w25 ⟨rfl, hb⟩
 refine ⟨_, rfl, ?_⟩
 have n0_ := mK (Kd.R_below (by (with_reducible repeat first|apply rA|apply rN|apply rD); exact HO207.out) hb)
 have n1_ := mK (blk_below (by (with_reducible repeat first|apply kN|apply kD|apply kA); exact BK201.out) hb)
 have n2_ := mK (blk_below (by (with_reducible repeat first|apply kN|apply kD|apply kA); exact BK202.out) hb)
 have n3_ := mK (blk_below (by (with_reducible repeat first|apply kN|apply kD|apply kA); exact BK217.out) hb)
 have n4_ := mK (below_step (by repeat first|(with_reducible first|exact HB.out|apply bA|apply bN|apply bD|refine bS ?_ GE201.out|refine bS ?_ GE202.out|refine bS ?_ GE217.out)|exact HB.out) hb)
 clear HO207
 clear BK201
 clear BK202
 clear BK217
 clear HB
 have HO207 := n0_
 have BK201 := n1_
 have BK202 := n2_
 have BK217 := n3_
 have HB := n4_
 clear n0_ n1_ n2_ n3_ n4_
 (try clear hb)
 (try clear hb2)
 (try clear hk)
 (try clear hi)
 obtain ⟨Ao26, co26, eo26⟩ := Kd.R_slice HO207.out
 (first | subst eo26 | (injection eo26 with f1_ f2_ f3_; have f4_ := f1_.symm; have f5_ := f3_.symm; clear f1_ f2_ f3_; subst f4_; subst f5_))
 refine hK.out _ _ ⟨(blk_cell BK201.out 0).trans rfl, (blk_cell BK201.out 1).trans rfl, (blk_cell BK202.out 0).trans rfl, (blk_cell BK202.out 1).trans rfl, (blk_cell BK202.out 2).trans rfl, (blk_cell BK202.out 3).trans rfl⟩ (fun hHeld => ?_)
 clear hK K
 refine norm_ (a' := ?_) ?_ ?_
 rotate_left
 {
 show Act.put _ (some 25) _ = _
 simp only [Act.put, sT, sZ, sU, i64_w, i32_w]
 rfl
 }
 refine one_ (i := 4) (N := some 26) #[true, true, true, true, true, false, false, false, true, false, false] rfl rfl (one_of HT_.out (by kernel_rfl)) (by decide) (fun K hK => ?_)
 refine goes_ Try.func24 (by kernel_rfl) rfl #[.agg #[.int .i64 t204, .slice Ao26 t205.length co26], .agg #[.int .i64 t208, .int .i64 t209, .int .i64 t210, .int .i64 t211]] (by rfl) rfl rfl (by (try simp only [List.map_toArray, List.map_cons, List.map_nil]); first | done | rfl | (simp only [List.length_drop, List.length_take]; rfl)) ?_
 with_reducible refine (spec_WithLink.calls k t204 _ _ t205 t208 t209 t210 t211 t212 t213 t216 _ ?side1 ?side2 A12.out).mono ?_
 (case side1 => repeat (first | exact (Kd.R_reads' HO207.out).2.2 | (with_reducible refine Kd.C_alloc ?_ _) | (with_reducible refine Kd.C_drewN ?_ _) | (with_reducible refine Kd.C_drew ?_)))
 (case side2 => exact (Kd.R_reads' HO207.out).2.1)
 rintro e w27 ⟨v214, rfl, ho0, hb⟩
 refine ⟨_, rfl, ?_⟩
 have n0_ := mK (Kd.R_elder' (by (with_reducible repeat first|apply rA|apply rN|apply rD); exact HO207.out) (Kd.R_base ho0) hb)
 have n1_ := mK (Kd.R_lower (Kd.R_new' ho0 (Kd.R_lt (by (with_reducible repeat first|apply rA|apply rN|apply rD); exact HO207.out))) (below_size (by repeat first|(with_reducible first|exact HB.out|apply bA|apply bN|apply bD|refine bS ?_ GE201.out|refine bS ?_ GE202.out|refine bS ?_ GE217.out)|exact HB.out)))
 have n2_ := mK (blk_below (by (with_reducible repeat first|apply kN|apply kD|apply kA); exact BK201.out) hb)
 have n3_ := mK (blk_below (by (with_reducible repeat first|apply kN|apply kD|apply kA); exact BK202.out) hb)
 have n4_ := mK (blk_below (by (with_reducible repeat first|apply kN|apply kD|apply kA); exact BK217.out) hb)
 have n5_ := mK (below_step (by repeat first|(with_reducible first|exact HB.out|apply bA|apply bN|apply bD|refine bS ?_ GE201.out|refine bS ?_ GE202.out|refine bS ?_ GE217.out)|exact HB.out) hb)
 clear HO207
 clear BK201
 clear BK202
 clear BK217
 clear HB
 have HO207 := n0_
 have HO215 := n1_
 have BK201 := n2_
 have BK202 := n3_
 have BK217 := n4_
 have HB := n5_
 clear n0_ n1_ n2_ n3_ n4_ n5_
 (try clear hb)
 (try clear hb2)
 (try clear hk)
 (try clear hi)
 (try clear ho0)
 refine hK.out _ _ ⟨(blk_cell BK201.out 0).trans rfl, (blk_cell BK201.out 1).trans rfl, (blk_cell BK202.out 0).trans rfl, (blk_cell BK202.out 1).trans rfl, (blk_cell BK202.out 2).trans rfl, (blk_cell BK202.out 3).trans rfl⟩ (fun hHeld => ?_)
 clear hK K
 refine norm_ (a' := ?_) ?_ ?_
 rotate_left
 {
 show Act.put _ (some 26) _ = _
 simp only [Act.put, sT, sZ, sU, i64_w, i32_w]
 rfl
 }
 refine pure_ (i := 5) (N := some 21) (v := ?_) (a' := ?_) #[true, true, true, true, true, true, false, false, true, false, false] rfl rfl (any_of HT_.out (by kernel_rfl)) (fun _ _ _ h => h) (Or.inl ⟨by rfl, ?_⟩) ?_ ?_
 rotate_left
 {
 intro w'
 go_simp
 with_reducible rfl
 }
 rotate_left
 {
 simp only [Act.put, sT, sZ, sU, i64_w, i32_w]
 rfl
 }
 refine pure_ (i := 6) (N := some 27) (v := ?_) (a' := ?_) #[true, true, true, true, true, true, true, false, true, false, false] rfl rfl (any_of HT_.out (by kernel_rfl)) (fun _ _ _ h => h) (Or.inl ⟨by rfl, ?_⟩) ?_ ?_
 rotate_left
 {
 intro w'
 go_simp
 with_reducible rfl
 }
 rotate_left
 {
 simp only [Act.put, sT, sZ, sU, i64_w, i32_w]
 rfl
 }
 refine pure_ (i := 7) (N := some 28) (v := ?_) (a' := ?_) #[true, true, true, true, true, true, true, true, true, false, false] rfl rfl (any_of HT_.out (by kernel_rfl)) (fun _ _ _ h => h) (Or.inl ⟨by rfl, ?_⟩) ?_ ?_
 rotate_left
 {
 intro w'
 go_simp
 with_reducible rfl
 }
 rotate_left
 {
 simp only [Act.put, sT, sZ, sU, i64_w, i32_w]
 rfl
 }
 exact norm_ (by simp only [putAll, Act.put, sT, sZ, sU]) (hCont (.slice Ao26 t205.length co26, v214, gb217) _ ⟨hHeld, (Kd.R_mono HO207.out (fun _ hk => hk.2)), (Kd.R_mono HO215.out (fun _ hk => hk.2)), BK201.out, BK202.out, BK217.out, GW217.out, GE217.out, NB201_217.out, NB217_201.out, NB202_217.out, NB217_202.out, HB.out⟩)
 }
 }
 rintro ⟨v206, v214, gb217⟩ w28 ⟨hS_, h0_, h1_, h2_, h3_, h4_, h5_, h6_, h7_, h8_, h9_, h10_, h11_⟩
 have n0_ : Aside0 (Kd.R k47 47 w28 w.heap.size (fun k_ => some k_ ≠ (v214 : Value).ownBlock) v206 t205) := ⟨h0_⟩
 have n1_ : Aside0 (Kd.R k47 47 w28 w.heap.size (fun k_ => some k_ ≠ (v206 : Value).ownBlock) v214 t213) := ⟨h1_⟩
 have n2_ : Aside0 (w28.heap[gb201]? = some (.cells #[.int .i64 a0_0, .slice A0_1 l0_1.length c0_1] 24 (0, 0))) := ⟨h2_⟩
 have n3_ : Aside0 (w28.heap[gb202]? = some (.cells #[.int .i64 a1_0, .int .i64 a1_1, .int .i64 a1_2, .int .i64 a1_3] 42 (0, 0))) := ⟨h3_⟩
 have n4_ : Aside0 (w28.heap[gb217]? = some (.cells #[.int .i64 0, .slice none 0 0] 29 (0, 0))) := ⟨h4_⟩
 have n5_ : Aside0 (w.heap.size ≤ gb217) := ⟨h5_⟩
 have n6_ : Aside0 (w.heap.size ≤ gb217) := ⟨h6_⟩
 have n7_ : Aside0 (gb201 ≠ gb217) := ⟨h7_⟩
 have n8_ : Aside0 (gb217 ≠ gb201) := ⟨h8_⟩
 have n9_ : Aside0 (gb202 ≠ gb217) := ⟨h9_⟩
 have n10_ : Aside0 (gb217 ≠ gb202) := ⟨h10_⟩
 have n11_ : Aside0 (Below w.heap.size w w28) := ⟨h11_⟩
 clear BK201
 clear BK202
 clear HB
 clear h0_ h1_ h2_ h3_ h4_ h5_ h6_ h7_ h8_ h9_ h10_ h11_
 have HO207 := n0_
 have HO215 := n1_
 have BK201 := n2_
 have BK202 := n3_
 have BK217 := n4_
 have GW217 := n5_
 have GE217 := n6_
 have NB201_217 := n7_
 have NB217_201 := n8_
 have NB202_217 := n9_
 have NB217_202 := n10_
 have HB := n11_
 clear n0_ n1_ n2_ n3_ n4_ n5_ n6_ n7_ n8_ n9_ n10_ n11_
 have hHeld : w28.cell? ⟨gb201, 0, none⟩ = some (.int .i64 a0_0) ∧ w28.cell? ⟨gb201, 1, none⟩ = some (.slice A0_1 l0_1.length c0_1) ∧ w28.cell? ⟨gb202, 0, none⟩ = some (.int .i64 a1_0) ∧ w28.cell? ⟨gb202, 1, none⟩ = some (.int .i64 a1_1) ∧ w28.cell? ⟨gb202, 2, none⟩ = some (.int .i64 a1_2) ∧ w28.cell? ⟨gb202, 3, none⟩ = some (.int .i64 a1_3) := hS_
 obtain ⟨Ao30, co30, eo30⟩ := Kd.R_slice HO215.out
 (first | subst eo30 | (injection eo30 with f1_ f2_ f3_; have f4_ := f1_.symm; have f5_ := f3_.symm; clear f1_ f2_ f3_; subst f4_; subst f5_))
 refine norm_ (a' := ?_) ?_ ?_
 rotate_left
 {
 simp only [putAll, Act.put, sT, sZ, sU]
 rfl
 }
 refine one_ (i := 9) (N := none) #[true, true, true, true, true, true, true, true, true, true, false] rfl rfl (one_of HT_.out (by kernel_rfl)) (by decide) (fun K hK => ?_)
 have hs29 : w28.cell? ⟨gb217, 0, none⟩ = some (.int .i64 0) := (blk_cell BK217.out 0).trans rfl
 have hfs29 := blk_frozen BK217.out 0
 have hns29_0 := NB201_217.out
 have hns29_1 := NB202_217.out
 have hms29_0 := NB217_201.out
 have hms29_1 := NB217_202.out
 have hs31 : w28.cell? ⟨gb217, 1, none⟩ = some (.slice none 0 0) := (blk_cell BK217.out 1).trans rfl
 have hfs31 := blk_frozen BK217.out 1
 have hns31_0 := NB201_217.out
 have hns31_1 := NB202_217.out
 have hms31_0 := NB217_201.out
 have hms31_1 := NB217_202.out
 refine skip_ (w1 := ?_) (by rfl) rfl ?_ ?_
 rotate_left
 {
 go_simp
 rfl
 }
 refine hK.out _ _ ⟨((cell_far (p := ⟨gb217, _, none⟩) NB201_217.out _).trans (((cell_far (p := ⟨gb217, _, none⟩) NB201_217.out _).trans (hHeld.1)))), ((cell_far (p := ⟨gb217, _, none⟩) NB201_217.out _).trans (((cell_far (p := ⟨gb217, _, none⟩) NB201_217.out _).trans (hHeld.2.1)))), ((cell_far (p := ⟨gb217, _, none⟩) NB202_217.out _).trans (((cell_far (p := ⟨gb217, _, none⟩) NB202_217.out _).trans (hHeld.2.2.1)))), ((cell_far (p := ⟨gb217, _, none⟩) NB202_217.out _).trans (((cell_far (p := ⟨gb217, _, none⟩) NB202_217.out _).trans (hHeld.2.2.2.1)))), ((cell_far (p := ⟨gb217, _, none⟩) NB202_217.out _).trans (((cell_far (p := ⟨gb217, _, none⟩) NB202_217.out _).trans (hHeld.2.2.2.2.1)))), ((cell_far (p := ⟨gb217, _, none⟩) NB202_217.out _).trans (((cell_far (p := ⟨gb217, _, none⟩) NB202_217.out _).trans (hHeld.2.2.2.2.2))))⟩ (fun hHeld => ?_)
 clear hK K
 refine pure_ (i := 10) (N := some 7) (v := ?_) (a' := ?_) #[true, true, true, true, true, true, true, true, true, true, true] rfl rfl (any_of HT_.out (by kernel_rfl)) (fun _ _ _ h => h) (Or.inl ⟨by rfl, ?_⟩) ?_ ?_
 rotate_left
 {
 intro w'
 go_simp
 with_reducible rfl
 }
 rotate_left
 {
 simp only [Act.put, sT, sZ, sU, i64_w, i32_w]
 rfl
 }
 refine done_ (done_of HT_.out (by kernel_rfl)) ?_
 have hnb32 := NB201_217.out
 have hnc32 := NB217_201.out
 have hcz33_0 : w28.cell? ⟨gb201, 0, none⟩ = some (.int .i64 a0_0) := (blk_cell BK201.out 0).trans rfl
 have hcz33_1 : w28.cell? ⟨gb201, 1, none⟩ = some (.slice A0_1 l0_1.length c0_1) := (blk_cell BK201.out 1).trans rfl
 have hfz33_0 := blk_frozen BK201.out 0
 have hfz33_1 := blk_frozen BK201.out 1
 try go_wp2_with (first | ((with_reducible refine gate_callee (f := 13) rfl ?_); refine goesL_ (some 30) rfl rfl Try.func13 (by kernel_rfl) rfl #[.agg #[.int .i64 a0_0, .slice A0_1 l0_1.length c0_1]] rfl (by (try simp only [List.map_toArray, List.map_cons, List.map_nil]); first | done | rfl | (simp only [List.length_drop, List.length_take]; rfl)) ?_; (with_reducible refine (laws_toSimple.calls k a0_0 _ _ l0_1 t218 t219 _ ?side1 ?side2 A13.out).mono ?_); (case side1 => exact Kd.C_below HR0_1.out (by repeat first|(with_reducible first|exact HB.out|apply bA|apply bN|apply bD|refine bS ?_ GE201.out|refine bS ?_ GE202.out|refine bS ?_ GE217.out)|exact HB.out)); (case side2 => exact HC0_1.out); rintro e w34 ⟨v220, rfl, ho0, hb⟩; refine ⟨_, rfl, ?_⟩; have n0_ := mK (Kd.R_elder' (by (with_reducible repeat first|apply rA|apply rN|apply rD); exact (Kd.R_mono (Kd.R_far (p := ⟨gb217, 1, none⟩) (Kd.R_far (p := ⟨gb217, 0, none⟩) (Kd.R_types HO207.out BK217.out (by decide)) (fun _ hk => hk.2) (.int .i64 t212)) (fun _ hk => hk.2) (.slice Ao30 t213.length co30)) (fun _ h_ => h_.1))) (Kd.R_base ho0) hb); have n1_ := mK (Kd.R_elder' (by (with_reducible repeat first|apply rA|apply rN|apply rD); exact (Kd.R_mono (Kd.R_far (p := ⟨gb217, 1, none⟩) (Kd.R_far (p := ⟨gb217, 0, none⟩) (Kd.R_types HO215.out BK217.out (by decide)) (fun _ hk => hk.2) (.int .i64 t212)) (fun _ hk => hk.2) (.slice Ao30 t213.length co30)) (fun _ h_ => h_.1))) (Kd.R_base ho0) hb); have n2_ := mK (Kd.R_lower (Kd.R_new' (Kd.R_new' ho0 (Kd.R_lt (by (with_reducible repeat first|apply rA|apply rN|apply rD); exact (Kd.R_mono (Kd.R_far (p := ⟨gb217, 1, none⟩) (Kd.R_far (p := ⟨gb217, 0, none⟩) (Kd.R_types HO207.out BK217.out (by decide)) (fun _ hk => hk.2) (.int .i64 t212)) (fun _ hk => hk.2) (.slice Ao30 t213.length co30)) (fun _ h_ => h_.1))))) (Kd.R_lt (by (with_reducible repeat first|apply rA|apply rN|apply rD); exact (Kd.R_mono (Kd.R_far (p := ⟨gb217, 1, none⟩) (Kd.R_far (p := ⟨gb217, 0, none⟩) (Kd.R_types HO215.out BK217.out (by decide)) (fun _ hk => hk.2) (.int .i64 t212)) (fun _ hk => hk.2) (.slice Ao30 t213.length co30)) (fun _ h_ => h_.1))))) (below_size (by repeat first|(with_reducible first|exact HB.out|apply bA|apply bN|apply bD|refine bS ?_ GE201.out|refine bS ?_ GE202.out|refine bS ?_ GE217.out)|exact HB.out))); have n3_ := mK (blk_below (g := gb201) (o := .cells #[.int .i64 a0_0, .slice A0_1 l0_1.length c0_1] 24 (0, 0)) (by (with_reducible repeat first|apply kN|apply kD|apply kA); refine blk_far ?_ NB201_217.out _; (with_reducible repeat first|apply kN|apply kD|apply kA); refine blk_far ?_ NB201_217.out _; (with_reducible repeat first|apply kN|apply kD|apply kA); exact BK201.out) hb); have n4_ := mK (blk_below (g := gb202) (o := .cells #[.int .i64 a1_0, .int .i64 a1_1, .int .i64 a1_2, .int .i64 a1_3] 42 (0, 0)) (by (with_reducible repeat first|apply kN|apply kD|apply kA); refine blk_far ?_ NB202_217.out _; (with_reducible repeat first|apply kN|apply kD|apply kA); refine blk_far ?_ NB202_217.out _; (with_reducible repeat first|apply kN|apply kD|apply kA); exact BK202.out) hb); have n5_ := mK (blk_below (g := gb217) (o := .cells #[.int .i64 t212, .slice Ao30 t213.length co30] 29 (0, 0)) (by (with_reducible repeat first|apply kN|apply kD|apply kA); refine blk_put (cs := #[.int .i64 t212, .slice none 0 0]) ?_ 1 _ rfl; (with_reducible repeat first|apply kN|apply kD|apply kA); refine blk_put (cs := #[.int .i64 0, .slice none 0 0]) ?_ 0 _ rfl; (with_reducible repeat first|apply kN|apply kD|apply kA); exact BK217.out) hb); have n6_ := mK (below_step (by repeat first|(with_reducible first|exact HB.out|apply bA|apply bN|apply bD|refine bS ?_ GE201.out|refine bS ?_ GE202.out|refine bS ?_ GE217.out)|exact HB.out) hb); clear HO207; clear HO215; clear BK201; clear BK202; clear BK217; clear HB; have HO207 := n0_; have HO215 := n1_; have HO221 := n2_; have BK201 := n3_; have BK202 := n4_; have BK217 := n5_; have HB := n6_; clear n0_ n1_ n2_ n3_ n4_ n5_ n6_; (try clear hb); (try clear hb2); (try clear hk); (try clear hi); (try clear ho0)) | ((with_reducible refine gate_dst (N := 8) rfl ?_); refine box_event ?hg (N := 8) ?hd (cs := #[.int .i64 0, .slice none 0 0]) (t := 29) ?hr ?_; (case hd => rfl); (case hg => rfl); (case hr => go_simp <;> rfl); intro gb222 hg w35 hbox hb; have n0_ := mK (Kd.R_below (by (with_reducible repeat first|apply rA|apply rN|apply rD); exact HO207.out) hb); have n1_ := mK (Kd.R_below (by (with_reducible repeat first|apply rA|apply rN|apply rD); exact HO215.out) hb); have n2_ := mK (Kd.R_below (by (with_reducible repeat first|apply rA|apply rN|apply rD); exact HO221.out) hb); have n3_ := mK (blk_below (by (with_reducible repeat first|apply kN|apply kD|apply kA); exact BK201.out) hb); have n4_ := mK (blk_below (by (with_reducible repeat first|apply kN|apply kD|apply kA); exact BK202.out) hb); have n5_ := mK (blk_below (by (with_reducible repeat first|apply kN|apply kD|apply kA); exact BK217.out) hb); have n6_ := mK (below_step (by repeat first|(with_reducible first|exact HB.out|apply bA|apply bN|apply bD|refine bS ?_ GE201.out|refine bS ?_ GE202.out|refine bS ?_ GE217.out)|exact HB.out) hb); have n7_ := mK (hbox); have n8_ := mK ((by rw [hg]; exact (below_size (by repeat first|(with_reducible first|exact HB.out|apply bA|apply bN|apply bD|refine bS ?_ GE201.out|refine bS ?_ GE202.out|refine bS ?_ GE217.out)|exact HB.out)) : w.heap.size ≤ gb222)); have n9_ := mK ((by rw [hg]; exact (below_size (by repeat first|(with_reducible first|exact HB.out|apply bA|apply bN|apply bD|refine bS ?_ GE201.out|refine bS ?_ GE202.out|refine bS ?_ GE217.out)|exact HB.out)) : w.heap.size ≤ gb222)); have n10_ := mK ((by rw [hg]; exact Nat.ne_of_lt (blk_lt (by (with_reducible repeat first|apply kN|apply kD|apply kA); exact BK201.out)) : gb201 ≠ gb222)); have n11_ := mK ((by rw [hg]; exact Nat.ne_of_gt (blk_lt (by (with_reducible repeat first|apply kN|apply kD|apply kA); exact BK201.out)) : gb222 ≠ gb201)); have n12_ := mK ((by rw [hg]; exact Nat.ne_of_lt (blk_lt (by (with_reducible repeat first|apply kN|apply kD|apply kA); exact BK202.out)) : gb202 ≠ gb222)); have n13_ := mK ((by rw [hg]; exact Nat.ne_of_gt (blk_lt (by (with_reducible repeat first|apply kN|apply kD|apply kA); exact BK202.out)) : gb222 ≠ gb202)); have n14_ := mK ((by rw [hg]; exact Nat.ne_of_lt (blk_lt (by (with_reducible repeat first|apply kN|apply kD|apply kA); exact BK217.out)) : gb217 ≠ gb222)); have n15_ := mK ((by rw [hg]; exact Nat.ne_of_gt (blk_lt (by (with_reducible repeat first|apply kN|apply kD|apply kA); exact BK217.out)) : gb222 ≠ gb217)); clear HO207; clear HO215; clear HO221; clear BK201; clear BK202; clear BK217; clear HB; have HO207 := n0_; have HO215 := n1_; have HO221 := n2_; have BK201 := n3_; have BK202 := n4_; have BK217 := n5_; have HB := n6_; have BK222 := n7_; have GW222 := n8_; have GE222 := n9_; have NB201_222 := n10_; have NB222_201 := n11_; have NB202_222 := n12_; have NB222_202 := n13_; have NB217_222 := n14_; have NB222_217 := n15_; clear n0_ n1_ n2_ n3_ n4_ n5_ n6_ n7_ n8_ n9_ n10_ n11_ n12_ n13_ n14_ n15_; clear hb hbox hg; have hnb36 := NB222_201.out; have hnc36 := NB201_222.out; have hnb37 := NB222_202.out; have hnc37 := NB202_222.out; have hnb38 := NB222_217.out; have hnc38 := NB217_222.out; have hcz39_0 : w35.cell? ⟨gb222, 0, none⟩ = some (.int .i64 0) := (blk_cell BK222.out 0).trans rfl; have hcz39_1 : w35.cell? ⟨gb222, 1, none⟩ = some (.slice none 0 0) := (blk_cell BK222.out 1).trans rfl; have hfz39_0 := blk_frozen BK222.out 0; have hfz39_1 := blk_frozen BK222.out 1; obtain ⟨Ao40, co40, eo40⟩ := Kd.R_slice HO221.out; subst eo40))
 have n0_ : Aside0 (Kd.R k47 47 ((w35.setCell ⟨gb222, 0, none⟩ (.int .i64 t218)).setCell ⟨gb222, 1, none⟩ (.slice Ao40 t219.length co40)) w.heap.size (fun k_ => some k_ ≠ (.slice Ao30 t213.length co30 : Value).ownBlock ∧ some k_ ≠ (.slice Ao40 t219.length co40 : Value).ownBlock) v206 t205) := ⟨by (with_reducible repeat first|apply rA|apply rN|apply rD); exact Kd.R_mono (Kd.R_far (p := ⟨gb222, 1, none⟩) (Kd.R_far (p := ⟨gb222, 0, none⟩) (Kd.R_types HO207.out BK222.out (by decide)) (fun _ hk => hk.2) (.int .i64 t218)) (fun _ hk => hk.2) (.slice Ao40 t219.length co40)) (fun _ hk => ⟨hk.1.1, hk.1.2⟩)⟩
 have n1_ : Aside0 (Kd.R k47 47 ((w35.setCell ⟨gb222, 0, none⟩ (.int .i64 t218)).setCell ⟨gb222, 1, none⟩ (.slice Ao40 t219.length co40)) w.heap.size (fun k_ => some k_ ≠ (v206 : Value).ownBlock ∧ some k_ ≠ (.slice Ao40 t219.length co40 : Value).ownBlock) (.slice Ao30 t213.length co30) t213) := ⟨by (with_reducible repeat first|apply rA|apply rN|apply rD); exact Kd.R_mono (Kd.R_far (p := ⟨gb222, 1, none⟩) (Kd.R_far (p := ⟨gb222, 0, none⟩) (Kd.R_types HO215.out BK222.out (by decide)) (fun _ hk => hk.2) (.int .i64 t218)) (fun _ hk => hk.2) (.slice Ao40 t219.length co40)) (fun _ hk => ⟨hk.1.1, hk.1.2⟩)⟩
 have n2_ : Aside0 (Kd.R k47 47 ((w35.setCell ⟨gb222, 0, none⟩ (.int .i64 t218)).setCell ⟨gb222, 1, none⟩ (.slice Ao40 t219.length co40)) w.heap.size (fun k_ => some k_ ≠ (v206 : Value).ownBlock ∧ some k_ ≠ (.slice Ao30 t213.length co30 : Value).ownBlock) (.slice Ao40 t219.length co40) t219) := ⟨by (with_reducible repeat first|apply rA|apply rN|apply rD); exact Kd.R_mono (Kd.R_far (p := ⟨gb222, 1, none⟩) (Kd.R_far (p := ⟨gb222, 0, none⟩) (Kd.R_types HO221.out BK222.out (by decide)) (fun _ hk => hk.2) (.int .i64 t218)) (fun _ hk => hk.2) (.slice Ao40 t219.length co40)) (fun _ hk => ⟨hk.1.1.2, hk.1.2⟩)⟩
 have n3_ : Aside0 (((w35.setCell ⟨gb222, 0, none⟩ (.int .i64 t218)).setCell ⟨gb222, 1, none⟩ (.slice Ao40 t219.length co40)).heap[gb201]? = some (.cells #[.int .i64 a0_0, .slice A0_1 l0_1.length c0_1] 24 (0, 0))) := ⟨by (with_reducible repeat first|apply kN|apply kD|apply kA); refine blk_far ?_ NB201_222.out _; (with_reducible repeat first|apply kN|apply kD|apply kA); refine blk_far ?_ NB201_222.out _; (with_reducible repeat first|apply kN|apply kD|apply kA); exact BK201.out⟩
 have n4_ : Aside0 (((w35.setCell ⟨gb222, 0, none⟩ (.int .i64 t218)).setCell ⟨gb222, 1, none⟩ (.slice Ao40 t219.length co40)).heap[gb202]? = some (.cells #[.int .i64 a1_0, .int .i64 a1_1, .int .i64 a1_2, .int .i64 a1_3] 42 (0, 0))) := ⟨by (with_reducible repeat first|apply kN|apply kD|apply kA); refine blk_far ?_ NB202_222.out _; (with_reducible repeat first|apply kN|apply kD|apply kA); refine blk_far ?_ NB202_222.out _; (with_reducible repeat first|apply kN|apply kD|apply kA); exact BK202.out⟩
 have n5_ : Aside0 (((w35.setCell ⟨gb222, 0, none⟩ (.int .i64 t218)).setCell ⟨gb222, 1, none⟩ (.slice Ao40 t219.length co40)).heap[gb217]? = some (.cells #[.int .i64 t212, .slice Ao30 t213.length co30] 29 (0, 0))) := ⟨by (with_reducible repeat first|apply kN|apply kD|apply kA); refine blk_far ?_ NB217_222.out _; (with_reducible repeat first|apply kN|apply kD|apply kA); refine blk_far ?_ NB217_222.out _; (with_reducible repeat first|apply kN|apply kD|apply kA); exact BK217.out⟩
 have n6_ : Aside0 (((w35.setCell ⟨gb222, 0, none⟩ (.int .i64 t218)).setCell ⟨gb222, 1, none⟩ (.slice Ao40 t219.length co40)).heap[gb222]? = some (.cells #[.int .i64 t218, .slice Ao40 t219.length co40] 29 (0, 0))) := ⟨by (with_reducible repeat first|apply kN|apply kD|apply kA); refine blk_put (cs := #[.int .i64 t218, .slice none 0 0]) ?_ 1 _ rfl; (with_reducible repeat first|apply kN|apply kD|apply kA); refine blk_put (cs := #[.int .i64 0, .slice none 0 0]) ?_ 0 _ rfl; (with_reducible repeat first|apply kN|apply kD|apply kA); exact BK222.out⟩
 have n7_ : Aside0 (Below w.heap.size w ((w35.setCell ⟨gb222, 0, none⟩ (.int .i64 t218)).setCell ⟨gb222, 1, none⟩ (.slice Ao40 t219.length co40))) := ⟨by repeat first|(with_reducible first|exact HB.out|apply bA|apply bN|apply bD|refine bS ?_ GE201.out|refine bS ?_ GE202.out|refine bS ?_ GE217.out|refine bS ?_ GE222.out)|exact HB.out⟩
 (try clear HO207)
 (try clear HO215)
 (try clear HO221)
 (try clear BK201)
 (try clear BK202)
 (try clear BK217)
 (try clear BK222)
 (try clear HB)
 generalize ((w35.setCell ⟨gb222, 0, none⟩ (.int .i64 t218)).setCell ⟨gb222, 1, none⟩ (.slice Ao40 t219.length co40)) = w41 at n0_ n1_ n2_ n3_ n4_ n5_ n6_ n7_ ⊢
 have HO207 := n0_
 have HO215 := n1_
 have HO221 := n2_
 have BK201 := n3_
 have BK202 := n4_
 have BK217 := n5_
 have BK222 := n6_
 have HB := n7_
 clear n0_ n1_ n2_ n3_ n4_ n5_ n6_ n7_
 have n0_ := mK (Kd.R_drew HO207.out)
 have n1_ := mK (Kd.R_drew HO215.out)
 have n2_ := mK (Kd.R_drew HO221.out)
 have n3_ := mK (blk_drew BK201.out)
 have n4_ := mK (blk_drew BK202.out)
 have n5_ := mK (blk_drew BK217.out)
 have n6_ := mK (blk_drew BK222.out)
 have n7_ := mK (below_drew1 HB.out)
 clear HO207
 clear HO215
 clear HO221
 clear BK201
 clear BK202
 clear BK217
 clear BK222
 clear HB
 have HO207 := n0_
 have HO215 := n1_
 have HO221 := n2_
 have BK201 := n3_
 have BK202 := n4_
 have BK217 := n5_
 have BK222 := n6_
 have HB := n7_
 clear n0_ n1_ n2_ n3_ n4_ n5_ n6_ n7_
 refine start_ (n := 10) (S := fun w' => w'.cell? ⟨gb222, 0, none⟩ = some (.int .i64 t218) ∧ w'.cell? ⟨gb222, 1, none⟩ = some (.slice Ao40 t219.length co40) ∧ w'.cell? ⟨gb202, 0, none⟩ = some (.int .i64 a1_0) ∧ w'.cell? ⟨gb202, 1, none⟩ = some (.int .i64 a1_1) ∧ w'.cell? ⟨gb202, 2, none⟩ = some (.int .i64 a1_2) ∧ w'.cell? ⟨gb202, 3, none⟩ = some (.int .i64 a1_3)) (ds := []) #[false, false, false, false, false, false, false, false, false, false] (by kernel_rfl) rfl rfl ⟨(blk_cell BK222.out 0).trans rfl, (blk_cell BK222.out 1).trans rfl, (blk_cell BK202.out 0).trans rfl, (blk_cell BK202.out 1).trans rfl, (blk_cell BK202.out 2).trans rfl, (blk_cell BK202.out 3).trans rfl⟩ (fun hHeld => ?_); refine with_tabW laws_FnExactWithLink.tab7 laws_FnExactWithLink.bits7 (fun HT_ HW_ => ?_)
 generalize w41.drew = w42 at HO207 HO215 HO221 BK201 BK202 BK217 BK222 HB hHeld ⊢
 refine take_ (i := 0) (N := some 32) (v := ?_) (a' := ?_) #[true, false, false, false, false, false, false, false, false, false] rfl rfl (take_ofW HT_.out HW_.out (by kernel_rfl)) (fun _ _ _ h => h) (Or.inl ⟨by rfl, ?_⟩) hHeld ?_ ?_
 rotate_left
 {
 rintro w' ⟨s0, s1, s2, s3, s4, s5⟩
 go_simp
 with_reducible rfl
 }
 rotate_left
 {
 simp only [Act.put, sT, sZ, sU, i64_w, i32_w]
 rfl
 }
 refine take_ (i := 1) (N := some 33) (v := ?_) (a' := ?_) #[true, true, false, false, false, false, false, false, false, false] rfl rfl (take_ofW HT_.out HW_.out (by kernel_rfl)) (fun _ _ _ h => h) (Or.inl ⟨by rfl, ?_⟩) hHeld ?_ ?_
 rotate_left
 {
 rintro w' ⟨s0, s1, s2, s3, s4, s5⟩
 go_simp
 with_reducible rfl
 }
 rotate_left
 {
 simp only [Act.put, sT, sZ, sU, i64_w, i32_w]
 rfl
 }
 refine join_ (σ := Value × Nat) 2 #[true, true, true, true, true, true, true, true, false, false] (fun s_ => [(34, .agg #[.int .i64 t223, .int .i64 t224, .int .i64 t225, .int .i64 t226]), (35, .tuple #[.agg #[.int .i64 t227, s_.1], .bool t231]), (9, .pointer (some ⟨s_.2, 0, none⟩)), (31, .tuple #[.agg #[.int .i64 t227, s_.1], .bool t231]), (36, .agg #[.int .i64 t227, s_.1]), (37, .bool t231)]) (fun s_ w' => (w'.cell? ⟨gb222, 0, none⟩ = some (.int .i64 t218) ∧ w'.cell? ⟨gb222, 1, none⟩ = some (.slice Ao40 t219.length co40) ∧ w'.cell? ⟨gb202, 0, none⟩ = some (.int .i64 a1_0) ∧ w'.cell? ⟨gb202, 1, none⟩ = some (.int .i64 a1_1) ∧ w'.cell? ⟨gb202, 2, none⟩ = some (.int .i64 a1_2) ∧ w'.cell? ⟨gb202, 3, none⟩ = some (.int .i64 a1_3)) ∧ (Kd.R k47 47 w' w.heap.size (fun k_ => some k_ ≠ (.slice Ao30 t213.length co30 : Value).ownBlock ∧ some k_ ≠ (.slice Ao40 t219.length co40 : Value).ownBlock ∧ some k_ ≠ (s_.1 : Value).ownBlock) v206 t205) ∧ (Kd.R k47 47 w' w.heap.size (fun k_ => some k_ ≠ (v206 : Value).ownBlock ∧ some k_ ≠ (.slice Ao40 t219.length co40 : Value).ownBlock ∧ some k_ ≠ (s_.1 : Value).ownBlock) (.slice Ao30 t213.length co30) t213) ∧ (Kd.R k47 47 w' w.heap.size (fun k_ => some k_ ≠ (v206 : Value).ownBlock ∧ some k_ ≠ (.slice Ao30 t213.length co30 : Value).ownBlock ∧ some k_ ≠ (s_.1 : Value).ownBlock) (.slice Ao40 t219.length co40) t219) ∧ (Kd.R k47 47 w' w.heap.size (fun k_ => some k_ ≠ (v206 : Value).ownBlock ∧ some k_ ≠ (.slice Ao30 t213.length co30 : Value).ownBlock ∧ some k_ ≠ (.slice Ao40 t219.length co40 : Value).ownBlock) s_.1 t228) ∧ (w'.heap[gb201]? = some (.cells #[.int .i64 a0_0, .slice A0_1 l0_1.length c0_1] 24 (0, 0))) ∧ (w'.heap[gb202]? = some (.cells #[.int .i64 a1_0, .int .i64 a1_1, .int .i64 a1_2, .int .i64 a1_3] 42 (0, 0))) ∧ (w'.heap[gb217]? = some (.cells #[.int .i64 t212, .slice Ao30 t213.length co30] 29 (0, 0))) ∧ (w'.heap[gb222]? = some (.cells #[.int .i64 t218, .slice Ao40 t219.length co40] 29 (0, 0))) ∧ (w'.heap[s_.2]? = some (.cells #[.int .i64 0, .slice none 0 0] 29 (0, 0))) ∧ (w.heap.size ≤ s_.2) ∧ (w.heap.size ≤ s_.2) ∧ (gb201 ≠ s_.2) ∧ (s_.2 ≠ gb201) ∧ (gb202 ≠ s_.2) ∧ (s_.2 ≠ gb202) ∧ (gb217 ≠ s_.2) ∧ (s_.2 ≠ gb217) ∧ (gb222 ≠ s_.2) ∧ (s_.2 ≠ gb222) ∧ (Below w.heap.size w w')) ?_ ?_
 rotate_left
 {
 intro hCont
 refine two_ (i := 2) (j := 7) (Ni := some 34) (Nj := some 9) #[true, true, true, false, false, false, false, false, false, false] #[true, true, false, false, false, false, false, true, false, false] rfl rfl rfl rfl (two_of HT_.out (by kernel_rfl)) (by decide) (by decide) (fun K hK => ?_) (fun K hK => ?_)
 {
 skip
 refine goes_ Try.func25 (by kernel_rfl) rfl #[.agg #[.int .i64 a1_0, .int .i64 a1_1, .int .i64 a1_2, .int .i64 a1_3]] (by rfl) rfl rfl (by (try simp only [List.map_toArray, List.map_cons, List.map_nil]); first | done | rfl | (simp only [List.length_drop, List.length_take]; rfl)) ?_
 with_reducible refine (laws_toLink.calls a1_0 a1_1 a1_2 a1_3 t223 t224 t225 t226 _ A14.out).mono ?_
 rintro e w43 ⟨rfl, hb⟩
 refine ⟨_, rfl, ?_⟩
 have n0_ := mK (Kd.R_below (by (with_reducible repeat first|apply rA|apply rN|apply rD); exact HO207.out) hb)
 have n1_ := mK (Kd.R_below (by (with_reducible repeat first|apply rA|apply rN|apply rD); exact HO215.out) hb)
 have n2_ := mK (Kd.R_below (by (with_reducible repeat first|apply rA|apply rN|apply rD); exact HO221.out) hb)
 have n3_ := mK (blk_below (by (with_reducible repeat first|apply kN|apply kD|apply kA); exact BK201.out) hb)
 have n4_ := mK (blk_below (by (with_reducible repeat first|apply kN|apply kD|apply kA); exact BK202.out) hb)
 have n5_ := mK (blk_below (by (with_reducible repeat first|apply kN|apply kD|apply kA); exact BK217.out) hb)
 have n6_ := mK (blk_below (by (with_reducible repeat first|apply kN|apply kD|apply kA); exact BK222.out) hb)
 have n7_ := mK (below_step (by repeat first|(with_reducible first|exact HB.out|apply bA|apply bN|apply bD|refine bS ?_ GE201.out|refine bS ?_ GE202.out|refine bS ?_ GE217.out|refine bS ?_ GE222.out)|exact HB.out) hb)
 clear HO207
 clear HO215
 clear HO221
 clear BK201
 clear BK202
 clear BK217
 clear BK222
 clear HB
 have HO207 := n0_
 have HO215 := n1_
 have HO221 := n2_
 have BK201 := n3_
 have BK202 := n4_
 have BK217 := n5_
 have BK222 := n6_
 have HB := n7_
 clear n0_ n1_ n2_ n3_ n4_ n5_ n6_ n7_
 (try clear hb)
 (try clear hb2)
 (try clear hk)
 (try clear hi)
 refine hK.out _ _ ⟨(blk_cell BK222.out 0).trans rfl, (blk_cell BK222.out 1).trans rfl, (blk_cell BK202.out 0).trans rfl, (blk_cell BK202.out 1).trans rfl, (blk_cell BK202.out 2).trans rfl, (blk_cell BK202.out 3).trans rfl⟩ (fun hHeld => ?_)
 clear hK K
 refine norm_ (a' := ?_) ?_ ?_
 rotate_left
 {
 show Act.put _ (some 34) _ = _
 simp only [Act.put, sT, sZ, sU, i64_w, i32_w]
 rfl
 }
 refine two_ (i := 3) (j := 7) (Ni := some 35) (Nj := some 9) #[true, true, true, true, false, false, false, false, false, false] #[true, true, true, false, false, false, false, true, false, false] rfl rfl rfl rfl (two_of HT_.out (by kernel_rfl)) (by decide) (by decide) (fun K hK => ?_) (fun K hK => ?_)
 {
 skip
 refine goes_ Try.func26 (by kernel_rfl) rfl #[.agg #[.int .i64 t218, .slice Ao40 t219.length co40], .agg #[.int .i64 t223, .int .i64 t224, .int .i64 t225, .int .i64 t226]] (by rfl) rfl rfl (by (try simp only [List.map_toArray, List.map_cons, List.map_nil]); first | done | rfl | (simp only [List.length_drop, List.length_take]; rfl)) ?_
 with_reducible refine (impl_WithLink.calls t218 _ _ t219 t223 t224 t225 t226 t227 t228 t231 _ ?side1 ?side2 A15.out).mono ?_
 (case side1 => repeat (first | exact (Kd.R_reads' HO221.out).2.2 | (with_reducible refine Kd.C_alloc ?_ _) | (with_reducible refine Kd.C_drewN ?_ _) | (with_reducible refine Kd.C_drew ?_)))
 (case side2 => exact (Kd.R_reads' HO221.out).2.1)
 rintro e w44 ⟨v229, rfl, ho0, hb⟩
 refine ⟨_, rfl, ?_⟩
 have n0_ := mK (Kd.R_elder' (by (with_reducible repeat first|apply rA|apply rN|apply rD); exact HO207.out) (Kd.R_base ho0) hb)
 have n1_ := mK (Kd.R_elder' (by (with_reducible repeat first|apply rA|apply rN|apply rD); exact HO215.out) (Kd.R_base ho0) hb)
 have n2_ := mK (Kd.R_elder' (by (with_reducible repeat first|apply rA|apply rN|apply rD); exact HO221.out) (Kd.R_base ho0) hb)
 have n3_ := mK (Kd.R_lower (Kd.R_new' (Kd.R_new' (Kd.R_new' ho0 (Kd.R_lt (by (with_reducible repeat first|apply rA|apply rN|apply rD); exact HO207.out))) (Kd.R_lt (by (with_reducible repeat first|apply rA|apply rN|apply rD); exact HO215.out))) (Kd.R_lt (by (with_reducible repeat first|apply rA|apply rN|apply rD); exact HO221.out))) (below_size (by repeat first|(with_reducible first|exact HB.out|apply bA|apply bN|apply bD|refine bS ?_ GE201.out|refine bS ?_ GE202.out|refine bS ?_ GE217.out|refine bS ?_ GE222.out)|exact HB.out)))
 have n4_ := mK (blk_below (by (with_reducible repeat first|apply kN|apply kD|apply kA); exact BK201.out) hb)
 have n5_ := mK (blk_below (by (with_reducible repeat first|apply kN|apply kD|apply kA); exact BK202.out) hb)
 have n6_ := mK (blk_below (by (with_reducible repeat first|apply kN|apply kD|apply kA); exact BK217.out) hb)
 have n7_ := mK (blk_below (by (with_reducible repeat first|apply kN|apply kD|apply kA); exact BK222.out) hb)
 have n8_ := mK (below_step (by repeat first|(with_reducible first|exact HB.out|apply bA|apply bN|apply bD|refine bS ?_ GE201.out|refine bS ?_ GE202.out|refine bS ?_ GE217.out|refine bS ?_ GE222.out)|exact HB.out) hb)
 clear HO207
 clear HO215
 clear HO221
 clear BK201
 clear BK202
 clear BK217
 clear BK222
 clear HB
 have HO207 := n0_
 have HO215 := n1_
 have HO221 := n2_
 have HO230 := n3_
 have BK201 := n4_
 have BK202 := n5_
 have BK217 := n6_
 have BK222 := n7_
 have HB := n8_
 clear n0_ n1_ n2_ n3_ n4_ n5_ n6_ n7_ n8_
 (try clear hb)
 (try clear hb2)
 (try clear hk)
 (try clear hi)
 (try clear ho0)
 refine hK.out _ _ ⟨(blk_cell BK222.out 0).trans rfl, (blk_cell BK222.out 1).trans rfl, (blk_cell BK202.out 0).trans rfl, (blk_cell BK202.out 1).trans rfl, (blk_cell BK202.out 2).trans rfl, (blk_cell BK202.out 3).trans rfl⟩ (fun hHeld => ?_)
 clear hK K
 refine norm_ (a' := ?_) ?_ ?_
 rotate_left
 {
 show Act.put _ (some 35) _ = _
 simp only [Act.put, sT, sZ, sU, i64_w, i32_w]
 rfl
 }
 refine pure_ (i := 4) (N := some 31) (v := ?_) (a' := ?_) #[true, true, true, true, true, false, false, false, false, false] rfl rfl (any_of HT_.out (by kernel_rfl)) (fun _ _ _ h => h) (Or.inl ⟨by rfl, ?_⟩) ?_ ?_
 rotate_left
 {
 intro w'
 go_simp
 with_reducible rfl
 }
 rotate_left
 {
 simp only [Act.put, sT, sZ, sU, i64_w, i32_w]
 rfl
 }
 refine pure_ (i := 5) (N := some 36) (v := ?_) (a' := ?_) #[true, true, true, true, true, true, false, false, false, false] rfl rfl (any_of HT_.out (by kernel_rfl)) (fun _ _ _ h => h) (Or.inl ⟨by rfl, ?_⟩) ?_ ?_
 rotate_left
 {
 intro w'
 go_simp
 with_reducible rfl
 }
 rotate_left
 {
 simp only [Act.put, sT, sZ, sU, i64_w, i32_w]
 rfl
 }
 refine pure_ (i := 6) (N := some 37) (v := ?_) (a' := ?_) #[true, true, true, true, true, true, true, false, false, false] rfl rfl (any_of HT_.out (by kernel_rfl)) (fun _ _ _ h => h) (Or.inl ⟨by rfl, ?_⟩) ?_ ?_
 rotate_left
 {
 intro w'
 go_simp
 with_reducible rfl
 }
 rotate_left
 {
 simp only [Act.put, sT, sZ, sU, i64_w, i32_w]
 rfl
 }
 refine one_ (i := 7) (N := some 9) #[true, true, true, true, true, true, true, true, false, false] rfl rfl (one_of HT_.out (by kernel_rfl)) (by decide) (fun K hK => ?_)
 refine box_step ?hg (N := 9) ?hd (cs := #[.int .i64 0, .slice none 0 0]) (t := 29) ?hr ?_; (case hd => rfl); (case hg => rfl); (case hr => go_simp <;> rfl)
 intro gb232 hg w45 hbox hb
 have n0_ := mK (Kd.R_below (by (with_reducible repeat first|apply rA|apply rN|apply rD); exact HO207.out) hb)
 have n1_ := mK (Kd.R_below (by (with_reducible repeat first|apply rA|apply rN|apply rD); exact HO215.out) hb)
 have n2_ := mK (Kd.R_below (by (with_reducible repeat first|apply rA|apply rN|apply rD); exact HO221.out) hb)
 have n3_ := mK (Kd.R_below (by (with_reducible repeat first|apply rA|apply rN|apply rD); exact HO230.out) hb)
 have n4_ := mK (blk_below (by (with_reducible repeat first|apply kN|apply kD|apply kA); exact BK201.out) hb)
 have n5_ := mK (blk_below (by (with_reducible repeat first|apply kN|apply kD|apply kA); exact BK202.out) hb)
 have n6_ := mK (blk_below (by (with_reducible repeat first|apply kN|apply kD|apply kA); exact BK217.out) hb)
 have n7_ := mK (blk_below (by (with_reducible repeat first|apply kN|apply kD|apply kA); exact BK222.out) hb)
 have n8_ := mK (below_step (by repeat first|(with_reducible first|exact HB.out|apply bA|apply bN|apply bD|refine bS ?_ GE201.out|refine bS ?_ GE202.out|refine bS ?_ GE217.out|refine bS ?_ GE222.out)|exact HB.out) hb)
 have n9_ := mK (hbox)
 have n10_ := mK ((by rw [hg]; exact (below_size (by repeat first|(with_reducible first|exact HB.out|apply bA|apply bN|apply bD|refine bS ?_ GE201.out|refine bS ?_ GE202.out|refine bS ?_ GE217.out|refine bS ?_ GE222.out)|exact HB.out)) : w.heap.size ≤ gb232))
 have n11_ := mK ((by rw [hg]; exact (below_size (by repeat first|(with_reducible first|exact HB.out|apply bA|apply bN|apply bD|refine bS ?_ GE201.out|refine bS ?_ GE202.out|refine bS ?_ GE217.out|refine bS ?_ GE222.out)|exact HB.out)) : w.heap.size ≤ gb232))
 have n12_ := mK ((by rw [hg]; exact Nat.ne_of_lt (blk_lt (by (with_reducible repeat first|apply kN|apply kD|apply kA); exact BK201.out)) : gb201 ≠ gb232))
 have n13_ := mK ((by rw [hg]; exact Nat.ne_of_gt (blk_lt (by (with_reducible repeat first|apply kN|apply kD|apply kA); exact BK201.out)) : gb232 ≠ gb201))
 have n14_ := mK ((by rw [hg]; exact Nat.ne_of_lt (blk_lt (by (with_reducible repeat first|apply kN|apply kD|apply kA); exact BK202.out)) : gb202 ≠ gb232))
 have n15_ := mK ((by rw [hg]; exact Nat.ne_of_gt (blk_lt (by (with_reducible repeat first|apply kN|apply kD|apply kA); exact BK202.out)) : gb232 ≠ gb202))
 have n16_ := mK ((by rw [hg]; exact Nat.ne_of_lt (blk_lt (by (with_reducible repeat first|apply kN|apply kD|apply kA); exact BK217.out)) : gb217 ≠ gb232))
 have n17_ := mK ((by rw [hg]; exact Nat.ne_of_gt (blk_lt (by (with_reducible repeat first|apply kN|apply kD|apply kA); exact BK217.out)) : gb232 ≠ gb217))
 have n18_ := mK ((by rw [hg]; exact Nat.ne_of_lt (blk_lt (by (with_reducible repeat first|apply kN|apply kD|apply kA); exact BK222.out)) : gb222 ≠ gb232))
 have n19_ := mK ((by rw [hg]; exact Nat.ne_of_gt (blk_lt (by (with_reducible repeat first|apply kN|apply kD|apply kA); exact BK222.out)) : gb232 ≠ gb222))
 clear HO207
 clear HO215
 clear HO221
 clear HO230
 clear BK201
 clear BK202
 clear BK217
 clear BK222
 clear HB
 have HO207 := n0_
 have HO215 := n1_
 have HO221 := n2_
 have HO230 := n3_
 have BK201 := n4_
 have BK202 := n5_
 have BK217 := n6_
 have BK222 := n7_
 have HB := n8_
 have BK232 := n9_
 have GW232 := n10_
 have GE232 := n11_
 have NB201_232 := n12_
 have NB232_201 := n13_
 have NB202_232 := n14_
 have NB232_202 := n15_
 have NB217_232 := n16_
 have NB232_217 := n17_
 have NB222_232 := n18_
 have NB232_222 := n19_
 clear n0_ n1_ n2_ n3_ n4_ n5_ n6_ n7_ n8_ n9_ n10_ n11_ n12_ n13_ n14_ n15_ n16_ n17_ n18_ n19_
 clear hb hbox hg
 refine hK.out _ _ ⟨(blk_cell BK222.out 0).trans rfl, (blk_cell BK222.out 1).trans rfl, (blk_cell BK202.out 0).trans rfl, (blk_cell BK202.out 1).trans rfl, (blk_cell BK202.out 2).trans rfl, (blk_cell BK202.out 3).trans rfl⟩ (fun hHeld => ?_)
 clear hK K
 refine norm_ (a' := ?_) ?_ ?_
 rotate_left
 {
 show Act.put _ (some 9) _ = _
 simp only [Act.put, sT, sZ, sU, i64_w, i32_w]
 rfl
 }
 exact norm_ (by simp only [putAll, Act.put, sT, sZ, sU]) (hCont (v229, gb232) _ ⟨hHeld, (Kd.R_mono HO207.out (fun _ hk => ⟨hk.1.1, ⟨hk.1.2, hk.2⟩⟩)), (Kd.R_mono HO215.out (fun _ hk => ⟨hk.1.1, ⟨hk.1.2, hk.2⟩⟩)), (Kd.R_mono HO221.out (fun _ hk => ⟨hk.1.1, ⟨hk.1.2, hk.2⟩⟩)), (Kd.R_mono HO230.out (fun _ hk => ⟨hk.1.1.2, ⟨hk.1.2, hk.2⟩⟩)), BK201.out, BK202.out, BK217.out, BK222.out, BK232.out, GW232.out, GE232.out, NB201_232.out, NB232_201.out, NB202_232.out, NB232_202.out, NB217_232.out, NB232_217.out, NB222_232.out, NB232_222.out, HB.out⟩)
 }
 {
 skip
 refine box_step ?hg (N := 9) ?hd (cs := #[.int .i64 0, .slice none 0 0]) (t := 29) ?hr ?_; (case hd => rfl); (case hg => rfl); (case hr => go_simp <;> rfl)
 intro gb232 hg w44 hbox hb
 have n0_ := mK (Kd.R_below (by (with_reducible repeat first|apply rA|apply rN|apply rD); exact HO207.out) hb)
 have n1_ := mK (Kd.R_below (by (with_reducible repeat first|apply rA|apply rN|apply rD); exact HO215.out) hb)
 have n2_ := mK (Kd.R_below (by (with_reducible repeat first|apply rA|apply rN|apply rD); exact HO221.out) hb)
 have n3_ := mK (blk_below (by (with_reducible repeat first|apply kN|apply kD|apply kA); exact BK201.out) hb)
 have n4_ := mK (blk_below (by (with_reducible repeat first|apply kN|apply kD|apply kA); exact BK202.out) hb)
 have n5_ := mK (blk_below (by (with_reducible repeat first|apply kN|apply kD|apply kA); exact BK217.out) hb)
 have n6_ := mK (blk_below (by (with_reducible repeat first|apply kN|apply kD|apply kA); exact BK222.out) hb)
 have n7_ := mK (below_step (by repeat first|(with_reducible first|exact HB.out|apply bA|apply bN|apply bD|refine bS ?_ GE201.out|refine bS ?_ GE202.out|refine bS ?_ GE217.out|refine bS ?_ GE222.out)|exact HB.out) hb)
 have n8_ := mK (hbox)
 have n9_ := mK ((by rw [hg]; exact (below_size (by repeat first|(with_reducible first|exact HB.out|apply bA|apply bN|apply bD|refine bS ?_ GE201.out|refine bS ?_ GE202.out|refine bS ?_ GE217.out|refine bS ?_ GE222.out)|exact HB.out)) : w.heap.size ≤ gb232))
 have n10_ := mK ((by rw [hg]; exact (below_size (by repeat first|(with_reducible first|exact HB.out|apply bA|apply bN|apply bD|refine bS ?_ GE201.out|refine bS ?_ GE202.out|refine bS ?_ GE217.out|refine bS ?_ GE222.out)|exact HB.out)) : w.heap.size ≤ gb232))
 have n11_ := mK ((by rw [hg]; exact Nat.ne_of_lt (blk_lt (by (with_reducible repeat first|apply kN|apply kD|apply kA); exact BK201.out)) : gb201 ≠ gb232))
 have n12_ := mK ((by rw [hg]; exact Nat.ne_of_gt (blk_lt (by (with_reducible repeat first|apply kN|apply kD|apply kA); exact BK201.out)) : gb232 ≠ gb201))
 have n13_ := mK ((by rw [hg]; exact Nat.ne_of_lt (blk_lt (by (with_reducible repeat first|apply kN|apply kD|apply kA); exact BK202.out)) : gb202 ≠ gb232))
 have n14_ := mK ((by rw [hg]; exact Nat.ne_of_gt (blk_lt (by (with_reducible repeat first|apply kN|apply kD|apply kA); exact BK202.out)) : gb232 ≠ gb202))
 have n15_ := mK ((by rw [hg]; exact Nat.ne_of_lt (blk_lt (by (with_reducible repeat first|apply kN|apply kD|apply kA); exact BK217.out)) : gb217 ≠ gb232))
 have n16_ := mK ((by rw [hg]; exact Nat.ne_of_gt (blk_lt (by (with_reducible repeat first|apply kN|apply kD|apply kA); exact BK217.out)) : gb232 ≠ gb217))
 have n17_ := mK ((by rw [hg]; exact Nat.ne_of_lt (blk_lt (by (with_reducible repeat first|apply kN|apply kD|apply kA); exact BK222.out)) : gb222 ≠ gb232))
 have n18_ := mK ((by rw [hg]; exact Nat.ne_of_gt (blk_lt (by (with_reducible repeat first|apply kN|apply kD|apply kA); exact BK222.out)) : gb232 ≠ gb222))
 clear HO207
 clear HO215
 clear HO221
 clear BK201
 clear BK202
 clear BK217
 clear BK222
 clear HB
 have HO207 := n0_
 have HO215 := n1_
 have HO221 := n2_
 have BK201 := n3_
 have BK202 := n4_
 have BK217 := n5_
 have BK222 := n6_
 have HB := n7_
 have BK232 := n8_
 have GW232 := n9_
 have GE232 := n10_
 have NB201_232 := n11_
 have NB232_201 := n12_
 have NB202_232 := n13_
 have NB232_202 := n14_
 have NB217_232 := n15_
 have NB232_217 := n16_
 have NB222_232 := n17_
 have NB232_222 := n18_
 clear n0_ n1_ n2_ n3_ n4_ n5_ n6_ n7_ n8_ n9_ n10_ n11_ n12_ n13_ n14_ n15_ n16_ n17_ n18_
 clear hb hbox hg
 refine hK.out _ _ ⟨(blk_cell BK222.out 0).trans rfl, (blk_cell BK222.out 1).trans rfl, (blk_cell BK202.out 0).trans rfl, (blk_cell BK202.out 1).trans rfl, (blk_cell BK202.out 2).trans rfl, (blk_cell BK202.out 3).trans rfl⟩ (fun hHeld => ?_)
 clear hK K
 refine norm_ (a' := ?_) ?_ ?_
 rotate_left
 {
 show Act.put _ (some 9) _ = _
 simp only [Act.put, sT, sZ, sU, i64_w, i32_w]
 rfl
 }
 refine one_ (i := 3) (N := some 35) #[true, true, true, true, false, false, false, true, false, false] rfl rfl (one_of HT_.out (by kernel_rfl)) (by decide) (fun K hK => ?_)
 refine goes_ Try.func26 (by kernel_rfl) rfl #[.agg #[.int .i64 t218, .slice Ao40 t219.length co40], .agg #[.int .i64 t223, .int .i64 t224, .int .i64 t225, .int .i64 t226]] (by rfl) rfl rfl (by (try simp only [List.map_toArray, List.map_cons, List.map_nil]); first | done | rfl | (simp only [List.length_drop, List.length_take]; rfl)) ?_
 with_reducible refine (impl_WithLink.calls t218 _ _ t219 t223 t224 t225 t226 t227 t228 t231 _ ?side1 ?side2 A15.out).mono ?_
 (case side1 => repeat (first | exact (Kd.R_reads' HO221.out).2.2 | (with_reducible refine Kd.C_alloc ?_ _) | (with_reducible refine Kd.C_drewN ?_ _) | (with_reducible refine Kd.C_drew ?_)))
 (case side2 => exact (Kd.R_reads' HO221.out).2.1)
 rintro e w45 ⟨v229, rfl, ho0, hb⟩
 refine ⟨_, rfl, ?_⟩
 have n0_ := mK (Kd.R_elder' (by (with_reducible repeat first|apply rA|apply rN|apply rD); exact HO207.out) (Kd.R_base ho0) hb)
 have n1_ := mK (Kd.R_elder' (by (with_reducible repeat first|apply rA|apply rN|apply rD); exact HO215.out) (Kd.R_base ho0) hb)
 have n2_ := mK (Kd.R_elder' (by (with_reducible repeat first|apply rA|apply rN|apply rD); exact HO221.out) (Kd.R_base ho0) hb)
 have n3_ := mK (Kd.R_lower (Kd.R_new' (Kd.R_new' (Kd.R_new' ho0 (Kd.R_lt (by (with_reducible repeat first|apply rA|apply rN|apply rD); exact HO207.out))) (Kd.R_lt (by (with_reducible repeat first|apply rA|apply rN|apply rD); exact HO215.out))) (Kd.R_lt (by (with_reducible repeat first|apply rA|apply rN|apply rD); exact HO221.out))) (below_size (by repeat first|(with_reducible first|exact HB.out|apply bA|apply bN|apply bD|refine bS ?_ GE201.out|refine bS ?_ GE202.out|refine bS ?_ GE217.out|refine bS ?_ GE222.out|refine bS ?_ GE232.out)|exact HB.out)))
 have n4_ := mK (blk_below (by (with_reducible repeat first|apply kN|apply kD|apply kA); exact BK201.out) hb)
 have n5_ := mK (blk_below (by (with_reducible repeat first|apply kN|apply kD|apply kA); exact BK202.out) hb)
 have n6_ := mK (blk_below (by (with_reducible repeat first|apply kN|apply kD|apply kA); exact BK217.out) hb)
 have n7_ := mK (blk_below (by (with_reducible repeat first|apply kN|apply kD|apply kA); exact BK222.out) hb)
 have n8_ := mK (blk_below (by (with_reducible repeat first|apply kN|apply kD|apply kA); exact BK232.out) hb)
 have n9_ := mK (below_step (by repeat first|(with_reducible first|exact HB.out|apply bA|apply bN|apply bD|refine bS ?_ GE201.out|refine bS ?_ GE202.out|refine bS ?_ GE217.out|refine bS ?_ GE222.out|refine bS ?_ GE232.out)|exact HB.out) hb)
 clear HO207
 clear HO215
 clear HO221
 clear BK201
 clear BK202
 clear BK217
 clear BK222
 clear BK232
 clear HB
 have HO207 := n0_
 have HO215 := n1_
 have HO221 := n2_
 have HO230 := n3_
 have BK201 := n4_
 have BK202 := n5_
 have BK217 := n6_
 have BK222 := n7_
 have BK232 := n8_
 have HB := n9_
 clear n0_ n1_ n2_ n3_ n4_ n5_ n6_ n7_ n8_ n9_
 (try clear hb)
 (try clear hb2)
 (try clear hk)
 (try clear hi)
 (try clear ho0)
 refine hK.out _ _ ⟨(blk_cell BK222.out 0).trans rfl, (blk_cell BK222.out 1).trans rfl, (blk_cell BK202.out 0).trans rfl, (blk_cell BK202.out 1).trans rfl, (blk_cell BK202.out 2).trans rfl, (blk_cell BK202.out 3).trans rfl⟩ (fun hHeld => ?_)
 clear hK K
 refine norm_ (a' := ?_) ?_ ?_
 rotate_left
 {
 show Act.put _ (some 35) _ = _
 simp only [Act.put, sT, sZ, sU, i64_w, i32_w]
 rfl
 }
 refine pure_ (i := 4) (N := some 31) (v := ?_) (a' := ?_) #[true, true, true, true, true, false, false, true, false, false] rfl rfl (any_of HT_.out (by kernel_rfl)) (fun _ _ _ h => h) (Or.inl ⟨by rfl, ?_⟩) ?_ ?_
 rotate_left
 {
 intro w'
 go_simp
 with_reducible rfl
 }
 rotate_left
 {
 simp only [Act.put, sT, sZ, sU, i64_w, i32_w]
 rfl
 }
 refine pure_ (i := 5) (N := some 36) (v := ?_) (a' := ?_) #[true, true, true, true, true, true, false, true, false, false] rfl rfl (any_of HT_.out (by kernel_rfl)) (fun _ _ _ h => h) (Or.inl ⟨by rfl, ?_⟩) ?_ ?_
 rotate_left
 {
 intro w'
 go_simp
 with_reducible rfl
 }
 rotate_left
 {
 simp only [Act.put, sT, sZ, sU, i64_w, i32_w]
 rfl
 }
 refine pure_ (i := 6) (N := some 37) (v := ?_) (a' := ?_) #[true, true, true, true, true, true, true, true, false, false] rfl rfl (any_of HT_.out (by kernel_rfl)) (fun _ _ _ h => h) (Or.inl ⟨by rfl, ?_⟩) ?_ ?_
 rotate_left
 {
 intro w'
 go_simp
 with_reducible rfl
 }
 rotate_left
 {
 simp only [Act.put, sT, sZ, sU, i64_w, i32_w]
 rfl
 }
 exact norm_ (by simp only [putAll, Act.put, sT, sZ, sU]) (hCont (v229, gb232) _ ⟨hHeld, (Kd.R_mono HO207.out (fun _ hk => ⟨hk.1.1, ⟨hk.1.2, hk.2⟩⟩)), (Kd.R_mono HO215.out (fun _ hk => ⟨hk.1.1, ⟨hk.1.2, hk.2⟩⟩)), (Kd.R_mono HO221.out (fun _ hk => ⟨hk.1.1, ⟨hk.1.2, hk.2⟩⟩)), (Kd.R_mono HO230.out (fun _ hk => ⟨hk.1.1.2, ⟨hk.1.2, hk.2⟩⟩)), BK201.out, BK202.out, BK217.out, BK222.out, BK232.out, GW232.out, GE232.out, NB201_232.out, NB232_201.out, NB202_232.out, NB232_202.out, NB217_232.out, NB232_217.out, NB222_232.out, NB232_222.out, HB.out⟩)
 }
 }
 {
 skip
 refine box_step ?hg (N := 9) ?hd (cs := #[.int .i64 0, .slice none 0 0]) (t := 29) ?hr ?_; (case hd => rfl); (case hg => rfl); (case hr => go_simp <;> rfl)
 intro gb232 hg w43 hbox hb
 have n0_ := mK (Kd.R_below (by (with_reducible repeat first|apply rA|apply rN|apply rD); exact HO207.out) hb)
 have n1_ := mK (Kd.R_below (by (with_reducible repeat first|apply rA|apply rN|apply rD); exact HO215.out) hb)
 have n2_ := mK (Kd.R_below (by (with_reducible repeat first|apply rA|apply rN|apply rD); exact HO221.out) hb)
 have n3_ := mK (blk_below (by (with_reducible repeat first|apply kN|apply kD|apply kA); exact BK201.out) hb)
 have n4_ := mK (blk_below (by (with_reducible repeat first|apply kN|apply kD|apply kA); exact BK202.out) hb)
 have n5_ := mK (blk_below (by (with_reducible repeat first|apply kN|apply kD|apply kA); exact BK217.out) hb)
 have n6_ := mK (blk_below (by (with_reducible repeat first|apply kN|apply kD|apply kA); exact BK222.out) hb)
 have n7_ := mK (below_step (by repeat first|(with_reducible first|exact HB.out|apply bA|apply bN|apply bD|refine bS ?_ GE201.out|refine bS ?_ GE202.out|refine bS ?_ GE217.out|refine bS ?_ GE222.out)|exact HB.out) hb)
 have n8_ := mK (hbox)
 have n9_ := mK ((by rw [hg]; exact (below_size (by repeat first|(with_reducible first|exact HB.out|apply bA|apply bN|apply bD|refine bS ?_ GE201.out|refine bS ?_ GE202.out|refine bS ?_ GE217.out|refine bS ?_ GE222.out)|exact HB.out)) : w.heap.size ≤ gb232))
 have n10_ := mK ((by rw [hg]; exact (below_size (by repeat first|(with_reducible first|exact HB.out|apply bA|apply bN|apply bD|refine bS ?_ GE201.out|refine bS ?_ GE202.out|refine bS ?_ GE217.out|refine bS ?_ GE222.out)|exact HB.out)) : w.heap.size ≤ gb232))
 have n11_ := mK ((by rw [hg]; exact Nat.ne_of_lt (blk_lt (by (with_reducible repeat first|apply kN|apply kD|apply kA); exact BK201.out)) : gb201 ≠ gb232))
 have n12_ := mK ((by rw [hg]; exact Nat.ne_of_gt (blk_lt (by (with_reducible repeat first|apply kN|apply kD|apply kA); exact BK201.out)) : gb232 ≠ gb201))
 have n13_ := mK ((by rw [hg]; exact Nat.ne_of_lt (blk_lt (by (with_reducible repeat first|apply kN|apply kD|apply kA); exact BK202.out)) : gb202 ≠ gb232))
 have n14_ := mK ((by rw [hg]; exact Nat.ne_of_gt (blk_lt (by (with_reducible repeat first|apply kN|apply kD|apply kA); exact BK202.out)) : gb232 ≠ gb202))
 have n15_ := mK ((by rw [hg]; exact Nat.ne_of_lt (blk_lt (by (with_reducible repeat first|apply kN|apply kD|apply kA); exact BK217.out)) : gb217 ≠ gb232))
 have n16_ := mK ((by rw [hg]; exact Nat.ne_of_gt (blk_lt (by (with_reducible repeat first|apply kN|apply kD|apply kA); exact BK217.out)) : gb232 ≠ gb217))
 have n17_ := mK ((by rw [hg]; exact Nat.ne_of_lt (blk_lt (by (with_reducible repeat first|apply kN|apply kD|apply kA); exact BK222.out)) : gb222 ≠ gb232))
 have n18_ := mK ((by rw [hg]; exact Nat.ne_of_gt (blk_lt (by (with_reducible repeat first|apply kN|apply kD|apply kA); exact BK222.out)) : gb232 ≠ gb222))
 clear HO207
 clear HO215
 clear HO221
 clear BK201
 clear BK202
 clear BK217
 clear BK222
 clear HB
 have HO207 := n0_
 have HO215 := n1_
 have HO221 := n2_
 have BK201 := n3_
 have BK202 := n4_
 have BK217 := n5_
 have BK222 := n6_
 have HB := n7_
 have BK232 := n8_
 have GW232 := n9_
 have GE232 := n10_
 have NB201_232 := n11_
 have NB232_201 := n12_
 have NB202_232 := n13_
 have NB232_202 := n14_
 have NB217_232 := n15_
 have NB232_217 := n16_
 have NB222_232 := n17_
 have NB232_222 := n18_
 clear n0_ n1_ n2_ n3_ n4_ n5_ n6_ n7_ n8_ n9_ n10_ n11_ n12_ n13_ n14_ n15_ n16_ n17_ n18_
 clear hb hbox hg
 refine hK.out _ _ ⟨(blk_cell BK222.out 0).trans rfl, (blk_cell BK222.out 1).trans rfl, (blk_cell BK202.out 0).trans rfl, (blk_cell BK202.out 1).trans rfl, (blk_cell BK202.out 2).trans rfl, (blk_cell BK202.out 3).trans rfl⟩ (fun hHeld => ?_)
 clear hK K
 refine norm_ (a' := ?_) ?_ ?_
 rotate_left
 {
 show Act.put _ (some 9) _ = _
 simp only [Act.put, sT, sZ, sU, i64_w, i32_w]
 rfl
 }
 refine one_ (i := 2) (N := some 34) #[true, true, true, false, false, false, false, true, false, false] rfl rfl (one_of HT_.out (by kernel_rfl)) (by decide) (fun K hK => ?_)
 refine goes_ Try.func25 (by kernel_rfl) rfl #[.agg #[.int .i64 a1_0, .int .i64 a1_1, .int .i64 a1_2, .int .i64 a1_3]] (by rfl) rfl rfl (by (try simp only [List.map_toArray, List.map_cons, List.map_nil]); first | done | rfl | (simp only [List.length_drop, List.length_take]; rfl)) ?_
 with_reducible refine (laws_toLink.calls a1_0 a1_1 a1_2 a1_3 t223 t224 t225 t226 _ A14.out).mono ?_
 rintro e w44 ⟨rfl, hb⟩
 refine ⟨_, rfl, ?_⟩
 have n0_ := mK (Kd.R_below (by (with_reducible repeat first|apply rA|apply rN|apply rD); exact HO207.out) hb)
 have n1_ := mK (Kd.R_below (by (with_reducible repeat first|apply rA|apply rN|apply rD); exact HO215.out) hb)
 have n2_ := mK (Kd.R_below (by (with_reducible repeat first|apply rA|apply rN|apply rD); exact HO221.out) hb)
 have n3_ := mK (blk_below (by (with_reducible repeat first|apply kN|apply kD|apply kA); exact BK201.out) hb)
 have n4_ := mK (blk_below (by (with_reducible repeat first|apply kN|apply kD|apply kA); exact BK202.out) hb)
 have n5_ := mK (blk_below (by (with_reducible repeat first|apply kN|apply kD|apply kA); exact BK217.out) hb)
 have n6_ := mK (blk_below (by (with_reducible repeat first|apply kN|apply kD|apply kA); exact BK222.out) hb)
 have n7_ := mK (blk_below (by (with_reducible repeat first|apply kN|apply kD|apply kA); exact BK232.out) hb)
 have n8_ := mK (below_step (by repeat first|(with_reducible first|exact HB.out|apply bA|apply bN|apply bD|refine bS ?_ GE201.out|refine bS ?_ GE202.out|refine bS ?_ GE217.out|refine bS ?_ GE222.out|refine bS ?_ GE232.out)|exact HB.out) hb)
 clear HO207
 clear HO215
 clear HO221
 clear BK201
 clear BK202
 clear BK217
 clear BK222
 clear BK232
 clear HB
 have HO207 := n0_
 have HO215 := n1_
 have HO221 := n2_
 have BK201 := n3_
 have BK202 := n4_
 have BK217 := n5_
 have BK222 := n6_
 have BK232 := n7_
 have HB := n8_
 clear n0_ n1_ n2_ n3_ n4_ n5_ n6_ n7_ n8_
 (try clear hb)
 (try clear hb2)
 (try clear hk)
 (try clear hi)
 refine hK.out _ _ ⟨(blk_cell BK222.out 0).trans rfl, (blk_cell BK222.out 1).trans rfl, (blk_cell BK202.out 0).trans rfl, (blk_cell BK202.out 1).trans rfl, (blk_cell BK202.out 2).trans rfl, (blk_cell BK202.out 3).trans rfl⟩ (fun hHeld => ?_)
 clear hK K
 refine norm_ (a' := ?_) ?_ ?_
 rotate_left
 {
 show Act.put _ (some 34) _ = _
 simp only [Act.put, sT, sZ, sU, i64_w, i32_w]
 rfl
 }
 refine one_ (i := 3) (N := some 35) #[true, true, true, true, false, false, false, true, false, false] rfl rfl (one_of HT_.out (by kernel_rfl)) (by decide) (fun K hK => ?_)
 refine goes_ Try.func26 (by kernel_rfl) rfl #[.agg #[.int .i64 t218, .slice Ao40 t219.length co40], .agg #[.int .i64 t223, .int .i64 t224, .int .i64 t225, .int .i64 t226]] (by rfl) rfl rfl (by (try simp only [List.map_toArray, List.map_cons, List.map_nil]); first | done | rfl | (simp only [List.length_drop, List.length_take]; rfl)) ?_
 with_reducible refine (impl_WithLink.calls t218 _ _ t219 t223 t224 t225 t226 t227 t228 t231 _ ?side1 ?side2 A15.out).mono ?_
 (case side1 => repeat (first | exact (Kd.R_reads' HO221.out).2.2 | (with_reducible refine Kd.C_alloc ?_ _) | (with_reducible refine Kd.C_drewN ?_ _) | (with_reducible refine Kd.C_drew ?_)))
 (case side2 => exact (Kd.R_reads' HO221.out).2.1)
 rintro e w45 ⟨v229, rfl, ho0, hb⟩
 refine ⟨_, rfl, ?_⟩
 have n0_ := mK (Kd.R_elder' (by (with_reducible repeat first|apply rA|apply rN|apply rD); exact HO207.out) (Kd.R_base ho0) hb)
 have n1_ := mK (Kd.R_elder' (by (with_reducible repeat first|apply rA|apply rN|apply rD); exact HO215.out) (Kd.R_base ho0) hb)
 have n2_ := mK (Kd.R_elder' (by (with_reducible repeat first|apply rA|apply rN|apply rD); exact HO221.out) (Kd.R_base ho0) hb)
 have n3_ := mK (Kd.R_lower (Kd.R_new' (Kd.R_new' (Kd.R_new' ho0 (Kd.R_lt (by (with_reducible repeat first|apply rA|apply rN|apply rD); exact HO207.out))) (Kd.R_lt (by (with_reducible repeat first|apply rA|apply rN|apply rD); exact HO215.out))) (Kd.R_lt (by (with_reducible repeat first|apply rA|apply rN|apply rD); exact HO221.out))) (below_size (by repeat first|(with_reducible first|exact HB.out|apply bA|apply bN|apply bD|refine bS ?_ GE201.out|refine bS ?_ GE202.out|refine bS ?_ GE217.out|refine bS ?_ GE222.out|refine bS ?_ GE232.out)|exact HB.out)))
 have n4_ := mK (blk_below (by (with_reducible repeat first|apply kN|apply kD|apply kA); exact BK201.out) hb)
 have n5_ := mK (blk_below (by (with_reducible repeat first|apply kN|apply kD|apply kA); exact BK202.out) hb)
 have n6_ := mK (blk_below (by (with_reducible repeat first|apply kN|apply kD|apply kA); exact BK217.out) hb)
 have n7_ := mK (blk_below (by (with_reducible repeat first|apply kN|apply kD|apply kA); exact BK222.out) hb)
 have n8_ := mK (blk_below (by (with_reducible repeat first|apply kN|apply kD|apply kA); exact BK232.out) hb)
 have n9_ := mK (below_step (by repeat first|(with_reducible first|exact HB.out|apply bA|apply bN|apply bD|refine bS ?_ GE201.out|refine bS ?_ GE202.out|refine bS ?_ GE217.out|refine bS ?_ GE222.out|refine bS ?_ GE232.out)|exact HB.out) hb)
 clear HO207
 clear HO215
 clear HO221
 clear BK201
 clear BK202
 clear BK217
 clear BK222
 clear BK232
 clear HB
 have HO207 := n0_
 have HO215 := n1_
 have HO221 := n2_
 have HO230 := n3_
 have BK201 := n4_
 have BK202 := n5_
 have BK217 := n6_
 have BK222 := n7_
 have BK232 := n8_
 have HB := n9_
 clear n0_ n1_ n2_ n3_ n4_ n5_ n6_ n7_ n8_ n9_
 (try clear hb)
 (try clear hb2)
 (try clear hk)
 (try clear hi)
 (try clear ho0)
 refine hK.out _ _ ⟨(blk_cell BK222.out 0).trans rfl, (blk_cell BK222.out 1).trans rfl, (blk_cell BK202.out 0).trans rfl, (blk_cell BK202.out 1).trans rfl, (blk_cell BK202.out 2).trans rfl, (blk_cell BK202.out 3).trans rfl⟩ (fun hHeld => ?_)
 clear hK K
 refine norm_ (a' := ?_) ?_ ?_
 rotate_left
 {
 show Act.put _ (some 35) _ = _
 simp only [Act.put, sT, sZ, sU, i64_w, i32_w]
 rfl
 }
 refine pure_ (i := 4) (N := some 31) (v := ?_) (a' := ?_) #[true, true, true, true, true, false, false, true, false, false] rfl rfl (any_of HT_.out (by kernel_rfl)) (fun _ _ _ h => h) (Or.inl ⟨by rfl, ?_⟩) ?_ ?_
 rotate_left
 {
 intro w'
 go_simp
 with_reducible rfl
 }
 rotate_left
 {
 simp only [Act.put, sT, sZ, sU, i64_w, i32_w]
 rfl
 }
 refine pure_ (i := 5) (N := some 36) (v := ?_) (a' := ?_) #[true, true, true, true, true, true, false, true, false, false] rfl rfl (any_of HT_.out (by kernel_rfl)) (fun _ _ _ h => h) (Or.inl ⟨by rfl, ?_⟩) ?_ ?_
 rotate_left
 {
 intro w'
 go_simp
 with_reducible rfl
 }
 rotate_left
 {
 simp only [Act.put, sT, sZ, sU, i64_w, i32_w]
 rfl
 }
 refine pure_ (i := 6) (N := some 37) (v := ?_) (a' := ?_) #[true, true, true, true, true, true, true, true, false, false] rfl rfl (any_of HT_.out (by kernel_rfl)) (fun _ _ _ h => h) (Or.inl ⟨by rfl, ?_⟩) ?_ ?_
 rotate_left
 {
 intro w'
 go_simp
 with_reducible rfl
 }
 rotate_left
 {
 simp only [Act.put, sT, sZ, sU, i64_w, i32_w]
 rfl
 }
 exact norm_ (by simp only [putAll, Act.put, sT, sZ, sU]) (hCont (v229, gb232) _ ⟨hHeld, (Kd.R_mono HO207.out (fun _ hk => ⟨hk.1.1, ⟨hk.1.2, hk.2⟩⟩)), (Kd.R_mono HO215.out (fun _ hk => ⟨hk.1.1, ⟨hk.1.2, hk.2⟩⟩)), (Kd.R_mono HO221.out (fun _ hk => ⟨hk.1.1, ⟨hk.1.2, hk.2⟩⟩)), (Kd.R_mono HO230.out (fun _ hk => ⟨hk.1.1.2, ⟨hk.1.2, hk.2⟩⟩)), BK201.out, BK202.out, BK217.out, BK222.out, BK232.out, GW232.out, GE232.out, NB201_232.out, NB232_201.out, NB202_232.out, NB232_202.out, NB217_232.out, NB232_217.out, NB222_232.out, NB232_222.out, HB.out⟩)
 }
 }
 rintro ⟨v229, gb232⟩ w46 ⟨hS_, h0_, h1_, h2_, h3_, h4_, h5_, h6_, h7_, h8_, h9_, h10_, h11_, h12_, h13_, h14_, h15_, h16_, h17_, h18_, h19_⟩
 have n0_ : Aside0 (Kd.R k47 47 w46 w.heap.size (fun k_ => some k_ ≠ (.slice Ao30 t213.length co30 : Value).ownBlock ∧ some k_ ≠ (.slice Ao40 t219.length co40 : Value).ownBlock ∧ some k_ ≠ (v229 : Value).ownBlock) v206 t205) := ⟨h0_⟩
 have n1_ : Aside0 (Kd.R k47 47 w46 w.heap.size (fun k_ => some k_ ≠ (v206 : Value).ownBlock ∧ some k_ ≠ (.slice Ao40 t219.length co40 : Value).ownBlock ∧ some k_ ≠ (v229 : Value).ownBlock) (.slice Ao30 t213.length co30) t213) := ⟨h1_⟩
 have n2_ : Aside0 (Kd.R k47 47 w46 w.heap.size (fun k_ => some k_ ≠ (v206 : Value).ownBlock ∧ some k_ ≠ (.slice Ao30 t213.length co30 : Value).ownBlock ∧ some k_ ≠ (v229 : Value).ownBlock) (.slice Ao40 t219.length co40) t219) := ⟨h2_⟩
 have n3_ : Aside0 (Kd.R k47 47 w46 w.heap.size (fun k_ => some k_ ≠ (v206 : Value).ownBlock ∧ some k_ ≠ (.slice Ao30 t213.length co30 : Value).ownBlock ∧ some k_ ≠ (.slice Ao40 t219.length co40 : Value).ownBlock) v229 t228) := ⟨h3_⟩
 have n4_ : Aside0 (w46.heap[gb201]? = some (.cells #[.int .i64 a0_0, .slice A0_1 l0_1.length c0_1] 24 (0, 0))) := ⟨h4_⟩
 have n5_ : Aside0 (w46.heap[gb202]? = some (.cells #[.int .i64 a1_0, .int .i64 a1_1, .int .i64 a1_2, .int .i64 a1_3] 42 (0, 0))) := ⟨h5_⟩
 have n6_ : Aside0 (w46.heap[gb217]? = some (.cells #[.int .i64 t212, .slice Ao30 t213.length co30] 29 (0, 0))) := ⟨h6_⟩
 have n7_ : Aside0 (w46.heap[gb222]? = some (.cells #[.int .i64 t218, .slice Ao40 t219.length co40] 29 (0, 0))) := ⟨h7_⟩
 have n8_ : Aside0 (w46.heap[gb232]? = some (.cells #[.int .i64 0, .slice none 0 0] 29 (0, 0))) := ⟨h8_⟩
 have n9_ : Aside0 (w.heap.size ≤ gb232) := ⟨h9_⟩
 have n10_ : Aside0 (w.heap.size ≤ gb232) := ⟨h10_⟩
 have n11_ : Aside0 (gb201 ≠ gb232) := ⟨h11_⟩
 have n12_ : Aside0 (gb232 ≠ gb201) := ⟨h12_⟩
 have n13_ : Aside0 (gb202 ≠ gb232) := ⟨h13_⟩
 have n14_ : Aside0 (gb232 ≠ gb202) := ⟨h14_⟩
 have n15_ : Aside0 (gb217 ≠ gb232) := ⟨h15_⟩
 have n16_ : Aside0 (gb232 ≠ gb217) := ⟨h16_⟩
 have n17_ : Aside0 (gb222 ≠ gb232) := ⟨h17_⟩
 have n18_ : Aside0 (gb232 ≠ gb222) := ⟨h18_⟩
 have n19_ : Aside0 (Below w.heap.size w w46) := ⟨h19_⟩
 clear HO207
 clear HO215
 clear HO221
 clear BK201
 clear BK202
 clear BK217
 clear BK222
 clear HB
 clear h0_ h1_ h2_ h3_ h4_ h5_ h6_ h7_ h8_ h9_ h10_ h11_ h12_ h13_ h14_ h15_ h16_ h17_ h18_ h19_
 have HO207 := n0_
 have HO215 := n1_
 have HO221 := n2_
 have HO230 := n3_
 have BK201 := n4_
 have BK202 := n5_
 have BK217 := n6_
 have BK222 := n7_
 have BK232 := n8_
 have GW232 := n9_
 have GE232 := n10_
 have NB201_232 := n11_
 have NB232_201 := n12_
 have NB202_232 := n13_
 have NB232_202 := n14_
 have NB217_232 := n15_
 have NB232_217 := n16_
 have NB222_232 := n17_
 have NB232_222 := n18_
 have HB := n19_
 clear n0_ n1_ n2_ n3_ n4_ n5_ n6_ n7_ n8_ n9_ n10_ n11_ n12_ n13_ n14_ n15_ n16_ n17_ n18_ n19_
 have hHeld : w46.cell? ⟨gb222, 0, none⟩ = some (.int .i64 t218) ∧ w46.cell? ⟨gb222, 1, none⟩ = some (.slice Ao40 t219.length co40) ∧ w46.cell? ⟨gb202, 0, none⟩ = some (.int .i64 a1_0) ∧ w46.cell? ⟨gb202, 1, none⟩ = some (.int .i64 a1_1) ∧ w46.cell? ⟨gb202, 2, none⟩ = some (.int .i64 a1_2) ∧ w46.cell? ⟨gb202, 3, none⟩ = some (.int .i64 a1_3) := hS_
 obtain ⟨Ao48, co48, eo48⟩ := Kd.R_slice HO230.out
 (first | subst eo48 | (injection eo48 with f1_ f2_ f3_; have f4_ := f1_.symm; have f5_ := f3_.symm; clear f1_ f2_ f3_; subst f4_; subst f5_))
 refine norm_ (a' := ?_) ?_ ?_
 rotate_left
 {
 simp only [putAll, Act.put, sT, sZ, sU]
 rfl
 }
 refine one_ (i := 8) (N := none) #[true, true, true, true, true, true, true, true, true, false] rfl rfl (one_of HT_.out (by kernel_rfl)) (by decide) (fun K hK => ?_)
 have hs47 : w46.cell? ⟨gb232, 0, none⟩ = some (.int .i64 0) := (blk_cell BK232.out 0).trans rfl
 have hfs47 := blk_frozen BK232.out 0
 have hns47_0 := NB201_232.out
 have hns47_1 := NB202_232.out
 have hns47_2 := NB217_232.out
 have hns47_3 := NB222_232.out
 have hms47_0 := NB232_201.out
 have hms47_1 := NB232_202.out
 have hms47_2 := NB232_217.out
 have hms47_3 := NB232_222.out
 have hs49 : w46.cell? ⟨gb232, 1, none⟩ = some (.slice none 0 0) := (blk_cell BK232.out 1).trans rfl
 have hfs49 := blk_frozen BK232.out 1
 have hns49_0 := NB201_232.out
 have hns49_1 := NB202_232.out
 have hns49_2 := NB217_232.out
 have hns49_3 := NB222_232.out
 have hms49_0 := NB232_201.out
 have hms49_1 := NB232_202.out
 have hms49_2 := NB232_217.out
 have hms49_3 := NB232_222.out
 refine skip_ (w1 := ?_) (by rfl) rfl ?_ ?_
 rotate_left
 {
 go_simp
 rfl
 }
 refine hK.out _ _ ⟨((cell_far (p := ⟨gb232, _, none⟩) NB222_232.out _).trans (((cell_far (p := ⟨gb232, _, none⟩) NB222_232.out _).trans (hHeld.1)))), ((cell_far (p := ⟨gb232, _, none⟩) NB222_232.out _).trans (((cell_far (p := ⟨gb232, _, none⟩) NB222_232.out _).trans (hHeld.2.1)))), ((cell_far (p := ⟨gb232, _, none⟩) NB202_232.out _).trans (((cell_far (p := ⟨gb232, _, none⟩) NB202_232.out _).trans (hHeld.2.2.1)))), ((cell_far (p := ⟨gb232, _, none⟩) NB202_232.out _).trans (((cell_far (p := ⟨gb232, _, none⟩) NB202_232.out _).trans (hHeld.2.2.2.1)))), ((cell_far (p := ⟨gb232, _, none⟩) NB202_232.out _).trans (((cell_far (p := ⟨gb232, _, none⟩) NB202_232.out _).trans (hHeld.2.2.2.2.1)))), ((cell_far (p := ⟨gb232, _, none⟩) NB202_232.out _).trans (((cell_far (p := ⟨gb232, _, none⟩) NB202_232.out _).trans (hHeld.2.2.2.2.2))))⟩ (fun hHeld => ?_)
 clear hK K
 refine pure_ (i := 9) (N := some 10) (v := ?_) (a' := ?_) #[true, true, true, true, true, true, true, true, true, true] rfl rfl (any_of HT_.out (by kernel_rfl)) (fun _ _ _ h => h) (Or.inl ⟨by rfl, ?_⟩) ?_ ?_
 rotate_left
 {
 intro w'
 go_simp
 with_reducible rfl
 }
 rotate_left
 {
 simp only [Act.put, sT, sZ, sU, i64_w, i32_w]
 rfl
 }
 refine done_ (done_of HT_.out (by kernel_rfl)) ?_
 go_upto_region 8 with (fail)
 go_cut [46] (fun v46 wc => ∃ (kq : Nat) (x46_15 : Bool), v46 = .bool x46_15 ∧ Aside0 (laws_FnExactWithLink.j0 kq t216 t231 x46_15 a0_0 l0_1 a1_0 a1_1 a1_2 a1_3 t212 t213 t218 t219 t227 t228 = some r) ∧ Aside0 (kq ≤ k) ∧ Aside0 (Kd.R k47 47 wc w.heap.size (fun k_ => some k_ ≠ ((.slice Ao40 t219.length co40) : Value).ownBlock ∧ some k_ ≠ ((.slice Ao48 t228.length co48) : Value).ownBlock) (.slice Ao30 t213.length co30) t213) ∧ Aside0 (Kd.R k47 47 wc w.heap.size (fun k_ => some k_ ≠ ((.slice Ao30 t213.length co30) : Value).ownBlock ∧ some k_ ≠ ((.slice Ao48 t228.length co48) : Value).ownBlock) (.slice Ao40 t219.length co40) t219) ∧ Aside0 (Kd.R k47 47 wc w.heap.size (fun k_ => some k_ ≠ ((.slice Ao30 t213.length co30) : Value).ownBlock ∧ some k_ ≠ ((.slice Ao40 t219.length co40) : Value).ownBlock) (.slice Ao48 t228.length co48) t228) ∧ Aside0 (wc.heap[gb201]? = some (.cells #[.int .i64 a0_0, (.slice A0_1 l0_1.length c0_1)] 24 (0, 0))) ∧ Aside0 (wc.heap[gb202]? = some (.cells #[.int .i64 a1_0, .int .i64 a1_1, .int .i64 a1_2, .int .i64 a1_3] 42 (0, 0))) ∧ Aside0 (wc.heap[gb217]? = some (.cells #[.int .i64 t212, (.slice Ao30 t213.length co30)] 29 (0, 0))) ∧ Aside0 (wc.heap[gb222]? = some (.cells #[.int .i64 t218, (.slice Ao40 t219.length co40)] 29 (0, 0))) ∧ Aside0 (wc.heap[gb232]? = some (.cells #[.int .i64 t227, (.slice Ao48 t228.length co48)] 29 (0, 0))) ∧ Aside0 (Below w.heap.size w wc))
 case first => (
 have H := HC16.out
 clear HC16
 replace H := Option.bind_eq_some_iff.mp H
 obtain ⟨t233, A500, H⟩ := H
 replace H : (if t233 = true then (laws_FnExactWithLink.j0 k t216 t231 (t231 != t216) a0_0 l0_1 a1_0 a1_1 a1_2 a1_3 t212 t213 t218 t219 t227 t228) else (laws_FnExactWithLink.j0 k t216 t231 true a0_0 l0_1 a1_0 a1_1 a1_2 a1_3 t212 t213 t218 t219 t227 t228)) = some r := H
 have A50 := mK A500
 clear A500
 by_cases c51 : t233 = true
 rotate_left
 {
 replace c51 := Bool.eq_false_iff.mpr c51
 subst c51
 have H1 : (laws_FnExactWithLink.j0 k t216 t231 true a0_0 l0_1 a1_0 a1_1 a1_2 a1_3 t212 t213 t218 t219 t227 t228) = some r := by rw [if_neg (show ¬ (false = true) by decide)] at H; exact H
 clear H
 have H := H1
 clear H1
 subst hr_
 exact absurd H (by cases k <;> simp [laws_FnExactWithLink.j0])
 }
 subst c51
 have H1 : (laws_FnExactWithLink.j0 k t216 t231 (t231 != t216) a0_0 l0_1 a1_0 a1_1 a1_2 a1_3 t212 t213 t218 t219 t227 t228) = some r := by rw [if_pos rfl] at H; exact H
 clear H
 have H := H1
 clear H1
 have H' := mK H
 clear H
 have hnb52 := NB232_201.out
 have hnc52 := NB201_232.out
 have hnb53 := NB232_202.out
 have hnc53 := NB202_232.out
 have hnb54 := NB232_217.out
 have hnc54 := NB217_232.out
 have hnb55 := NB232_222.out
 have hnc55 := NB222_232.out
 have hcz56_0 : w46.cell? ⟨gb232, 0, none⟩ = some (.int .i64 0) := (blk_cell BK232.out 0).trans rfl
 have hcz56_1 : w46.cell? ⟨gb232, 1, none⟩ = some (.slice none 0 0) := (blk_cell BK232.out 1).trans rfl
 have hfz56_0 := blk_frozen BK232.out 0
 have hfz56_1 := blk_frozen BK232.out 1
 have hnb57 := NB217_201.out
 have hnc57 := NB201_217.out
 have hnb58 := NB217_202.out
 have hnc58 := NB202_217.out
 have hnb59 := NB217_222.out
 have hnc59 := NB222_217.out
 have hcz60_0 : w46.cell? ⟨gb217, 0, none⟩ = some (.int .i64 t212) := (blk_cell BK217.out 0).trans rfl
 have hcz60_1 : w46.cell? ⟨gb217, 1, none⟩ = some (.slice Ao30 t213.length co30) := (blk_cell BK217.out 1).trans rfl
 have hfz60_0 := blk_frozen BK217.out 0
 have hfz60_1 := blk_frozen BK217.out 1
 go_wp2_with (first | ((with_reducible refine gate_callee (f := 15) rfl ?_); refine goesL_ (some 40) rfl rfl Try.func15 (by kernel_rfl) rfl #[.agg #[.int .i64 t227, .slice Ao48 t228.length co48], .agg #[.int .i64 t212, .slice Ao30 t213.length co30]] rfl (by (try simp only [List.map_toArray, List.map_cons, List.map_nil]); first | done | rfl | (simp only [List.length_drop, List.length_take]; rfl)) ?_; (with_reducible refine (laws_eqSimple.calls k t227 _ _ t228 t212 _ _ t213 true _ ?side1 ?side2 ?side3 ?side4 A50.out).mono ?_); (case side1 => refine (Kd.R_reads' (e := 47) (base := w.heap.size) (ok := fun k_ => (some k_ ≠ (v206 : Value).ownBlock ∧ (some k_ ≠ (.slice Ao30 t213.length co30 : Value).ownBlock ∧ some k_ ≠ (.slice Ao40 t219.length co40 : Value).ownBlock))) (n := t228.length) (c := co48) ?_).2.2; exact (by (with_reducible repeat first|apply rA|apply rN|apply rD); exact (Kd.R_mono (Kd.R_far (p := ⟨gb232, 1, none⟩) (Kd.R_far (p := ⟨gb232, 0, none⟩) (Kd.R_types HO230.out BK232.out (by decide)) (fun _ hk => hk.2) (.int .i64 t227)) (fun _ hk => hk.2) (.slice Ao48 t228.length co48)) (fun _ h_ => h_.1)))); (case side2 => exact (Kd.R_reads' HO230.out).2.1); (case side3 => refine (Kd.R_reads' (e := 47) (base := w.heap.size) (ok := fun k_ => (some k_ ≠ (v206 : Value).ownBlock ∧ (some k_ ≠ (.slice Ao40 t219.length co40 : Value).ownBlock ∧ some k_ ≠ (.slice Ao48 t228.length co48 : Value).ownBlock))) (n := t213.length) (c := co30) ?_).2.2; exact (by (with_reducible repeat first|apply rA|apply rN|apply rD); exact (Kd.R_mono (Kd.R_far (p := ⟨gb232, 1, none⟩) (Kd.R_far (p := ⟨gb232, 0, none⟩) (Kd.R_types HO215.out BK232.out (by decide)) (fun _ hk => hk.2) (.int .i64 t227)) (fun _ hk => hk.2) (.slice Ao48 t228.length co48)) (fun _ h_ => h_.1)))); (case side4 => exact (Kd.R_reads' HO215.out).2.1); rintro e w61 ⟨rfl, hb⟩; refine ⟨_, rfl, ?_⟩; have n0_ := mK (Kd.R_below (by (with_reducible repeat first|apply rA|apply rN|apply rD); exact (Kd.R_mono (Kd.R_far (p := ⟨gb232, 1, none⟩) (Kd.R_far (p := ⟨gb232, 0, none⟩) (Kd.R_types HO207.out BK232.out (by decide)) (fun _ hk => hk.2) (.int .i64 t227)) (fun _ hk => hk.2) (.slice Ao48 t228.length co48)) (fun _ h_ => h_.1))) hb); have n1_ := mK (Kd.R_below (by (with_reducible repeat first|apply rA|apply rN|apply rD); exact (Kd.R_mono (Kd.R_far (p := ⟨gb232, 1, none⟩) (Kd.R_far (p := ⟨gb232, 0, none⟩) (Kd.R_types HO215.out BK232.out (by decide)) (fun _ hk => hk.2) (.int .i64 t227)) (fun _ hk => hk.2) (.slice Ao48 t228.length co48)) (fun _ h_ => h_.1))) hb); have n2_ := mK (Kd.R_below (by (with_reducible repeat first|apply rA|apply rN|apply rD); exact (Kd.R_mono (Kd.R_far (p := ⟨gb232, 1, none⟩) (Kd.R_far (p := ⟨gb232, 0, none⟩) (Kd.R_types HO221.out BK232.out (by decide)) (fun _ hk => hk.2) (.int .i64 t227)) (fun _ hk => hk.2) (.slice Ao48 t228.length co48)) (fun _ h_ => h_.1))) hb); have n3_ := mK (Kd.R_below (by (with_reducible repeat first|apply rA|apply rN|apply rD); exact (Kd.R_mono (Kd.R_far (p := ⟨gb232, 1, none⟩) (Kd.R_far (p := ⟨gb232, 0, none⟩) (Kd.R_types HO230.out BK232.out (by decide)) (fun _ hk => hk.2) (.int .i64 t227)) (fun _ hk => hk.2) (.slice Ao48 t228.length co48)) (fun _ h_ => h_.1))) hb); have n4_ := mK (blk_below (g := gb201) (o := .cells #[.int .i64 a0_0, .slice A0_1 l0_1.length c0_1] 24 (0, 0)) (by (with_reducible repeat first|apply kN|apply kD|apply kA); refine blk_far ?_ NB201_232.out _; (with_reducible repeat first|apply kN|apply kD|apply kA); refine blk_far ?_ NB201_232.out _; (with_reducible repeat first|apply kN|apply kD|apply kA); exact BK201.out) hb); have n5_ := mK (blk_below (g := gb202) (o := .cells #[.int .i64 a1_0, .int .i64 a1_1, .int .i64 a1_2, .int .i64 a1_3] 42 (0, 0)) (by (with_reducible repeat first|apply kN|apply kD|apply kA); refine blk_far ?_ NB202_232.out _; (with_reducible repeat first|apply kN|apply kD|apply kA); refine blk_far ?_ NB202_232.out _; (with_reducible repeat first|apply kN|apply kD|apply kA); exact BK202.out) hb); have n6_ := mK (blk_below (g := gb217) (o := .cells #[.int .i64 t212, .slice Ao30 t213.length co30] 29 (0, 0)) (by (with_reducible repeat first|apply kN|apply kD|apply kA); refine blk_far ?_ NB217_232.out _; (with_reducible repeat first|apply kN|apply kD|apply kA); refine blk_far ?_ NB217_232.out _; (with_reducible repeat first|apply kN|apply kD|apply kA); exact BK217.out) hb); have n7_ := mK (blk_below (g := gb222) (o := .cells #[.int .i64 t218, .slice Ao40 t219.length co40] 29 (0, 0)) (by (with_reducible repeat first|apply kN|apply kD|apply kA); refine blk_far ?_ NB222_232.out _; (with_reducible repeat first|apply kN|apply kD|apply kA); refine blk_far ?_ NB222_232.out _; (with_reducible repeat first|apply kN|apply kD|apply kA); exact BK222.out) hb); have n8_ := mK (blk_below (g := gb232) (o := .cells #[.int .i64 t227, .slice Ao48 t228.length co48] 29 (0, 0)) (by (with_reducible repeat first|apply kN|apply kD|apply kA); refine blk_put (cs := #[.int .i64 t227, .slice none 0 0]) ?_ 1 _ rfl; (with_reducible repeat first|apply kN|apply kD|apply kA); refine blk_put (cs := #[.int .i64 0, .slice none 0 0]) ?_ 0 _ rfl; (with_reducible repeat first|apply kN|apply kD|apply kA); exact BK232.out) hb); have n9_ := mK (below_step (by repeat first|(with_reducible first|exact HB.out|apply bA|apply bN|apply bD|refine bS ?_ GE201.out|refine bS ?_ GE202.out|refine bS ?_ GE217.out|refine bS ?_ GE222.out|refine bS ?_ GE232.out)|exact HB.out) hb); clear HO207; clear HO215; clear HO221; clear HO230; clear BK201; clear BK202; clear BK217; clear BK222; clear BK232; clear HB; have HO207 := n0_; have HO215 := n1_; have HO221 := n2_; have HO230 := n3_; have BK201 := n4_; have BK202 := n5_; have BK217 := n6_; have BK222 := n7_; have BK232 := n8_; have HB := n9_; clear n0_ n1_ n2_ n3_ n4_ n5_ n6_ n7_ n8_ n9_; (try clear hb); (try clear hb2); (try clear hk); (try clear hi)))
 go_meet
 case rel => exact ⟨_, ((t231 != t216)), (by first | rfl | (simp; done) | (simp [*]; done)), H', ⟨by first | omega | exact Nat.le_refl _⟩, ⟨by (with_reducible repeat first|apply rA|apply rN|apply rD); exact Kd.R_mono HO215.out (fun _ hk => ⟨hk.2.1, hk.2.2⟩)⟩, ⟨by (with_reducible repeat first|apply rA|apply rN|apply rD); exact Kd.R_mono HO221.out (fun _ hk => ⟨hk.2.1, hk.2.2⟩)⟩, ⟨by (with_reducible repeat first|apply rA|apply rN|apply rD); exact Kd.R_mono HO230.out (fun _ hk => ⟨hk.2.1, hk.2.2⟩)⟩, ⟨by (with_reducible repeat first|apply kN|apply kD|apply kA); exact BK201.out⟩, ⟨by (with_reducible repeat first|apply kN|apply kD|apply kA); exact BK202.out⟩, ⟨by (with_reducible repeat first|apply kN|apply kD|apply kA); exact BK217.out⟩, ⟨by (with_reducible repeat first|apply kN|apply kD|apply kA); exact BK222.out⟩, ⟨by (with_reducible repeat first|apply kN|apply kD|apply kA); exact BK232.out⟩, ⟨by repeat first|(with_reducible first|exact HB.out|apply bA|apply bN|apply bD|refine bS ?_ GE201.out|refine bS ?_ GE202.out|refine bS ?_ GE217.out|refine bS ?_ GE222.out|refine bS ?_ GE232.out)|exact HB.out⟩⟩
 )
 case rest => (
 clear HC16
 try clear c1
 try clear c2
 try clear p2
 try clear c5
 try clear c15
 try clear c25
 try clear c26
 try clear c51
 try clear c52
 try clear c53
 try clear c54
 try clear c55
 try clear c57
 try clear c58
 try clear c59
 try clear hcz56_0
 try clear hcz56_1
 try clear hcz60_0
 try clear hcz60_1
 try clear hfz56_0
 try clear hfz56_1
 try clear hfz60_0
 try clear hfz60_1
 obtain ⟨kq, x46_15, rfl, HA, HJ15, HO_218001, HO_223001, HO_233001, BK201, BK202, BK217, BK222, BK232, HB⟩ := hcut
 cases kq with
 | zero => exact absurd HA.out (by simp [laws_FnExactWithLink.j0])
 | succ kj15 => (
 have H := HA.out
 clear HA
 simp only [laws_FnExactWithLink.j0] at H
 by_cases c62 : x46_15 = true
 {
 subst c62
 have H1 : (some false) = some r := by rw [if_pos rfl] at H; exact H
 clear H
 have H := H1
 clear H1
 obtain rfl := Option.some.inj H
 exact absurd hr_ (by decide)
 }
 replace c62 := Bool.eq_false_iff.mpr c62
 subst c62
 have H1 : ((laws_toSimple.f kj15 a0_0 l0_1).bind fun bt234 => ((laws_eqSimple.f kj15 t218 t219 bt234.1 bt234.2).bind fun t238 => (if t238 = true then ((laws_markSimple.f kj15 t218 t219 1).bind fun bt239 => (if bt239.1 < 0 then (laws_FnExactWithLink.j1 kj15 t216 true a0_0 l0_1 a1_0 a1_1 a1_2 a1_3 t212 t213 t227 t228) else ((laws_eqSimple.f kj15 t227 t228 t212 t213).bind fun t241 => (if t241 = true then (laws_FnExactWithLink.j1 kj15 t216 (t231 != t216) a0_0 l0_1 a1_0 a1_1 a1_2 a1_3 t212 t213 t227 t228) else (laws_FnExactWithLink.j1 kj15 t216 true a0_0 l0_1 a1_0 a1_1 a1_2 a1_3 t212 t213 t227 t228))))) else (some false)))) = some r := by rw [if_neg (show ¬ (false = true) by decide)] at H; exact H
 clear H
 have H := H1
 clear H1
 replace H := Option.bind_eq_some_iff.mp H
 obtain ⟨⟨t234, t235⟩, A630, H⟩ := H
 replace H : ((laws_eqSimple.f kj15 t218 t219 t234 t235).bind fun t238 => (if t238 = true then ((laws_markSimple.f kj15 t218 t219 1).bind fun bt239 => (if bt239.1 < 0 then (laws_FnExactWithLink.j1 kj15 t216 true a0_0 l0_1 a1_0 a1_1 a1_2 a1_3 t212 t213 t227 t228) else ((laws_eqSimple.f kj15 t227 t228 t212 t213).bind fun t241 => (if t241 = true then (laws_FnExactWithLink.j1 kj15 t216 (t231 != t216) a0_0 l0_1 a1_0 a1_1 a1_2 a1_3 t212 t213 t227 t228) else (laws_FnExactWithLink.j1 kj15 t216 true a0_0 l0_1 a1_0 a1_1 a1_2 a1_3 t212 t213 t227 t228))))) else (some false))) = some r := H
 have A63 := mK A630
 clear A630
 replace H := Option.bind_eq_some_iff.mp H
 obtain ⟨t238, A640, H⟩ := H
 replace H : (if t238 = true then ((laws_markSimple.f kj15 t218 t219 1).bind fun bt239 => (if bt239.1 < 0 then (laws_FnExactWithLink.j1 kj15 t216 true a0_0 l0_1 a1_0 a1_1 a1_2 a1_3 t212 t213 t227 t228) else ((laws_eqSimple.f kj15 t227 t228 t212 t213).bind fun t241 => (if t241 = true then (laws_FnExactWithLink.j1 kj15 t216 (t231 != t216) a0_0 l0_1 a1_0 a1_1 a1_2 a1_3 t212 t213 t227 t228) else (laws_FnExactWithLink.j1 kj15 t216 true a0_0 l0_1 a1_0 a1_1 a1_2 a1_3 t212 t213 t227 t228))))) else (some false)) = some r := H
 have A64 := mK A640
 clear A640
 by_cases c65 : t238 = true
 rotate_left
 {
 replace c65 := Bool.eq_false_iff.mpr c65
 subst c65
 have H1 : (some false) = some r := by rw [if_neg (show ¬ (false = true) by decide)] at H; exact H
 clear H
 have H := H1
 clear H1
 obtain rfl := Option.some.inj H
 exact absurd hr_ (by decide)
 }
 subst c65
 have H1 : ((laws_markSimple.f kj15 t218 t219 1).bind fun bt239 => (if bt239.1 < 0 then (laws_FnExactWithLink.j1 kj15 t216 true a0_0 l0_1 a1_0 a1_1 a1_2 a1_3 t212 t213 t227 t228) else ((laws_eqSimple.f kj15 t227 t228 t212 t213).bind fun t241 => (if t241 = true then (laws_FnExactWithLink.j1 kj15 t216 (t231 != t216) a0_0 l0_1 a1_0 a1_1 a1_2 a1_3 t212 t213 t227 t228) else (laws_FnExactWithLink.j1 kj15 t216 true a0_0 l0_1 a1_0 a1_1 a1_2 a1_3 t212 t213 t227 t228))))) = some r := by rw [if_pos rfl] at H; exact H
 clear H
 have H := H1
 clear H1
 replace H := Option.bind_eq_some_iff.mp H
 obtain ⟨⟨t239, t240⟩, A660, H⟩ := H
 replace H : (if t239 < 0 then (laws_FnExactWithLink.j1 kj15 t216 true a0_0 l0_1 a1_0 a1_1 a1_2 a1_3 t212 t213 t227 t228) else ((laws_eqSimple.f kj15 t227 t228 t212 t213).bind fun t241 => (if t241 = true then (laws_FnExactWithLink.j1 kj15 t216 (t231 != t216) a0_0 l0_1 a1_0 a1_1 a1_2 a1_3 t212 t213 t227 t228) else (laws_FnExactWithLink.j1 kj15 t216 true a0_0 l0_1 a1_0 a1_1 a1_2 a1_3 t212 t213 t227 t228)))) = some r := H
 have A66 := mK A660
 clear A660
 have HC67 := mK H
 clear H
 try go_wp2
 have n0_ := mK (Kd.R_drew HO_218001.out)
 have n1_ := mK (Kd.R_drew HO_223001.out)
 have n2_ := mK (Kd.R_drew HO_233001.out)
 have n3_ := mK (blk_drew BK201.out)
 have n4_ := mK (blk_drew BK202.out)
 have n5_ := mK (blk_drew BK217.out)
 have n6_ := mK (blk_drew BK222.out)
 have n7_ := mK (blk_drew BK232.out)
 have n8_ := mK (below_drew1 HB.out)
 clear HO_218001
 clear HO_223001
 clear HO_233001
 clear BK201
 clear BK202
 clear BK217
 clear BK222
 clear BK232
 clear HB
 have HO_218001 := n0_
 have HO_223001 := n1_
 have HO_233001 := n2_
 have BK201 := n3_
 have BK202 := n4_
 have BK217 := n5_
 have BK222 := n6_
 have BK232 := n7_
 have HB := n8_
 clear n0_ n1_ n2_ n3_ n4_ n5_ n6_ n7_ n8_
 refine start_ (n := 5) (S := fun w' => w'.cell? ⟨gb222, 0, none⟩ = some (.int .i64 t218) ∧ w'.cell? ⟨gb222, 1, none⟩ = some (.slice Ao40 t219.length co40) ∧ w'.cell? ⟨gb201, 0, none⟩ = some (.int .i64 a0_0) ∧ w'.cell? ⟨gb201, 1, none⟩ = some (.slice A0_1 l0_1.length c0_1)) (ds := []) #[false, false, false, false, false] (by kernel_rfl) rfl rfl ⟨(blk_cell BK222.out 0).trans rfl, (blk_cell BK222.out 1).trans rfl, (blk_cell BK201.out 0).trans rfl, (blk_cell BK201.out 1).trans rfl⟩ (fun hHeld => ?_)
 generalize wc.drew = w68 at HO_218001 HO_223001 HO_233001 BK201 BK202 BK217 BK222 BK232 HB hHeld ⊢
 refine take_ (i := 0) (N := some 47) (v := ?_) (a' := ?_) #[true, false, false, false, false] rfl rfl (by kernel_rfl) (fun _ _ _ h => h) (Or.inl ⟨by rfl, ?_⟩) hHeld ?_ ?_
 rotate_left
 {
 rintro w' ⟨s0, s1, s2, s3⟩
 go_simp
 with_reducible rfl
 }
 rotate_left
 {
 simp only [Act.put, sT, sZ, sU, i64_w, i32_w]
 rfl
 }
 refine take_ (i := 1) (N := some 48) (v := ?_) (a' := ?_) #[true, true, false, false, false] rfl rfl (by kernel_rfl) (fun _ _ _ h => h) (Or.inl ⟨by rfl, ?_⟩) hHeld ?_ ?_
 rotate_left
 {
 rintro w' ⟨s0, s1, s2, s3⟩
 go_simp
 with_reducible rfl
 }
 rotate_left
 {
 simp only [Act.put, sT, sZ, sU, i64_w, i32_w]
 rfl
 }
 refine one_ (i := 2) (N := some 49) #[true, true, true, false, false] rfl rfl (by kernel_rfl) (by decide) (fun K hK => ?_)
 refine goes_ Try.func13 (by kernel_rfl) rfl #[.agg #[.int .i64 a0_0, .slice A0_1 l0_1.length c0_1]] (by rfl) rfl rfl (by (try simp only [List.map_toArray, List.map_cons, List.map_nil]); first | done | rfl | (simp only [List.length_drop, List.length_take]; rfl)) ?_
 with_reducible refine (laws_toSimple.calls kj15 a0_0 _ _ l0_1 t234 t235 _ ?side1 ?side2 A63.out).mono ?_
 (case side1 => repeat (first | exact (Kd.C_below HR0_1.out HB.out) | (with_reducible refine Kd.C_alloc ?_ _) | (with_reducible refine Kd.C_drewN ?_ _) | (with_reducible refine Kd.C_drew ?_)))
 (case side2 => exact HC0_1.out)
 rintro e w69 ⟨v236, rfl, ho0, hb⟩
 refine ⟨_, rfl, ?_⟩
 have n0_ := mK (Kd.R_elder' (by (with_reducible repeat first|apply rA|apply rN|apply rD); exact HO_218001.out) (Kd.R_base ho0) hb)
 have n1_ := mK (Kd.R_elder' (by (with_reducible repeat first|apply rA|apply rN|apply rD); exact HO_223001.out) (Kd.R_base ho0) hb)
 have n2_ := mK (Kd.R_elder' (by (with_reducible repeat first|apply rA|apply rN|apply rD); exact HO_233001.out) (Kd.R_base ho0) hb)
 have n3_ := mK (Kd.R_lower (Kd.R_new' (Kd.R_new' (Kd.R_new' ho0 (Kd.R_lt (by (with_reducible repeat first|apply rA|apply rN|apply rD); exact HO_218001.out))) (Kd.R_lt (by (with_reducible repeat first|apply rA|apply rN|apply rD); exact HO_223001.out))) (Kd.R_lt (by (with_reducible repeat first|apply rA|apply rN|apply rD); exact HO_233001.out))) (below_size (by repeat first|(with_reducible first|exact HB.out|apply bA|apply bN|apply bD|refine bS ?_ GE201.out|refine bS ?_ GE202.out|refine bS ?_ GE217.out|refine bS ?_ GE222.out|refine bS ?_ GE232.out)|exact HB.out)))
 have n4_ := mK (blk_below (by (with_reducible repeat first|apply kN|apply kD|apply kA); exact BK201.out) hb)
 have n5_ := mK (blk_below (by (with_reducible repeat first|apply kN|apply kD|apply kA); exact BK202.out) hb)
 have n6_ := mK (blk_below (by (with_reducible repeat first|apply kN|apply kD|apply kA); exact BK217.out) hb)
 have n7_ := mK (blk_below (by (with_reducible repeat first|apply kN|apply kD|apply kA); exact BK222.out) hb)
 have n8_ := mK (blk_below (by (with_reducible repeat first|apply kN|apply kD|apply kA); exact BK232.out) hb)
 have n9_ := mK (below_step (by repeat first|(with_reducible first|exact HB.out|apply bA|apply bN|apply bD|refine bS ?_ GE201.out|refine bS ?_ GE202.out|refine bS ?_ GE217.out|refine bS ?_ GE222.out|refine bS ?_ GE232.out)|exact HB.out) hb)
 clear HO_218001
 clear HO_223001
 clear HO_233001
 clear BK201
 clear BK202
 clear BK217
 clear BK222
 clear BK232
 clear HB
 have HO_218001 := n0_
 have HO_223001 := n1_
 have HO_233001 := n2_
 have HO237 := n3_
 have BK201 := n4_
 have BK202 := n5_
 have BK217 := n6_
 have BK222 := n7_
 have BK232 := n8_
 have HB := n9_
 clear n0_ n1_ n2_ n3_ n4_ n5_ n6_ n7_ n8_ n9_
 (try clear hb)
 (try clear hb2)
 (try clear hk)
 (try clear hi)
 (try clear ho0)
 obtain ⟨Ao70, co70, eo70⟩ := Kd.R_slice HO237.out
 (first | subst eo70 | (injection eo70 with f1_ f2_ f3_; have f4_ := f1_.symm; have f5_ := f3_.symm; clear f1_ f2_ f3_; subst f4_; subst f5_))
 refine hK.out _ _ ⟨(blk_cell BK222.out 0).trans rfl, (blk_cell BK222.out 1).trans rfl, (blk_cell BK201.out 0).trans rfl, (blk_cell BK201.out 1).trans rfl⟩ (fun hHeld => ?_)
 clear hK K
 refine norm_ (a' := ?_) ?_ ?_
 rotate_left
 {
 show Act.put _ (some 49) _ = _
 simp only [Act.put, sT, sZ, sU, i64_w, i32_w]
 rfl
 }
 refine one_ (i := 3) (N := some 50) #[true, true, true, true, false] rfl rfl (by kernel_rfl) (by decide) (fun K hK => ?_)
 refine goes_ Try.func15 (by kernel_rfl) rfl #[.agg #[.int .i64 t218, .slice Ao40 t219.length co40], .agg #[.int .i64 t234, .slice Ao70 t235.length co70]] (by rfl) rfl rfl (by (try simp only [List.map_toArray, List.map_cons, List.map_nil]); first | done | rfl | (simp only [List.length_drop, List.length_take]; rfl)) ?_
 with_reducible refine (laws_eqSimple.calls kj15 t218 _ _ t219 t234 _ _ t235 true _ ?side1 ?side2 ?side3 ?side4 A64.out).mono ?_
 (case side1 => repeat (first | exact (Kd.R_reads' HO_223001.out).2.2 | (with_reducible refine Kd.C_alloc ?_ _) | (with_reducible refine Kd.C_drewN ?_ _) | (with_reducible refine Kd.C_drew ?_)))
 (case side2 => exact (Kd.R_reads' HO_223001.out).2.1)
 (case side3 => repeat (first | exact (Kd.R_reads' HO237.out).2.2 | (with_reducible refine Kd.C_alloc ?_ _) | (with_reducible refine Kd.C_drewN ?_ _) | (with_reducible refine Kd.C_drew ?_)))
 (case side4 => exact (Kd.R_reads' HO237.out).2.1)
 rintro e w71 ⟨rfl, hb⟩
 refine ⟨_, rfl, ?_⟩
 have n0_ := mK (Kd.R_below (by (with_reducible repeat first|apply rA|apply rN|apply rD); exact HO_218001.out) hb)
 have n1_ := mK (Kd.R_below (by (with_reducible repeat first|apply rA|apply rN|apply rD); exact HO_223001.out) hb)
 have n2_ := mK (Kd.R_below (by (with_reducible repeat first|apply rA|apply rN|apply rD); exact HO_233001.out) hb)
 have n3_ := mK (Kd.R_below (by (with_reducible repeat first|apply rA|apply rN|apply rD); exact HO237.out) hb)
 have n4_ := mK (blk_below (by (with_reducible repeat first|apply kN|apply kD|apply kA); exact BK201.out) hb)
 have n5_ := mK (blk_below (by (with_reducible repeat first|apply kN|apply kD|apply kA); exact BK202.out) hb)
 have n6_ := mK (blk_below (by (with_reducible repeat first|apply kN|apply kD|apply kA); exact BK217.out) hb)
 have n7_ := mK (blk_below (by (with_reducible repeat first|apply kN|apply kD|apply kA); exact BK222.out) hb)
 have n8_ := mK (blk_below (by (with_reducible repeat first|apply kN|apply kD|apply kA); exact BK232.out) hb)
 have n9_ := mK (below_step (by repeat first|(with_reducible first|exact HB.out|apply bA|apply bN|apply bD|refine bS ?_ GE201.out|refine bS ?_ GE202.out|refine bS ?_ GE217.out|refine bS ?_ GE222.out|refine bS ?_ GE232.out)|exact HB.out) hb)
 clear HO_218001
 clear HO_223001
 clear HO_233001
 clear HO237
 clear BK201
 clear BK202
 clear BK217
 clear BK222
 clear BK232
 clear HB
 have HO_218001 := n0_
 have HO_223001 := n1_
 have HO_233001 := n2_
 have HO237 := n3_
 have BK201 := n4_
 have BK202 := n5_
 have BK217 := n6_
 have BK222 := n7_
 have BK232 := n8_
 have HB := n9_
 clear n0_ n1_ n2_ n3_ n4_ n5_ n6_ n7_ n8_ n9_
 (try clear hb)
 (try clear hb2)
 (try clear hk)
 (try clear hi)
 refine hK.out _ _ ⟨(blk_cell BK222.out 0).trans rfl, (blk_cell BK222.out 1).trans rfl, (blk_cell BK201.out 0).trans rfl, (blk_cell BK201.out 1).trans rfl⟩ (fun hHeld => ?_)
 clear hK K
 refine norm_ (a' := ?_) ?_ ?_
 rotate_left
 {
 show Act.put _ (some 50) _ = _
 simp only [Act.put, sT, sZ, sU, i64_w, i32_w]
 rfl
 }
 refine pure_ (i := 4) (N := some 51) (v := ?_) (a' := ?_) #[true, true, true, true, true] rfl rfl (by kernel_rfl) (fun _ _ _ h => h) (Or.inl ⟨by rfl, ?_⟩) ?_ ?_
 rotate_left
 {
 intro w'
 go_simp
 with_reducible rfl
 }
 rotate_left
 {
 simp only [Act.put, sT, sZ, sU, i64_w, i32_w]
 rfl
 }
 refine done_ (by kernel_rfl) ?_
 have hnb72 := NB222_201.out
 have hnc72 := NB201_222.out
 have hnb73 := NB222_202.out
 have hnc73 := NB202_222.out
 have hnb74 := NB222_217.out
 have hnc74 := NB217_222.out
 have hnb75 := NB222_232.out
 have hnc75 := NB232_222.out
 have hcz76_0 : w71.cell? ⟨gb222, 0, none⟩ = some (.int .i64 t218) := (blk_cell BK222.out 0).trans rfl
 have hcz76_1 : w71.cell? ⟨gb222, 1, none⟩ = some (.slice Ao40 t219.length co40) := (blk_cell BK222.out 1).trans rfl
 have hfz76_0 := blk_frozen BK222.out 0
 have hfz76_1 := blk_frozen BK222.out 1
 go_upto_region 14 with (first | ((with_reducible refine gate_callee (f := 27) rfl ?_); refine goesL_ (some 54) rfl rfl Try.func27 (by kernel_rfl) rfl #[.agg #[.int .i64 t218, .slice Ao40 t219.length co40], .int .i64 1] rfl (by (try simp only [List.map_toArray, List.map_cons, List.map_nil]); first | done | rfl | (simp only [List.length_drop, List.length_take]; rfl)) ?_; (with_reducible refine (laws_markSimple.calls kj15 t218 (fun k_ => some k_ = (.slice Ao40 t219.length co40 : Value).ownBlock) (.slice Ao40 t219.length co40) t219 1 t239 t240 w _ ?side1 ?side2 A66.out).mono ?_); (case side1 => repeat (first | (with_reducible first | exact HB.out | apply below_alloc | apply pw_below_drewN | apply below_drew1 | refine below_set ?_ GE201.out | refine below_set ?_ GE202.out | refine below_set ?_ GE217.out | refine below_set ?_ GE222.out | refine below_set ?_ GE232.out) | exact HB.out)); (case side2 => exact Kd.R_tight rfl HO_223001.out); rintro e w77 ⟨rfl, hy0, hb, hkp⟩; refine ⟨_, rfl, ?_⟩; have n0_ := mK (Kd.R_mono (ok' := fun k_ => some k_ ≠ (.slice Ao40 t219.length co40 : Value).ownBlock ∧ some k_ ≠ (.slice Ao48 t228.length co48 : Value).ownBlock ∧ some k_ ≠ (.slice Ao70 t235.length co70 : Value).ownBlock) (Kd.R_keptB (HO_218001.out) hkp (fun k_ hk_ hs_ => (hk_.1.1) hs_)) (fun k_ hk_ => ⟨hk_.1.1.1, hk_.1.1.2, hk_.1.2⟩)); have n1_ := mK (Kd.R_reok rfl hy0 (fun k_ e_ => HO_223001.out.1 k_ e_)); have n2_ := mK (Kd.R_mono (ok' := fun k_ => some k_ ≠ (.slice Ao30 t213.length co30 : Value).ownBlock ∧ some k_ ≠ (.slice Ao40 t219.length co40 : Value).ownBlock ∧ some k_ ≠ (.slice Ao70 t235.length co70 : Value).ownBlock) (Kd.R_keptB (HO_233001.out) hkp (fun k_ hk_ hs_ => (hk_.1.2) hs_)) (fun k_ hk_ => ⟨hk_.1.1.1, hk_.1.1.2, hk_.1.2⟩)); have n3_ := mK (blk_kept (by (with_reducible repeat first|apply kN|apply kD|apply kA); exact BK201.out) hkp (fun hs_ => (fun e_ => (Kd.R_ne HO_223001.out BK201.out (by decide)) e_) hs_)); have n4_ := mK (blk_kept (by (with_reducible repeat first|apply kN|apply kD|apply kA); exact BK202.out) hkp (fun hs_ => (fun e_ => (Kd.R_ne HO_223001.out BK202.out (by decide)) e_) hs_)); have n5_ := mK (blk_kept (by (with_reducible repeat first|apply kN|apply kD|apply kA); exact BK217.out) hkp (fun hs_ => (fun e_ => (Kd.R_ne HO_223001.out BK217.out (by decide)) e_) hs_)); have n6_ := mK (blk_kept (by (with_reducible repeat first|apply kN|apply kD|apply kA); exact BK222.out) hkp (fun hs_ => (fun e_ => (Kd.R_ne HO_223001.out BK222.out (by decide)) e_) hs_)); have n7_ := mK (blk_kept (by (with_reducible repeat first|apply kN|apply kD|apply kA); exact BK232.out) hkp (fun hs_ => (fun e_ => (Kd.R_ne HO_223001.out BK232.out (by decide)) e_) hs_)); have n8_ := mK (Kd.R_mono (ok' := fun k_ => some k_ ≠ (.slice Ao30 t213.length co30 : Value).ownBlock ∧ some k_ ≠ (.slice Ao40 t219.length co40 : Value).ownBlock ∧ some k_ ≠ (.slice Ao48 t228.length co48 : Value).ownBlock) (Kd.R_keptB (HO237.out) hkp (fun k_ hk_ hs_ => (hk_.1.2) hs_)) (fun k_ hk_ => ⟨hk_.1.1.1.2, hk_.1.1.2, hk_.1.2⟩)); have n9_ := mK (hb); clear HO_218001; clear HO_223001; clear HO_233001; clear BK201; clear BK202; clear BK217; clear BK222; clear BK232; clear HO237; clear HB; have HO_218001 := n0_; have HO_223001 := n1_; have HO_233001 := n2_; have BK201 := n3_; have BK202 := n4_; have BK217 := n5_; have BK222 := n6_; have BK232 := n7_; have HO237 := n8_; have HB := n9_; clear n0_ n1_ n2_ n3_ n4_ n5_ n6_ n7_ n8_ n9_; (try clear hb); (try clear hkp); (try clear hy0)))
 (try simp only [Act.put, sT, sZ, sU])
 go_cut [67] (fun v67 wc => ∃ (kq : Nat) (x67_66 : Bool), v67 = .bool x67_66 ∧ Aside0 (laws_FnExactWithLink.j1 kq t216 x67_66 a0_0 l0_1 a1_0 a1_1 a1_2 a1_3 t212 t213 t227 t228 = some r) ∧ Aside0 (kq ≤ kj15) ∧ Aside0 (Kd.R k47 47 wc w.heap.size (fun k_ => some k_ ≠ ((.slice Ao40 t219.length co40) : Value).ownBlock ∧ some k_ ≠ ((.slice Ao48 t228.length co48) : Value).ownBlock) (.slice Ao30 t213.length co30) t213) ∧ Aside0 (Kd.R k47 47 wc w.heap.size (fun k_ => some k_ ≠ ((.slice Ao30 t213.length co30) : Value).ownBlock ∧ some k_ ≠ ((.slice Ao48 t228.length co48) : Value).ownBlock) (.slice Ao40 t219.length co40) t240) ∧ Aside0 (Kd.R k47 47 wc w.heap.size (fun k_ => some k_ ≠ ((.slice Ao30 t213.length co30) : Value).ownBlock ∧ some k_ ≠ ((.slice Ao40 t219.length co40) : Value).ownBlock) (.slice Ao48 t228.length co48) t228) ∧ Aside0 (wc.heap[gb201]? = some (.cells #[.int .i64 a0_0, (.slice A0_1 l0_1.length c0_1)] 24 (0, 0))) ∧ Aside0 (wc.heap[gb202]? = some (.cells #[.int .i64 a1_0, .int .i64 a1_1, .int .i64 a1_2, .int .i64 a1_3] 42 (0, 0))) ∧ Aside0 (wc.heap[gb217]? = some (.cells #[.int .i64 t212, (.slice Ao30 t213.length co30)] 29 (0, 0))) ∧ Aside0 (wc.heap[gb222]? = some (.cells #[.int .i64 t218, (.slice Ao40 t219.length co40)] 29 (0, 0))) ∧ Aside0 (wc.heap[gb232]? = some (.cells #[.int .i64 t227, (.slice Ao48 t228.length co48)] 29 (0, 0))) ∧ Aside0 (Below w.heap.size w wc))
 case first => (
 have H := HC67.out
 clear HC67
 by_cases c78 : t239 < 0
 {
 rw [if_pos c78] at H
 have c78b0 : decide (t239 < 0) = true := decide_eq_true c78
 clear c78
 (first | rw [c78b0] | (simp only [i64_w, i32_w]; rw [c78b0]) | skip)
 subst hr_
 exact absurd H (by cases kj15 <;> simp [laws_FnExactWithLink.j1])
 }
 rw [if_neg c78] at H
 have c78b0 : decide (t239 < 0) = false := decide_eq_false c78
 clear c78
 (first | rw [c78b0] | (simp only [i64_w, i32_w]; rw [c78b0]) | skip)
 replace H := Option.bind_eq_some_iff.mp H
 obtain ⟨t241, A790, H⟩ := H
 replace H : (if t241 = true then (laws_FnExactWithLink.j1 kj15 t216 (t231 != t216) a0_0 l0_1 a1_0 a1_1 a1_2 a1_3 t212 t213 t227 t228) else (laws_FnExactWithLink.j1 kj15 t216 true a0_0 l0_1 a1_0 a1_1 a1_2 a1_3 t212 t213 t227 t228)) = some r := H
 have A79 := mK A790
 clear A790
 by_cases c80 : t241 = true
 rotate_left
 {
 replace c80 := Bool.eq_false_iff.mpr c80
 subst c80
 have H1 : (laws_FnExactWithLink.j1 kj15 t216 true a0_0 l0_1 a1_0 a1_1 a1_2 a1_3 t212 t213 t227 t228) = some r := by rw [if_neg (show ¬ (false = true) by decide)] at H; exact H
 clear H
 have H := H1
 clear H1
 subst hr_
 exact absurd H (by cases kj15 <;> simp [laws_FnExactWithLink.j1])
 }
 subst c80
 have H1 : (laws_FnExactWithLink.j1 kj15 t216 (t231 != t216) a0_0 l0_1 a1_0 a1_1 a1_2 a1_3 t212 t213 t227 t228) = some r := by rw [if_pos rfl] at H; exact H
 clear H
 have H := H1
 clear H1
 have H' := mK H
 clear H
 have hnb81 := NB232_201.out
 have hnc81 := NB201_232.out
 have hnb82 := NB232_202.out
 have hnc82 := NB202_232.out
 have hnb83 := NB232_217.out
 have hnc83 := NB217_232.out
 have hnb84 := NB232_222.out
 have hnc84 := NB222_232.out
 have hcz85_0 : w77.cell? ⟨gb232, 0, none⟩ = some (.int .i64 t227) := (blk_cell BK232.out 0).trans rfl
 have hcz85_1 : w77.cell? ⟨gb232, 1, none⟩ = some (.slice Ao48 t228.length co48) := (blk_cell BK232.out 1).trans rfl
 have hfz85_0 := blk_frozen BK232.out 0
 have hfz85_1 := blk_frozen BK232.out 1
 have hnb86 := NB217_201.out
 have hnc86 := NB201_217.out
 have hnb87 := NB217_202.out
 have hnc87 := NB202_217.out
 have hnb88 := NB217_222.out
 have hnc88 := NB222_217.out
 have hcz89_0 : w77.cell? ⟨gb217, 0, none⟩ = some (.int .i64 t212) := (blk_cell BK217.out 0).trans rfl
 have hcz89_1 : w77.cell? ⟨gb217, 1, none⟩ = some (.slice Ao30 t213.length co30) := (blk_cell BK217.out 1).trans rfl
 have hfz89_0 := blk_frozen BK217.out 0
 have hfz89_1 := blk_frozen BK217.out 1
 go_wp2_with (first | (go_at_call 15; (with_reducible refine (laws_eqSimple.calls kj15 t227 _ _ t228 t212 _ _ t213 true _ ?side1 ?side2 ?side3 ?side4 A79.out).mono ?_); (case side1 => repeat (first | exact (Kd.R_reads' HO_233001.out).2.2 | (with_reducible refine Kd.C_alloc ?_ _) | (with_reducible refine Kd.C_drewN ?_ _) | (with_reducible refine Kd.C_drew ?_))); (case side2 => exact (Kd.R_reads' HO_233001.out).2.1); (case side3 => repeat (first | exact (Kd.R_reads' HO_218001.out).2.2 | (with_reducible refine Kd.C_alloc ?_ _) | (with_reducible refine Kd.C_drewN ?_ _) | (with_reducible refine Kd.C_drew ?_))); (case side4 => exact (Kd.R_reads' HO_218001.out).2.1); rintro e w90 ⟨rfl, hb⟩; have n0_ := mK (Kd.R_below (by (with_reducible repeat first|apply rA|apply rN|apply rD); exact HO_218001.out) hb); have n1_ := mK (Kd.R_below (by (with_reducible repeat first|apply rA|apply rN|apply rD); exact HO_223001.out) hb); have n2_ := mK (Kd.R_below (by (with_reducible repeat first|apply rA|apply rN|apply rD); exact HO_233001.out) hb); have n3_ := mK (Kd.R_below (by (with_reducible repeat first|apply rA|apply rN|apply rD); exact HO237.out) hb); have n4_ := mK (blk_below (by (with_reducible repeat first|apply kN|apply kD|apply kA); exact BK201.out) hb); have n5_ := mK (blk_below (by (with_reducible repeat first|apply kN|apply kD|apply kA); exact BK202.out) hb); have n6_ := mK (blk_below (by (with_reducible repeat first|apply kN|apply kD|apply kA); exact BK217.out) hb); have n7_ := mK (blk_below (by (with_reducible repeat first|apply kN|apply kD|apply kA); exact BK222.out) hb); have n8_ := mK (blk_below (by (with_reducible repeat first|apply kN|apply kD|apply kA); exact BK232.out) hb); have n9_ := mK (below_step (by repeat first|(with_reducible first|exact HB.out|apply bA|apply bN|apply bD|refine bS ?_ GE201.out|refine bS ?_ GE202.out|refine bS ?_ GE217.out|refine bS ?_ GE222.out|refine bS ?_ GE232.out)|exact HB.out) hb); clear HO_218001; clear HO_223001; clear HO_233001; clear HO237; clear BK201; clear BK202; clear BK217; clear BK222; clear BK232; clear HB; have HO_218001 := n0_; have HO_223001 := n1_; have HO_233001 := n2_; have HO237 := n3_; have BK201 := n4_; have BK202 := n5_; have BK217 := n6_; have BK222 := n7_; have BK232 := n8_; have HB := n9_; clear n0_ n1_ n2_ n3_ n4_ n5_ n6_ n7_ n8_ n9_; (try clear hb); (try clear hb2); (try clear hk); (try clear hi)))
 go_meet
 case rel => exact ⟨_, ((t231 != t216)), (by first | rfl | (simp; done) | (simp [*]; done)), H', ⟨by have := HJ15.out; first | omega | exact Nat.le_refl _⟩, ⟨by (with_reducible repeat first|apply rA|apply rN|apply rD); exact Kd.R_mono HO_218001.out (fun _ hk => ⟨hk.1, hk.2.1⟩)⟩, ⟨by (with_reducible repeat first|apply rA|apply rN|apply rD); exact Kd.R_mono HO_223001.out (fun _ hk => ⟨hk.1.1, hk.1.2⟩)⟩, ⟨by (with_reducible repeat first|apply rA|apply rN|apply rD); exact Kd.R_mono HO_233001.out (fun _ hk => ⟨hk.1, hk.2.1⟩)⟩, ⟨by (with_reducible repeat first|apply kN|apply kD|apply kA); exact BK201.out⟩, ⟨by (with_reducible repeat first|apply kN|apply kD|apply kA); exact BK202.out⟩, ⟨by (with_reducible repeat first|apply kN|apply kD|apply kA); exact BK217.out⟩, ⟨by (with_reducible repeat first|apply kN|apply kD|apply kA); exact BK222.out⟩, ⟨by (with_reducible repeat first|apply kN|apply kD|apply kA); exact BK232.out⟩, ⟨by repeat first|(with_reducible first|exact HB.out|apply bA|apply bN|apply bD|refine bS ?_ GE201.out|refine bS ?_ GE202.out|refine bS ?_ GE217.out|refine bS ?_ GE222.out|refine bS ?_ GE232.out)|exact HB.out⟩⟩
 )
 case rest => (
 clear HC67
 try clear c1
 try clear c2
 try clear p2
 try clear c5
 try clear c6
 try clear c7
 try clear c8
 try clear c13
 try clear c15
 try clear c25
 try clear c26
 try clear c27
 try clear c51
 try clear c52
 try clear c53
 try clear c54
 try clear c55
 try clear c57
 try clear c58
 try clear c59
 try clear c62
 try clear c65
 try clear c72
 try clear c73
 try clear c74
 try clear c75
 try clear c78
 try clear c78b0
 try clear c80
 try clear c81
 try clear c82
 try clear c83
 try clear c84
 try clear c86
 try clear c87
 try clear c88
 try clear hcz56_0
 try clear hcz56_1
 try clear hcz60_0
 try clear hcz60_1
 try clear hcz76_0
 try clear hcz76_1
 try clear hcz85_0
 try clear hcz85_1
 try clear hcz89_0
 try clear hcz89_1
 try clear hfz56_0
 try clear hfz56_1
 try clear hfz60_0
 try clear hfz60_1
 try clear hfz76_0
 try clear hfz76_1
 try clear hfz85_0
 try clear hfz85_1
 try clear hfz89_0
 try clear hfz89_1
 try clear p2
 obtain ⟨kq, x67_66, rfl, HA, HJ66, HO_218001, HO_223001, HO_233001, BK201, BK202, BK217, BK222, BK232, HB⟩ := hcut
 have hl223001_66 := (Kd.R_reads' HO_223001.out).1
 rw [hl223001_66] at HO_223001
 (try simp only [hl223001_66])
 (try simp only [hl223001_66] at BK201)
 (try simp only [hl223001_66] at BK202)
 (try simp only [hl223001_66] at BK217)
 (try simp only [hl223001_66] at BK222)
 (try simp only [hl223001_66] at BK232)
 (try simp only [hl223001_66] at HO_218001)
 (try simp only [hl223001_66] at HO_233001)
 cases kq with
 | zero => exact absurd HA.out (by simp [laws_FnExactWithLink.j1])
 | succ kj66 => (
 have H := HA.out
 clear HA
 simp only [laws_FnExactWithLink.j1] at H
 by_cases c91 : x67_66 = true
 {
 subst c91
 have H1 : (some false) = some r := by rw [if_pos rfl] at H; exact H
 clear H
 have H := H1
 clear H1
 obtain rfl := Option.some.inj H
 exact absurd hr_ (by decide)
 }
 replace c91 := Bool.eq_false_iff.mpr c91
 subst c91
 have H1 : ((laws_markSimple.f kj66 t227 t228 1).bind fun bt242 => ((laws_heldSimple.f kj66 t227 bt242.2 1).bind fun t244 => (if t244 < 0 then (some false) else (if t244 = bt242.1 then ((laws_toSimple.f kj66 a0_0 l0_1).bind fun bt245 => ((laws_toLink.f a1_0 a1_1 a1_2 a1_3).bind fun bt249 => ((impl_WithLink.f bt245.1 bt245.2 bt249.1 bt249.2.1 bt249.2.2.1 bt249.2.2.2).bind fun bt253 => ((laws_eqSimple.f kj66 bt253.1 bt253.2.1 t212 t213).bind fun t259 => (if t259 = true then (laws_FnExactWithLink.j2 kj66 bt242.1 (bt253.2.2 != t216) t227 bt242.2) else (laws_FnExactWithLink.j2 kj66 bt242.1 true t227 bt242.2)))))) else (some false))))) = some r := by rw [if_neg (show ¬ (false = true) by decide)] at H; exact H
 clear H
 have H := H1
 clear H1
 replace H := Option.bind_eq_some_iff.mp H
 obtain ⟨⟨t242, t243⟩, A920, H⟩ := H
 replace H : ((laws_heldSimple.f kj66 t227 t243 1).bind fun t244 => (if t244 < 0 then (some false) else (if t244 = t242 then ((laws_toSimple.f kj66 a0_0 l0_1).bind fun bt245 => ((laws_toLink.f a1_0 a1_1 a1_2 a1_3).bind fun bt249 => ((impl_WithLink.f bt245.1 bt245.2 bt249.1 bt249.2.1 bt249.2.2.1 bt249.2.2.2).bind fun bt253 => ((laws_eqSimple.f kj66 bt253.1 bt253.2.1 t212 t213).bind fun t259 => (if t259 = true then (laws_FnExactWithLink.j2 kj66 t242 (bt253.2.2 != t216) t227 t243) else (laws_FnExactWithLink.j2 kj66 t242 true t227 t243)))))) else (some false)))) = some r := H
 have A92 := mK A920
 clear A920
 replace H := Option.bind_eq_some_iff.mp H
 obtain ⟨t244, A930, H⟩ := H
 replace H : (if t244 < 0 then (some false) else (if t244 = t242 then ((laws_toSimple.f kj66 a0_0 l0_1).bind fun bt245 => ((laws_toLink.f a1_0 a1_1 a1_2 a1_3).bind fun bt249 => ((impl_WithLink.f bt245.1 bt245.2 bt249.1 bt249.2.1 bt249.2.2.1 bt249.2.2.2).bind fun bt253 => ((laws_eqSimple.f kj66 bt253.1 bt253.2.1 t212 t213).bind fun t259 => (if t259 = true then (laws_FnExactWithLink.j2 kj66 t242 (bt253.2.2 != t216) t227 t243) else (laws_FnExactWithLink.j2 kj66 t242 true t227 t243)))))) else (some false))) = some r := H
 have A93 := mK A930
 clear A930
 by_cases c94 : t244 < 0
 {
 rw [if_pos c94] at H
 have c94b0 : decide (t244 < 0) = true := decide_eq_true c94
 clear c94
 obtain rfl := Option.some.inj H
 exact absurd hr_ (by decide)
 }
 rw [if_neg c94] at H
 have c94b0 : decide (t244 < 0) = false := decide_eq_false c94
 clear c94
 by_cases c95 : t244 = t242
 rotate_left
 {
 rw [if_neg c95] at H
 have c95b0 : (t244 == t242) = false := beq_eq_false_iff_ne.mpr c95
 have c95b1 : (t244 != t242) = true := bne_iff_ne.mpr c95
 obtain rfl := Option.some.inj H
 exact absurd hr_ (by decide)
 }
 rw [if_pos c95] at H
 have c95b0 : (t244 == t242) = true := beq_iff_eq.mpr c95
 have c95b1 : (t244 != t242) = false := bne_eq_false_iff_eq.mpr c95
 clear c95
 replace H := Option.bind_eq_some_iff.mp H
 obtain ⟨⟨t245, t246⟩, A960, H⟩ := H
 replace H : ((laws_toLink.f a1_0 a1_1 a1_2 a1_3).bind fun bt249 => ((impl_WithLink.f t245 t246 bt249.1 bt249.2.1 bt249.2.2.1 bt249.2.2.2).bind fun bt253 => ((laws_eqSimple.f kj66 bt253.1 bt253.2.1 t212 t213).bind fun t259 => (if t259 = true then (laws_FnExactWithLink.j2 kj66 t242 (bt253.2.2 != t216) t227 t243) else (laws_FnExactWithLink.j2 kj66 t242 true t227 t243))))) = some r := H
 have A96 := mK A960
 clear A960
 replace H := Option.bind_eq_some_iff.mp H
 obtain ⟨⟨t249, t250, t251, t252⟩, A970, H⟩ := H
 replace H : ((impl_WithLink.f t245 t246 t249 t250 t251 t252).bind fun bt253 => ((laws_eqSimple.f kj66 bt253.1 bt253.2.1 t212 t213).bind fun t259 => (if t259 = true then (laws_FnExactWithLink.j2 kj66 t242 (bt253.2.2 != t216) t227 t243) else (laws_FnExactWithLink.j2 kj66 t242 true t227 t243)))) = some r := H
 have A97 := mK A970
 clear A970
 replace H := Option.bind_eq_some_iff.mp H
 obtain ⟨⟨t253, t254, t257⟩, A980, H⟩ := H
 replace H : ((laws_eqSimple.f kj66 t253 t254 t212 t213).bind fun t259 => (if t259 = true then (laws_FnExactWithLink.j2 kj66 t242 (t257 != t216) t227 t243) else (laws_FnExactWithLink.j2 kj66 t242 true t227 t243))) = some r := H
 have A98 := mK A980
 clear A980
 have HC99 := mK H
 clear H
 have hnb100 := NB232_201.out
 have hnc100 := NB201_232.out
 have hnb101 := NB232_202.out
 have hnc101 := NB202_232.out
 have hnb102 := NB232_217.out
 have hnc102 := NB217_232.out
 have hnb103 := NB232_222.out
 have hnc103 := NB222_232.out
 have hcz104_0 : wc.cell? ⟨gb232, 0, none⟩ = some (.int .i64 t227) := (blk_cell BK232.out 0).trans rfl
 have hcz104_1 : wc.cell? ⟨gb232, 1, none⟩ = some (.slice Ao48 t228.length co48) := (blk_cell BK232.out 1).trans rfl
 have hfz104_0 := blk_frozen BK232.out 0
 have hfz104_1 := blk_frozen BK232.out 1
 try go_wp2_with (first | ((with_reducible refine gate_callee (f := 27) rfl ?_); refine goesL_ (some 70) rfl rfl Try.func27 (by kernel_rfl) rfl #[.agg #[.int .i64 t227, .slice Ao48 t228.length co48], .int .i64 1] rfl (by (try simp only [List.map_toArray, List.map_cons, List.map_nil]); first | done | rfl | (simp only [List.length_drop, List.length_take]; rfl)) ?_; (with_reducible refine (laws_markSimple.calls kj66 t227 (fun k_ => some k_ = (.slice Ao48 t228.length co48 : Value).ownBlock) (.slice Ao48 t228.length co48) t228 1 t242 t243 w _ ?side1 ?side2 A92.out).mono ?_); (case side1 => repeat (first | (with_reducible first | exact HB.out | apply below_alloc | apply pw_below_drewN | apply below_drew1 | refine below_set ?_ GE201.out | refine below_set ?_ GE202.out | refine below_set ?_ GE217.out | refine below_set ?_ GE222.out | refine below_set ?_ GE232.out) | exact HB.out)); (case side2 => exact Kd.R_tight rfl HO_233001.out); rintro e w105 ⟨rfl, hy0, hb, hkp⟩; refine ⟨_, rfl, ?_⟩; have n0_ := mK (Kd.R_mono (ok' := fun k_ => some k_ ≠ (.slice Ao40 t240.length co40 : Value).ownBlock ∧ some k_ ≠ (.slice Ao48 t228.length co48 : Value).ownBlock) (Kd.R_keptB (HO_218001.out) hkp (fun k_ hk_ hs_ => (hk_.2) hs_)) (fun k_ hk_ => ⟨hk_.1.1, hk_.1.2⟩)); have n1_ := mK (Kd.R_mono (ok' := fun k_ => some k_ ≠ (.slice Ao30 t213.length co30 : Value).ownBlock ∧ some k_ ≠ (.slice Ao48 t228.length co48 : Value).ownBlock) (Kd.R_keptB (HO_223001.out) hkp (fun k_ hk_ hs_ => (hk_.2) hs_)) (fun k_ hk_ => ⟨hk_.1.1, hk_.1.2⟩)); have n2_ := mK (Kd.R_reok rfl hy0 (fun k_ e_ => HO_233001.out.1 k_ e_)); have n3_ := mK (blk_kept (by (with_reducible repeat first|apply kN|apply kD|apply kA); exact BK201.out) hkp (fun hs_ => (fun e_ => (Kd.R_ne HO_233001.out BK201.out (by decide)) e_) hs_)); have n4_ := mK (blk_kept (by (with_reducible repeat first|apply kN|apply kD|apply kA); exact BK202.out) hkp (fun hs_ => (fun e_ => (Kd.R_ne HO_233001.out BK202.out (by decide)) e_) hs_)); have n5_ := mK (blk_kept (by (with_reducible repeat first|apply kN|apply kD|apply kA); exact BK217.out) hkp (fun hs_ => (fun e_ => (Kd.R_ne HO_233001.out BK217.out (by decide)) e_) hs_)); have n6_ := mK (blk_kept (by (with_reducible repeat first|apply kN|apply kD|apply kA); exact BK222.out) hkp (fun hs_ => (fun e_ => (Kd.R_ne HO_233001.out BK222.out (by decide)) e_) hs_)); have n7_ := mK (blk_kept (by (with_reducible repeat first|apply kN|apply kD|apply kA); exact BK232.out) hkp (fun hs_ => (fun e_ => (Kd.R_ne HO_233001.out BK232.out (by decide)) e_) hs_)); have n8_ := mK (hb); clear HO_218001; clear HO_223001; clear HO_233001; clear BK201; clear BK202; clear BK217; clear BK222; clear BK232; clear HB; have HO_218001 := n0_; have HO_223001 := n1_; have HO_233001 := n2_; have BK201 := n3_; have BK202 := n4_; have BK217 := n5_; have BK222 := n6_; have BK232 := n7_; have HB := n8_; clear n0_ n1_ n2_ n3_ n4_ n5_ n6_ n7_ n8_; (try clear hb); (try clear hkp); (try clear hy0); have hcz106_0 : w105.cell? ⟨gb232, 0, none⟩ = some (.int .i64 t227) := (blk_cell BK232.out 0).trans rfl; have hcz106_1 : w105.cell? ⟨gb232, 1, none⟩ = some (.slice Ao48 t228.length co48) := (blk_cell BK232.out 1).trans rfl; have hfz106_0 := blk_frozen BK232.out 0; have hfz106_1 := blk_frozen BK232.out 1) | ((with_reducible refine gate_callee (f := 28) rfl ?_); refine goesL_ (some 73) rfl rfl Try.func28 (by kernel_rfl) rfl #[.agg #[.int .i64 t227, .slice Ao48 t243.length co48], .int .i64 1] rfl (by (try simp only [List.map_toArray, List.map_cons, List.map_nil]); first | done | (rw [show t243.length = t228.length from (Kd.R_reads' HO_233001.out).1.symm] <;> rfl) | rfl | (simp only [List.length_drop, List.length_take]; rfl)) ?_; (with_reducible refine (laws_heldSimple.calls kj66 t227 _ _ t243 1 t244 _ ?side1 ?side2 A93.out).mono ?_); (case side1 => repeat (first | exact (Kd.R_reads' HO_233001.out).2.2 | (with_reducible refine Kd.C_alloc ?_ _) | (with_reducible refine Kd.C_drewN ?_ _) | (with_reducible refine Kd.C_drew ?_))); (case side2 => rw [show t243.length = t228.length from (Kd.R_reads' HO_233001.out).1.symm]; exact (Kd.R_reads' HO_233001.out).2.1); rintro e w107 ⟨rfl, hb⟩; refine ⟨_, rfl, ?_⟩; have n0_ := mK (Kd.R_below (by (with_reducible repeat first|apply rA|apply rN|apply rD); exact HO_218001.out) hb); have n1_ := mK (Kd.R_below (by (with_reducible repeat first|apply rA|apply rN|apply rD); exact HO_223001.out) hb); have n2_ := mK (Kd.R_below (by (with_reducible repeat first|apply rA|apply rN|apply rD); exact HO_233001.out) hb); have n3_ := mK (blk_below (by (with_reducible repeat first|apply kN|apply kD|apply kA); exact BK201.out) hb); have n4_ := mK (blk_below (by (with_reducible repeat first|apply kN|apply kD|apply kA); exact BK202.out) hb); have n5_ := mK (blk_below (by (with_reducible repeat first|apply kN|apply kD|apply kA); exact BK217.out) hb); have n6_ := mK (blk_below (by (with_reducible repeat first|apply kN|apply kD|apply kA); exact BK222.out) hb); have n7_ := mK (blk_below (by (with_reducible repeat first|apply kN|apply kD|apply kA); exact BK232.out) hb); have n8_ := mK (below_step (by repeat first|(with_reducible first|exact HB.out|apply bA|apply bN|apply bD|refine bS ?_ GE201.out|refine bS ?_ GE202.out|refine bS ?_ GE217.out|refine bS ?_ GE222.out|refine bS ?_ GE232.out)|exact HB.out) hb); clear HO_218001; clear HO_223001; clear HO_233001; clear BK201; clear BK202; clear BK217; clear BK222; clear BK232; clear HB; have HO_218001 := n0_; have HO_223001 := n1_; have HO_233001 := n2_; have BK201 := n3_; have BK202 := n4_; have BK217 := n5_; have BK222 := n6_; have BK232 := n7_; have HB := n8_; clear n0_ n1_ n2_ n3_ n4_ n5_ n6_ n7_ n8_; (try clear hb); (try clear hb2); (try clear hk); (try clear hi)))
 have n0_ := mK (Kd.R_drew HO_218001.out)
 have n1_ := mK (Kd.R_drew HO_223001.out)
 have n2_ := mK (Kd.R_drew HO_233001.out)
 have n3_ := mK (blk_drew BK201.out)
 have n4_ := mK (blk_drew BK202.out)
 have n5_ := mK (blk_drew BK217.out)
 have n6_ := mK (blk_drew BK222.out)
 have n7_ := mK (blk_drew BK232.out)
 have n8_ := mK (below_drew1 HB.out)
 clear HO_218001
 clear HO_223001
 clear HO_233001
 clear BK201
 clear BK202
 clear BK217
 clear BK222
 clear BK232
 clear HB
 have HO_218001 := n0_
 have HO_223001 := n1_
 have HO_233001 := n2_
 have BK201 := n3_
 have BK202 := n4_
 have BK217 := n5_
 have BK222 := n6_
 have BK232 := n7_
 have HB := n8_
 clear n0_ n1_ n2_ n3_ n4_ n5_ n6_ n7_ n8_
 refine start_ (n := 11) (S := fun w' => w'.cell? ⟨gb201, 0, none⟩ = some (.int .i64 a0_0) ∧ w'.cell? ⟨gb201, 1, none⟩ = some (.slice A0_1 l0_1.length c0_1) ∧ w'.cell? ⟨gb202, 0, none⟩ = some (.int .i64 a1_0) ∧ w'.cell? ⟨gb202, 1, none⟩ = some (.int .i64 a1_1) ∧ w'.cell? ⟨gb202, 2, none⟩ = some (.int .i64 a1_2) ∧ w'.cell? ⟨gb202, 3, none⟩ = some (.int .i64 a1_3)) (ds := []) #[false, false, false, false, false, false, false, false, false, false, false] (by kernel_rfl) rfl rfl ⟨(blk_cell BK201.out 0).trans rfl, (blk_cell BK201.out 1).trans rfl, (blk_cell BK202.out 0).trans rfl, (blk_cell BK202.out 1).trans rfl, (blk_cell BK202.out 2).trans rfl, (blk_cell BK202.out 3).trans rfl⟩ (fun hHeld => ?_); refine with_tabW laws_FnExactWithLink.tab24 laws_FnExactWithLink.bits24 (fun HT_ HW_ => ?_)
 generalize w107.drew = w108 at HO_218001 HO_223001 HO_233001 BK201 BK202 BK217 BK222 BK232 HB hHeld ⊢
 refine take_ (i := 0) (N := some 80) (v := ?_) (a' := ?_) #[true, false, false, false, false, false, false, false, false, false, false] rfl rfl (take_ofW HT_.out HW_.out (by kernel_rfl)) (fun _ _ _ h => h) (Or.inl ⟨by rfl, ?_⟩) hHeld ?_ ?_
 rotate_left
 {
 rintro w' ⟨s0, s1, s2, s3, s4, s5⟩
 go_simp
 with_reducible rfl
 }
 rotate_left
 {
 simp only [Act.put, sT, sZ, sU, i64_w, i32_w]
 rfl
 }
 refine take_ (i := 2) (N := some 82) (v := ?_) (a' := ?_) #[true, false, true, false, false, false, false, false, false, false, false] rfl rfl (take_ofW HT_.out HW_.out (by kernel_rfl)) (fun _ _ _ h => h) (Or.inl ⟨by rfl, ?_⟩) hHeld ?_ ?_
 rotate_left
 {
 rintro w' ⟨s0, s1, s2, s3, s4, s5⟩
 go_simp
 with_reducible rfl
 }
 rotate_left
 {
 simp only [Act.put, sT, sZ, sU, i64_w, i32_w]
 rfl
 }
 refine join_ (σ := Value × Value × Nat) 2 #[true, true, true, true, true, true, true, true, true, false, false] (fun s_ => [(81, .agg #[.int .i64 t245, s_.1]), (83, .agg #[.int .i64 t249, .int .i64 t250, .int .i64 t251, .int .i64 t252]), (84, .tuple #[.agg #[.int .i64 t253, s_.2.1], .bool t257]), (14, .pointer (some ⟨s_.2.2, 0, none⟩)), (79, .tuple #[.agg #[.int .i64 t253, s_.2.1], .bool t257]), (85, .agg #[.int .i64 t253, s_.2.1]), (86, .bool t257)]) (fun s_ w' => (w'.cell? ⟨gb201, 0, none⟩ = some (.int .i64 a0_0) ∧ w'.cell? ⟨gb201, 1, none⟩ = some (.slice A0_1 l0_1.length c0_1) ∧ w'.cell? ⟨gb202, 0, none⟩ = some (.int .i64 a1_0) ∧ w'.cell? ⟨gb202, 1, none⟩ = some (.int .i64 a1_1) ∧ w'.cell? ⟨gb202, 2, none⟩ = some (.int .i64 a1_2) ∧ w'.cell? ⟨gb202, 3, none⟩ = some (.int .i64 a1_3)) ∧ (Kd.R k47 47 w' w.heap.size (fun k_ => some k_ ≠ (s_.2.1 : Value).ownBlock ∧ some k_ ≠ (.slice Ao30 t213.length co30 : Value).ownBlock ∧ some k_ ≠ (.slice Ao40 t240.length co40 : Value).ownBlock ∧ some k_ ≠ (.slice Ao48 t228.length co48 : Value).ownBlock) s_.1 t246) ∧ (Kd.R k47 47 w' w.heap.size (fun k_ => some k_ ≠ (s_.1 : Value).ownBlock ∧ some k_ ≠ (.slice Ao30 t213.length co30 : Value).ownBlock ∧ some k_ ≠ (.slice Ao40 t240.length co40 : Value).ownBlock ∧ some k_ ≠ (.slice Ao48 t228.length co48 : Value).ownBlock) s_.2.1 t254) ∧ (Kd.R k47 47 w' w.heap.size (fun k_ => some k_ ≠ (s_.1 : Value).ownBlock ∧ some k_ ≠ (s_.2.1 : Value).ownBlock ∧ some k_ ≠ (.slice Ao40 t240.length co40 : Value).ownBlock ∧ some k_ ≠ (.slice Ao48 t228.length co48 : Value).ownBlock) (.slice Ao30 t213.length co30) t213) ∧ (Kd.R k47 47 w' w.heap.size (fun k_ => some k_ ≠ (s_.1 : Value).ownBlock ∧ some k_ ≠ (s_.2.1 : Value).ownBlock ∧ some k_ ≠ (.slice Ao30 t213.length co30 : Value).ownBlock ∧ some k_ ≠ (.slice Ao48 t228.length co48 : Value).ownBlock) (.slice Ao40 t240.length co40) t240) ∧ (Kd.R k47 47 w' w.heap.size (fun k_ => some k_ ≠ (s_.1 : Value).ownBlock ∧ some k_ ≠ (s_.2.1 : Value).ownBlock ∧ some k_ ≠ (.slice Ao30 t213.length co30 : Value).ownBlock ∧ some k_ ≠ (.slice Ao40 t240.length co40 : Value).ownBlock) (.slice Ao48 t228.length co48) t243) ∧ (w'.heap[gb201]? = some (.cells #[.int .i64 a0_0, .slice A0_1 l0_1.length c0_1] 24 (0, 0))) ∧ (w'.heap[gb202]? = some (.cells #[.int .i64 a1_0, .int .i64 a1_1, .int .i64 a1_2, .int .i64 a1_3] 42 (0, 0))) ∧ (w'.heap[gb217]? = some (.cells #[.int .i64 t212, .slice Ao30 t213.length co30] 29 (0, 0))) ∧ (w'.heap[gb222]? = some (.cells #[.int .i64 t218, .slice Ao40 t240.length co40] 29 (0, 0))) ∧ (w'.heap[gb232]? = some (.cells #[.int .i64 t227, .slice Ao48 t228.length co48] 29 (0, 0))) ∧ (w'.heap[s_.2.2]? = some (.cells #[.int .i64 0, .slice none 0 0] 29 (0, 0))) ∧ (w.heap.size ≤ s_.2.2) ∧ (w.heap.size ≤ s_.2.2) ∧ (gb201 ≠ s_.2.2) ∧ (s_.2.2 ≠ gb201) ∧ (gb202 ≠ s_.2.2) ∧ (s_.2.2 ≠ gb202) ∧ (gb217 ≠ s_.2.2) ∧ (s_.2.2 ≠ gb217) ∧ (gb222 ≠ s_.2.2) ∧ (s_.2.2 ≠ gb222) ∧ (gb232 ≠ s_.2.2) ∧ (s_.2.2 ≠ gb232) ∧ (Below w.heap.size w w')) ?_ ?_
 rotate_left
 {
 intro hCont
 refine two_ (i := 1) (j := 8) (Ni := some 81) (Nj := some 14) #[true, true, true, false, false, false, false, false, false, false, false] #[true, false, true, false, false, false, false, false, true, false, false] rfl rfl rfl rfl (two_of HT_.out (by kernel_rfl)) (by decide) (by decide) (fun K hK => ?_) (fun K hK => ?_)
 {
 skip
 refine goes_ Try.func13 (by kernel_rfl) rfl #[.agg #[.int .i64 a0_0, .slice A0_1 l0_1.length c0_1]] (by rfl) rfl rfl (by (try simp only [List.map_toArray, List.map_cons, List.map_nil]); first | done | rfl | (simp only [List.length_drop, List.length_take]; rfl)) ?_
 with_reducible refine (laws_toSimple.calls kj66 a0_0 _ _ l0_1 t245 t246 _ ?side1 ?side2 A96.out).mono ?_
 (case side1 => repeat (first | exact (Kd.C_below HR0_1.out HB.out) | (with_reducible refine Kd.C_alloc ?_ _) | (with_reducible refine Kd.C_drewN ?_ _) | (with_reducible refine Kd.C_drew ?_)))
 (case side2 => exact HC0_1.out)
 rintro e w109 ⟨v247, rfl, ho0, hb⟩
 refine ⟨_, rfl, ?_⟩
 have n0_ := mK (Kd.R_elder' (by (with_reducible repeat first|apply rA|apply rN|apply rD); exact HO_218001.out) (Kd.R_base ho0) hb)
 have n1_ := mK (Kd.R_elder' (by (with_reducible repeat first|apply rA|apply rN|apply rD); exact HO_223001.out) (Kd.R_base ho0) hb)
 have n2_ := mK (Kd.R_elder' (by (with_reducible repeat first|apply rA|apply rN|apply rD); exact HO_233001.out) (Kd.R_base ho0) hb)
 have n3_ := mK (Kd.R_lower (Kd.R_new' (Kd.R_new' (Kd.R_new' ho0 (Kd.R_lt (by (with_reducible repeat first|apply rA|apply rN|apply rD); exact HO_218001.out))) (Kd.R_lt (by (with_reducible repeat first|apply rA|apply rN|apply rD); exact HO_223001.out))) (Kd.R_lt (by (with_reducible repeat first|apply rA|apply rN|apply rD); exact HO_233001.out))) (below_size (by repeat first|(with_reducible first|exact HB.out|apply bA|apply bN|apply bD|refine bS ?_ GE201.out|refine bS ?_ GE202.out|refine bS ?_ GE217.out|refine bS ?_ GE222.out|refine bS ?_ GE232.out)|exact HB.out)))
 have n4_ := mK (blk_below (by (with_reducible repeat first|apply kN|apply kD|apply kA); exact BK201.out) hb)
 have n5_ := mK (blk_below (by (with_reducible repeat first|apply kN|apply kD|apply kA); exact BK202.out) hb)
 have n6_ := mK (blk_below (by (with_reducible repeat first|apply kN|apply kD|apply kA); exact BK217.out) hb)
 have n7_ := mK (blk_below (by (with_reducible repeat first|apply kN|apply kD|apply kA); exact BK222.out) hb)
 have n8_ := mK (blk_below (by (with_reducible repeat first|apply kN|apply kD|apply kA); exact BK232.out) hb)
 have n9_ := mK (below_step (by repeat first|(with_reducible first|exact HB.out|apply bA|apply bN|apply bD|refine bS ?_ GE201.out|refine bS ?_ GE202.out|refine bS ?_ GE217.out|refine bS ?_ GE222.out|refine bS ?_ GE232.out)|exact HB.out) hb)
 clear HO_218001
 clear HO_223001
 clear HO_233001
 clear BK201
 clear BK202
 clear BK217
 clear BK222
 clear BK232
 clear HB
 have HO_218001 := n0_
 have HO_223001 := n1_
 have HO_233001 := n2_
 have HO248 := n3_
 have BK201 := n4_
 have BK202 := n5_
 have BK217 := n6_
 have BK222 := n7_
 have BK232 := n8_
 have HB := n9_
 clear n0_ n1_ n2_ n3_ n4_ n5_ n6_ n7_ n8_ n9_
 (try clear hb)
 (try clear hb2)
 (try clear hk)
 (try clear hi)
 (try clear ho0)
 refine hK.out _ _ ⟨(blk_cell BK201.out 0).trans rfl, (blk_cell BK201.out 1).trans rfl, (blk_cell BK202.out 0).trans rfl, (blk_cell BK202.out 1).trans rfl, (blk_cell BK202.out 2).trans rfl, (blk_cell BK202.out 3).trans rfl⟩ (fun hHeld => ?_)
 clear hK K
 refine norm_ (a' := ?_) ?_ ?_
 rotate_left
 {
 show Act.put _ (some 81) _ = _
 simp only [Act.put, sT, sZ, sU, i64_w, i32_w]
 rfl
 }
 refine two_ (i := 3) (j := 8) (Ni := some 83) (Nj := some 14) #[true, true, true, true, false, false, false, false, false, false, false] #[true, true, true, false, false, false, false, false, true, false, false] rfl rfl rfl rfl (two_of HT_.out (by kernel_rfl)) (by decide) (by decide) (fun K hK => ?_) (fun K hK => ?_)
 {
 skip
 refine goes_ Try.func25 (by kernel_rfl) rfl #[.agg #[.int .i64 a1_0, .int .i64 a1_1, .int .i64 a1_2, .int .i64 a1_3]] (by rfl) rfl rfl (by (try simp only [List.map_toArray, List.map_cons, List.map_nil]); first | done | rfl | (simp only [List.length_drop, List.length_take]; rfl)) ?_
 with_reducible refine (laws_toLink.calls a1_0 a1_1 a1_2 a1_3 t249 t250 t251 t252 _ A97.out).mono ?_
 rintro e w110 ⟨rfl, hb⟩
 refine ⟨_, rfl, ?_⟩
 have n0_ := mK (Kd.R_below (by (with_reducible repeat first|apply rA|apply rN|apply rD); exact HO_218001.out) hb)
 have n1_ := mK (Kd.R_below (by (with_reducible repeat first|apply rA|apply rN|apply rD); exact HO_223001.out) hb)
 have n2_ := mK (Kd.R_below (by (with_reducible repeat first|apply rA|apply rN|apply rD); exact HO_233001.out) hb)
 have n3_ := mK (Kd.R_below (by (with_reducible repeat first|apply rA|apply rN|apply rD); exact HO248.out) hb)
 have n4_ := mK (blk_below (by (with_reducible repeat first|apply kN|apply kD|apply kA); exact BK201.out) hb)
 have n5_ := mK (blk_below (by (with_reducible repeat first|apply kN|apply kD|apply kA); exact BK202.out) hb)
 have n6_ := mK (blk_below (by (with_reducible repeat first|apply kN|apply kD|apply kA); exact BK217.out) hb)
 have n7_ := mK (blk_below (by (with_reducible repeat first|apply kN|apply kD|apply kA); exact BK222.out) hb)
 have n8_ := mK (blk_below (by (with_reducible repeat first|apply kN|apply kD|apply kA); exact BK232.out) hb)
 have n9_ := mK (below_step (by repeat first|(with_reducible first|exact HB.out|apply bA|apply bN|apply bD|refine bS ?_ GE201.out|refine bS ?_ GE202.out|refine bS ?_ GE217.out|refine bS ?_ GE222.out|refine bS ?_ GE232.out)|exact HB.out) hb)
 clear HO_218001
 clear HO_223001
 clear HO_233001
 clear HO248
 clear BK201
 clear BK202
 clear BK217
 clear BK222
 clear BK232
 clear HB
 have HO_218001 := n0_
 have HO_223001 := n1_
 have HO_233001 := n2_
 have HO248 := n3_
 have BK201 := n4_
 have BK202 := n5_
 have BK217 := n6_
 have BK222 := n7_
 have BK232 := n8_
 have HB := n9_
 clear n0_ n1_ n2_ n3_ n4_ n5_ n6_ n7_ n8_ n9_
 (try clear hb)
 (try clear hb2)
 (try clear hk)
 (try clear hi)
 obtain ⟨Ao111, co111, eo111⟩ := Kd.R_slice HO248.out
 (first | subst eo111 | (injection eo111 with f1_ f2_ f3_; have f4_ := f1_.symm; have f5_ := f3_.symm; clear f1_ f2_ f3_; subst f4_; subst f5_))
 refine hK.out _ _ ⟨(blk_cell BK201.out 0).trans rfl, (blk_cell BK201.out 1).trans rfl, (blk_cell BK202.out 0).trans rfl, (blk_cell BK202.out 1).trans rfl, (blk_cell BK202.out 2).trans rfl, (blk_cell BK202.out 3).trans rfl⟩ (fun hHeld => ?_)
 clear hK K
 refine norm_ (a' := ?_) ?_ ?_
 rotate_left
 {
 show Act.put _ (some 83) _ = _
 simp only [Act.put, sT, sZ, sU, i64_w, i32_w]
 rfl
 }
 refine two_ (i := 4) (j := 8) (Ni := some 84) (Nj := some 14) #[true, true, true, true, true, false, false, false, false, false, false] #[true, true, true, true, false, false, false, false, true, false, false] rfl rfl rfl rfl (two_of HT_.out (by kernel_rfl)) (by decide) (by decide) (fun K hK => ?_) (fun K hK => ?_)
 {
 skip
 refine goes_ Try.func26 (by kernel_rfl) rfl #[.agg #[.int .i64 t245, .slice Ao111 t246.length co111], .agg #[.int .i64 t249, .int .i64 t250, .int .i64 t251, .int .i64 t252]] (by rfl) rfl rfl (by (try simp only [List.map_toArray, List.map_cons, List.map_nil]); first | done | rfl | (simp only [List.length_drop, List.length_take]; rfl)) ?_
 with_reducible refine (impl_WithLink.calls t245 _ _ t246 t249 t250 t251 t252 t253 t254 t257 _ ?side1 ?side2 A98.out).mono ?_
 (case side1 => repeat (first | exact (Kd.R_reads' HO248.out).2.2 | (with_reducible refine Kd.C_alloc ?_ _) | (with_reducible refine Kd.C_drewN ?_ _) | (with_reducible refine Kd.C_drew ?_)))
 (case side2 => exact (Kd.R_reads' HO248.out).2.1)
 rintro e w112 ⟨v255, rfl, ho0, hb⟩
 refine ⟨_, rfl, ?_⟩
 have n0_ := mK (Kd.R_elder' (by (with_reducible repeat first|apply rA|apply rN|apply rD); exact HO_218001.out) (Kd.R_base ho0) hb)
 have n1_ := mK (Kd.R_elder' (by (with_reducible repeat first|apply rA|apply rN|apply rD); exact HO_223001.out) (Kd.R_base ho0) hb)
 have n2_ := mK (Kd.R_elder' (by (with_reducible repeat first|apply rA|apply rN|apply rD); exact HO_233001.out) (Kd.R_base ho0) hb)
 have n3_ := mK (Kd.R_elder' (by (with_reducible repeat first|apply rA|apply rN|apply rD); exact HO248.out) (Kd.R_base ho0) hb)
 have n4_ := mK (Kd.R_lower (Kd.R_new' (Kd.R_new' (Kd.R_new' (Kd.R_new' ho0 (Kd.R_lt (by (with_reducible repeat first|apply rA|apply rN|apply rD); exact HO_218001.out))) (Kd.R_lt (by (with_reducible repeat first|apply rA|apply rN|apply rD); exact HO_223001.out))) (Kd.R_lt (by (with_reducible repeat first|apply rA|apply rN|apply rD); exact HO_233001.out))) (Kd.R_lt (by (with_reducible repeat first|apply rA|apply rN|apply rD); exact HO248.out))) (below_size (by repeat first|(with_reducible first|exact HB.out|apply bA|apply bN|apply bD|refine bS ?_ GE201.out|refine bS ?_ GE202.out|refine bS ?_ GE217.out|refine bS ?_ GE222.out|refine bS ?_ GE232.out)|exact HB.out)))
 have n5_ := mK (blk_below (by (with_reducible repeat first|apply kN|apply kD|apply kA); exact BK201.out) hb)
 have n6_ := mK (blk_below (by (with_reducible repeat first|apply kN|apply kD|apply kA); exact BK202.out) hb)
 have n7_ := mK (blk_below (by (with_reducible repeat first|apply kN|apply kD|apply kA); exact BK217.out) hb)
 have n8_ := mK (blk_below (by (with_reducible repeat first|apply kN|apply kD|apply kA); exact BK222.out) hb)
 have n9_ := mK (blk_below (by (with_reducible repeat first|apply kN|apply kD|apply kA); exact BK232.out) hb)
 have n10_ := mK (below_step (by repeat first|(with_reducible first|exact HB.out|apply bA|apply bN|apply bD|refine bS ?_ GE201.out|refine bS ?_ GE202.out|refine bS ?_ GE217.out|refine bS ?_ GE222.out|refine bS ?_ GE232.out)|exact HB.out) hb)
 clear HO_218001
 clear HO_223001
 clear HO_233001
 clear HO248
 clear BK201
 clear BK202
 clear BK217
 clear BK222
 clear BK232
 clear HB
 have HO_218001 := n0_
 have HO_223001 := n1_
 have HO_233001 := n2_
 have HO248 := n3_
 have HO256 := n4_
 have BK201 := n5_
 have BK202 := n6_
 have BK217 := n7_
 have BK222 := n8_
 have BK232 := n9_
 have HB := n10_
 clear n0_ n1_ n2_ n3_ n4_ n5_ n6_ n7_ n8_ n9_ n10_
 (try clear hb)
 (try clear hb2)
 (try clear hk)
 (try clear hi)
 (try clear ho0)
 refine hK.out _ _ ⟨(blk_cell BK201.out 0).trans rfl, (blk_cell BK201.out 1).trans rfl, (blk_cell BK202.out 0).trans rfl, (blk_cell BK202.out 1).trans rfl, (blk_cell BK202.out 2).trans rfl, (blk_cell BK202.out 3).trans rfl⟩ (fun hHeld => ?_)
 clear hK K
 refine norm_ (a' := ?_) ?_ ?_
 rotate_left
 {
 show Act.put _ (some 84) _ = _
 simp only [Act.put, sT, sZ, sU, i64_w, i32_w]
 rfl
 }
 refine pure_ (i := 5) (N := some 79) (v := ?_) (a' := ?_) #[true, true, true, true, true, true, false, false, false, false, false] rfl rfl (any_of HT_.out (by kernel_rfl)) (fun _ _ _ h => h) (Or.inl ⟨by rfl, ?_⟩) ?_ ?_
 rotate_left
 {
 intro w'
 go_simp
 with_reducible rfl
 }
 rotate_left
 {
 simp only [Act.put, sT, sZ, sU, i64_w, i32_w]
 rfl
 }
 refine pure_ (i := 6) (N := some 85) (v := ?_) (a' := ?_) #[true, true, true, true, true, true, true, false, false, false, false] rfl rfl (any_of HT_.out (by kernel_rfl)) (fun _ _ _ h => h) (Or.inl ⟨by rfl, ?_⟩) ?_ ?_
 rotate_left
 {
 intro w'
 go_simp
 with_reducible rfl
 }
 rotate_left
 {
 simp only [Act.put, sT, sZ, sU, i64_w, i32_w]
 rfl
 }
 refine pure_ (i := 7) (N := some 86) (v := ?_) (a' := ?_) #[true, true, true, true, true, true, true, true, false, false, false] rfl rfl (any_of HT_.out (by kernel_rfl)) (fun _ _ _ h => h) (Or.inl ⟨by rfl, ?_⟩) ?_ ?_
 rotate_left
 {
 intro w'
 go_simp
 with_reducible rfl
 }
 rotate_left
 {
 simp only [Act.put, sT, sZ, sU, i64_w, i32_w]
 rfl
 }
 refine one_ (i := 8) (N := some 14) #[true, true, true, true, true, true, true, true, true, false, false] rfl rfl (one_of HT_.out (by kernel_rfl)) (by decide) (fun K hK => ?_)
 refine box_step ?hg (N := 14) ?hd (cs := #[.int .i64 0, .slice none 0 0]) (t := 29) ?hr ?_; (case hd => rfl); (case hg => rfl); (case hr => go_simp <;> rfl)
 intro gb258 hg w113 hbox hb
 have n0_ := mK (Kd.R_below (by (with_reducible repeat first|apply rA|apply rN|apply rD); exact HO_218001.out) hb)
 have n1_ := mK (Kd.R_below (by (with_reducible repeat first|apply rA|apply rN|apply rD); exact HO_223001.out) hb)
 have n2_ := mK (Kd.R_below (by (with_reducible repeat first|apply rA|apply rN|apply rD); exact HO_233001.out) hb)
 have n3_ := mK (Kd.R_below (by (with_reducible repeat first|apply rA|apply rN|apply rD); exact HO248.out) hb)
 have n4_ := mK (Kd.R_below (by (with_reducible repeat first|apply rA|apply rN|apply rD); exact HO256.out) hb)
 have n5_ := mK (blk_below (by (with_reducible repeat first|apply kN|apply kD|apply kA); exact BK201.out) hb)
 have n6_ := mK (blk_below (by (with_reducible repeat first|apply kN|apply kD|apply kA); exact BK202.out) hb)
 have n7_ := mK (blk_below (by (with_reducible repeat first|apply kN|apply kD|apply kA); exact BK217.out) hb)
 have n8_ := mK (blk_below (by (with_reducible repeat first|apply kN|apply kD|apply kA); exact BK222.out) hb)
 have n9_ := mK (blk_below (by (with_reducible repeat first|apply kN|apply kD|apply kA); exact BK232.out) hb)
 have n10_ := mK (below_step (by repeat first|(with_reducible first|exact HB.out|apply bA|apply bN|apply bD|refine bS ?_ GE201.out|refine bS ?_ GE202.out|refine bS ?_ GE217.out|refine bS ?_ GE222.out|refine bS ?_ GE232.out)|exact HB.out) hb)
 have n11_ := mK (hbox)
 have n12_ := mK ((by rw [hg]; exact (below_size (by repeat first|(with_reducible first|exact HB.out|apply bA|apply bN|apply bD|refine bS ?_ GE201.out|refine bS ?_ GE202.out|refine bS ?_ GE217.out|refine bS ?_ GE222.out|refine bS ?_ GE232.out)|exact HB.out)) : w.heap.size ≤ gb258))
 have n13_ := mK ((by rw [hg]; exact (below_size (by repeat first|(with_reducible first|exact HB.out|apply bA|apply bN|apply bD|refine bS ?_ GE201.out|refine bS ?_ GE202.out|refine bS ?_ GE217.out|refine bS ?_ GE222.out|refine bS ?_ GE232.out)|exact HB.out)) : w.heap.size ≤ gb258))
 have n14_ := mK ((by rw [hg]; exact Nat.ne_of_lt (blk_lt (by (with_reducible repeat first|apply kN|apply kD|apply kA); exact BK201.out)) : gb201 ≠ gb258))
 have n15_ := mK ((by rw [hg]; exact Nat.ne_of_gt (blk_lt (by (with_reducible repeat first|apply kN|apply kD|apply kA); exact BK201.out)) : gb258 ≠ gb201))
 have n16_ := mK ((by rw [hg]; exact Nat.ne_of_lt (blk_lt (by (with_reducible repeat first|apply kN|apply kD|apply kA); exact BK202.out)) : gb202 ≠ gb258))
 have n17_ := mK ((by rw [hg]; exact Nat.ne_of_gt (blk_lt (by (with_reducible repeat first|apply kN|apply kD|apply kA); exact BK202.out)) : gb258 ≠ gb202))
 have n18_ := mK ((by rw [hg]; exact Nat.ne_of_lt (blk_lt (by (with_reducible repeat first|apply kN|apply kD|apply kA); exact BK217.out)) : gb217 ≠ gb258))
 have n19_ := mK ((by rw [hg]; exact Nat.ne_of_gt (blk_lt (by (with_reducible repeat first|apply kN|apply kD|apply kA); exact BK217.out)) : gb258 ≠ gb217))
 have n20_ := mK ((by rw [hg]; exact Nat.ne_of_lt (blk_lt (by (with_reducible repeat first|apply kN|apply kD|apply kA); exact BK222.out)) : gb222 ≠ gb258))
 have n21_ := mK ((by rw [hg]; exact Nat.ne_of_gt (blk_lt (by (with_reducible repeat first|apply kN|apply kD|apply kA); exact BK222.out)) : gb258 ≠ gb222))
 have n22_ := mK ((by rw [hg]; exact Nat.ne_of_lt (blk_lt (by (with_reducible repeat first|apply kN|apply kD|apply kA); exact BK232.out)) : gb232 ≠ gb258))
 have n23_ := mK ((by rw [hg]; exact Nat.ne_of_gt (blk_lt (by (with_reducible repeat first|apply kN|apply kD|apply kA); exact BK232.out)) : gb258 ≠ gb232))
 clear HO_218001
 clear HO_223001
 clear HO_233001
 clear HO248
 clear HO256
 clear BK201
 clear BK202
 clear BK217
 clear BK222
 clear BK232
 clear HB
 have HO_218001 := n0_
 have HO_223001 := n1_
 have HO_233001 := n2_
 have HO248 := n3_
 have HO256 := n4_
 have BK201 := n5_
 have BK202 := n6_
 have BK217 := n7_
 have BK222 := n8_
 have BK232 := n9_
 have HB := n10_
 have BK258 := n11_
 have GW258 := n12_
 have GE258 := n13_
 have NB201_258 := n14_
 have NB258_201 := n15_
 have NB202_258 := n16_
 have NB258_202 := n17_
 have NB217_258 := n18_
 have NB258_217 := n19_
 have NB222_258 := n20_
 have NB258_222 := n21_
 have NB232_258 := n22_
 have NB258_232 := n23_
 clear n0_ n1_ n2_ n3_ n4_ n5_ n6_ n7_ n8_ n9_ n10_ n11_ n12_ n13_ n14_ n15_ n16_ n17_ n18_ n19_ n20_ n21_ n22_ n23_
 clear hb hbox hg
 refine hK.out _ _ ⟨(blk_cell BK201.out 0).trans rfl, (blk_cell BK201.out 1).trans rfl, (blk_cell BK202.out 0).trans rfl, (blk_cell BK202.out 1).trans rfl, (blk_cell BK202.out 2).trans rfl, (blk_cell BK202.out 3).trans rfl⟩ (fun hHeld => ?_)
 clear hK K
 refine norm_ (a' := ?_) ?_ ?_
 rotate_left
 {
 show Act.put _ (some 14) _ = _
 simp only [Act.put, sT, sZ, sU, i64_w, i32_w]
 rfl
 }
 exact norm_ (by simp only [putAll, Act.put, sT, sZ, sU]) (hCont (.slice Ao111 t246.length co111, v255, gb258) _ ⟨hHeld, (Kd.R_mono HO248.out (fun _ hk => ⟨hk.2, ⟨hk.1.1.1.2, ⟨hk.1.1.2, hk.1.2⟩⟩⟩)), (Kd.R_mono HO256.out (fun _ hk => ⟨hk.2, ⟨hk.1.1.1.2, ⟨hk.1.1.2, hk.1.2⟩⟩⟩)), (Kd.R_mono HO_218001.out (fun _ hk => ⟨hk.1.2, ⟨hk.2, ⟨hk.1.1.1, hk.1.1.2⟩⟩⟩)), (Kd.R_mono HO_223001.out (fun _ hk => ⟨hk.1.2, ⟨hk.2, ⟨hk.1.1.1, hk.1.1.2⟩⟩⟩)), (Kd.R_mono HO_233001.out (fun _ hk => ⟨hk.1.2, ⟨hk.2, ⟨hk.1.1.1, hk.1.1.2⟩⟩⟩)), BK201.out, BK202.out, BK217.out, BK222.out, BK232.out, BK258.out, GW258.out, GE258.out, NB201_258.out, NB258_201.out, NB202_258.out, NB258_202.out, NB217_258.out, NB258_217.out, NB222_258.out, NB258_222.out, NB232_258.out, NB258_232.out, HB.out⟩)
 }
 {
 skip
 refine box_step ?hg (N := 14) ?hd (cs := #[.int .i64 0, .slice none 0 0]) (t := 29) ?hr ?_; (case hd => rfl); (case hg => rfl); (case hr => go_simp <;> rfl)
 intro gb258 hg w111 hbox hb
 have n0_ := mK (Kd.R_below (by (with_reducible repeat first|apply rA|apply rN|apply rD); exact HO_218001.out) hb)
 have n1_ := mK (Kd.R_below (by (with_reducible repeat first|apply rA|apply rN|apply rD); exact HO_223001.out) hb)
 have n2_ := mK (Kd.R_below (by (with_reducible repeat first|apply rA|apply rN|apply rD); exact HO_233001.out) hb)
 have n3_ := mK (Kd.R_below (by (with_reducible repeat first|apply rA|apply rN|apply rD); exact HO248.out) hb)
 have n4_ := mK (blk_below (by (with_reducible repeat first|apply kN|apply kD|apply kA); exact BK201.out) hb)
 have n5_ := mK (blk_below (by (with_reducible repeat first|apply kN|apply kD|apply kA); exact BK202.out) hb)
 have n6_ := mK (blk_below (by (with_reducible repeat first|apply kN|apply kD|apply kA); exact BK217.out) hb)
 have n7_ := mK (blk_below (by (with_reducible repeat first|apply kN|apply kD|apply kA); exact BK222.out) hb)
 have n8_ := mK (blk_below (by (with_reducible repeat first|apply kN|apply kD|apply kA); exact BK232.out) hb)
 have n9_ := mK (below_step (by repeat first|(with_reducible first|exact HB.out|apply bA|apply bN|apply bD|refine bS ?_ GE201.out|refine bS ?_ GE202.out|refine bS ?_ GE217.out|refine bS ?_ GE222.out|refine bS ?_ GE232.out)|exact HB.out) hb)
 have n10_ := mK (hbox)
 have n11_ := mK ((by rw [hg]; exact (below_size (by repeat first|(with_reducible first|exact HB.out|apply bA|apply bN|apply bD|refine bS ?_ GE201.out|refine bS ?_ GE202.out|refine bS ?_ GE217.out|refine bS ?_ GE222.out|refine bS ?_ GE232.out)|exact HB.out)) : w.heap.size ≤ gb258))
 have n12_ := mK ((by rw [hg]; exact (below_size (by repeat first|(with_reducible first|exact HB.out|apply bA|apply bN|apply bD|refine bS ?_ GE201.out|refine bS ?_ GE202.out|refine bS ?_ GE217.out|refine bS ?_ GE222.out|refine bS ?_ GE232.out)|exact HB.out)) : w.heap.size ≤ gb258))
 have n13_ := mK ((by rw [hg]; exact Nat.ne_of_lt (blk_lt (by (with_reducible repeat first|apply kN|apply kD|apply kA); exact BK201.out)) : gb201 ≠ gb258))
 have n14_ := mK ((by rw [hg]; exact Nat.ne_of_gt (blk_lt (by (with_reducible repeat first|apply kN|apply kD|apply kA); exact BK201.out)) : gb258 ≠ gb201))
 have n15_ := mK ((by rw [hg]; exact Nat.ne_of_lt (blk_lt (by (with_reducible repeat first|apply kN|apply kD|apply kA); exact BK202.out)) : gb202 ≠ gb258))
 have n16_ := mK ((by rw [hg]; exact Nat.ne_of_gt (blk_lt (by (with_reducible repeat first|apply kN|apply kD|apply kA); exact BK202.out)) : gb258 ≠ gb202))
 have n17_ := mK ((by rw [hg]; exact Nat.ne_of_lt (blk_lt (by (with_reducible repeat first|apply kN|apply kD|apply kA); exact BK217.out)) : gb217 ≠ gb258))
 have n18_ := mK ((by rw [hg]; exact Nat.ne_of_gt (blk_lt (by (with_reducible repeat first|apply kN|apply kD|apply kA); exact BK217.out)) : gb258 ≠ gb217))
 have n19_ := mK ((by rw [hg]; exact Nat.ne_of_lt (blk_lt (by (with_reducible repeat first|apply kN|apply kD|apply kA); exact BK222.out)) : gb222 ≠ gb258))
 have n20_ := mK ((by rw [hg]; exact Nat.ne_of_gt (blk_lt (by (with_reducible repeat first|apply kN|apply kD|apply kA); exact BK222.out)) : gb258 ≠ gb222))
 have n21_ := mK ((by rw [hg]; exact Nat.ne_of_lt (blk_lt (by (with_reducible repeat first|apply kN|apply kD|apply kA); exact BK232.out)) : gb232 ≠ gb258))
 have n22_ := mK ((by rw [hg]; exact Nat.ne_of_gt (blk_lt (by (with_reducible repeat first|apply kN|apply kD|apply kA); exact BK232.out)) : gb258 ≠ gb232))
 clear HO_218001
 clear HO_223001
 clear HO_233001
 clear HO248
 clear BK201
 clear BK202
 clear BK217
 clear BK222
 clear BK232
 clear HB
 have HO_218001 := n0_
 have HO_223001 := n1_
 have HO_233001 := n2_
 have HO248 := n3_
 have BK201 := n4_
 have BK202 := n5_
 have BK217 := n6_
 have BK222 := n7_
 have BK232 := n8_
 have HB := n9_
 have BK258 := n10_
 have GW258 := n11_
 have GE258 := n12_
 have NB201_258 := n13_
 have NB258_201 := n14_
 have NB202_258 := n15_
 have NB258_202 := n16_
 have NB217_258 := n17_
 have NB258_217 := n18_
 have NB222_258 := n19_
 have NB258_222 := n20_
 have NB232_258 := n21_
 have NB258_232 := n22_
 clear n0_ n1_ n2_ n3_ n4_ n5_ n6_ n7_ n8_ n9_ n10_ n11_ n12_ n13_ n14_ n15_ n16_ n17_ n18_ n19_ n20_ n21_ n22_
 clear hb hbox hg
 obtain ⟨Ao112, co112, eo112⟩ := Kd.R_slice HO248.out
 (first | subst eo112 | (injection eo112 with f1_ f2_ f3_; have f4_ := f1_.symm; have f5_ := f3_.symm; clear f1_ f2_ f3_; subst f4_; subst f5_))
 refine hK.out _ _ ⟨(blk_cell BK201.out 0).trans rfl, (blk_cell BK201.out 1).trans rfl, (blk_cell BK202.out 0).trans rfl, (blk_cell BK202.out 1).trans rfl, (blk_cell BK202.out 2).trans rfl, (blk_cell BK202.out 3).trans rfl⟩ (fun hHeld => ?_)
 clear hK K
 refine norm_ (a' := ?_) ?_ ?_
 rotate_left
 {
 show Act.put _ (some 14) _ = _
 simp only [Act.put, sT, sZ, sU, i64_w, i32_w]
 rfl
 }
 refine one_ (i := 4) (N := some 84) #[true, true, true, true, true, false, false, false, true, false, false] rfl rfl (one_of HT_.out (by kernel_rfl)) (by decide) (fun K hK => ?_)
 refine goes_ Try.func26 (by kernel_rfl) rfl #[.agg #[.int .i64 t245, .slice Ao112 t246.length co112], .agg #[.int .i64 t249, .int .i64 t250, .int .i64 t251, .int .i64 t252]] (by rfl) rfl rfl (by (try simp only [List.map_toArray, List.map_cons, List.map_nil]); first | done | rfl | (simp only [List.length_drop, List.length_take]; rfl)) ?_
 with_reducible refine (impl_WithLink.calls t245 _ _ t246 t249 t250 t251 t252 t253 t254 t257 _ ?side1 ?side2 A98.out).mono ?_
 (case side1 => repeat (first | exact (Kd.R_reads' HO248.out).2.2 | (with_reducible refine Kd.C_alloc ?_ _) | (with_reducible refine Kd.C_drewN ?_ _) | (with_reducible refine Kd.C_drew ?_)))
 (case side2 => exact (Kd.R_reads' HO248.out).2.1)
 rintro e w113 ⟨v255, rfl, ho0, hb⟩
 refine ⟨_, rfl, ?_⟩
 have n0_ := mK (Kd.R_elder' (by (with_reducible repeat first|apply rA|apply rN|apply rD); exact HO_218001.out) (Kd.R_base ho0) hb)
 have n1_ := mK (Kd.R_elder' (by (with_reducible repeat first|apply rA|apply rN|apply rD); exact HO_223001.out) (Kd.R_base ho0) hb)
 have n2_ := mK (Kd.R_elder' (by (with_reducible repeat first|apply rA|apply rN|apply rD); exact HO_233001.out) (Kd.R_base ho0) hb)
 have n3_ := mK (Kd.R_elder' (by (with_reducible repeat first|apply rA|apply rN|apply rD); exact HO248.out) (Kd.R_base ho0) hb)
 have n4_ := mK (Kd.R_lower (Kd.R_new' (Kd.R_new' (Kd.R_new' (Kd.R_new' ho0 (Kd.R_lt (by (with_reducible repeat first|apply rA|apply rN|apply rD); exact HO_218001.out))) (Kd.R_lt (by (with_reducible repeat first|apply rA|apply rN|apply rD); exact HO_223001.out))) (Kd.R_lt (by (with_reducible repeat first|apply rA|apply rN|apply rD); exact HO_233001.out))) (Kd.R_lt (by (with_reducible repeat first|apply rA|apply rN|apply rD); exact HO248.out))) (below_size (by repeat first|(with_reducible first|exact HB.out|apply bA|apply bN|apply bD|refine bS ?_ GE201.out|refine bS ?_ GE202.out|refine bS ?_ GE217.out|refine bS ?_ GE222.out|refine bS ?_ GE232.out|refine bS ?_ GE258.out)|exact HB.out)))
 have n5_ := mK (blk_below (by (with_reducible repeat first|apply kN|apply kD|apply kA); exact BK201.out) hb)
 have n6_ := mK (blk_below (by (with_reducible repeat first|apply kN|apply kD|apply kA); exact BK202.out) hb)
 have n7_ := mK (blk_below (by (with_reducible repeat first|apply kN|apply kD|apply kA); exact BK217.out) hb)
 have n8_ := mK (blk_below (by (with_reducible repeat first|apply kN|apply kD|apply kA); exact BK222.out) hb)
 have n9_ := mK (blk_below (by (with_reducible repeat first|apply kN|apply kD|apply kA); exact BK232.out) hb)
 have n10_ := mK (blk_below (by (with_reducible repeat first|apply kN|apply kD|apply kA); exact BK258.out) hb)
 have n11_ := mK (below_step (by repeat first|(with_reducible first|exact HB.out|apply bA|apply bN|apply bD|refine bS ?_ GE201.out|refine bS ?_ GE202.out|refine bS ?_ GE217.out|refine bS ?_ GE222.out|refine bS ?_ GE232.out|refine bS ?_ GE258.out)|exact HB.out) hb)
 clear HO_218001
 clear HO_223001
 clear HO_233001
 clear HO248
 clear BK201
 clear BK202
 clear BK217
 clear BK222
 clear BK232
 clear BK258
 clear HB
 have HO_218001 := n0_
 have HO_223001 := n1_
 have HO_233001 := n2_
 have HO248 := n3_
 have HO256 := n4_
 have BK201 := n5_
 have BK202 := n6_
 have BK217 := n7_
 have BK222 := n8_
 have BK232 := n9_
 have BK258 := n10_
 have HB := n11_
 clear n0_ n1_ n2_ n3_ n4_ n5_ n6_ n7_ n8_ n9_ n10_ n11_
 (try clear hb)
 (try clear hb2)
 (try clear hk)
 (try clear hi)
 (try clear ho0)
 refine hK.out _ _ ⟨(blk_cell BK201.out 0).trans rfl, (blk_cell BK201.out 1).trans rfl, (blk_cell BK202.out 0).trans rfl, (blk_cell BK202.out 1).trans rfl, (blk_cell BK202.out 2).trans rfl, (blk_cell BK202.out 3).trans rfl⟩ (fun hHeld => ?_)
 clear hK K
 refine norm_ (a' := ?_) ?_ ?_
 rotate_left
 {
 show Act.put _ (some 84) _ = _
 simp only [Act.put, sT, sZ, sU, i64_w, i32_w]
 rfl
 }
 refine pure_ (i := 5) (N := some 79) (v := ?_) (a' := ?_) #[true, true, true, true, true, true, false, false, true, false, false] rfl rfl (any_of HT_.out (by kernel_rfl)) (fun _ _ _ h => h) (Or.inl ⟨by rfl, ?_⟩) ?_ ?_
 rotate_left
 {
 intro w'
 go_simp
 with_reducible rfl
 }
 rotate_left
 {
 simp only [Act.put, sT, sZ, sU, i64_w, i32_w]
 rfl
 }
 refine pure_ (i := 6) (N := some 85) (v := ?_) (a' := ?_) #[true, true, true, true, true, true, true, false, true, false, false] rfl rfl (any_of HT_.out (by kernel_rfl)) (fun _ _ _ h => h) (Or.inl ⟨by rfl, ?_⟩) ?_ ?_
 rotate_left
 {
 intro w'
 go_simp
 with_reducible rfl
 }
 rotate_left
 {
 simp only [Act.put, sT, sZ, sU, i64_w, i32_w]
 rfl
 }
 refine pure_ (i := 7) (N := some 86) (v := ?_) (a' := ?_) #[true, true, true, true, true, true, true, true, true, false, false] rfl rfl (any_of HT_.out (by kernel_rfl)) (fun _ _ _ h => h) (Or.inl ⟨by rfl, ?_⟩) ?_ ?_
 rotate_left
 {
 intro w'
 go_simp
 with_reducible rfl
 }
 rotate_left
 {
 simp only [Act.put, sT, sZ, sU, i64_w, i32_w]
 rfl
 }
 exact norm_ (by simp only [putAll, Act.put, sT, sZ, sU]) (hCont (.slice Ao112 t246.length co112, v255, gb258) _ ⟨hHeld, (Kd.R_mono HO248.out (fun _ hk => ⟨hk.2, ⟨hk.1.1.1.2, ⟨hk.1.1.2, hk.1.2⟩⟩⟩)), (Kd.R_mono HO256.out (fun _ hk => ⟨hk.2, ⟨hk.1.1.1.2, ⟨hk.1.1.2, hk.1.2⟩⟩⟩)), (Kd.R_mono HO_218001.out (fun _ hk => ⟨hk.1.2, ⟨hk.2, ⟨hk.1.1.1, hk.1.1.2⟩⟩⟩)), (Kd.R_mono HO_223001.out (fun _ hk => ⟨hk.1.2, ⟨hk.2, ⟨hk.1.1.1, hk.1.1.2⟩⟩⟩)), (Kd.R_mono HO_233001.out (fun _ hk => ⟨hk.1.2, ⟨hk.2, ⟨hk.1.1.1, hk.1.1.2⟩⟩⟩)), BK201.out, BK202.out, BK217.out, BK222.out, BK232.out, BK258.out, GW258.out, GE258.out, NB201_258.out, NB258_201.out, NB202_258.out, NB258_202.out, NB217_258.out, NB258_217.out, NB222_258.out, NB258_222.out, NB232_258.out, NB258_232.out, HB.out⟩)
 }
 }
 {
 skip
 refine box_step ?hg (N := 14) ?hd (cs := #[.int .i64 0, .slice none 0 0]) (t := 29) ?hr ?_; (case hd => rfl); (case hg => rfl); (case hr => go_simp <;> rfl)
 intro gb258 hg w110 hbox hb
 have n0_ := mK (Kd.R_below (by (with_reducible repeat first|apply rA|apply rN|apply rD); exact HO_218001.out) hb)
 have n1_ := mK (Kd.R_below (by (with_reducible repeat first|apply rA|apply rN|apply rD); exact HO_223001.out) hb)
 have n2_ := mK (Kd.R_below (by (with_reducible repeat first|apply rA|apply rN|apply rD); exact HO_233001.out) hb)
 have n3_ := mK (Kd.R_below (by (with_reducible repeat first|apply rA|apply rN|apply rD); exact HO248.out) hb)
 have n4_ := mK (blk_below (by (with_reducible repeat first|apply kN|apply kD|apply kA); exact BK201.out) hb)
 have n5_ := mK (blk_below (by (with_reducible repeat first|apply kN|apply kD|apply kA); exact BK202.out) hb)
 have n6_ := mK (blk_below (by (with_reducible repeat first|apply kN|apply kD|apply kA); exact BK217.out) hb)
 have n7_ := mK (blk_below (by (with_reducible repeat first|apply kN|apply kD|apply kA); exact BK222.out) hb)
 have n8_ := mK (blk_below (by (with_reducible repeat first|apply kN|apply kD|apply kA); exact BK232.out) hb)
 have n9_ := mK (below_step (by repeat first|(with_reducible first|exact HB.out|apply bA|apply bN|apply bD|refine bS ?_ GE201.out|refine bS ?_ GE202.out|refine bS ?_ GE217.out|refine bS ?_ GE222.out|refine bS ?_ GE232.out)|exact HB.out) hb)
 have n10_ := mK (hbox)
 have n11_ := mK ((by rw [hg]; exact (below_size (by repeat first|(with_reducible first|exact HB.out|apply bA|apply bN|apply bD|refine bS ?_ GE201.out|refine bS ?_ GE202.out|refine bS ?_ GE217.out|refine bS ?_ GE222.out|refine bS ?_ GE232.out)|exact HB.out)) : w.heap.size ≤ gb258))
 have n12_ := mK ((by rw [hg]; exact (below_size (by repeat first|(with_reducible first|exact HB.out|apply bA|apply bN|apply bD|refine bS ?_ GE201.out|refine bS ?_ GE202.out|refine bS ?_ GE217.out|refine bS ?_ GE222.out|refine bS ?_ GE232.out)|exact HB.out)) : w.heap.size ≤ gb258))
 have n13_ := mK ((by rw [hg]; exact Nat.ne_of_lt (blk_lt (by (with_reducible repeat first|apply kN|apply kD|apply kA); exact BK201.out)) : gb201 ≠ gb258))
 have n14_ := mK ((by rw [hg]; exact Nat.ne_of_gt (blk_lt (by (with_reducible repeat first|apply kN|apply kD|apply kA); exact BK201.out)) : gb258 ≠ gb201))
 have n15_ := mK ((by rw [hg]; exact Nat.ne_of_lt (blk_lt (by (with_reducible repeat first|apply kN|apply kD|apply kA); exact BK202.out)) : gb202 ≠ gb258))
 have n16_ := mK ((by rw [hg]; exact Nat.ne_of_gt (blk_lt (by (with_reducible repeat first|apply kN|apply kD|apply kA); exact BK202.out)) : gb258 ≠ gb202))
 have n17_ := mK ((by rw [hg]; exact Nat.ne_of_lt (blk_lt (by (with_reducible repeat first|apply kN|apply kD|apply kA); exact BK217.out)) : gb217 ≠ gb258))
 have n18_ := mK ((by rw [hg]; exact Nat.ne_of_gt (blk_lt (by (with_reducible repeat first|apply kN|apply kD|apply kA); exact BK217.out)) : gb258 ≠ gb217))
 have n19_ := mK ((by rw [hg]; exact Nat.ne_of_lt (blk_lt (by (with_reducible repeat first|apply kN|apply kD|apply kA); exact BK222.out)) : gb222 ≠ gb258))
 have n20_ := mK ((by rw [hg]; exact Nat.ne_of_gt (blk_lt (by (with_reducible repeat first|apply kN|apply kD|apply kA); exact BK222.out)) : gb258 ≠ gb222))
 have n21_ := mK ((by rw [hg]; exact Nat.ne_of_lt (blk_lt (by (with_reducible repeat first|apply kN|apply kD|apply kA); exact BK232.out)) : gb232 ≠ gb258))
 have n22_ := mK ((by rw [hg]; exact Nat.ne_of_gt (blk_lt (by (with_reducible repeat first|apply kN|apply kD|apply kA); exact BK232.out)) : gb258 ≠ gb232))
 clear HO_218001
 clear HO_223001
 clear HO_233001
 clear HO248
 clear BK201
 clear BK202
 clear BK217
 clear BK222
 clear BK232
 clear HB
 have HO_218001 := n0_
 have HO_223001 := n1_
 have HO_233001 := n2_
 have HO248 := n3_
 have BK201 := n4_
 have BK202 := n5_
 have BK217 := n6_
 have BK222 := n7_
 have BK232 := n8_
 have HB := n9_
 have BK258 := n10_
 have GW258 := n11_
 have GE258 := n12_
 have NB201_258 := n13_
 have NB258_201 := n14_
 have NB202_258 := n15_
 have NB258_202 := n16_
 have NB217_258 := n17_
 have NB258_217 := n18_
 have NB222_258 := n19_
 have NB258_222 := n20_
 have NB232_258 := n21_
 have NB258_232 := n22_
 clear n0_ n1_ n2_ n3_ n4_ n5_ n6_ n7_ n8_ n9_ n10_ n11_ n12_ n13_ n14_ n15_ n16_ n17_ n18_ n19_ n20_ n21_ n22_
 clear hb hbox hg
 refine hK.out _ _ ⟨(blk_cell BK201.out 0).trans rfl, (blk_cell BK201.out 1).trans rfl, (blk_cell BK202.out 0).trans rfl, (blk_cell BK202.out 1).trans rfl, (blk_cell BK202.out 2).trans rfl, (blk_cell BK202.out 3).trans rfl⟩ (fun hHeld => ?_)
 clear hK K
 refine norm_ (a' := ?_) ?_ ?_
 rotate_left
 {
 show Act.put _ (some 14) _ = _
 simp only [Act.put, sT, sZ, sU, i64_w, i32_w]
 rfl
 }
 refine one_ (i := 3) (N := some 83) #[true, true, true, true, false, false, false, false, true, false, false] rfl rfl (one_of HT_.out (by kernel_rfl)) (by decide) (fun K hK => ?_)
 refine goes_ Try.func25 (by kernel_rfl) rfl #[.agg #[.int .i64 a1_0, .int .i64 a1_1, .int .i64 a1_2, .int .i64 a1_3]] (by rfl) rfl rfl (by (try simp only [List.map_toArray, List.map_cons, List.map_nil]); first | done | rfl | (simp only [List.length_drop, List.length_take]; rfl)) ?_
 with_reducible refine (laws_toLink.calls a1_0 a1_1 a1_2 a1_3 t249 t250 t251 t252 _ A97.out).mono ?_
 rintro e w111 ⟨rfl, hb⟩
 refine ⟨_, rfl, ?_⟩
 have n0_ := mK (Kd.R_below (by (with_reducible repeat first|apply rA|apply rN|apply rD); exact HO_218001.out) hb)
 have n1_ := mK (Kd.R_below (by (with_reducible repeat first|apply rA|apply rN|apply rD); exact HO_223001.out) hb)
 have n2_ := mK (Kd.R_below (by (with_reducible repeat first|apply rA|apply rN|apply rD); exact HO_233001.out) hb)
 have n3_ := mK (Kd.R_below (by (with_reducible repeat first|apply rA|apply rN|apply rD); exact HO248.out) hb)
 have n4_ := mK (blk_below (by (with_reducible repeat first|apply kN|apply kD|apply kA); exact BK201.out) hb)
 have n5_ := mK (blk_below (by (with_reducible repeat first|apply kN|apply kD|apply kA); exact BK202.out) hb)
 have n6_ := mK (blk_below (by (with_reducible repeat first|apply kN|apply kD|apply kA); exact BK217.out) hb)
 have n7_ := mK (blk_below (by (with_reducible repeat first|apply kN|apply kD|apply kA); exact BK222.out) hb)
 have n8_ := mK (blk_below (by (with_reducible repeat first|apply kN|apply kD|apply kA); exact BK232.out) hb)
 have n9_ := mK (blk_below (by (with_reducible repeat first|apply kN|apply kD|apply kA); exact BK258.out) hb)
 have n10_ := mK (below_step (by repeat first|(with_reducible first|exact HB.out|apply bA|apply bN|apply bD|refine bS ?_ GE201.out|refine bS ?_ GE202.out|refine bS ?_ GE217.out|refine bS ?_ GE222.out|refine bS ?_ GE232.out|refine bS ?_ GE258.out)|exact HB.out) hb)
 clear HO_218001
 clear HO_223001
 clear HO_233001
 clear HO248
 clear BK201
 clear BK202
 clear BK217
 clear BK222
 clear BK232
 clear BK258
 clear HB
 have HO_218001 := n0_
 have HO_223001 := n1_
 have HO_233001 := n2_
 have HO248 := n3_
 have BK201 := n4_
 have BK202 := n5_
 have BK217 := n6_
 have BK222 := n7_
 have BK232 := n8_
 have BK258 := n9_
 have HB := n10_
 clear n0_ n1_ n2_ n3_ n4_ n5_ n6_ n7_ n8_ n9_ n10_
 (try clear hb)
 (try clear hb2)
 (try clear hk)
 (try clear hi)
 obtain ⟨Ao112, co112, eo112⟩ := Kd.R_slice HO248.out
 (first | subst eo112 | (injection eo112 with f1_ f2_ f3_; have f4_ := f1_.symm; have f5_ := f3_.symm; clear f1_ f2_ f3_; subst f4_; subst f5_))
 refine hK.out _ _ ⟨(blk_cell BK201.out 0).trans rfl, (blk_cell BK201.out 1).trans rfl, (blk_cell BK202.out 0).trans rfl, (blk_cell BK202.out 1).trans rfl, (blk_cell BK202.out 2).trans rfl, (blk_cell BK202.out 3).trans rfl⟩ (fun hHeld => ?_)
 clear hK K
 refine norm_ (a' := ?_) ?_ ?_
 rotate_left
 {
 show Act.put _ (some 83) _ = _
 simp only [Act.put, sT, sZ, sU, i64_w, i32_w]
 rfl
 }
 refine one_ (i := 4) (N := some 84) #[true, true, true, true, true, false, false, false, true, false, false] rfl rfl (one_of HT_.out (by kernel_rfl)) (by decide) (fun K hK => ?_)
 refine goes_ Try.func26 (by kernel_rfl) rfl #[.agg #[.int .i64 t245, .slice Ao112 t246.length co112], .agg #[.int .i64 t249, .int .i64 t250, .int .i64 t251, .int .i64 t252]] (by rfl) rfl rfl (by (try simp only [List.map_toArray, List.map_cons, List.map_nil]); first | done | rfl | (simp only [List.length_drop, List.length_take]; rfl)) ?_
 with_reducible refine (impl_WithLink.calls t245 _ _ t246 t249 t250 t251 t252 t253 t254 t257 _ ?side1 ?side2 A98.out).mono ?_
 (case side1 => repeat (first | exact (Kd.R_reads' HO248.out).2.2 | (with_reducible refine Kd.C_alloc ?_ _) | (with_reducible refine Kd.C_drewN ?_ _) | (with_reducible refine Kd.C_drew ?_)))
 (case side2 => exact (Kd.R_reads' HO248.out).2.1)
 rintro e w113 ⟨v255, rfl, ho0, hb⟩
 refine ⟨_, rfl, ?_⟩
 have n0_ := mK (Kd.R_elder' (by (with_reducible repeat first|apply rA|apply rN|apply rD); exact HO_218001.out) (Kd.R_base ho0) hb)
 have n1_ := mK (Kd.R_elder' (by (with_reducible repeat first|apply rA|apply rN|apply rD); exact HO_223001.out) (Kd.R_base ho0) hb)
 have n2_ := mK (Kd.R_elder' (by (with_reducible repeat first|apply rA|apply rN|apply rD); exact HO_233001.out) (Kd.R_base ho0) hb)
 have n3_ := mK (Kd.R_elder' (by (with_reducible repeat first|apply rA|apply rN|apply rD); exact HO248.out) (Kd.R_base ho0) hb)
 have n4_ := mK (Kd.R_lower (Kd.R_new' (Kd.R_new' (Kd.R_new' (Kd.R_new' ho0 (Kd.R_lt (by (with_reducible repeat first|apply rA|apply rN|apply rD); exact HO_218001.out))) (Kd.R_lt (by (with_reducible repeat first|apply rA|apply rN|apply rD); exact HO_223001.out))) (Kd.R_lt (by (with_reducible repeat first|apply rA|apply rN|apply rD); exact HO_233001.out))) (Kd.R_lt (by (with_reducible repeat first|apply rA|apply rN|apply rD); exact HO248.out))) (below_size (by repeat first|(with_reducible first|exact HB.out|apply bA|apply bN|apply bD|refine bS ?_ GE201.out|refine bS ?_ GE202.out|refine bS ?_ GE217.out|refine bS ?_ GE222.out|refine bS ?_ GE232.out|refine bS ?_ GE258.out)|exact HB.out)))
 have n5_ := mK (blk_below (by (with_reducible repeat first|apply kN|apply kD|apply kA); exact BK201.out) hb)
 have n6_ := mK (blk_below (by (with_reducible repeat first|apply kN|apply kD|apply kA); exact BK202.out) hb)
 have n7_ := mK (blk_below (by (with_reducible repeat first|apply kN|apply kD|apply kA); exact BK217.out) hb)
 have n8_ := mK (blk_below (by (with_reducible repeat first|apply kN|apply kD|apply kA); exact BK222.out) hb)
 have n9_ := mK (blk_below (by (with_reducible repeat first|apply kN|apply kD|apply kA); exact BK232.out) hb)
 have n10_ := mK (blk_below (by (with_reducible repeat first|apply kN|apply kD|apply kA); exact BK258.out) hb)
 have n11_ := mK (below_step (by repeat first|(with_reducible first|exact HB.out|apply bA|apply bN|apply bD|refine bS ?_ GE201.out|refine bS ?_ GE202.out|refine bS ?_ GE217.out|refine bS ?_ GE222.out|refine bS ?_ GE232.out|refine bS ?_ GE258.out)|exact HB.out) hb)
 clear HO_218001
 clear HO_223001
 clear HO_233001
 clear HO248
 clear BK201
 clear BK202
 clear BK217
 clear BK222
 clear BK232
 clear BK258
 clear HB
 have HO_218001 := n0_
 have HO_223001 := n1_
 have HO_233001 := n2_
 have HO248 := n3_
 have HO256 := n4_
 have BK201 := n5_
 have BK202 := n6_
 have BK217 := n7_
 have BK222 := n8_
 have BK232 := n9_
 have BK258 := n10_
 have HB := n11_
 clear n0_ n1_ n2_ n3_ n4_ n5_ n6_ n7_ n8_ n9_ n10_ n11_
 (try clear hb)
 (try clear hb2)
 (try clear hk)
 (try clear hi)
 (try clear ho0)
 refine hK.out _ _ ⟨(blk_cell BK201.out 0).trans rfl, (blk_cell BK201.out 1).trans rfl, (blk_cell BK202.out 0).trans rfl, (blk_cell BK202.out 1).trans rfl, (blk_cell BK202.out 2).trans rfl, (blk_cell BK202.out 3).trans rfl⟩ (fun hHeld => ?_)
 clear hK K
 refine norm_ (a' := ?_) ?_ ?_
 rotate_left
 {
 show Act.put _ (some 84) _ = _
 simp only [Act.put, sT, sZ, sU, i64_w, i32_w]
 rfl
 }
 refine pure_ (i := 5) (N := some 79) (v := ?_) (a' := ?_) #[true, true, true, true, true, true, false, false, true, false, false] rfl rfl (any_of HT_.out (by kernel_rfl)) (fun _ _ _ h => h) (Or.inl ⟨by rfl, ?_⟩) ?_ ?_
 rotate_left
 {
 intro w'
 go_simp
 with_reducible rfl
 }
 rotate_left
 {
 simp only [Act.put, sT, sZ, sU, i64_w, i32_w]
 rfl
 }
 refine pure_ (i := 6) (N := some 85) (v := ?_) (a' := ?_) #[true, true, true, true, true, true, true, false, true, false, false] rfl rfl (any_of HT_.out (by kernel_rfl)) (fun _ _ _ h => h) (Or.inl ⟨by rfl, ?_⟩) ?_ ?_
 rotate_left
 {
 intro w'
 go_simp
 with_reducible rfl
 }
 rotate_left
 {
 simp only [Act.put, sT, sZ, sU, i64_w, i32_w]
 rfl
 }
 refine pure_ (i := 7) (N := some 86) (v := ?_) (a' := ?_) #[true, true, true, true, true, true, true, true, true, false, false] rfl rfl (any_of HT_.out (by kernel_rfl)) (fun _ _ _ h => h) (Or.inl ⟨by rfl, ?_⟩) ?_ ?_
 rotate_left
 {
 intro w'
 go_simp
 with_reducible rfl
 }
 rotate_left
 {
 simp only [Act.put, sT, sZ, sU, i64_w, i32_w]
 rfl
 }
 exact norm_ (by simp only [putAll, Act.put, sT, sZ, sU]) (hCont (.slice Ao112 t246.length co112, v255, gb258) _ ⟨hHeld, (Kd.R_mono HO248.out (fun _ hk => ⟨hk.2, ⟨hk.1.1.1.2, ⟨hk.1.1.2, hk.1.2⟩⟩⟩)), (Kd.R_mono HO256.out (fun _ hk => ⟨hk.2, ⟨hk.1.1.1.2, ⟨hk.1.1.2, hk.1.2⟩⟩⟩)), (Kd.R_mono HO_218001.out (fun _ hk => ⟨hk.1.2, ⟨hk.2, ⟨hk.1.1.1, hk.1.1.2⟩⟩⟩)), (Kd.R_mono HO_223001.out (fun _ hk => ⟨hk.1.2, ⟨hk.2, ⟨hk.1.1.1, hk.1.1.2⟩⟩⟩)), (Kd.R_mono HO_233001.out (fun _ hk => ⟨hk.1.2, ⟨hk.2, ⟨hk.1.1.1, hk.1.1.2⟩⟩⟩)), BK201.out, BK202.out, BK217.out, BK222.out, BK232.out, BK258.out, GW258.out, GE258.out, NB201_258.out, NB258_201.out, NB202_258.out, NB258_202.out, NB217_258.out, NB258_217.out, NB222_258.out, NB258_222.out, NB232_258.out, NB258_232.out, HB.out⟩)
 }
 }
 {
 skip
 refine box_step ?hg (N := 14) ?hd (cs := #[.int .i64 0, .slice none 0 0]) (t := 29) ?hr ?_; (case hd => rfl); (case hg => rfl); (case hr => go_simp <;> rfl)
 intro gb258 hg w109 hbox hb
 have n0_ := mK (Kd.R_below (by (with_reducible repeat first|apply rA|apply rN|apply rD); exact HO_218001.out) hb)
 have n1_ := mK (Kd.R_below (by (with_reducible repeat first|apply rA|apply rN|apply rD); exact HO_223001.out) hb)
 have n2_ := mK (Kd.R_below (by (with_reducible repeat first|apply rA|apply rN|apply rD); exact HO_233001.out) hb)
 have n3_ := mK (blk_below (by (with_reducible repeat first|apply kN|apply kD|apply kA); exact BK201.out) hb)
 have n4_ := mK (blk_below (by (with_reducible repeat first|apply kN|apply kD|apply kA); exact BK202.out) hb)
 have n5_ := mK (blk_below (by (with_reducible repeat first|apply kN|apply kD|apply kA); exact BK217.out) hb)
 have n6_ := mK (blk_below (by (with_reducible repeat first|apply kN|apply kD|apply kA); exact BK222.out) hb)
 have n7_ := mK (blk_below (by (with_reducible repeat first|apply kN|apply kD|apply kA); exact BK232.out) hb)
 have n8_ := mK (below_step (by repeat first|(with_reducible first|exact HB.out|apply bA|apply bN|apply bD|refine bS ?_ GE201.out|refine bS ?_ GE202.out|refine bS ?_ GE217.out|refine bS ?_ GE222.out|refine bS ?_ GE232.out)|exact HB.out) hb)
 have n9_ := mK (hbox)
 have n10_ := mK ((by rw [hg]; exact (below_size (by repeat first|(with_reducible first|exact HB.out|apply bA|apply bN|apply bD|refine bS ?_ GE201.out|refine bS ?_ GE202.out|refine bS ?_ GE217.out|refine bS ?_ GE222.out|refine bS ?_ GE232.out)|exact HB.out)) : w.heap.size ≤ gb258))
 have n11_ := mK ((by rw [hg]; exact (below_size (by repeat first|(with_reducible first|exact HB.out|apply bA|apply bN|apply bD|refine bS ?_ GE201.out|refine bS ?_ GE202.out|refine bS ?_ GE217.out|refine bS ?_ GE222.out|refine bS ?_ GE232.out)|exact HB.out)) : w.heap.size ≤ gb258))
 have n12_ := mK ((by rw [hg]; exact Nat.ne_of_lt (blk_lt (by (with_reducible repeat first|apply kN|apply kD|apply kA); exact BK201.out)) : gb201 ≠ gb258))
 have n13_ := mK ((by rw [hg]; exact Nat.ne_of_gt (blk_lt (by (with_reducible repeat first|apply kN|apply kD|apply kA); exact BK201.out)) : gb258 ≠ gb201))
 have n14_ := mK ((by rw [hg]; exact Nat.ne_of_lt (blk_lt (by (with_reducible repeat first|apply kN|apply kD|apply kA); exact BK202.out)) : gb202 ≠ gb258))
 have n15_ := mK ((by rw [hg]; exact Nat.ne_of_gt (blk_lt (by (with_reducible repeat first|apply kN|apply kD|apply kA); exact BK202.out)) : gb258 ≠ gb202))
 have n16_ := mK ((by rw [hg]; exact Nat.ne_of_lt (blk_lt (by (with_reducible repeat first|apply kN|apply kD|apply kA); exact BK217.out)) : gb217 ≠ gb258))
 have n17_ := mK ((by rw [hg]; exact Nat.ne_of_gt (blk_lt (by (with_reducible repeat first|apply kN|apply kD|apply kA); exact BK217.out)) : gb258 ≠ gb217))
 have n18_ := mK ((by rw [hg]; exact Nat.ne_of_lt (blk_lt (by (with_reducible repeat first|apply kN|apply kD|apply kA); exact BK222.out)) : gb222 ≠ gb258))
 have n19_ := mK ((by rw [hg]; exact Nat.ne_of_gt (blk_lt (by (with_reducible repeat first|apply kN|apply kD|apply kA); exact BK222.out)) : gb258 ≠ gb222))
 have n20_ := mK ((by rw [hg]; exact Nat.ne_of_lt (blk_lt (by (with_reducible repeat first|apply kN|apply kD|apply kA); exact BK232.out)) : gb232 ≠ gb258))
 have n21_ := mK ((by rw [hg]; exact Nat.ne_of_gt (blk_lt (by (with_reducible repeat first|apply kN|apply kD|apply kA); exact BK232.out)) : gb258 ≠ gb232))
 clear HO_218001
 clear HO_223001
 clear HO_233001
 clear BK201
 clear BK202
 clear BK217
 clear BK222
 clear BK232
 clear HB
 have HO_218001 := n0_
 have HO_223001 := n1_
 have HO_233001 := n2_
 have BK201 := n3_
 have BK202 := n4_
 have BK217 := n5_
 have BK222 := n6_
 have BK232 := n7_
 have HB := n8_
 have BK258 := n9_
 have GW258 := n10_
 have GE258 := n11_
 have NB201_258 := n12_
 have NB258_201 := n13_
 have NB202_258 := n14_
 have NB258_202 := n15_
 have NB217_258 := n16_
 have NB258_217 := n17_
 have NB222_258 := n18_
 have NB258_222 := n19_
 have NB232_258 := n20_
 have NB258_232 := n21_
 clear n0_ n1_ n2_ n3_ n4_ n5_ n6_ n7_ n8_ n9_ n10_ n11_ n12_ n13_ n14_ n15_ n16_ n17_ n18_ n19_ n20_ n21_
 clear hb hbox hg
 refine hK.out _ _ ⟨(blk_cell BK201.out 0).trans rfl, (blk_cell BK201.out 1).trans rfl, (blk_cell BK202.out 0).trans rfl, (blk_cell BK202.out 1).trans rfl, (blk_cell BK202.out 2).trans rfl, (blk_cell BK202.out 3).trans rfl⟩ (fun hHeld => ?_)
 clear hK K
 refine norm_ (a' := ?_) ?_ ?_
 rotate_left
 {
 show Act.put _ (some 14) _ = _
 simp only [Act.put, sT, sZ, sU, i64_w, i32_w]
 rfl
 }
 refine one_ (i := 1) (N := some 81) #[true, true, true, false, false, false, false, false, true, false, false] rfl rfl (one_of HT_.out (by kernel_rfl)) (by decide) (fun K hK => ?_)
 refine goes_ Try.func13 (by kernel_rfl) rfl #[.agg #[.int .i64 a0_0, .slice A0_1 l0_1.length c0_1]] (by rfl) rfl rfl (by (try simp only [List.map_toArray, List.map_cons, List.map_nil]); first | done | rfl | (simp only [List.length_drop, List.length_take]; rfl)) ?_
 with_reducible refine (laws_toSimple.calls kj66 a0_0 _ _ l0_1 t245 t246 _ ?side1 ?side2 A96.out).mono ?_
 (case side1 => repeat (first | exact (Kd.C_below HR0_1.out HB.out) | (with_reducible refine Kd.C_alloc ?_ _) | (with_reducible refine Kd.C_drewN ?_ _) | (with_reducible refine Kd.C_drew ?_)))
 (case side2 => exact HC0_1.out)
 rintro e w110 ⟨v247, rfl, ho0, hb⟩
 refine ⟨_, rfl, ?_⟩
 have n0_ := mK (Kd.R_elder' (by (with_reducible repeat first|apply rA|apply rN|apply rD); exact HO_218001.out) (Kd.R_base ho0) hb)
 have n1_ := mK (Kd.R_elder' (by (with_reducible repeat first|apply rA|apply rN|apply rD); exact HO_223001.out) (Kd.R_base ho0) hb)
 have n2_ := mK (Kd.R_elder' (by (with_reducible repeat first|apply rA|apply rN|apply rD); exact HO_233001.out) (Kd.R_base ho0) hb)
 have n3_ := mK (Kd.R_lower (Kd.R_new' (Kd.R_new' (Kd.R_new' ho0 (Kd.R_lt (by (with_reducible repeat first|apply rA|apply rN|apply rD); exact HO_218001.out))) (Kd.R_lt (by (with_reducible repeat first|apply rA|apply rN|apply rD); exact HO_223001.out))) (Kd.R_lt (by (with_reducible repeat first|apply rA|apply rN|apply rD); exact HO_233001.out))) (below_size (by repeat first|(with_reducible first|exact HB.out|apply bA|apply bN|apply bD|refine bS ?_ GE201.out|refine bS ?_ GE202.out|refine bS ?_ GE217.out|refine bS ?_ GE222.out|refine bS ?_ GE232.out|refine bS ?_ GE258.out)|exact HB.out)))
 have n4_ := mK (blk_below (by (with_reducible repeat first|apply kN|apply kD|apply kA); exact BK201.out) hb)
 have n5_ := mK (blk_below (by (with_reducible repeat first|apply kN|apply kD|apply kA); exact BK202.out) hb)
 have n6_ := mK (blk_below (by (with_reducible repeat first|apply kN|apply kD|apply kA); exact BK217.out) hb)
 have n7_ := mK (blk_below (by (with_reducible repeat first|apply kN|apply kD|apply kA); exact BK222.out) hb)
 have n8_ := mK (blk_below (by (with_reducible repeat first|apply kN|apply kD|apply kA); exact BK232.out) hb)
 have n9_ := mK (blk_below (by (with_reducible repeat first|apply kN|apply kD|apply kA); exact BK258.out) hb)
 have n10_ := mK (below_step (by repeat first|(with_reducible first|exact HB.out|apply bA|apply bN|apply bD|refine bS ?_ GE201.out|refine bS ?_ GE202.out|refine bS ?_ GE217.out|refine bS ?_ GE222.out|refine bS ?_ GE232.out|refine bS ?_ GE258.out)|exact HB.out) hb)
 clear HO_218001
 clear HO_223001
 clear HO_233001
 clear BK201
 clear BK202
 clear BK217
 clear BK222
 clear BK232
 clear BK258
 clear HB
 have HO_218001 := n0_
 have HO_223001 := n1_
 have HO_233001 := n2_
 have HO248 := n3_
 have BK201 := n4_
 have BK202 := n5_
 have BK217 := n6_
 have BK222 := n7_
 have BK232 := n8_
 have BK258 := n9_
 have HB := n10_
 clear n0_ n1_ n2_ n3_ n4_ n5_ n6_ n7_ n8_ n9_ n10_
 (try clear hb)
 (try clear hb2)
 (try clear hk)
 (try clear hi)
 (try clear ho0)
 refine hK.out _ _ ⟨(blk_cell BK201.out 0).trans rfl, (blk_cell BK201.out 1).trans rfl, (blk_cell BK202.out 0).trans rfl, (blk_cell BK202.out 1).trans rfl, (blk_cell BK202.out 2).trans rfl, (blk_cell BK202.out 3).trans rfl⟩ (fun hHeld => ?_)
 clear hK K
 refine norm_ (a' := ?_) ?_ ?_
 rotate_left
 {
 show Act.put _ (some 81) _ = _
 simp only [Act.put, sT, sZ, sU, i64_w, i32_w]
 rfl
 }
 refine one_ (i := 3) (N := some 83) #[true, true, true, true, false, false, false, false, true, false, false] rfl rfl (one_of HT_.out (by kernel_rfl)) (by decide) (fun K hK => ?_)
 refine goes_ Try.func25 (by kernel_rfl) rfl #[.agg #[.int .i64 a1_0, .int .i64 a1_1, .int .i64 a1_2, .int .i64 a1_3]] (by rfl) rfl rfl (by (try simp only [List.map_toArray, List.map_cons, List.map_nil]); first | done | rfl | (simp only [List.length_drop, List.length_take]; rfl)) ?_
 with_reducible refine (laws_toLink.calls a1_0 a1_1 a1_2 a1_3 t249 t250 t251 t252 _ A97.out).mono ?_
 rintro e w111 ⟨rfl, hb⟩
 refine ⟨_, rfl, ?_⟩
 have n0_ := mK (Kd.R_below (by (with_reducible repeat first|apply rA|apply rN|apply rD); exact HO_218001.out) hb)
 have n1_ := mK (Kd.R_below (by (with_reducible repeat first|apply rA|apply rN|apply rD); exact HO_223001.out) hb)
 have n2_ := mK (Kd.R_below (by (with_reducible repeat first|apply rA|apply rN|apply rD); exact HO_233001.out) hb)
 have n3_ := mK (Kd.R_below (by (with_reducible repeat first|apply rA|apply rN|apply rD); exact HO248.out) hb)
 have n4_ := mK (blk_below (by (with_reducible repeat first|apply kN|apply kD|apply kA); exact BK201.out) hb)
 have n5_ := mK (blk_below (by (with_reducible repeat first|apply kN|apply kD|apply kA); exact BK202.out) hb)
 have n6_ := mK (blk_below (by (with_reducible repeat first|apply kN|apply kD|apply kA); exact BK217.out) hb)
 have n7_ := mK (blk_below (by (with_reducible repeat first|apply kN|apply kD|apply kA); exact BK222.out) hb)
 have n8_ := mK (blk_below (by (with_reducible repeat first|apply kN|apply kD|apply kA); exact BK232.out) hb)
 have n9_ := mK (blk_below (by (with_reducible repeat first|apply kN|apply kD|apply kA); exact BK258.out) hb)
 have n10_ := mK (below_step (by repeat first|(with_reducible first|exact HB.out|apply bA|apply bN|apply bD|refine bS ?_ GE201.out|refine bS ?_ GE202.out|refine bS ?_ GE217.out|refine bS ?_ GE222.out|refine bS ?_ GE232.out|refine bS ?_ GE258.out)|exact HB.out) hb)
 clear HO_218001
 clear HO_223001
 clear HO_233001
 clear HO248
 clear BK201
 clear BK202
 clear BK217
 clear BK222
 clear BK232
 clear BK258
 clear HB
 have HO_218001 := n0_
 have HO_223001 := n1_
 have HO_233001 := n2_
 have HO248 := n3_
 have BK201 := n4_
 have BK202 := n5_
 have BK217 := n6_
 have BK222 := n7_
 have BK232 := n8_
 have BK258 := n9_
 have HB := n10_
 clear n0_ n1_ n2_ n3_ n4_ n5_ n6_ n7_ n8_ n9_ n10_
 (try clear hb)
 (try clear hb2)
 (try clear hk)
 (try clear hi)
 obtain ⟨Ao112, co112, eo112⟩ := Kd.R_slice HO248.out
 (first | subst eo112 | (injection eo112 with f1_ f2_ f3_; have f4_ := f1_.symm; have f5_ := f3_.symm; clear f1_ f2_ f3_; subst f4_; subst f5_))
 refine hK.out _ _ ⟨(blk_cell BK201.out 0).trans rfl, (blk_cell BK201.out 1).trans rfl, (blk_cell BK202.out 0).trans rfl, (blk_cell BK202.out 1).trans rfl, (blk_cell BK202.out 2).trans rfl, (blk_cell BK202.out 3).trans rfl⟩ (fun hHeld => ?_)
 clear hK K
 refine norm_ (a' := ?_) ?_ ?_
 rotate_left
 {
 show Act.put _ (some 83) _ = _
 simp only [Act.put, sT, sZ, sU, i64_w, i32_w]
 rfl
 }
 refine one_ (i := 4) (N := some 84) #[true, true, true, true, true, false, false, false, true, false, false] rfl rfl (one_of HT_.out (by kernel_rfl)) (by decide) (fun K hK => ?_)
 refine goes_ Try.func26 (by kernel_rfl) rfl #[.agg #[.int .i64 t245, .slice Ao112 t246.length co112], .agg #[.int .i64 t249, .int .i64 t250, .int .i64 t251, .int .i64 t252]] (by rfl) rfl rfl (by (try simp only [List.map_toArray, List.map_cons, List.map_nil]); first | done | rfl | (simp only [List.length_drop, List.length_take]; rfl)) ?_
 with_reducible refine (impl_WithLink.calls t245 _ _ t246 t249 t250 t251 t252 t253 t254 t257 _ ?side1 ?side2 A98.out).mono ?_
 (case side1 => repeat (first | exact (Kd.R_reads' HO248.out).2.2 | (with_reducible refine Kd.C_alloc ?_ _) | (with_reducible refine Kd.C_drewN ?_ _) | (with_reducible refine Kd.C_drew ?_)))
 (case side2 => exact (Kd.R_reads' HO248.out).2.1)
 rintro e w113 ⟨v255, rfl, ho0, hb⟩
 refine ⟨_, rfl, ?_⟩
 have n0_ := mK (Kd.R_elder' (by (with_reducible repeat first|apply rA|apply rN|apply rD); exact HO_218001.out) (Kd.R_base ho0) hb)
 have n1_ := mK (Kd.R_elder' (by (with_reducible repeat first|apply rA|apply rN|apply rD); exact HO_223001.out) (Kd.R_base ho0) hb)
 have n2_ := mK (Kd.R_elder' (by (with_reducible repeat first|apply rA|apply rN|apply rD); exact HO_233001.out) (Kd.R_base ho0) hb)
 have n3_ := mK (Kd.R_elder' (by (with_reducible repeat first|apply rA|apply rN|apply rD); exact HO248.out) (Kd.R_base ho0) hb)
 have n4_ := mK (Kd.R_lower (Kd.R_new' (Kd.R_new' (Kd.R_new' (Kd.R_new' ho0 (Kd.R_lt (by (with_reducible repeat first|apply rA|apply rN|apply rD); exact HO_218001.out))) (Kd.R_lt (by (with_reducible repeat first|apply rA|apply rN|apply rD); exact HO_223001.out))) (Kd.R_lt (by (with_reducible repeat first|apply rA|apply rN|apply rD); exact HO_233001.out))) (Kd.R_lt (by (with_reducible repeat first|apply rA|apply rN|apply rD); exact HO248.out))) (below_size (by repeat first|(with_reducible first|exact HB.out|apply bA|apply bN|apply bD|refine bS ?_ GE201.out|refine bS ?_ GE202.out|refine bS ?_ GE217.out|refine bS ?_ GE222.out|refine bS ?_ GE232.out|refine bS ?_ GE258.out)|exact HB.out)))
 have n5_ := mK (blk_below (by (with_reducible repeat first|apply kN|apply kD|apply kA); exact BK201.out) hb)
 have n6_ := mK (blk_below (by (with_reducible repeat first|apply kN|apply kD|apply kA); exact BK202.out) hb)
 have n7_ := mK (blk_below (by (with_reducible repeat first|apply kN|apply kD|apply kA); exact BK217.out) hb)
 have n8_ := mK (blk_below (by (with_reducible repeat first|apply kN|apply kD|apply kA); exact BK222.out) hb)
 have n9_ := mK (blk_below (by (with_reducible repeat first|apply kN|apply kD|apply kA); exact BK232.out) hb)
 have n10_ := mK (blk_below (by (with_reducible repeat first|apply kN|apply kD|apply kA); exact BK258.out) hb)
 have n11_ := mK (below_step (by repeat first|(with_reducible first|exact HB.out|apply bA|apply bN|apply bD|refine bS ?_ GE201.out|refine bS ?_ GE202.out|refine bS ?_ GE217.out|refine bS ?_ GE222.out|refine bS ?_ GE232.out|refine bS ?_ GE258.out)|exact HB.out) hb)
 clear HO_218001
 clear HO_223001
 clear HO_233001
 clear HO248
 clear BK201
 clear BK202
 clear BK217
 clear BK222
 clear BK232
 clear BK258
 clear HB
 have HO_218001 := n0_
 have HO_223001 := n1_
 have HO_233001 := n2_
 have HO248 := n3_
 have HO256 := n4_
 have BK201 := n5_
 have BK202 := n6_
 have BK217 := n7_
 have BK222 := n8_
 have BK232 := n9_
 have BK258 := n10_
 have HB := n11_
 clear n0_ n1_ n2_ n3_ n4_ n5_ n6_ n7_ n8_ n9_ n10_ n11_
 (try clear hb)
 (try clear hb2)
 (try clear hk)
 (try clear hi)
 (try clear ho0)
 refine hK.out _ _ ⟨(blk_cell BK201.out 0).trans rfl, (blk_cell BK201.out 1).trans rfl, (blk_cell BK202.out 0).trans rfl, (blk_cell BK202.out 1).trans rfl, (blk_cell BK202.out 2).trans rfl, (blk_cell BK202.out 3).trans rfl⟩ (fun hHeld => ?_)
 clear hK K
 refine norm_ (a' := ?_) ?_ ?_
 rotate_left
 {
 show Act.put _ (some 84) _ = _
 simp only [Act.put, sT, sZ, sU, i64_w, i32_w]
 rfl
 }
 refine pure_ (i := 5) (N := some 79) (v := ?_) (a' := ?_) #[true, true, true, true, true, true, false, false, true, false, false] rfl rfl (any_of HT_.out (by kernel_rfl)) (fun _ _ _ h => h) (Or.inl ⟨by rfl, ?_⟩) ?_ ?_
 rotate_left
 {
 intro w'
 go_simp
 with_reducible rfl
 }
 rotate_left
 {
 simp only [Act.put, sT, sZ, sU, i64_w, i32_w]
 rfl
 }
 refine pure_ (i := 6) (N := some 85) (v := ?_) (a' := ?_) #[true, true, true, true, true, true, true, false, true, false, false] rfl rfl (any_of HT_.out (by kernel_rfl)) (fun _ _ _ h => h) (Or.inl ⟨by rfl, ?_⟩) ?_ ?_
 rotate_left
 {
 intro w'
 go_simp
 with_reducible rfl
 }
 rotate_left
 {
 simp only [Act.put, sT, sZ, sU, i64_w, i32_w]
 rfl
 }
 refine pure_ (i := 7) (N := some 86) (v := ?_) (a' := ?_) #[true, true, true, true, true, true, true, true, true, false, false] rfl rfl (any_of HT_.out (by kernel_rfl)) (fun _ _ _ h => h) (Or.inl ⟨by rfl, ?_⟩) ?_ ?_
 rotate_left
 {
 intro w'
 go_simp
 with_reducible rfl
 }
 rotate_left
 {
 simp only [Act.put, sT, sZ, sU, i64_w, i32_w]
 rfl
 }
 exact norm_ (by simp only [putAll, Act.put, sT, sZ, sU]) (hCont (.slice Ao112 t246.length co112, v255, gb258) _ ⟨hHeld, (Kd.R_mono HO248.out (fun _ hk => ⟨hk.2, ⟨hk.1.1.1.2, ⟨hk.1.1.2, hk.1.2⟩⟩⟩)), (Kd.R_mono HO256.out (fun _ hk => ⟨hk.2, ⟨hk.1.1.1.2, ⟨hk.1.1.2, hk.1.2⟩⟩⟩)), (Kd.R_mono HO_218001.out (fun _ hk => ⟨hk.1.2, ⟨hk.2, ⟨hk.1.1.1, hk.1.1.2⟩⟩⟩)), (Kd.R_mono HO_223001.out (fun _ hk => ⟨hk.1.2, ⟨hk.2, ⟨hk.1.1.1, hk.1.1.2⟩⟩⟩)), (Kd.R_mono HO_233001.out (fun _ hk => ⟨hk.1.2, ⟨hk.2, ⟨hk.1.1.1, hk.1.1.2⟩⟩⟩)), BK201.out, BK202.out, BK217.out, BK222.out, BK232.out, BK258.out, GW258.out, GE258.out, NB201_258.out, NB258_201.out, NB202_258.out, NB258_202.out, NB217_258.out, NB258_217.out, NB222_258.out, NB258_222.out, NB232_258.out, NB258_232.out, HB.out⟩)
 }
 }
 rintro ⟨v247, v255, gb258⟩ w114 ⟨hS_, h0_, h1_, h2_, h3_, h4_, h5_, h6_, h7_, h8_, h9_, h10_, h11_, h12_, h13_, h14_, h15_, h16_, h17_, h18_, h19_, h20_, h21_, h22_, h23_⟩
 have n0_ : Aside0 (Kd.R k47 47 w114 w.heap.size (fun k_ => some k_ ≠ (v255 : Value).ownBlock ∧ some k_ ≠ (.slice Ao30 t213.length co30 : Value).ownBlock ∧ some k_ ≠ (.slice Ao40 t240.length co40 : Value).ownBlock ∧ some k_ ≠ (.slice Ao48 t228.length co48 : Value).ownBlock) v247 t246) := ⟨h0_⟩
 have n1_ : Aside0 (Kd.R k47 47 w114 w.heap.size (fun k_ => some k_ ≠ (v247 : Value).ownBlock ∧ some k_ ≠ (.slice Ao30 t213.length co30 : Value).ownBlock ∧ some k_ ≠ (.slice Ao40 t240.length co40 : Value).ownBlock ∧ some k_ ≠ (.slice Ao48 t228.length co48 : Value).ownBlock) v255 t254) := ⟨h1_⟩
 have n2_ : Aside0 (Kd.R k47 47 w114 w.heap.size (fun k_ => some k_ ≠ (v247 : Value).ownBlock ∧ some k_ ≠ (v255 : Value).ownBlock ∧ some k_ ≠ (.slice Ao40 t240.length co40 : Value).ownBlock ∧ some k_ ≠ (.slice Ao48 t228.length co48 : Value).ownBlock) (.slice Ao30 t213.length co30) t213) := ⟨h2_⟩
 have n3_ : Aside0 (Kd.R k47 47 w114 w.heap.size (fun k_ => some k_ ≠ (v247 : Value).ownBlock ∧ some k_ ≠ (v255 : Value).ownBlock ∧ some k_ ≠ (.slice Ao30 t213.length co30 : Value).ownBlock ∧ some k_ ≠ (.slice Ao48 t228.length co48 : Value).ownBlock) (.slice Ao40 t240.length co40) t240) := ⟨h3_⟩
 have n4_ : Aside0 (Kd.R k47 47 w114 w.heap.size (fun k_ => some k_ ≠ (v247 : Value).ownBlock ∧ some k_ ≠ (v255 : Value).ownBlock ∧ some k_ ≠ (.slice Ao30 t213.length co30 : Value).ownBlock ∧ some k_ ≠ (.slice Ao40 t240.length co40 : Value).ownBlock) (.slice Ao48 t228.length co48) t243) := ⟨h4_⟩
 have n5_ : Aside0 (w114.heap[gb201]? = some (.cells #[.int .i64 a0_0, .slice A0_1 l0_1.length c0_1] 24 (0, 0))) := ⟨h5_⟩
 have n6_ : Aside0 (w114.heap[gb202]? = some (.cells #[.int .i64 a1_0, .int .i64 a1_1, .int .i64 a1_2, .int .i64 a1_3] 42 (0, 0))) := ⟨h6_⟩
 have n7_ : Aside0 (w114.heap[gb217]? = some (.cells #[.int .i64 t212, .slice Ao30 t213.length co30] 29 (0, 0))) := ⟨h7_⟩
 have n8_ : Aside0 (w114.heap[gb222]? = some (.cells #[.int .i64 t218, .slice Ao40 t240.length co40] 29 (0, 0))) := ⟨h8_⟩
 have n9_ : Aside0 (w114.heap[gb232]? = some (.cells #[.int .i64 t227, .slice Ao48 t228.length co48] 29 (0, 0))) := ⟨h9_⟩
 have n10_ : Aside0 (w114.heap[gb258]? = some (.cells #[.int .i64 0, .slice none 0 0] 29 (0, 0))) := ⟨h10_⟩
 have n11_ : Aside0 (w.heap.size ≤ gb258) := ⟨h11_⟩
 have n12_ : Aside0 (w.heap.size ≤ gb258) := ⟨h12_⟩
 have n13_ : Aside0 (gb201 ≠ gb258) := ⟨h13_⟩
 have n14_ : Aside0 (gb258 ≠ gb201) := ⟨h14_⟩
 have n15_ : Aside0 (gb202 ≠ gb258) := ⟨h15_⟩
 have n16_ : Aside0 (gb258 ≠ gb202) := ⟨h16_⟩
 have n17_ : Aside0 (gb217 ≠ gb258) := ⟨h17_⟩
 have n18_ : Aside0 (gb258 ≠ gb217) := ⟨h18_⟩
 have n19_ : Aside0 (gb222 ≠ gb258) := ⟨h19_⟩
 have n20_ : Aside0 (gb258 ≠ gb222) := ⟨h20_⟩
 have n21_ : Aside0 (gb232 ≠ gb258) := ⟨h21_⟩
 have n22_ : Aside0 (gb258 ≠ gb232) := ⟨h22_⟩
 have n23_ : Aside0 (Below w.heap.size w w114) := ⟨h23_⟩
 clear HO_218001
 clear HO_223001
 clear HO_233001
 clear BK201
 clear BK202
 clear BK217
 clear BK222
 clear BK232
 clear HB
 clear h0_ h1_ h2_ h3_ h4_ h5_ h6_ h7_ h8_ h9_ h10_ h11_ h12_ h13_ h14_ h15_ h16_ h17_ h18_ h19_ h20_ h21_ h22_ h23_
 have HO248 := n0_
 have HO256 := n1_
 have HO_218001 := n2_
 have HO_223001 := n3_
 have HO_233001 := n4_
 have BK201 := n5_
 have BK202 := n6_
 have BK217 := n7_
 have BK222 := n8_
 have BK232 := n9_
 have BK258 := n10_
 have GW258 := n11_
 have GE258 := n12_
 have NB201_258 := n13_
 have NB258_201 := n14_
 have NB202_258 := n15_
 have NB258_202 := n16_
 have NB217_258 := n17_
 have NB258_217 := n18_
 have NB222_258 := n19_
 have NB258_222 := n20_
 have NB232_258 := n21_
 have NB258_232 := n22_
 have HB := n23_
 clear n0_ n1_ n2_ n3_ n4_ n5_ n6_ n7_ n8_ n9_ n10_ n11_ n12_ n13_ n14_ n15_ n16_ n17_ n18_ n19_ n20_ n21_ n22_ n23_
 have hHeld : w114.cell? ⟨gb201, 0, none⟩ = some (.int .i64 a0_0) ∧ w114.cell? ⟨gb201, 1, none⟩ = some (.slice A0_1 l0_1.length c0_1) ∧ w114.cell? ⟨gb202, 0, none⟩ = some (.int .i64 a1_0) ∧ w114.cell? ⟨gb202, 1, none⟩ = some (.int .i64 a1_1) ∧ w114.cell? ⟨gb202, 2, none⟩ = some (.int .i64 a1_2) ∧ w114.cell? ⟨gb202, 3, none⟩ = some (.int .i64 a1_3) := hS_
 obtain ⟨Ao116, co116, eo116⟩ := Kd.R_slice HO256.out
 (first | subst eo116 | (injection eo116 with f1_ f2_ f3_; have f4_ := f1_.symm; have f5_ := f3_.symm; clear f1_ f2_ f3_; subst f4_; subst f5_))
 refine norm_ (a' := ?_) ?_ ?_
 rotate_left
 {
 simp only [putAll, Act.put, sT, sZ, sU]
 rfl
 }
 refine one_ (i := 9) (N := none) #[true, true, true, true, true, true, true, true, true, true, false] rfl rfl (one_of HT_.out (by kernel_rfl)) (by decide) (fun K hK => ?_)
 have hs115 : w114.cell? ⟨gb258, 0, none⟩ = some (.int .i64 0) := (blk_cell BK258.out 0).trans rfl
 have hfs115 := blk_frozen BK258.out 0
 have hns115_0 := NB201_258.out
 have hns115_1 := NB202_258.out
 have hns115_2 := NB217_258.out
 have hns115_3 := NB222_258.out
 have hns115_4 := NB232_258.out
 have hms115_0 := NB258_201.out
 have hms115_1 := NB258_202.out
 have hms115_2 := NB258_217.out
 have hms115_3 := NB258_222.out
 have hms115_4 := NB258_232.out
 have hs117 : w114.cell? ⟨gb258, 1, none⟩ = some (.slice none 0 0) := (blk_cell BK258.out 1).trans rfl
 have hfs117 := blk_frozen BK258.out 1
 have hns117_0 := NB201_258.out
 have hns117_1 := NB202_258.out
 have hns117_2 := NB217_258.out
 have hns117_3 := NB222_258.out
 have hns117_4 := NB232_258.out
 have hms117_0 := NB258_201.out
 have hms117_1 := NB258_202.out
 have hms117_2 := NB258_217.out
 have hms117_3 := NB258_222.out
 have hms117_4 := NB258_232.out
 refine skip_ (w1 := ?_) (by rfl) rfl ?_ ?_
 rotate_left
 {
 go_simp
 rfl
 }
 refine hK.out _ _ ⟨((cell_far (p := ⟨gb258, _, none⟩) NB201_258.out _).trans (((cell_far (p := ⟨gb258, _, none⟩) NB201_258.out _).trans (hHeld.1)))), ((cell_far (p := ⟨gb258, _, none⟩) NB201_258.out _).trans (((cell_far (p := ⟨gb258, _, none⟩) NB201_258.out _).trans (hHeld.2.1)))), ((cell_far (p := ⟨gb258, _, none⟩) NB202_258.out _).trans (((cell_far (p := ⟨gb258, _, none⟩) NB202_258.out _).trans (hHeld.2.2.1)))), ((cell_far (p := ⟨gb258, _, none⟩) NB202_258.out _).trans (((cell_far (p := ⟨gb258, _, none⟩) NB202_258.out _).trans (hHeld.2.2.2.1)))), ((cell_far (p := ⟨gb258, _, none⟩) NB202_258.out _).trans (((cell_far (p := ⟨gb258, _, none⟩) NB202_258.out _).trans (hHeld.2.2.2.2.1)))), ((cell_far (p := ⟨gb258, _, none⟩) NB202_258.out _).trans (((cell_far (p := ⟨gb258, _, none⟩) NB202_258.out _).trans (hHeld.2.2.2.2.2))))⟩ (fun hHeld => ?_)
 clear hK K
 refine pure_ (i := 10) (N := some 15) (v := ?_) (a' := ?_) #[true, true, true, true, true, true, true, true, true, true, true] rfl rfl (any_of HT_.out (by kernel_rfl)) (fun _ _ _ h => h) (Or.inl ⟨by rfl, ?_⟩) ?_ ?_
 rotate_left
 {
 intro w'
 go_simp
 with_reducible rfl
 }
 rotate_left
 {
 simp only [Act.put, sT, sZ, sU, i64_w, i32_w]
 rfl
 }
 refine done_ (done_of HT_.out (by kernel_rfl)) ?_
 go_upto_region 25 with (fail)
 go_cut [95] (fun v95 wc => ∃ (kq : Nat) (x95_98 : Bool), v95 = .bool x95_98 ∧ Aside0 (laws_FnExactWithLink.j2 kq t242 x95_98 t227 t243 = some r) ∧ Aside0 (kq ≤ kj66) ∧ Aside0 (Kd.R k47 47 wc w.heap.size (fun k_ => some k_ ≠ ((.slice Ao40 t240.length co40) : Value).ownBlock ∧ some k_ ≠ ((.slice Ao48 t228.length co48) : Value).ownBlock ∧ some k_ ≠ ((.slice Ao116 t254.length co116) : Value).ownBlock) (.slice Ao30 t213.length co30) t213) ∧ Aside0 (Kd.R k47 47 wc w.heap.size (fun k_ => some k_ ≠ ((.slice Ao30 t213.length co30) : Value).ownBlock ∧ some k_ ≠ ((.slice Ao48 t228.length co48) : Value).ownBlock ∧ some k_ ≠ ((.slice Ao116 t254.length co116) : Value).ownBlock) (.slice Ao40 t240.length co40) t240) ∧ Aside0 (Kd.R k47 47 wc w.heap.size (fun k_ => some k_ ≠ ((.slice Ao30 t213.length co30) : Value).ownBlock ∧ some k_ ≠ ((.slice Ao40 t240.length co40) : Value).ownBlock ∧ some k_ ≠ ((.slice Ao116 t254.length co116) : Value).ownBlock) (.slice Ao48 t228.length co48) t243) ∧ Aside0 (Kd.R k47 47 wc w.heap.size (fun k_ => some k_ ≠ ((.slice Ao30 t213.length co30) : Value).ownBlock ∧ some k_ ≠ ((.slice Ao40 t240.length co40) : Value).ownBlock ∧ some k_ ≠ ((.slice Ao48 t228.length co48) : Value).ownBlock) (.slice Ao116 t254.length co116) t254) ∧ Aside0 (wc.heap[gb201]? = some (.cells #[.int .i64 a0_0, (.slice A0_1 l0_1.length c0_1)] 24 (0, 0))) ∧ Aside0 (wc.heap[gb202]? = some (.cells #[.int .i64 a1_0, .int .i64 a1_1, .int .i64 a1_2, .int .i64 a1_3] 42 (0, 0))) ∧ Aside0 (wc.heap[gb217]? = some (.cells #[.int .i64 t212, (.slice Ao30 t213.length co30)] 29 (0, 0))) ∧ Aside0 (wc.heap[gb222]? = some (.cells #[.int .i64 t218, (.slice Ao40 t240.length co40)] 29 (0, 0))) ∧ Aside0 (wc.heap[gb232]? = some (.cells #[.int .i64 t227, (.slice Ao48 t228.length co48)] 29 (0, 0))) ∧ Aside0 (wc.heap[gb258]? = some (.cells #[.int .i64 t253, (.slice Ao116 t254.length co116)] 29 (0, 0))) ∧ Aside0 (Below w.heap.size w wc))
 case first => (
 have H := HC99.out
 clear HC99
 replace H := Option.bind_eq_some_iff.mp H
 obtain ⟨t259, A1180, H⟩ := H
 replace H : (if t259 = true then (laws_FnExactWithLink.j2 kj66 t242 (t257 != t216) t227 t243) else (laws_FnExactWithLink.j2 kj66 t242 true t227 t243)) = some r := H
 have A118 := mK A1180
 clear A1180
 by_cases c119 : t259 = true
 rotate_left
 {
 replace c119 := Bool.eq_false_iff.mpr c119
 subst c119
 have H1 : (laws_FnExactWithLink.j2 kj66 t242 true t227 t243) = some r := by rw [if_neg (show ¬ (false = true) by decide)] at H; exact H
 clear H
 have H := H1
 clear H1
 subst hr_
 exact absurd H (by cases kj66 <;> simp [laws_FnExactWithLink.j2])
 }
 subst c119
 have H1 : (laws_FnExactWithLink.j2 kj66 t242 (t257 != t216) t227 t243) = some r := by rw [if_pos rfl] at H; exact H
 clear H
 have H := H1
 clear H1
 have H' := mK H
 clear H
 have hnb120 := NB258_201.out
 have hnc120 := NB201_258.out
 have hnb121 := NB258_202.out
 have hnc121 := NB202_258.out
 have hnb122 := NB258_217.out
 have hnc122 := NB217_258.out
 have hnb123 := NB258_222.out
 have hnc123 := NB222_258.out
 have hnb124 := NB258_232.out
 have hnc124 := NB232_258.out
 have hcz125_0 : w114.cell? ⟨gb258, 0, none⟩ = some (.int .i64 0) := (blk_cell BK258.out 0).trans rfl
 have hcz125_1 : w114.cell? ⟨gb258, 1, none⟩ = some (.slice none 0 0) := (blk_cell BK258.out 1).trans rfl
 have hfz125_0 := blk_frozen BK258.out 0
 have hfz125_1 := blk_frozen BK258.out 1
 have hnb126 := NB217_201.out
 have hnc126 := NB201_217.out
 have hnb127 := NB217_202.out
 have hnc127 := NB202_217.out
 have hnb128 := NB217_222.out
 have hnc128 := NB222_217.out
 have hnb129 := NB217_232.out
 have hnc129 := NB232_217.out
 have hcz130_0 : w114.cell? ⟨gb217, 0, none⟩ = some (.int .i64 t212) := (blk_cell BK217.out 0).trans rfl
 have hcz130_1 : w114.cell? ⟨gb217, 1, none⟩ = some (.slice Ao30 t213.length co30) := (blk_cell BK217.out 1).trans rfl
 have hfz130_0 := blk_frozen BK217.out 0
 have hfz130_1 := blk_frozen BK217.out 1
 go_wp2_with (first | ((with_reducible refine gate_callee (f := 15) rfl ?_); refine goesL_ (some 89) rfl rfl Try.func15 (by kernel_rfl) rfl #[.agg #[.int .i64 t253, .slice Ao116 t254.length co116], .agg #[.int .i64 t212, .slice Ao30 t213.length co30]] rfl (by (try simp only [List.map_toArray, List.map_cons, List.map_nil]); first | done | rfl | (simp only [List.length_drop, List.length_take]; rfl)) ?_; (with_reducible refine (laws_eqSimple.calls kj66 t253 _ _ t254 t212 _ _ t213 true _ ?side1 ?side2 ?side3 ?side4 A118.out).mono ?_); (case side1 => refine (Kd.R_reads' (e := 47) (base := w.heap.size) (ok := fun k_ => (some k_ ≠ (v247 : Value).ownBlock ∧ (some k_ ≠ (.slice Ao30 t213.length co30 : Value).ownBlock ∧ (some k_ ≠ (.slice Ao40 t240.length co40 : Value).ownBlock ∧ some k_ ≠ (.slice Ao48 t228.length co48 : Value).ownBlock)))) (n := t254.length) (c := co116) ?_).2.2; exact (by (with_reducible repeat first|apply rA|apply rN|apply rD); exact (Kd.R_mono (Kd.R_far (p := ⟨gb258, 1, none⟩) (Kd.R_far (p := ⟨gb258, 0, none⟩) (Kd.R_types HO256.out BK258.out (by decide)) (fun _ hk => hk.2) (.int .i64 t253)) (fun _ hk => hk.2) (.slice Ao116 t254.length co116)) (fun _ h_ => h_.1)))); (case side2 => exact (Kd.R_reads' HO256.out).2.1); (case side3 => refine (Kd.R_reads' (e := 47) (base := w.heap.size) (ok := fun k_ => (some k_ ≠ (v247 : Value).ownBlock ∧ (some k_ ≠ (.slice Ao116 t254.length co116 : Value).ownBlock ∧ (some k_ ≠ (.slice Ao40 t240.length co40 : Value).ownBlock ∧ some k_ ≠ (.slice Ao48 t228.length co48 : Value).ownBlock)))) (n := t213.length) (c := co30) ?_).2.2; exact (by (with_reducible repeat first|apply rA|apply rN|apply rD); exact (Kd.R_mono (Kd.R_far (p := ⟨gb258, 1, none⟩) (Kd.R_far (p := ⟨gb258, 0, none⟩) (Kd.R_types HO_218001.out BK258.out (by decide)) (fun _ hk => hk.2) (.int .i64 t253)) (fun _ hk => hk.2) (.slice Ao116 t254.length co116)) (fun _ h_ => h_.1)))); (case side4 => exact (Kd.R_reads' HO_218001.out).2.1); rintro e w131 ⟨rfl, hb⟩; refine ⟨_, rfl, ?_⟩; have n0_ := mK (Kd.R_below (by (with_reducible repeat first|apply rA|apply rN|apply rD); exact (Kd.R_mono (Kd.R_far (p := ⟨gb258, 1, none⟩) (Kd.R_far (p := ⟨gb258, 0, none⟩) (Kd.R_types HO_218001.out BK258.out (by decide)) (fun _ hk => hk.2) (.int .i64 t253)) (fun _ hk => hk.2) (.slice Ao116 t254.length co116)) (fun _ h_ => h_.1))) hb); have n1_ := mK (Kd.R_below (by (with_reducible repeat first|apply rA|apply rN|apply rD); exact (Kd.R_mono (Kd.R_far (p := ⟨gb258, 1, none⟩) (Kd.R_far (p := ⟨gb258, 0, none⟩) (Kd.R_types HO_223001.out BK258.out (by decide)) (fun _ hk => hk.2) (.int .i64 t253)) (fun _ hk => hk.2) (.slice Ao116 t254.length co116)) (fun _ h_ => h_.1))) hb); have n2_ := mK (Kd.R_below (by (with_reducible repeat first|apply rA|apply rN|apply rD); exact (Kd.R_mono (Kd.R_far (p := ⟨gb258, 1, none⟩) (Kd.R_far (p := ⟨gb258, 0, none⟩) (Kd.R_types HO_233001.out BK258.out (by decide)) (fun _ hk => hk.2) (.int .i64 t253)) (fun _ hk => hk.2) (.slice Ao116 t254.length co116)) (fun _ h_ => h_.1))) hb); have n3_ := mK (Kd.R_below (by (with_reducible repeat first|apply rA|apply rN|apply rD); exact (Kd.R_mono (Kd.R_far (p := ⟨gb258, 1, none⟩) (Kd.R_far (p := ⟨gb258, 0, none⟩) (Kd.R_types HO248.out BK258.out (by decide)) (fun _ hk => hk.2) (.int .i64 t253)) (fun _ hk => hk.2) (.slice Ao116 t254.length co116)) (fun _ h_ => h_.1))) hb); have n4_ := mK (Kd.R_below (by (with_reducible repeat first|apply rA|apply rN|apply rD); exact (Kd.R_mono (Kd.R_far (p := ⟨gb258, 1, none⟩) (Kd.R_far (p := ⟨gb258, 0, none⟩) (Kd.R_types HO256.out BK258.out (by decide)) (fun _ hk => hk.2) (.int .i64 t253)) (fun _ hk => hk.2) (.slice Ao116 t254.length co116)) (fun _ h_ => h_.1))) hb); have n5_ := mK (blk_below (g := gb201) (o := .cells #[.int .i64 a0_0, .slice A0_1 l0_1.length c0_1] 24 (0, 0)) (by (with_reducible repeat first|apply kN|apply kD|apply kA); refine blk_far ?_ NB201_258.out _; (with_reducible repeat first|apply kN|apply kD|apply kA); refine blk_far ?_ NB201_258.out _; (with_reducible repeat first|apply kN|apply kD|apply kA); exact BK201.out) hb); have n6_ := mK (blk_below (g := gb202) (o := .cells #[.int .i64 a1_0, .int .i64 a1_1, .int .i64 a1_2, .int .i64 a1_3] 42 (0, 0)) (by (with_reducible repeat first|apply kN|apply kD|apply kA); refine blk_far ?_ NB202_258.out _; (with_reducible repeat first|apply kN|apply kD|apply kA); refine blk_far ?_ NB202_258.out _; (with_reducible repeat first|apply kN|apply kD|apply kA); exact BK202.out) hb); have n7_ := mK (blk_below (g := gb217) (o := .cells #[.int .i64 t212, .slice Ao30 t213.length co30] 29 (0, 0)) (by (with_reducible repeat first|apply kN|apply kD|apply kA); refine blk_far ?_ NB217_258.out _; (with_reducible repeat first|apply kN|apply kD|apply kA); refine blk_far ?_ NB217_258.out _; (with_reducible repeat first|apply kN|apply kD|apply kA); exact BK217.out) hb); have n8_ := mK (blk_below (g := gb222) (o := .cells #[.int .i64 t218, .slice Ao40 t240.length co40] 29 (0, 0)) (by (with_reducible repeat first|apply kN|apply kD|apply kA); refine blk_far ?_ NB222_258.out _; (with_reducible repeat first|apply kN|apply kD|apply kA); refine blk_far ?_ NB222_258.out _; (with_reducible repeat first|apply kN|apply kD|apply kA); exact BK222.out) hb); have n9_ := mK (blk_below (g := gb232) (o := .cells #[.int .i64 t227, .slice Ao48 t228.length co48] 29 (0, 0)) (by (with_reducible repeat first|apply kN|apply kD|apply kA); refine blk_far ?_ NB232_258.out _; (with_reducible repeat first|apply kN|apply kD|apply kA); refine blk_far ?_ NB232_258.out _; (with_reducible repeat first|apply kN|apply kD|apply kA); exact BK232.out) hb); have n10_ := mK (blk_below (g := gb258) (o := .cells #[.int .i64 t253, .slice Ao116 t254.length co116] 29 (0, 0)) (by (with_reducible repeat first|apply kN|apply kD|apply kA); refine blk_put (cs := #[.int .i64 t253, .slice none 0 0]) ?_ 1 _ rfl; (with_reducible repeat first|apply kN|apply kD|apply kA); refine blk_put (cs := #[.int .i64 0, .slice none 0 0]) ?_ 0 _ rfl; (with_reducible repeat first|apply kN|apply kD|apply kA); exact BK258.out) hb); have n11_ := mK (below_step (by repeat first|(with_reducible first|exact HB.out|apply bA|apply bN|apply bD|refine bS ?_ GE201.out|refine bS ?_ GE202.out|refine bS ?_ GE217.out|refine bS ?_ GE222.out|refine bS ?_ GE232.out|refine bS ?_ GE258.out)|exact HB.out) hb); clear HO_218001; clear HO_223001; clear HO_233001; clear HO248; clear HO256; clear BK201; clear BK202; clear BK217; clear BK222; clear BK232; clear BK258; clear HB; have HO_218001 := n0_; have HO_223001 := n1_; have HO_233001 := n2_; have HO248 := n3_; have HO256 := n4_; have BK201 := n5_; have BK202 := n6_; have BK217 := n7_; have BK222 := n8_; have BK232 := n9_; have BK258 := n10_; have HB := n11_; clear n0_ n1_ n2_ n3_ n4_ n5_ n6_ n7_ n8_ n9_ n10_ n11_; (try clear hb); (try clear hb2); (try clear hk); (try clear hi)))
 go_meet
 case rel => exact ⟨_, ((t257 != t216)), (by first | rfl | (simp; done) | (simp [*]; done)), H', ⟨by have := HJ15.out; have := HJ66.out; first | omega | exact Nat.le_refl _⟩, ⟨by (try simp only [hl223001_66]); (with_reducible repeat first|apply rA|apply rN|apply rD); exact Kd.R_mono HO_218001.out (fun _ hk => ⟨hk.2.2.1, ⟨hk.2.2.2, hk.2.1⟩⟩)⟩, ⟨by (try simp only [hl223001_66]); (with_reducible repeat first|apply rA|apply rN|apply rD); exact Kd.R_mono HO_223001.out (fun _ hk => ⟨hk.2.2.1, ⟨hk.2.2.2, hk.2.1⟩⟩)⟩, ⟨by (try simp only [hl223001_66]); (with_reducible repeat first|apply rA|apply rN|apply rD); exact Kd.R_mono HO_233001.out (fun _ hk => ⟨hk.2.2.1, ⟨hk.2.2.2, hk.2.1⟩⟩)⟩, ⟨by (try simp only [hl223001_66]); (with_reducible repeat first|apply rA|apply rN|apply rD); exact Kd.R_mono HO256.out (fun _ hk => ⟨hk.2.1, ⟨hk.2.2.1, hk.2.2.2⟩⟩)⟩, ⟨by (try simp only [hl223001_66]); (with_reducible repeat first|apply kN|apply kD|apply kA); exact BK201.out⟩, ⟨by (try simp only [hl223001_66]); (with_reducible repeat first|apply kN|apply kD|apply kA); exact BK202.out⟩, ⟨by (try simp only [hl223001_66]); (with_reducible repeat first|apply kN|apply kD|apply kA); exact BK217.out⟩, ⟨by (try simp only [hl223001_66]); (with_reducible repeat first|apply kN|apply kD|apply kA); exact BK222.out⟩, ⟨by (try simp only [hl223001_66]); (with_reducible repeat first|apply kN|apply kD|apply kA); exact BK232.out⟩, ⟨by (try simp only [hl223001_66]); (with_reducible repeat first|apply kN|apply kD|apply kA); exact BK258.out⟩, ⟨by repeat first|(with_reducible first|exact HB.out|apply bA|apply bN|apply bD|refine bS ?_ GE201.out|refine bS ?_ GE202.out|refine bS ?_ GE217.out|refine bS ?_ GE222.out|refine bS ?_ GE232.out|refine bS ?_ GE258.out)|exact HB.out⟩⟩
 )
 case rest => (
 clear HC99
 try clear c1
 try clear c2
 try clear p2
 try clear c11
 try clear c12
 try clear c13
 try clear c15
 try clear c25
 try clear c26
 try clear c119
 try clear c120
 try clear c121
 try clear c122
 try clear c123
 try clear c124
 try clear c126
 try clear c127
 try clear c128
 try clear c129
 try clear hcz125_0
 try clear hcz125_1
 try clear hcz130_0
 try clear hcz130_1
 try clear hfz125_0
 try clear hfz125_1
 try clear hfz130_0
 try clear hfz130_1
 obtain ⟨kq, x95_98, rfl, HA, HJ98, HO_218001, HO_223001, HO_233001, HO_259001, BK201, BK202, BK217, BK222, BK232, BK258, HB⟩ := hcut
 have hl233001_98 := (Kd.R_reads' HO_233001.out).1
 rw [hl233001_98] at HO_233001
 (try simp only [hl233001_98])
 (try simp only [hl233001_98] at BK201)
 (try simp only [hl233001_98] at BK202)
 (try simp only [hl233001_98] at BK217)
 (try simp only [hl233001_98] at BK222)
 (try simp only [hl233001_98] at BK232)
 (try simp only [hl233001_98] at BK258)
 (try simp only [hl233001_98] at HO_218001)
 (try simp only [hl233001_98] at HO_223001)
 (try simp only [hl233001_98] at HO_259001)
 cases kq with
 | zero => exact absurd HA.out (by simp [laws_FnExactWithLink.j2])
 | succ kj98 => (
 have H := HA.out
 clear HA
 simp only [laws_FnExactWithLink.j2] at H
 by_cases c132 : x95_98 = true
 {
 subst c132
 have H1 : (some false) = some r := by rw [if_pos rfl] at H; exact H
 clear H
 have H := H1
 clear H1
 obtain rfl := Option.some.inj H
 exact absurd hr_ (by decide)
 }
 replace c132 := Bool.eq_false_iff.mpr c132
 subst c132
 have H1 : ((laws_heldSimple.f kj98 t227 t243 1).bind fun t260 => (if t260 < 0 then (some false) else (if t260 = t242 then (some true) else (some false)))) = some r := by rw [if_neg (show ¬ (false = true) by decide)] at H; exact H
 clear H
 have H := H1
 clear H1
 replace H := Option.bind_eq_some_iff.mp H
 obtain ⟨t260, A1330, H⟩ := H
 replace H : (if t260 < 0 then (some false) else (if t260 = t242 then (some true) else (some false))) = some r := H
 have A133 := mK A1330
 clear A1330
 by_cases c134 : t260 < 0
 {
 rw [if_pos c134] at H
 have c134b0 : decide (t260 < 0) = true := decide_eq_true c134
 clear c134
 obtain rfl := Option.some.inj H
 exact absurd hr_ (by decide)
 }
 rw [if_neg c134] at H
 have c134b0 : decide (t260 < 0) = false := decide_eq_false c134
 clear c134
 by_cases c135 : t260 = t242
 rotate_left
 {
 rw [if_neg c135] at H
 have c135b0 : (t260 == t242) = false := beq_eq_false_iff_ne.mpr c135
 have c135b1 : (t260 != t242) = true := bne_iff_ne.mpr c135
 obtain rfl := Option.some.inj H
 exact absurd hr_ (by decide)
 }
 rw [if_pos c135] at H
 have c135b0 : (t260 == t242) = true := beq_iff_eq.mpr c135
 have c135b1 : (t260 != t242) = false := bne_eq_false_iff_eq.mpr c135
 clear c135
 obtain rfl := Option.some.inj H
 clear hr_
 have hnb136 := NB232_201.out
 have hnc136 := NB201_232.out
 have hnb137 := NB232_202.out
 have hnc137 := NB202_232.out
 have hnb138 := NB232_217.out
 have hnc138 := NB217_232.out
 have hnb139 := NB232_222.out
 have hnc139 := NB222_232.out
 have hnb140 := NB232_258.out
 have hnc140 := NB258_232.out
 have hcz141_0 : wc.cell? ⟨gb232, 0, none⟩ = some (.int .i64 t227) := (blk_cell BK232.out 0).trans rfl
 have hcz141_1 : wc.cell? ⟨gb232, 1, none⟩ = some (.slice Ao48 t243.length co48) := (blk_cell BK232.out 1).trans rfl
 have hfz141_0 := blk_frozen BK232.out 0
 have hfz141_1 := blk_frozen BK232.out 1
 go_wp2_with (first | ((with_reducible refine gate_callee (f := 28) rfl ?_); refine goesL_ (some 98) rfl rfl Try.func28 (by kernel_rfl) rfl #[.agg #[.int .i64 t227, .slice Ao48 t243.length co48], .int .i64 1] rfl (by (try simp only [List.map_toArray, List.map_cons, List.map_nil]); first | done | rfl | (simp only [List.length_drop, List.length_take]; rfl)) ?_; (with_reducible refine (laws_heldSimple.calls kj98 t227 _ _ t243 1 t260 _ ?side1 ?side2 A133.out).mono ?_); (case side1 => repeat (first | exact (Kd.R_reads' HO_233001.out).2.2 | (with_reducible refine Kd.C_alloc ?_ _) | (with_reducible refine Kd.C_drewN ?_ _) | (with_reducible refine Kd.C_drew ?_))); (case side2 => exact (Kd.R_reads' HO_233001.out).2.1); rintro e w142 ⟨rfl, hb⟩; refine ⟨_, rfl, ?_⟩; have n0_ := mK (Kd.R_below (by (with_reducible repeat first|apply rA|apply rN|apply rD); exact HO_218001.out) hb); have n1_ := mK (Kd.R_below (by (with_reducible repeat first|apply rA|apply rN|apply rD); exact HO_223001.out) hb); have n2_ := mK (Kd.R_below (by (with_reducible repeat first|apply rA|apply rN|apply rD); exact HO_233001.out) hb); have n3_ := mK (Kd.R_below (by (with_reducible repeat first|apply rA|apply rN|apply rD); exact HO_259001.out) hb); have n4_ := mK (blk_below (by (with_reducible repeat first|apply kN|apply kD|apply kA); exact BK201.out) hb); have n5_ := mK (blk_below (by (with_reducible repeat first|apply kN|apply kD|apply kA); exact BK202.out) hb); have n6_ := mK (blk_below (by (with_reducible repeat first|apply kN|apply kD|apply kA); exact BK217.out) hb); have n7_ := mK (blk_below (by (with_reducible repeat first|apply kN|apply kD|apply kA); exact BK222.out) hb); have n8_ := mK (blk_below (by (with_reducible repeat first|apply kN|apply kD|apply kA); exact BK232.out) hb); have n9_ := mK (blk_below (by (with_reducible repeat first|apply kN|apply kD|apply kA); exact BK258.out) hb); have n10_ := mK (below_step (by repeat first|(with_reducible first|exact HB.out|apply bA|apply bN|apply bD|refine bS ?_ GE201.out|refine bS ?_ GE202.out|refine bS ?_ GE217.out|refine bS ?_ GE222.out|refine bS ?_ GE232.out|refine bS ?_ GE258.out)|exact HB.out) hb); clear HO_218001; clear HO_223001; clear HO_233001; clear HO_259001; clear BK201; clear BK202; clear BK217; clear BK222; clear BK232; clear BK258; clear HB; have HO_218001 := n0_; have HO_223001 := n1_; have HO_233001 := n2_; have HO_259001 := n3_; have BK201 := n4_; have BK202 := n5_; have BK217 := n6_; have BK222 := n7_; have BK232 := n8_; have BK258 := n9_; have HB := n10_; clear n0_ n1_ n2_ n3_ n4_ n5_ n6_ n7_ n8_ n9_ n10_; (try clear hb); (try clear hb2); (try clear hk); (try clear hi)))
 go_ret
 exact ⟨by first | rfl | (simp [errW_none, errW_some] <;> rfl) | (simp [*, errW_none, errW_some] <;> rfl), by repeat first|(with_reducible first|exact HB.out|apply bA|apply bN|apply bD|refine bS ?_ GE201.out|refine bS ?_ GE202.out|refine bS ?_ GE217.out|refine bS ?_ GE222.out|refine bS ?_ GE232.out|refine bS ?_ GE258.out)|exact HB.out⟩
 )
 )
 )
 )
 )
 )

/-- THE ONE PURE STATEMENT of laws_FnExactWithLink: yours. -/
def laws_FnExactWithLink.Pure : Prop := ∀ (a0_0 : Int) (l0_1 : List (S42)) (a1_0 : Int) (a1_1 : Int) (a1_2 : Int) (a1_3 : Int), (Lit.int .i64 a0_0).wf = true → l0_1.length ≤ maxLen → (∀ yl0_1 ∈ l0_1, (Lit.int .i64 yl0_1.f0).wf = true ∧ (Lit.int .i64 yl0_1.f1).wf = true ∧ (Lit.int .i64 yl0_1.f2.f0).wf = true ∧ (Lit.int .i64 yl0_1.f2.f1).wf = true) → (Lit.int .i64 a1_0).wf = true → (Lit.int .i64 a1_1).wf = true → (Lit.int .i64 a1_2).wf = true → (Lit.int .i64 a1_3).wf = true → ∃ k, laws_FnExactWithLink.f k a0_0 l0_1 a1_0 a1_1 a1_2 a1_3 = some true
theorem laws_FnExactWithLink.walk (P : laws_FnExactWithLink.Pure) (a0_0 : Int) (A0_1 : Option Addr) (c0_1 : Nat) (l0_1 : List (S42)) (a1_0 : Int) (a1_1 : Int) (a1_2 : Int) (a1_3 : Int) (w : World) (hr0_1 : Kd.C k42 w A0_1 l0_1.length l0_1) (hc0_1 : l0_1.length ≤ c0_1) (q0_0 : (Lit.int .i64 a0_0).wf = true) (q0_1 : l0_1.length ≤ maxLen) (q0_2 : (∀ yl0_1 ∈ l0_1, (Lit.int .i64 yl0_1.f0).wf = true ∧ (Lit.int .i64 yl0_1.f1).wf = true ∧ (Lit.int .i64 yl0_1.f2.f0).wf = true ∧ (Lit.int .i64 yl0_1.f2.f1).wf = true)) (q1_0 : (Lit.int .i64 a1_0).wf = true) (q1_1 : (Lit.int .i64 a1_1).wf = true) (q1_2 : (Lit.int .i64 a1_2).wf = true) (q1_3 : (Lit.int .i64 a1_3).wf = true) :
    Calls Try.prog 7 #[.agg #[.int .i64 a0_0, .slice A0_1 l0_1.length c0_1], .agg #[.int .i64 a1_0, .int .i64 a1_1, .int .i64 a1_2, .int .i64 a1_3]] w fun e w' => e = .returned (.bool true) ∧ Below w.heap.size w w' := by
  obtain ⟨k, h⟩ := P a0_0 l0_1 a1_0 a1_1 a1_2 a1_3 q0_0 q0_1 q0_2 q1_0 q1_1 q1_2 q1_3
  refine (laws_FnExactWithLink.calls k a0_0 A0_1 c0_1 l0_1 a1_0 a1_1 a1_2 a1_3 true w hr0_1 hc0_1 h rfl).mono ?_
  rintro e w' ⟨rfl, hd⟩
  exact ⟨rfl, hd⟩

end Go.Proofs.Ytolecnichpnhnaa.QFnExactWithLink
