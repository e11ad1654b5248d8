-- Written by this session's program wip/tools/mk.py out of the translation; Lean checks it.
import Derived.Test.YtegkkbncnmakaaaQFnTightenedx0
import Derived.Test.YtegkkbncnmakaaaQFnTightenedx2
namespace Go.Proofs.Ytegkkbncnmakaaa.QFnTightened
open Go.RowKit Go.Proofs.YtegkkbncnmakaaaW.PrintWords Go.Proofs.YtegkkbncnmakaaaW.PrintLast Go.Proofs.YtegkkbncnmakaaaW.PrintMore
attribute [local go_sem] max2_int min2_int max_two min_two max_three min_three max_four min_four   -- for this text's walks alone
set_option linter.unusedVariables false
set_option linter.unusedSimpArgs false

/-! ### impl_ShortestFrom: function 53 -/
mutual
def impl_ShortestFrom.j0 : Nat → Int → Bool → Int → List (S39) → Option (List Int × Bool)
  | 0, _, _, _, _ => none
  | k + 1, x1, x23, x152000, x152001 => if x23 = true then (some (([] : List Int), false)) else (if 0 ≤ x152000 then (if (x152000 : Int).toNat ≤ 35184372088832 then (if (x152000 : Int).toNat ≤ 281474976710656 then ((some (List.replicate (x152000 : Int).toNat false : List Bool)).bind fun y157 => (if 0 ≤ x1 then (if x1 < (y157.length : Int) then (impl_ShortestFrom.l0 k (List.replicate (x152000 : Int).toNat 0) (y157.set (x1 : Int).toNat true) 0 x152000 x152001) else (none)) else (none))) else (none)) else (none)) else (none))
def impl_ShortestFrom.l0 : Nat → List Int → List Bool → Int → Int → List (S39) → Option (List Int × Bool)
  | 0, _, _, _, _, _ => none
  | k + 1, x6, x7, x8, x152000, x152001 => impl_ShortestFrom.l1 k x6 x7 x8 false x152001 (x152001.length : Int) 0 x152000 x152001
def impl_ShortestFrom.l1 : Nat → List Int → List Bool → Int → Bool → List (S39) → Int → Int → Int → List (S39) → Option (List Int × Bool)
  | 0, _, _, _, _, _, _, _, _, _ => none
  | k + 1, x6, x7, x8, x9, x36, x37, x38, x152000, x152001 => if x38 < x37 then (if 0 ≤ x38 then (if x38 < (x36.length : Int) then (if 0 ≤ ((rd_T39 x36 x38).f0) then (if ((rd_T39 x36 x38).f0) < (x6.length : Int) then (if ((rd_T39 x36 x38).f0) < (x7.length : Int) then (if rdOf false x7 ((rd_T39 x36 x38).f0) = true then (if 0 ≤ ((rd_T39 x36 x38).f1) then (if ((rd_T39 x36 x38).f1) < (x7.length : Int) then (if (rdOf false x7 ((rd_T39 x36 x38).f1) = true) then (if ((rd_T39 x36 x38).f1) < (x6.length : Int) then (if (wrap64 ((rd x6 ((rd_T39 x36 x38).f0)) + ((rd_T39 x36 x38).f2))) < (rd x6 ((rd_T39 x36 x38).f1)) then (impl_ShortestFrom.l1 k (x6.set (((rd_T39 x36 x38).f1) : Int).toNat (wrap64 ((rd x6 ((rd_T39 x36 x38).f0)) + ((rd_T39 x36 x38).f2)))) (x7.set (((rd_T39 x36 x38).f1) : Int).toNat true) x8 true x36 x37 (wrap64 (x38 + 1)) x152000 x152001) else (impl_ShortestFrom.l1 k x6 x7 x8 x9 x36 x37 (wrap64 (x38 + 1)) x152000 x152001)) else (none)) else (if ((rd_T39 x36 x38).f1) < (x6.length : Int) then (impl_ShortestFrom.l1 k (x6.set (((rd_T39 x36 x38).f1) : Int).toNat (wrap64 ((rd x6 ((rd_T39 x36 x38).f0)) + ((rd_T39 x36 x38).f2)))) (x7.set (((rd_T39 x36 x38).f1) : Int).toNat true) x8 true x36 x37 (wrap64 (x38 + 1)) x152000 x152001) else (none))) else (none)) else (none)) else (impl_ShortestFrom.l1 k x6 x7 x8 x9 x36 x37 (wrap64 (x38 + 1)) x152000 x152001)) else (none)) else (none)) else (none)) else (none)) else (none)) else (if x9 = true then (if x8 = x152000 then (some (([] : List Int), false)) else (impl_ShortestFrom.l0 k x6 x7 (wrap64 (x8 + 1)) x152000 x152001)) else (impl_ShortestFrom.l2 k x6 x7 (x6.length : Int) 0))
def impl_ShortestFrom.l2 : Nat → List Int → List Bool → Int → Int → Option (List Int × Bool)
  | 0, _, _, _, _ => none
  | k + 1, x6, x7, x89, x90 => if x90 < x89 then (if 0 ≤ x90 then (if x90 < (x7.length : Int) then (if rdOf false x7 x90 = true then (if x90 < (x6.length : Int) then (impl_ShortestFrom.l2 k (x6.set (x90 : Int).toNat (mn (rd x6 x90) 1000000)) x7 x89 (wrap64 (x90 + 1))) else (none)) else (if x90 < (x6.length : Int) then ((some (x6.set (x90 : Int).toNat 1000000 : List Int)).bind fun y174 => (impl_ShortestFrom.l2 k (y174.set (x90 : Int).toNat (mn (rd y174 x90) 1000000)) x7 x89 (wrap64 (x90 + 1)))) else (none))) else (none)) else (none)) else (some (x6, true))
end
def impl_ShortestFrom.f (k : Nat) (a0_0 : Int) (l0_1 : List (S39)) (a1 : Int) : Option (List Int × Bool) := (impl_GraphOk.f a0_0 l0_1).bind fun t152 => (if t152 = true then ((impl_isNode.f a0_0 a1).bind fun t153 => (impl_ShortestFrom.j0 k a1 (!t153) a0_0 l0_1)) else (impl_ShortestFrom.j0 k a1 true a0_0 l0_1))
theorem impl_ShortestFrom.mono_l : ∀ k, (∀ y0 y1 y2 y3, LeO (impl_ShortestFrom.j0 k y0 y1 y2 y3) (impl_ShortestFrom.j0 (k + 1) y0 y1 y2 y3)) ∧ (∀ y0 y1 y2 y3 y4, LeO (impl_ShortestFrom.l0 k y0 y1 y2 y3 y4) (impl_ShortestFrom.l0 (k + 1) y0 y1 y2 y3 y4)) ∧ (∀ y0 y1 y2 y3 y4 y5 y6 y7 y8, LeO (impl_ShortestFrom.l1 k y0 y1 y2 y3 y4 y5 y6 y7 y8) (impl_ShortestFrom.l1 (k + 1) y0 y1 y2 y3 y4 y5 y6 y7 y8)) ∧ (∀ y0 y1 y2 y3, LeO (impl_ShortestFrom.l2 k y0 y1 y2 y3) (impl_ShortestFrom.l2 (k + 1) y0 y1 y2 y3))
  | 0 => ⟨fun _ _ _ _ r h => by simp [impl_ShortestFrom.j0] at h, fun _ _ _ _ _ r h => by simp [impl_ShortestFrom.l0] at h, fun _ _ _ _ _ _ _ _ _ r h => by simp [impl_ShortestFrom.l1] at h, fun _ _ _ _ r h => by simp [impl_ShortestFrom.l2] at h⟩
  | k + 1 => by
    obtain ⟨ih0, ih1, ih2, ih3⟩ := impl_ShortestFrom.mono_l k
    refine ⟨?_, ?_, ?_, ?_⟩
    · intro y0 y1 y2 y3
      unfold impl_ShortestFrom.j0
      repeat' first
      | (with_reducible exact ih0 _ _ _ _)
      | (with_reducible exact ih1 _ _ _ _ _)
      | (with_reducible exact ih2 _ _ _ _ _ _ _ _ _)
      | (with_reducible exact ih3 _ _ _ _)
      | (with_reducible exact LeO.refl _)
      | (with_reducible exact LeO.none _)
      | (with_reducible refine LeO.ite ?_ ?_)
      | (with_reducible refine LeO.bind ?_ (fun _ => ?_))
      | exact ih0 _ _ _ _
      | exact ih1 _ _ _ _ _
      | exact ih2 _ _ _ _ _ _ _ _ _
      | exact ih3 _ _ _ _
      | exact LeO.none _
      | refine LeO.ite ?_ ?_
      | refine LeO.bind ?_ (fun _ => ?_)
    · intro y0 y1 y2 y3 y4
      unfold impl_ShortestFrom.l0
      repeat' first
      | (with_reducible exact ih0 _ _ _ _)
      | (with_reducible exact ih1 _ _ _ _ _)
      | (with_reducible exact ih2 _ _ _ _ _ _ _ _ _)
      | (with_reducible exact ih3 _ _ _ _)
      | (with_reducible exact LeO.refl _)
      | (with_reducible exact LeO.none _)
      | (with_reducible refine LeO.ite ?_ ?_)
      | (with_reducible refine LeO.bind ?_ (fun _ => ?_))
      | exact ih0 _ _ _ _
      | exact ih1 _ _ _ _ _
      | exact ih2 _ _ _ _ _ _ _ _ _
      | exact ih3 _ _ _ _
      | exact LeO.none _
      | refine LeO.ite ?_ ?_
      | refine LeO.bind ?_ (fun _ => ?_)
    · intro y0 y1 y2 y3 y4 y5 y6 y7 y8
      unfold impl_ShortestFrom.l1
      repeat' first
      | (with_reducible exact ih0 _ _ _ _)
      | (with_reducible exact ih1 _ _ _ _ _)
      | (with_reducible exact ih2 _ _ _ _ _ _ _ _ _)
      | (with_reducible exact ih3 _ _ _ _)
      | (with_reducible exact LeO.refl _)
      | (with_reducible exact LeO.none _)
      | (with_reducible refine LeO.ite ?_ ?_)
      | (with_reducible refine LeO.bind ?_ (fun _ => ?_))
      | exact ih0 _ _ _ _
      | exact ih1 _ _ _ _ _
      | exact ih2 _ _ _ _ _ _ _ _ _
      | exact ih3 _ _ _ _
      | exact LeO.none _
      | refine LeO.ite ?_ ?_
      | refine LeO.bind ?_ (fun _ => ?_)
    · intro y0 y1 y2 y3
      unfold impl_ShortestFrom.l2
      repeat' first
      | (with_reducible exact ih0 _ _ _ _)
      | (with_reducible exact ih1 _ _ _ _ _)
      | (with_reducible exact ih2 _ _ _ _ _ _ _ _ _)
      | (with_reducible exact ih3 _ _ _ _)
      | (with_reducible exact LeO.refl _)
      | (with_reducible exact LeO.none _)
      | (with_reducible refine LeO.ite ?_ ?_)
      | (with_reducible refine LeO.bind ?_ (fun _ => ?_))
      | exact ih0 _ _ _ _
      | exact ih1 _ _ _ _ _
      | exact ih2 _ _ _ _ _ _ _ _ _
      | exact ih3 _ _ _ _
      | exact LeO.none _
      | refine LeO.ite ?_ ?_
      | refine LeO.bind ?_ (fun _ => ?_)
theorem impl_ShortestFrom.mono : ∀ a0 a1 a2 k, LeO (impl_ShortestFrom.f k a0 a1 a2) (impl_ShortestFrom.f (k + 1) a0 a1 a2) := by
  intro a0 a1 a2 k
  obtain ⟨ih0, ih1, ih2, ih3⟩ := impl_ShortestFrom.mono_l k
  unfold impl_ShortestFrom.f
  repeat' first
      | (with_reducible exact ih0 _ _ _ _)
      | (with_reducible exact ih1 _ _ _ _ _)
      | (with_reducible exact ih2 _ _ _ _ _ _ _ _ _)
      | (with_reducible exact ih3 _ _ _ _)
      | (with_reducible exact LeO.refl _)
      | (with_reducible exact LeO.none _)
      | (with_reducible refine LeO.ite ?_ ?_)
      | (with_reducible refine LeO.bind ?_ (fun _ => ?_))
      | exact ih0 _ _ _ _
      | exact ih1 _ _ _ _ _
      | exact ih2 _ _ _ _ _ _ _ _ _
      | exact ih3 _ _ _ _
      | exact LeO.none _
      | refine LeO.ite ?_ ?_
      | refine LeO.bind ?_ (fun _ => ?_)
def impl_ShortestFrom.T3 : Bool × List (List Nat × List Nat) := (true, [([], []), ([0], [0]), ([1, 1], [1]), ([], []), ([3], [3]), ([4, 4], [4]), ([2, 0, 1, 2], [2]), ([5, 6, 0, 1, 2, 3, 4, 5, 6], [5])])
def impl_ShortestFrom.B3 : List Nat := [0, 1, 3, 0, 8, 24, 7, 127]
theorem impl_ShortestFrom.tab3 : rtab .any (opsOf Try.f53 3) = impl_ShortestFrom.T3 := by kernel_rfl
theorem impl_ShortestFrom.bits3 : waitsOk impl_ShortestFrom.T3.2 impl_ShortestFrom.B3 = true := by kernel_rfl
def impl_ShortestFrom.T11 : Bool × List (List Nat × List Nat) := (true, [([], []), ([], []), ([1], [1]), ([0, 2], [0, 2]), ([3], [3]), ([], []), ([5], [5]), ([4, 6], [4, 6]), ([7, 0, 1, 2, 3, 4, 5, 6, 7], [7])])
def impl_ShortestFrom.B11 : List Nat := [0, 0, 2, 7, 15, 0, 32, 127, 255]
theorem impl_ShortestFrom.tab11 : rtab .any (opsOf Try.f53 11) = impl_ShortestFrom.T11 := by kernel_rfl
theorem impl_ShortestFrom.bits11 : waitsOk impl_ShortestFrom.T11.2 impl_ShortestFrom.B11 = true := by kernel_rfl
def impl_ShortestFrom.T13 : Bool × List (List Nat × List Nat) := (true, [([], []), ([], []), ([1], [1]), ([], []), ([], []), ([4], [4]), ([], []), ([0, 2, 0, 1, 2, 6], [0, 2]), ([7, 6, 0, 1, 2, 6], [6, 7]), ([3, 5, 0, 1, 2, 3, 4, 5, 6, 7, 8], [3, 5]), ([9, 8, 0, 1, 2, 3, 4, 5, 6, 7, 8], [9]), ([10, 0, 1, 2, 3, 4, 5, 6, 7, 8, 9, 10], [])])
def impl_ShortestFrom.B13 : List Nat := [0, 0, 2, 0, 0, 16, 0, 71, 199, 511, 1023, 2047]
theorem impl_ShortestFrom.tab13 : rtab .any (opsOf Try.f53 13) = impl_ShortestFrom.T13 := by kernel_rfl
theorem impl_ShortestFrom.bits13 : waitsOk impl_ShortestFrom.T13.2 impl_ShortestFrom.B13 = true := by kernel_rfl
set_option maxHeartbeats 8000000 in
set_option maxRecDepth 100000 in
theorem impl_ShortestFrom.calls (k : Nat) (a0_0 : Int) (A0_1 : Option Addr) (c0_1 : Nat) (l0_1 : List (S39)) (a1 : Int) (r1 : List Int) (r2 : Bool) (w : World) (hr0_1 : Kd.C k39 w A0_1 l0_1.length l0_1) (hc0_1 : l0_1.length ≤ c0_1) (h : impl_ShortestFrom.f k a0_0 l0_1 a1 = some (r1, r2)) :
    Calls Try.prog 53 #[.agg #[.int .i64 a0_0, .slice A0_1 l0_1.length c0_1], .int .i64 a1] w fun e w' => ∃ v0_ : Value, e = .returned (.tuple #[v0_, .bool r2]) ∧ Kd.R (Kd.int .i64) 3 w' w.heap.size (fun _ => True) v0_ r1 ∧ Below w.heap.size w w' := by
  have hu25 := Try.underlying25
  have hu39 := Try.underlying39
  have HR0_1 := mK hr0_1
  have HC0_1 := mK hc0_1
  clear hr0_1 hc0_1
  have HB := mK (Below.refl w.heap.size w)
  have H : ((impl_GraphOk.f a0_0 l0_1).bind fun t152 => (if t152 = true then ((impl_isNode.f a0_0 a1).bind fun t153 => (impl_ShortestFrom.j0 k a1 (!t153) a0_0 l0_1)) else (impl_ShortestFrom.j0 k a1 true a0_0 l0_1))) = some (r1, r2) := h
  clear h
  have HC3 := mK H
  clear H
  go_enter Try.func53, Try.ntmps53
  go_upto_region 1 with (first | ((with_reducible refine gate_dst (N := 2) rfl ?_); refine box_event ?hg (N := 2) ?hd (cs := #[.int .i64 a0_0, .slice A0_1 l0_1.length c0_1]) (t := 25) ?hr ?_; (case hd => rfl); (case hg => rfl); (case hr => first | (go_simp; done) | (go_simp; rfl)); intro gb151 hg w4 hbox hb; have n0_ := mK (below_step (by repeat (first | (with_reducible first | exact HB.out | apply bA | apply bN | apply bD) | exact HB.out)) hb); have n1_ := mK (hbox); have n2_ := mK ((by rw [hg]; exact (below_size (by repeat (first | (with_reducible first | exact HB.out | apply bA | apply bN | apply bD) | exact HB.out))) : w.heap.size ≤ gb151)); have n3_ := mK ((by rw [hg]; exact (below_size (by repeat (first | (with_reducible first | exact HB.out | apply bA | apply bN | apply bD) | exact HB.out))) : w.heap.size ≤ gb151)); clear HB; have HB := n0_; have BK151 := n1_; have GW151 := n2_; have GE151 := n3_; clear n0_ n1_ n2_ n3_; clear hb hbox hg))
  (try simp only [Act.put, sT, sZ, sU])
  go_cut [23] (fun v23 wc => ∃ (kq : Nat) (x23_2 : Bool), v23 = .bool x23_2 ∧ Aside0 (impl_ShortestFrom.j0 kq a1 x23_2 a0_0 l0_1 = some (r1, r2)) ∧ Aside0 (kq ≤ k) ∧ Aside0 (wc.heap[gb151]? = some (.cells #[.int .i64 a0_0, (.slice A0_1 l0_1.length c0_1)] 25 (0, 0))) ∧ Aside0 (Below w.heap.size w wc))
  case first =>
   have H := HC3.out
   clear HC3
   replace H := Option.bind_eq_some_iff.mp H
   obtain ⟨t152, A50, H⟩ := H
   replace H : (if t152 = true then ((impl_isNode.f a0_0 a1).bind fun t153 => (impl_ShortestFrom.j0 k a1 (!t153) a0_0 l0_1)) else (impl_ShortestFrom.j0 k a1 true a0_0 l0_1)) = some (r1, r2) := H
   have A5 := mK A50
   clear A50
   by_cases c6 : t152 = true
   rotate_left
   · replace c6 := Bool.eq_false_iff.mpr c6
     subst c6
     have H1 : (impl_ShortestFrom.j0 k a1 true a0_0 l0_1) = some (r1, r2) := by rw [if_neg (show ¬ (false = true) by decide)] at H; exact H
     clear H
     have H := H1
     clear H1
     have H' := mK H
     clear H
     have hcz11_0 : w4.cell? ⟨gb151, 0, none⟩ = some (.int .i64 a0_0) := (blk_cell BK151.out 0).trans rfl
     have hcz11_1 : w4.cell? ⟨gb151, 1, none⟩ = some (.slice A0_1 l0_1.length c0_1) := (blk_cell BK151.out 1).trans rfl
     have hfz11_0 := blk_frozen BK151.out 0
     have hfz11_1 := blk_frozen BK151.out 1
     go_wp2_with (first | ((with_reducible refine gate_callee (f := 17) rfl ?_); refine goesL_ (some 15) rfl rfl Try.func17 (by kernel_rfl) rfl #[.agg #[.int .i64 a0_0, .slice A0_1 l0_1.length c0_1]] rfl (by (try simp only [List.map_toArray, List.map_cons, List.map_nil]); first | done | rfl | (simp only [List.length_drop, List.length_take]; rfl)) ?_; (with_reducible refine (impl_GraphOk.calls a0_0 _ _ l0_1 false _ ?side1 ?side2 A5.out).mono ?_); (case side1 => repeat (first | exact (Kd.C_below HR0_1.out HB.out) | (with_reducible refine Kd.C_alloc ?_ _) | (with_reducible refine Kd.C_drewN ?_ _) | (with_reducible refine Kd.C_drew ?_))); (case side2 => exact HC0_1.out); rintro e w12 ⟨rfl, hb⟩; refine ⟨_, rfl, ?_⟩; have n0_ := mK (blk_below (by (with_reducible repeat (first | refine kN ?_ _ | refine kD ?_ | refine kA ?_ _)); exact BK151.out) hb); have n1_ := mK (below_step (by repeat (first | (with_reducible first | exact HB.out | apply bA | apply bN | apply bD | refine bS ?_ GE151.out) | exact HB.out)) hb); clear BK151; clear HB; have BK151 := n0_; have HB := n1_; clear n0_ n1_; (try clear hb); (try clear hb2); (try clear hk); (try clear hi)))
     go_meet
     case rel => exact ⟨_, (true), (by first | rfl | (simp; done) | (simp [*]; done)), H', ⟨by first | omega | exact Nat.le_refl _⟩, ⟨by (with_reducible repeat (first | refine kN ?_ _ | refine kD ?_ | refine kA ?_ _)); exact BK151.out⟩, ⟨by repeat (first | (with_reducible first | exact HB.out | apply bA | apply bN | apply bD | refine bS ?_ GE151.out) | exact HB.out)⟩⟩
   subst c6
   have H1 : ((impl_isNode.f a0_0 a1).bind fun t153 => (impl_ShortestFrom.j0 k a1 (!t153) a0_0 l0_1)) = some (r1, r2) := by rw [if_pos rfl] at H; exact H
   clear H
   have H := H1
   clear H1
   replace H := Option.bind_eq_some_iff.mp H
   obtain ⟨t153, A70, H⟩ := H
   replace H : (impl_ShortestFrom.j0 k a1 (!t153) a0_0 l0_1) = some (r1, r2) := H
   have A7 := mK A70
   clear A70
   have H' := mK H
   clear H
   have hcz8_0 : w4.cell? ⟨gb151, 0, none⟩ = some (.int .i64 a0_0) := (blk_cell BK151.out 0).trans rfl
   have hcz8_1 : w4.cell? ⟨gb151, 1, none⟩ = some (.slice A0_1 l0_1.length c0_1) := (blk_cell BK151.out 1).trans rfl
   have hfz8_0 := blk_frozen BK151.out 0
   have hfz8_1 := blk_frozen BK151.out 1
   go_wp2_with (first | ((with_reducible refine gate_callee (f := 17) rfl ?_); refine goesL_ (some 15) rfl rfl Try.func17 (by kernel_rfl) rfl #[.agg #[.int .i64 a0_0, .slice A0_1 l0_1.length c0_1]] rfl (by (try simp only [List.map_toArray, List.map_cons, List.map_nil]); first | done | rfl | (simp only [List.length_drop, List.length_take]; rfl)) ?_; (with_reducible refine (impl_GraphOk.calls a0_0 _ _ l0_1 true _ ?side1 ?side2 A5.out).mono ?_); (case side1 => repeat (first | exact (Kd.C_below HR0_1.out HB.out) | (with_reducible refine Kd.C_alloc ?_ _) | (with_reducible refine Kd.C_drewN ?_ _) | (with_reducible refine Kd.C_drew ?_))); (case side2 => exact HC0_1.out); rintro e w9 ⟨rfl, hb⟩; refine ⟨_, rfl, ?_⟩; have n0_ := mK (blk_below (by (with_reducible repeat (first | refine kN ?_ _ | refine kD ?_ | refine kA ?_ _)); exact BK151.out) hb); have n1_ := mK (below_step (by repeat (first | (with_reducible first | exact HB.out | apply bA | apply bN | apply bD | refine bS ?_ GE151.out) | exact HB.out)) hb); clear BK151; clear HB; have BK151 := n0_; have HB := n1_; clear n0_ n1_; (try clear hb); (try clear hb2); (try clear hk); (try clear hi); have hcz10_0 : w9.cell? ⟨gb151, 0, none⟩ = some (.int .i64 a0_0) := (blk_cell BK151.out 0).trans rfl; have hcz10_1 : w9.cell? ⟨gb151, 1, none⟩ = some (.slice A0_1 l0_1.length c0_1) := (blk_cell BK151.out 1).trans rfl; have hfz10_0 := blk_frozen BK151.out 0; have hfz10_1 := blk_frozen BK151.out 1) | (go_at_call 64; (with_reducible refine (impl_isNode.calls a0_0 a1 t153 _ A7.out).mono ?_); rintro e w' ⟨rfl, ⟨nd, rfl⟩⟩))
   go_meet
   case rel => exact ⟨_, (!t153), (by first | rfl | (simp; done) | (simp [*]; done)), H', ⟨by first | omega | exact Nat.le_refl _⟩, ⟨by (with_reducible repeat (first | refine kN ?_ _ | refine kD ?_ | refine kA ?_ _)); exact BK151.out⟩, ⟨by repeat (first | (with_reducible first | exact HB.out | apply bA | apply bN | apply bD | refine bS ?_ GE151.out) | exact HB.out)⟩⟩
  case rest =>
   clear HC3
   try clear c1
   try clear p2
   try clear c5
   try clear c6
   try clear hcz10_0
   try clear hcz10_1
   try clear hcz11_0
   try clear hcz11_1
   try clear hcz8_0
   try clear hcz8_1
   try clear hfz10_0
   try clear hfz10_1
   try clear hfz11_0
   try clear hfz11_1
   try clear hfz8_0
   try clear hfz8_1
   obtain ⟨kq, x23_2, rfl, HA, HJ2, BK151, HB⟩ := hcut
   cases kq with
   | zero => exact absurd HA.out (by simp [impl_ShortestFrom.j0])
   | succ kj2 =>
    have H := HA.out
    clear HA
    simp only [impl_ShortestFrom.j0] at H
    by_cases c13 : x23_2 = true
    · subst c13
      have H1 : (some (([] : List Int), false)) = some (r1, r2) := by rw [if_pos rfl] at H; exact H
      clear H
      have H := H1
      clear H1
      simp only [Option.some.injEq, Prod.mk.injEq] at H
      obtain ⟨rfl, rfl⟩ := H
      go_wp2
      go_ret2
      exact ⟨_, by first | rfl | (simp [errW_none, errW_some] <;> rfl) | (simp [*, errW_none, errW_some] <;> rfl), by first | exact Kd.R_nil _ _ _ _ _ | exact Kd.N_nil _ _ _ _ _ | exact Kd.V_nil _ _ _ _ _ | exact Kd.Q_nil _ _ _ _ _ | exact Kd.S_nil _ _ _ _ _, by repeat (first | (with_reducible first | exact HB.out | apply bA | apply bN | apply bD | refine bS ?_ GE151.out) | exact HB.out)⟩
    replace c13 := Bool.eq_false_iff.mpr c13
    subst c13
    have H1 : (if 0 ≤ a0_0 then (if (a0_0 : Int).toNat ≤ 35184372088832 then (if (a0_0 : Int).toNat ≤ 281474976710656 then ((some (List.replicate (a0_0 : Int).toNat false : List Bool)).bind fun y157 => (if 0 ≤ a1 then (if a1 < (y157.length : Int) then (impl_ShortestFrom.l0 kj2 (List.replicate (a0_0 : Int).toNat 0) (y157.set (a1 : Int).toNat true) 0 a0_0 l0_1) else (none)) else (none))) else (none)) else (none)) else (none)) = some (r1, r2) := by rw [if_neg (show ¬ (false = true) by decide)] at H; exact H
    clear H
    have H := H1
    clear H1
    by_cases c14 : 0 ≤ a0_0
    rotate_left
    · rw [if_neg c14] at H
      exact absurd H (by simp)
    rw [if_pos c14] at H
    have c14b0 := eq_true c14
    have c14b1 : decide (0 ≤ a0_0) = true := decide_eq_true c14
    clear c14
    by_cases c15 : (a0_0 : Int).toNat ≤ 35184372088832
    rotate_left
    · rw [if_neg c15] at H
      exact absurd H (by simp)
    rw [if_pos c15] at H
    have c15b0 := eq_true c15
    have c15b1 : decide ((a0_0 : Int).toNat ≤ 35184372088832) = true := decide_eq_true c15
    clear c15
    obtain ⟨y154, hy154⟩ : ∃ y_ : List Int, y_ = (List.replicate (a0_0 : Int).toNat 0) := ⟨_, rfl⟩
    replace H : (if (a0_0 : Int).toNat ≤ 281474976710656 then ((some (List.replicate (a0_0 : Int).toNat false : List Bool)).bind fun y157 => (if 0 ≤ a1 then (if a1 < (y157.length : Int) then (impl_ShortestFrom.l0 kj2 y154 (y157.set (a1 : Int).toNat true) 0 a0_0 l0_1) else (none)) else (none))) else (none)) = some (r1, r2) := by first | (rw [hy154]; with_reducible exact H) | (have H2_ := (Option.bind_some _ _).symm.trans H; rw [hy154]; with_reducible exact H2_) | (have H2_ := (Option.bind_some _ _).symm.trans H; with_reducible exact H2_) | with_reducible exact H | (rw [hy154]; exact H) | exact H
    have Ny154 := mK hy154
    clear hy154
    by_cases c16 : (a0_0 : Int).toNat ≤ 281474976710656
    rotate_left
    · rw [if_neg c16] at H
      exact absurd H (by simp)
    rw [if_pos c16] at H
    have c16b0 := eq_true c16
    have c16b1 : decide ((a0_0 : Int).toNat ≤ 281474976710656) = true := decide_eq_true c16
    clear c16
    obtain ⟨y157, hy157⟩ : ∃ y_ : List Bool, y_ = (List.replicate (a0_0 : Int).toNat false) := ⟨_, rfl⟩
    replace H : (if 0 ≤ a1 then (if a1 < (y157.length : Int) then (impl_ShortestFrom.l0 kj2 y154 (y157.set (a1 : Int).toNat true) 0 a0_0 l0_1) else (none)) else (none)) = some (r1, r2) := by first | (rw [hy157]; with_reducible exact H) | (have H2_ := (Option.bind_some _ _).symm.trans H; rw [hy157]; with_reducible exact H2_) | (have H2_ := (Option.bind_some _ _).symm.trans H; with_reducible exact H2_) | with_reducible exact H | (rw [hy157]; exact H) | exact H
    have Ny157 := mK hy157
    clear hy157
    by_cases c17 : 0 ≤ a1
    rotate_left
    · rw [if_neg c17] at H
      exact absurd H (by simp)
    rw [if_pos c17] at H
    have c17b0 : decide (0 ≤ a1) = true := decide_eq_true c17
    clear c17
    by_cases c18 : a1 < (y157.length : Int)
    rotate_left
    · rw [if_neg c18] at H
      exact absurd H (by simp)
    rw [if_pos c18] at H
    have c18b0 : decide (a1 < (y157.length : Int)) = true := decide_eq_true c18
    clear c18
    obtain ⟨y160, hy160⟩ : ∃ y_ : List Bool, y_ = (y157.set (a1 : Int).toNat true) := ⟨_, rfl⟩
    replace H : (impl_ShortestFrom.l0 kj2 y154 y160 0 a0_0 l0_1) = some (r1, r2) := by first | (rw [hy160]; with_reducible exact H) | (have H2_ := (Option.bind_some _ _).symm.trans H; rw [hy160]; with_reducible exact H2_) | (have H2_ := (Option.bind_some _ _).symm.trans H; with_reducible exact H2_) | with_reducible exact H | (rw [hy160]; exact H) | exact H
    have Ny160 := mK hy160
    clear hy160
    have H' := mK H
    clear H
    try go_wp2
    have n0_ := mK (blk_drew BK151.out)
    have n1_ := mK (below_drew1 HB.out)
    clear BK151
    clear HB
    have BK151 := n0_
    have HB := n1_
    clear n0_ n1_
    refine start_ (n := 8) (S := fun w' => w'.cell? ⟨gb151, 0, none⟩ = some (.int .i64 a0_0) ∧ w'.cell? ⟨gb151, 1, none⟩ = some (.slice A0_1 l0_1.length c0_1)) (ds := []) #[false, false, false, false, false, false, false, false] (by kernel_rfl) rfl rfl ⟨(blk_cell BK151.out 0).trans rfl, (blk_cell BK151.out 1).trans rfl⟩ (fun hHeld => ?_); refine with_tabW impl_ShortestFrom.tab3 impl_ShortestFrom.bits3 (fun HT_ HW_ => ?_)
    generalize wc.drew = w20 at BK151 HB hHeld ⊢
    refine pure_ (i := 0) (N := some 24) (v := ?_) (a' := ?_) #[true, false, false, false, false, false, false, false] rfl rfl (any_of HT_.out (by kernel_rfl)) (fun _ _ _ h => h) (Or.inl ⟨by rfl, ?_⟩) ?_ ?_
    rotate_left
    · intro w'
      go_simp
      with_reducible rfl
    rotate_left
    · simp only [Act.put, sT, sZ, sU, i64_w, i32_w]
      rfl
    refine pure_ (i := 3) (N := some 27) (v := ?_) (a' := ?_) #[true, false, false, true, false, false, false, false] rfl rfl (any_of HT_.out (by kernel_rfl)) (fun _ _ _ h => h) (Or.inl ⟨by rfl, ?_⟩) ?_ ?_
    rotate_left
    · intro w'
      go_simp
      with_reducible rfl
    rotate_left
    · simp only [Act.put, sT, sZ, sU, i64_w, i32_w]
      rfl
    refine take_ (i := 1) (N := some 25) (v := ?_) (a' := ?_) #[true, true, false, true, false, false, false, false] rfl rfl (take_ofW HT_.out HW_.out (by kernel_rfl)) (fun _ _ _ h => h) (Or.inl ⟨by rfl, ?_⟩) hHeld ?_ ?_
    rotate_left
    · rintro w' ⟨s0, s1⟩
      go_simp
      with_reducible rfl
    rotate_left
    · simp only [Act.put, sT, sZ, sU, i64_w, i32_w]
      rfl
    refine take_ (i := 4) (N := some 28) (v := ?_) (a' := ?_) #[true, true, false, true, true, false, false, false] rfl rfl (take_ofW HT_.out HW_.out (by kernel_rfl)) (fun _ _ _ h => h) (Or.inl ⟨by rfl, ?_⟩) hHeld ?_ ?_
    rotate_left
    · rintro w' ⟨s0, s1⟩
      go_simp
      with_reducible rfl
    rotate_left
    · simp only [Act.put, sT, sZ, sU, i64_w, i32_w]
      rfl
    refine join_ (σ := Value × Value) 1 #[true, true, true, true, true, true, true, false] (fun s_ => [(26, s_.1), (29, s_.2), (6, s_.1)]) (fun s_ w' => (w'.cell? ⟨gb151, 0, none⟩ = some (.int .i64 a0_0) ∧ w'.cell? ⟨gb151, 1, none⟩ = some (.slice A0_1 l0_1.length c0_1)) ∧ (Kd.R (Kd.int .i64) 3 w' w.heap.size (fun _ => True) s_.1 y154) ∧ (Kd.R Kd.bool 4 w' w.heap.size (fun _ => True) s_.2 y157) ∧ (w'.heap[gb151]? = some (.cells #[.int .i64 a0_0, .slice A0_1 l0_1.length c0_1] 25 (0, 0))) ∧ (Below w.heap.size w w')) ?_ ?_
    rotate_left
    · intro hCont
      refine two_ (i := 2) (j := 5) (Ni := some 26) (Nj := some 29) #[true, true, true, true, true, false, false, false] #[true, true, false, true, true, true, false, false] rfl rfl rfl rfl (two_of HT_.out (by kernel_rfl)) (by decide) (by decide) (fun K hK => ?_) (fun K hK => ?_)
      · skip
        refine Kd.R_make_step (Kd.int .i64) _ 3 (by rfl) (N := 26) rfl 27 _ _ rfl a0_0 rfl rfl Try.underlying27 (.int .i64 0) 8 info3 rfl (by decide) (by omega) 0 (ok := fun _ => True) (okp := fun _ => True) rfl (fun _ hk => hk) trivial (of_decide_eq_true (by first | (with_reducible assumption) | assumption)) (Nat.le_trans (Nat.mul_le_mul_right _ (of_decide_eq_true (by first | (with_reducible assumption) | assumption) : a0_0.toNat ≤ 35184372088832)) (by omega)) (Below.refl _ _) (Nat.le_refl _) ?_
        intro v155 w21 ho22 hb hg_ hnew_
        clear hg_ hnew_
        (first | rw [← Ny154.out] at ho22 | (simp only [Int.reduceToNat] at ho22; rw [← Ny154.out] at ho22))
        have n0_ := mK (Kd.R_lower ho22 (below_size (by repeat (first | (with_reducible first | exact HB.out | apply bA | apply bN | apply bD | refine bS ?_ GE151.out) | exact HB.out))))
        have n1_ := mK (blk_below (by (with_reducible repeat (first | refine kN ?_ _ | refine kD ?_ | refine kA ?_ _)); exact BK151.out) hb)
        have n2_ := mK (below_step (by repeat (first | (with_reducible first | exact HB.out | apply bA | apply bN | apply bD | refine bS ?_ GE151.out) | exact HB.out)) hb)
        clear BK151
        clear HB
        have HO156 := n0_
        have BK151 := n1_
        have HB := n2_
        clear n0_ n1_ n2_
        clear hb ho22
        refine hK.out _ _ ⟨(blk_cell BK151.out 0).trans rfl, (blk_cell BK151.out 1).trans rfl⟩ (fun hHeld => ?_)
        clear hK K
        refine norm_ (a' := ?_) ?_ ?_
        rotate_left
        · show Act.put _ (some 26) _ = _
          simp only [Act.put, sT, sZ, sU, i64_w, i32_w]
          rfl
        refine pure_ (i := 6) (N := some 6) (v := ?_) (a' := ?_) #[true, true, true, true, true, false, true, false] rfl rfl (any_of HT_.out (by kernel_rfl)) (fun _ _ _ h => h) (Or.inl ⟨by rfl, ?_⟩) ?_ ?_
        rotate_left
        · intro w'
          go_simp
          with_reducible rfl
        rotate_left
        · simp only [Act.put, sT, sZ, sU, i64_w, i32_w]
          rfl
        refine one_ (i := 5) (N := some 29) #[true, true, true, true, true, true, true, false] rfl rfl (one_of HT_.out (by kernel_rfl)) (by decide) (fun K hK => ?_)
        refine Kd.R_make_step Kd.bool _ 4 (by rfl) (N := 29) rfl 94 _ _ rfl a0_0 rfl rfl Try.underlying94 (.bool false) 1 info4 rfl (by decide) (by omega) false (ok := fun _ => True) (okp := fun _ => True) rfl (fun _ hk => hk) trivial (of_decide_eq_true (by first | (with_reducible assumption) | assumption)) (Nat.le_trans (Nat.mul_le_mul_right _ (of_decide_eq_true (by first | (with_reducible assumption) | assumption) : a0_0.toNat ≤ 281474976710656)) (by omega)) (Below.refl _ _) (Nat.le_refl _) ?_
        intro v158 w23 ho24 hb hg_ hnew_
        clear hg_ hnew_
        (first | rw [← Ny157.out] at ho24 | (simp only [Int.reduceToNat] at ho24; rw [← Ny157.out] at ho24))
        have n0_ := mK (Kd.R_below (by (with_reducible repeat (first | apply rA | apply rN | apply rD)); exact HO156.out) hb)
        have n1_ := mK (Kd.R_lower ho24 (below_size (by repeat (first | (with_reducible first | exact HB.out | apply bA | apply bN | apply bD | refine bS ?_ GE151.out) | exact HB.out))))
        have n2_ := mK (blk_below (by (with_reducible repeat (first | refine kN ?_ _ | refine kD ?_ | refine kA ?_ _)); exact BK151.out) hb)
        have n3_ := mK (below_step (by repeat (first | (with_reducible first | exact HB.out | apply bA | apply bN | apply bD | refine bS ?_ GE151.out) | exact HB.out)) hb)
        clear HO156
        clear BK151
        clear HB
        have HO156 := n0_
        have HO159 := n1_
        have BK151 := n2_
        have HB := n3_
        clear n0_ n1_ n2_ n3_
        clear hb ho24
        refine hK.out _ _ ⟨(blk_cell BK151.out 0).trans rfl, (blk_cell BK151.out 1).trans rfl⟩ (fun hHeld => ?_)
        clear hK K
        refine norm_ (a' := ?_) ?_ ?_
        rotate_left
        · show Act.put _ (some 29) _ = _
          simp only [Act.put, sT, sZ, sU, i64_w, i32_w]
          rfl
        exact norm_ (by simp only [putAll, Act.put, sT, sZ, sU]) (hCont (v155, v158) _ ⟨hHeld, (by (with_reducible repeat (first | apply rA | apply rN | apply rD)); exact HO156.out), (by (with_reducible repeat (first | apply rA | apply rN | apply rD)); exact HO159.out), (by (with_reducible repeat (first | refine kN ?_ _ | refine kD ?_ | refine kA ?_ _)); exact BK151.out), (by repeat (first | (with_reducible first | exact HB.out | apply bA | apply bN | apply bD | refine bS ?_ GE151.out) | exact HB.out))⟩)
      · skip
        refine Kd.R_make_step Kd.bool _ 4 (by rfl) (N := 29) rfl 94 _ _ rfl a0_0 rfl rfl Try.underlying94 (.bool false) 1 info4 rfl (by decide) (by omega) false (ok := fun _ => True) (okp := fun _ => True) rfl (fun _ hk => hk) trivial (of_decide_eq_true (by first | (with_reducible assumption) | assumption)) (Nat.le_trans (Nat.mul_le_mul_right _ (of_decide_eq_true (by first | (with_reducible assumption) | assumption) : a0_0.toNat ≤ 281474976710656)) (by omega)) (Below.refl _ _) (Nat.le_refl _) ?_
        intro v158 w21 ho22 hb hg_ hnew_
        clear hg_ hnew_
        (first | rw [← Ny157.out] at ho22 | (simp only [Int.reduceToNat] at ho22; rw [← Ny157.out] at ho22))
        have n0_ := mK (Kd.R_lower ho22 (below_size (by repeat (first | (with_reducible first | exact HB.out | apply bA | apply bN | apply bD | refine bS ?_ GE151.out) | exact HB.out))))
        have n1_ := mK (blk_below (by (with_reducible repeat (first | refine kN ?_ _ | refine kD ?_ | refine kA ?_ _)); exact BK151.out) hb)
        have n2_ := mK (below_step (by repeat (first | (with_reducible first | exact HB.out | apply bA | apply bN | apply bD | refine bS ?_ GE151.out) | exact HB.out)) hb)
        clear BK151
        clear HB
        have HO159 := n0_
        have BK151 := n1_
        have HB := n2_
        clear n0_ n1_ n2_
        clear hb ho22
        refine hK.out _ _ ⟨(blk_cell BK151.out 0).trans rfl, (blk_cell BK151.out 1).trans rfl⟩ (fun hHeld => ?_)
        clear hK K
        refine norm_ (a' := ?_) ?_ ?_
        rotate_left
        · show Act.put _ (some 29) _ = _
          simp only [Act.put, sT, sZ, sU, i64_w, i32_w]
          rfl
        refine one_ (i := 2) (N := some 26) #[true, true, true, true, true, true, false, false] rfl rfl (one_of HT_.out (by kernel_rfl)) (by decide) (fun K hK => ?_)
        refine Kd.R_make_step (Kd.int .i64) _ 3 (by rfl) (N := 26) rfl 27 _ _ rfl a0_0 rfl rfl Try.underlying27 (.int .i64 0) 8 info3 rfl (by decide) (by omega) 0 (ok := fun _ => True) (okp := fun _ => True) rfl (fun _ hk => hk) trivial (of_decide_eq_true (by first | (with_reducible assumption) | assumption)) (Nat.le_trans (Nat.mul_le_mul_right _ (of_decide_eq_true (by first | (with_reducible assumption) | assumption) : a0_0.toNat ≤ 35184372088832)) (by omega)) (Below.refl _ _) (Nat.le_refl _) ?_
        intro v155 w23 ho24 hb hg_ hnew_
        clear hg_ hnew_
        (first | rw [← Ny154.out] at ho24 | (simp only [Int.reduceToNat] at ho24; rw [← Ny154.out] at ho24))
        have n0_ := mK (Kd.R_below (by (with_reducible repeat (first | apply rA | apply rN | apply rD)); exact HO159.out) hb)
        have n1_ := mK (Kd.R_lower ho24 (below_size (by repeat (first | (with_reducible first | exact HB.out | apply bA | apply bN | apply bD | refine bS ?_ GE151.out) | exact HB.out))))
        have n2_ := mK (blk_below (by (with_reducible repeat (first | refine kN ?_ _ | refine kD ?_ | refine kA ?_ _)); exact BK151.out) hb)
        have n3_ := mK (below_step (by repeat (first | (with_reducible first | exact HB.out | apply bA | apply bN | apply bD | refine bS ?_ GE151.out) | exact HB.out)) hb)
        clear HO159
        clear BK151
        clear HB
        have HO159 := n0_
        have HO156 := n1_
        have BK151 := n2_
        have HB := n3_
        clear n0_ n1_ n2_ n3_
        clear hb ho24
        refine hK.out _ _ ⟨(blk_cell BK151.out 0).trans rfl, (blk_cell BK151.out 1).trans rfl⟩ (fun hHeld => ?_)
        clear hK K
        refine norm_ (a' := ?_) ?_ ?_
        rotate_left
        · show Act.put _ (some 26) _ = _
          simp only [Act.put, sT, sZ, sU, i64_w, i32_w]
          rfl
        refine pure_ (i := 6) (N := some 6) (v := ?_) (a' := ?_) #[true, true, true, true, true, true, true, false] rfl rfl (any_of HT_.out (by kernel_rfl)) (fun _ _ _ h => h) (Or.inl ⟨by rfl, ?_⟩) ?_ ?_
        rotate_left
        · intro w'
          go_simp
          with_reducible rfl
        rotate_left
        · simp only [Act.put, sT, sZ, sU, i64_w, i32_w]
          rfl
        exact norm_ (by simp only [putAll, Act.put, sT, sZ, sU]) (hCont (v155, v158) _ ⟨hHeld, (by (with_reducible repeat (first | apply rA | apply rN | apply rD)); exact HO156.out), (by (with_reducible repeat (first | apply rA | apply rN | apply rD)); exact HO159.out), (by (with_reducible repeat (first | refine kN ?_ _ | refine kD ?_ | refine kA ?_ _)); exact BK151.out), (by repeat (first | (with_reducible first | exact HB.out | apply bA | apply bN | apply bD | refine bS ?_ GE151.out) | exact HB.out))⟩)
    rintro ⟨v155, v158⟩ w25 ⟨hS_, h0_, h1_, h2_, h3_⟩
    have n0_ : Aside0 (Kd.R (Kd.int .i64) 3 w25 w.heap.size (fun _ => True) v155 y154) := ⟨h0_⟩
    have n1_ : Aside0 (Kd.R Kd.bool 4 w25 w.heap.size (fun _ => True) v158 y157) := ⟨h1_⟩
    have n2_ : Aside0 (w25.heap[gb151]? = some (.cells #[.int .i64 a0_0, .slice A0_1 l0_1.length c0_1] 25 (0, 0))) := ⟨h2_⟩
    have n3_ : Aside0 (Below w.heap.size w w25) := ⟨h3_⟩
    clear BK151
    clear HB
    clear h0_ h1_ h2_ h3_
    have HO156 := n0_
    have HO159 := n1_
    have BK151 := n2_
    have HB := n3_
    clear n0_ n1_ n2_ n3_
    have hHeld : w25.cell? ⟨gb151, 0, none⟩ = some (.int .i64 a0_0) ∧ w25.cell? ⟨gb151, 1, none⟩ = some (.slice A0_1 l0_1.length c0_1) := hS_
    refine norm_ (a' := ?_) ?_ ?_
    rotate_left
    · simp only [putAll, Act.put, sT, sZ, sU]
      rfl
    refine pure_ (i := 7) (N := some 7) (v := ?_) (a' := ?_) #[true, true, true, true, true, true, true, true] rfl rfl (any_of HT_.out (by kernel_rfl)) (fun _ _ _ h => h) (Or.inl ⟨by rfl, ?_⟩) ?_ ?_
    rotate_left
    · intro w'
      go_simp
      with_reducible rfl
    rotate_left
    · simp only [Act.put, sT, sZ, sU, i64_w, i32_w]
      rfl
    refine done_ (done_of HT_.out (by kernel_rfl)) ?_
    have p19 : 0 ≤ (a1 : Int) := of_decide_eq_true (by first | (with_reducible assumption) | assumption)
    have q19 : (a1 : Int) < ((y157.length : Int) : Int) := of_decide_eq_true (by first | (with_reducible assumption) | assumption)
    obtain ⟨go19, co19, eo19, gb19, gl19, cl19, HG19⟩ := Kd.R_form HO159.out (by omega)
    (first | cases eo19 | (injection eo19 with ea_ en_ ec_; (first | subst ea_ | (injection ea_ with ea_; subst ea_)); subst ec_; clear en_))
    have GB19 := mK gb19
    have GG19 := mK HG19
    clear gb19 gl19 HG19
    obtain ⟨hx19_0, hf19_0⟩ := Kd.R_celln false HO159.out (a1 : Int) p19 q19
    replace p19 := eq_true p19
    replace q19 := eq_true q19
    obtain ⟨hy26_, hz26_⟩ := Kd.R_celln false HO159.out (a1 : Int) (of_decide_eq_true (by first | (with_reducible assumption) | assumption)) (of_decide_eq_true (by first | (with_reducible assumption) | assumption))
    have HP26 := Kd.R_putg HO159.out (a1 : Int) true
    try go_wp2_with (first | ((with_reducible refine gate_store (t := 4) (p := 32) rfl ?_); refine store_event (t := 4) (p := 32) (v := ?vo_w27) (w1 := (w25.setCell ⟨go19, (a1 : Int).toNat, none⟩ (.bool true))) ?hg ?ho ?hn ?hr ?_; (case ho => rfl); (case hg => rfl); (case hn => rfl); (case hr => first | (go_simp; done) | (go_simp; rfl)); intro w27 hw; have hg : w25.grownBy w27 (some go19) := (by rw [hw]; exact HP26.2); have hp_ : Kd.R Kd.bool 4 w27 w.heap.size (fun _ => True) (.slice (some ⟨go19, 0, none⟩) y157.length co19) y160 := (by rw [hw, Ny160.out]; exact HP26.1); clear HP26; have n0_ := mK (blk_grown (by (with_reducible repeat (first | refine kN ?_ _ | refine kD ?_ | refine kA ?_ _)); exact BK151.out) hg (Kd.R_ne HO159.out BK151.out (by decide))); have n1_ := mK (Kd.R_over' (v := (.slice (some ⟨go19, 0, none⟩) y157.length co19)) (by (with_reducible repeat (first | apply rA | apply rN | apply rD)); exact HO156.out) (Kd.R_typed HO159.out) (by decide) hg); have n2_ := mK (hp_); have n3_ := mK ((by rw [hw]; exact below_set (HB.out) GB19.out : Below w.heap.size w w27)); clear BK151; clear HO156; clear HO159; clear HB; have BK151 := n0_; have HO156 := n1_; have HO159 := n2_; have HB := n3_; clear n0_ n1_ n2_ n3_; clear hg hw hp_))
    go_loopg [8] kj2 (fun kq v8 w' => ∃ (x6_2 : List Int) (x7_2 : List Bool) (x8_2 : Int), v8 = .int .i64 x8_2 ∧ Aside0 (impl_ShortestFrom.l0 kq x6_2 x7_2 x8_2 a0_0 l0_1 = some (r1, r2)) ∧ Aside0 (kq ≤ kj2) ∧ Aside0 (Kd.R (Kd.int .i64) 3 w' w.heap.size (fun _ => True) v155 x6_2) ∧ Aside0 (Kd.R Kd.bool 4 w' w.heap.size (fun _ => True) (.slice (some ⟨go19, 0, none⟩) y157.length co19) x7_2) ∧ Aside0 (w'.heap[gb151]? = some (.cells #[.int .i64 a0_0, (.slice A0_1 l0_1.length c0_1)] 25 (0, 0))) ∧ Aside0 (Below w.heap.size w w'))
    case atStart => exact ⟨(y154), (y160), (0), (by first | rfl | (simp; done) | (simp [*]; done)), H', ⟨Nat.le_refl _⟩, ⟨by (with_reducible repeat (first | apply rA | apply rN | apply rD)); exact HO156.out⟩, ⟨by (with_reducible repeat (first | apply rA | apply rN | apply rD)); exact HO159.out⟩, ⟨by (with_reducible repeat (first | refine kN ?_ _ | refine kD ?_ | refine kA ?_ _)); exact BK151.out⟩, ⟨by repeat (first | (with_reducible first | exact HB.out | apply bA | apply bN | apply bD | refine bS ?_ GE151.out) | exact HB.out)⟩⟩
    case round =>
     clear H'
     try clear c1
     try clear p1
     try clear q1
     try clear hx1
     try clear p2
     try clear c5
     try clear c6
     try clear c13
     try clear c14
     try clear c14b0
     try clear c14b1
     try clear c15
     try clear c15b0
     try clear c15b1
     try clear c16
     try clear c16b0
     try clear c16b1
     try clear c17
     try clear c17b0
     try clear c18
     try clear c18b0
     try clear p19
     try clear q19
     try clear hx19
     try clear hf19
     try clear hcz10_0
     try clear hcz10_1
     try clear hcz11_0
     try clear hcz11_1
     try clear hcz8_0
     try clear hcz8_1
     try clear hfz10_0
     try clear hfz10_1
     try clear hfz11_0
     try clear hfz11_1
     try clear hfz8_0
     try clear hfz8_1
     try clear hx19_0
     try clear p19
     try clear p2
     try clear q19
     obtain ⟨x6_2, x7_2, x8_2, rfl, HA, HK2, HO_6, HO_7, BK151, HB⟩ := hrel
     have hl7_2 := (Kd.R_reads' HO_7.out).1
     rw [hl7_2] at HO_7
     (try simp only [hl7_2])
     (try simp only [hl7_2] at BK151)
     (try simp only [hl7_2] at HO_6)
     cases gk with
     | zero => exact absurd HA.out (by simp [impl_ShortestFrom.l0])
     | succ k2 =>
      have H := HA.out
      clear HA
      simp only [impl_ShortestFrom.l0] at H
      have H' := mK H
      clear H
      have hcz28_0 : wr.cell? ⟨gb151, 0, none⟩ = some (.int .i64 a0_0) := (blk_cell BK151.out 0).trans rfl
      have hcz28_1 : wr.cell? ⟨gb151, 1, none⟩ = some (.slice A0_1 l0_1.length c0_1) := (blk_cell BK151.out 1).trans rfl
      have hfz28_0 := blk_frozen BK151.out 0
      have hfz28_1 := blk_frozen BK151.out 1
      (try simp only [hl7_2] at c18b0)
      go_wp2
      go_loopg [9, 38] k2 (fun kq v9 v38 w' => ∃ (x6_3 : List Int) (x7_3 : List Bool) (x9_3 : Bool) (x38_3 : Int), v9 = .bool x9_3 ∧ v38 = .int .i64 x38_3 ∧ Aside0 (impl_ShortestFrom.l1 kq x6_3 x7_3 x8_2 x9_3 l0_1 (l0_1.length : Int) x38_3 a0_0 l0_1 = some (r1, r2)) ∧ Aside0 (kq ≤ k2) ∧ Aside0 (Kd.R (Kd.int .i64) 3 w' w.heap.size (fun _ => True) v155 x6_3) ∧ Aside0 (Kd.R Kd.bool 4 w' w.heap.size (fun _ => True) (.slice (some ⟨go19, 0, none⟩) x7_2.length co19) x7_3) ∧ Aside0 (w'.heap[gb151]? = some (.cells #[.int .i64 a0_0, (.slice A0_1 l0_1.length c0_1)] 25 (0, 0))) ∧ Aside0 (Below w.heap.size w w'))
      case atStart => exact ⟨(x6_2), (x7_2), (false), (0), (by first | rfl | (simp; done) | (simp [*]; done)), (by first | rfl | (simp; done) | (simp [*]; done)), H', ⟨Nat.le_refl _⟩, ⟨by (try simp only [hl7_2]); (with_reducible repeat (first | apply rA | apply rN | apply rD)); exact HO_6.out⟩, ⟨by (try simp only [hl7_2]); (with_reducible repeat (first | apply rA | apply rN | apply rD)); exact HO_7.out⟩, ⟨by (try simp only [hl7_2]); (with_reducible repeat (first | refine kN ?_ _ | refine kD ?_ | refine kA ?_ _)); exact BK151.out⟩, ⟨by repeat (first | (with_reducible first | exact HB.out | apply bA | apply bN | apply bD | refine bS ?_ GE151.out) | exact HB.out)⟩⟩
      case round =>
       clear H'
       try clear c1
       try clear p1
       try clear q1
       try clear hx1
       try clear p2
       try clear c5
       try clear c6
       try clear c13
       try clear c14
       try clear c14b0
       try clear c14b1
       try clear c15
       try clear c15b0
       try clear c15b1
       try clear c16
       try clear c16b0
       try clear c16b1
       try clear c17
       try clear c17b0
       try clear c18
       try clear c18b0
       try clear p19
       try clear q19
       try clear hx19
       try clear hf19
       try clear hcz10_0
       try clear hcz10_1
       try clear hcz11_0
       try clear hcz11_1
       try clear hcz28_0
       try clear hcz28_1
       try clear hcz8_0
       try clear hcz8_1
       try clear hfz10_0
       try clear hfz10_1
       try clear hfz11_0
       try clear hfz11_1
       try clear hfz28_0
       try clear hfz28_1
       try clear hfz8_0
       try clear hfz8_1
       try clear hx19_0
       try clear p1
       try clear p19
       try clear p2
       try clear q1
       try clear q19
       obtain ⟨x6_3, x7_3, x9_3, x38_3, rfl, rfl, HA, HK3, HO_6, HO_7, BK151, HB⟩ := hrel
       have hl7_3 := (Kd.R_reads' HO_7.out).1
       rw [hl7_3] at HO_7
       (try simp only [hl7_3])
       (try simp only [hl7_3] at BK151)
       (try simp only [hl7_3] at HO_6)
       cases gk with
       | zero => exact absurd HA.out (by simp [impl_ShortestFrom.l1])
       | succ k3 =>
        have H := HA.out
        clear HA
        simp only [impl_ShortestFrom.l1] at H
        by_cases c29 : x38_3 < (l0_1.length : Int)
        rotate_left
        · rw [if_neg c29] at H
          have c29b0 : decide (x38_3 < (l0_1.length : Int)) = false := decide_eq_false c29
          clear c29
          by_cases c82 : x9_3 = true
          · subst c82
            have H1 : (if x8_2 = a0_0 then (some (([] : List Int), false)) else (impl_ShortestFrom.l0 k3 x6_3 x7_3 (wrap64 (x8_2 + 1)) a0_0 l0_1)) = some (r1, r2) := by rw [if_pos rfl] at H; exact H
            clear H
            have H := H1
            clear H1
            by_cases c83 : x8_2 = a0_0
            · rw [if_pos c83] at H
              have c83b0 : (x8_2 == a0_0) = true := beq_iff_eq.mpr c83
              have c83b1 : (x8_2 != a0_0) = false := bne_eq_false_iff_eq.mpr c83
              clear c83
              simp only [Option.some.injEq, Prod.mk.injEq] at H
              obtain ⟨rfl, rfl⟩ := H
              have hcz84_0 : wr.cell? ⟨gb151, 0, none⟩ = some (.int .i64 a0_0) := (blk_cell BK151.out 0).trans rfl
              have hcz84_1 : wr.cell? ⟨gb151, 1, none⟩ = some (.slice A0_1 l0_1.length c0_1) := (blk_cell BK151.out 1).trans rfl
              have hfz84_0 := blk_frozen BK151.out 0
              have hfz84_1 := blk_frozen BK151.out 1
              (try simp only [hl7_2, hl7_3] at c18b0)
              (try simp only [hl7_2, hl7_3] at c29b0)
              go_wp2
              go_ret2
              exact ⟨_, by first | rfl | (simp [errW_none, errW_some] <;> rfl) | (simp [*, errW_none, errW_some] <;> rfl), by first | exact Kd.R_nil _ _ _ _ _ | exact Kd.N_nil _ _ _ _ _ | exact Kd.V_nil _ _ _ _ _ | exact Kd.Q_nil _ _ _ _ _ | exact Kd.S_nil _ _ _ _ _, by repeat (first | (with_reducible first | exact HB.out | apply bA | apply bN | apply bD | refine bS ?_ GE151.out) | exact HB.out)⟩
            rw [if_neg c83] at H
            have c83b0 : (x8_2 == a0_0) = false := beq_eq_false_iff_ne.mpr c83
            have c83b1 : (x8_2 != a0_0) = true := bne_iff_ne.mpr c83
            have H' := mK H
            clear H
            have hcz85_0 : wr.cell? ⟨gb151, 0, none⟩ = some (.int .i64 a0_0) := (blk_cell BK151.out 0).trans rfl
            have hcz85_1 : wr.cell? ⟨gb151, 1, none⟩ = some (.slice A0_1 l0_1.length c0_1) := (blk_cell BK151.out 1).trans rfl
            have hfz85_0 := blk_frozen BK151.out 0
            have hfz85_1 := blk_frozen BK151.out 1
            go_wp2
            (try simp only [← hl7_2, ← hl7_3])
            go_roundg k3
            case measure => have := HJ2.out; have := HK2.out; have := HK3.out; omega
            case rel => exact ⟨(x6_3), (x7_3), (wrap64 (x8_2 + 1)), (by first | rfl | (simp; done) | (simp [*]; done)), H', ⟨by have := HJ2.out; have := HK2.out; have := HK3.out; omega⟩, ⟨by (try simp only [hl7_2]); (try simp only [hl7_3]); (with_reducible repeat (first | apply rA | apply rN | apply rD)); exact HO_6.out⟩, ⟨by (try simp only [hl7_2]); (try simp only [hl7_3]); (with_reducible repeat (first | apply rA | apply rN | apply rD)); exact HO_7.out⟩, ⟨by (try simp only [hl7_2]); (try simp only [hl7_3]); (with_reducible repeat (first | refine kN ?_ _ | refine kD ?_ | refine kA ?_ _)); exact BK151.out⟩, ⟨by repeat (first | (with_reducible first | exact HB.out | apply bA | apply bN | apply bD | refine bS ?_ GE151.out) | exact HB.out)⟩⟩
          replace c82 := Bool.eq_false_iff.mpr c82
          subst c82
          have H1 : (impl_ShortestFrom.l2 k3 x6_3 x7_3 (x6_3.length : Int) 0) = some (r1, r2) := by rw [if_neg (show ¬ (false = true) by decide)] at H; exact H
          clear H
          have H := H1
          clear H1
          have H' := mK H
          clear H
          obtain ⟨Ao86, co86, eo86⟩ := Kd.R_slice HO_6.out
          subst eo86
          (try simp only [hl7_2, hl7_3] at c18b0)
          (try simp only [hl7_2, hl7_3] at c29b0)
          go_wp2
          go_loopg [90] k3 (fun kq v90 w' => ∃ (x6_4 : List Int) (x90_4 : Int), v90 = .int .i64 x90_4 ∧ Aside0 (impl_ShortestFrom.l2 kq x6_4 x7_3 (x6_3.length : Int) x90_4 = some (r1, r2)) ∧ Aside0 (kq ≤ k3) ∧ Aside0 (Kd.R (Kd.int .i64) 3 w' w.heap.size (fun _ => True) (.slice Ao86 x6_3.length co86) x6_4) ∧ Aside0 (Kd.R Kd.bool 4 w' w.heap.size (fun _ => True) (.slice (some ⟨go19, 0, none⟩) x7_3.length co19) x7_3) ∧ Aside0 (w'.heap[gb151]? = some (.cells #[.int .i64 a0_0, (.slice A0_1 l0_1.length c0_1)] 25 (0, 0))) ∧ Aside0 (Below w.heap.size w w'))
          case atStart => exact ⟨(x6_3), (0), (by first | rfl | (simp; done) | (simp [*]; done)), H', ⟨Nat.le_refl _⟩, ⟨by (try simp only [hl7_2]); (try simp only [hl7_3]); (with_reducible repeat (first | apply rA | apply rN | apply rD)); exact HO_6.out⟩, ⟨by (try simp only [hl7_2]); (try simp only [hl7_3]); (with_reducible repeat (first | apply rA | apply rN | apply rD)); exact HO_7.out⟩, ⟨by (try simp only [hl7_2]); (try simp only [hl7_3]); (with_reducible repeat (first | refine kN ?_ _ | refine kD ?_ | refine kA ?_ _)); exact BK151.out⟩, ⟨by repeat (first | (with_reducible first | exact HB.out | apply bA | apply bN | apply bD | refine bS ?_ GE151.out) | exact HB.out)⟩⟩
          case round =>
           clear H'
           try clear c1
           try clear p1
           try clear q1
           try clear hx1
           try clear c2
           try clear p2
           try clear c3
           try clear q3
           try clear c4
           try clear c6
           try clear p6
           try clear q6
           try clear hx6
           try clear hf6
           try clear c7
           try clear c8
           try clear p16
           try clear q16
           try clear hx16
           try clear c18
           try clear c18b0
           try clear c29
           try clear c29b0
           try clear c30
           try clear c31
           try clear c32
           try clear c33
           try clear c34
           try clear q35
           try clear c36
           try clear c37
           try clear c38
           try clear q39
           try clear c40
           try clear c41
           try clear c62
           try clear c62b0
           try clear p63
           try clear q63
           try clear hx63
           try clear hf63
           try clear p64
           try clear q64
           try clear hx64
           try clear hf64
           try clear c66
           try clear c76
           try clear c82
           try clear c83
           try clear c83b0
           try clear c83b1
           try clear hcz61_0
           try clear hcz61_1
           try clear hcz61_2
           try clear hcz67_0
           try clear hcz67_1
           try clear hcz67_2
           try clear hcz71_0
           try clear hcz71_1
           try clear hcz71_2
           try clear hcz77_0
           try clear hcz77_1
           try clear hcz77_2
           try clear hcz81_0
           try clear hcz81_1
           try clear hcz81_2
           try clear hcz84_0
           try clear hcz84_1
           try clear hcz85_0
           try clear hcz85_1
           try clear hfz61_0
           try clear hfz61_1
           try clear hfz61_2
           try clear hfz67_0
           try clear hfz67_1
           try clear hfz67_2
           try clear hfz71_0
           try clear hfz71_1
           try clear hfz71_2
           try clear hfz77_0
           try clear hfz77_1
           try clear hfz77_2
           try clear hfz81_0
           try clear hfz81_1
           try clear hfz81_2
           try clear hfz84_0
           try clear hfz84_1
           try clear hfz85_0
           try clear hfz85_1
           try clear hx161_0
           try clear hx161_1
           try clear hx161_2
           try clear hx163_0
           try clear hx164_0
           try clear hx165_0
           try clear hx166_0
           try clear hx63_0
           try clear hx64_0
           try clear p161
           try clear p163
           try clear p164
           try clear p165
           try clear p166
           try clear p63
           try clear p64
           try clear q161
           try clear q163
           try clear q164
           try clear q165
           try clear q166
           try clear q63
           try clear q64
           obtain ⟨x6_4, x90_4, rfl, HA, HK4, HO_6, HO_7, BK151, HB⟩ := hrel
           have hl6_4 := (Kd.R_reads' HO_6.out).1
           rw [hl6_4] at HO_6
           (try simp only [hl6_4])
           (try simp only [hl6_4] at BK151)
           (try simp only [hl6_4] at HO_7)
           cases gk with
           | zero => exact absurd HA.out (by simp [impl_ShortestFrom.l2])
           | succ k4 =>
            have H := HA.out
            clear HA
            simp only [impl_ShortestFrom.l2] at H
            by_cases c87 : x90_4 < (x6_3.length : Int)
            rotate_left
            · rw [if_neg c87] at H
              have c87b0 : decide (x90_4 < (x6_3.length : Int)) = false := decide_eq_false c87
              clear c87
              simp only [Option.some.injEq, Prod.mk.injEq] at H
              obtain ⟨rfl, rfl⟩ := H
              (try simp only [hl7_2, hl7_3, hl6_4] at c18b0)
              (try simp only [hl7_2, hl7_3, hl6_4] at c29b0)
              (try simp only [hl7_2, hl7_3, hl6_4] at c87b0)
              go_wp2
              go_ret2
              exact ⟨_, by first | rfl | (simp [errW_none, errW_some] <;> rfl) | (simp [*, errW_none, errW_some] <;> rfl), by (with_reducible repeat (first | apply rA | apply rN | apply rD)); exact HO_6.out, by repeat (first | (with_reducible first | exact HB.out | apply bA | apply bN | apply bD | refine bS ?_ GE151.out) | exact HB.out)⟩
            rw [if_pos c87] at H
            have c87b0 : decide (x90_4 < (x6_3.length : Int)) = true := decide_eq_true c87
            clear c87
            by_cases c88 : 0 ≤ x90_4
            rotate_left
            · rw [if_neg c88] at H
              exact absurd H (by simp)
            rw [if_pos c88] at H
            have c88b0 : decide (0 ≤ x90_4) = true := decide_eq_true c88
            clear c88
            by_cases c89 : x90_4 < (x7_3.length : Int)
            rotate_left
            · rw [if_neg c89] at H
              exact absurd H (by simp)
            rw [if_pos c89] at H
            have c89b0 : decide (x90_4 < (x7_3.length : Int)) = true := decide_eq_true c89
            clear c89
            obtain ⟨bq90, hbq90⟩ : ∃ b_ : Bool, b_ = (rdOf false x7_3 x90_4) := ⟨_, rfl⟩
            replace H : (if bq90 = true then (if x90_4 < (x6_4.length : Int) then (impl_ShortestFrom.l2 k4 (x6_4.set (x90_4 : Int).toNat (mn (rd x6_4 x90_4) 1000000)) x7_3 (x6_3.length : Int) (wrap64 (x90_4 + 1))) else (none)) else (if x90_4 < (x6_4.length : Int) then ((some (x6_4.set (x90_4 : Int).toNat 1000000 : List Int)).bind fun y174 => (impl_ShortestFrom.l2 k4 (y174.set (x90_4 : Int).toNat (mn (rd y174 x90_4) 1000000)) x7_3 (x6_3.length : Int) (wrap64 (x90_4 + 1)))) else (none))) = some (r1, r2) := by rw [← hbq90] at H; exact H
            have Nbq90 := mK hbq90
            clear hbq90
            by_cases c91 : bq90 = true
            · subst c91
              have H1 : (if x90_4 < (x6_4.length : Int) then (impl_ShortestFrom.l2 k4 (x6_4.set (x90_4 : Int).toNat (mn (rd x6_4 x90_4) 1000000)) x7_3 (x6_3.length : Int) (wrap64 (x90_4 + 1))) else (none)) = some (r1, r2) := by rw [if_pos rfl] at H; exact H
              clear H
              have H := H1
              clear H1
              by_cases c92 : x90_4 < (x6_4.length : Int)
              rotate_left
              · rw [if_neg c92] at H
                exact absurd H (by simp)
              rw [if_pos c92] at H
              have c92b0 : decide (x90_4 < (x6_4.length : Int)) = true := decide_eq_true c92
              clear c92
              obtain ⟨ji93, hji93⟩ : ∃ j_ : Int, (mn (rd x6_4 x90_4) 1000000) = j_ := ⟨_, rfl⟩
              replace H : (impl_ShortestFrom.l2 k4 (x6_4.set (x90_4 : Int).toNat (ji93)) x7_3 (x6_3.length : Int) (wrap64 (x90_4 + 1))) = some (r1, r2) := by first | (rw [hji93] at H; exact H) | (simp only [hji93] at H ⊢; exact H)
              have hji93_ : (if 1000000 < (rd x6_4 x90_4) then 1000000 else (rd x6_4 x90_4)) = ji93 := hji93
              obtain ⟨y173, hy173⟩ : ∃ y_ : List Int, y_ = (x6_4.set (x90_4 : Int).toNat (ji93)) := ⟨_, rfl⟩
              replace H : (impl_ShortestFrom.l2 k4 y173 x7_3 (x6_3.length : Int) (wrap64 (x90_4 + 1))) = some (r1, r2) := by first | (rw [hy173]; with_reducible exact H) | (have H2_ := (Option.bind_some _ _).symm.trans H; rw [hy173]; with_reducible exact H2_) | (have H2_ := (Option.bind_some _ _).symm.trans H; with_reducible exact H2_) | with_reducible exact H | (rw [hy173]; exact H) | exact H
              have Ny173 := mK hy173
              clear hy173
              have H' := mK H
              clear H
              have p171 : 0 ≤ (x90_4 : Int) := of_decide_eq_true (by first | (with_reducible assumption) | assumption)
              have q171 : x90_4 < (x7_3.length : Int) := of_decide_eq_true (by first | (with_reducible assumption) | assumption)
              obtain ⟨ad171, e171, hx171_0⟩ := Kd.at_bool (Kd.R_reads' HO_7.out).2.2 x90_4 p171 q171
              (try rw [← Nbq90.out] at hx171_0)
              obtain rfl : (⟨go19, 0, none⟩ : Addr) = ad171 := (by injection e171)
              (first | simp only [add_plain] at hx171_0 | simp only [add_at] at hx171_0 | simp only [Addr.add, Nat.zero_add] at hx171_0 | skip)
              replace p171 := eq_true p171
              replace q171 := eq_true q171
              have p172 : 0 ≤ (x90_4 : Int) := of_decide_eq_true (by first | (with_reducible assumption) | assumption)
              have q172 : x90_4 < (x6_4.length : Int) := of_decide_eq_true (by first | (with_reducible assumption) | assumption)
              obtain ⟨ad172, e172, hx172_0⟩ := Kd.at_int (Kd.R_reads' HO_6.out).2.2 x90_4 p172 q172
              cases e172
              replace p172 := eq_true p172
              replace q172 := eq_true q172
              have p94 : 0 ≤ (x90_4 : Int) := of_decide_eq_true (by first | (with_reducible assumption) | assumption)
              have q94 : (x90_4 : Int) < ((x6_4.length : Int) : Int) := of_decide_eq_true (by first | (with_reducible assumption) | assumption)
              obtain ⟨go94, co94, eo94, gb94, gl94, cl94, HG94⟩ := Kd.R_form HO_6.out (by omega)
              (first | cases eo94 | (injection eo94 with ea_ en_ ec_; (first | subst ea_ | (injection ea_ with ea_; subst ea_)); subst ec_; clear en_))
              have GB94 := mK gb94
              have GG94 := mK HG94
              clear gb94 gl94 HG94
              (first | simp only [add_plain] at hx172_0 | skip)
              obtain ⟨hx94_0, hf94_0⟩ := Kd.R_celln 0 HO_6.out (x90_4 : Int) p94 q94
              replace p94 := eq_true p94
              replace q94 := eq_true q94
              have HP95 := Kd.R_putg HO_6.out (x90_4 : Int) ji93
              go_wp2_with (first | ((with_reducible refine gate_store (t := 3) (p := 108) rfl ?_); refine store_event (t := 3) (p := 108) (v := ?vo_w96) (w1 := (wr.setCell ⟨go94, (x90_4 : Int).toNat, none⟩ (.int .i64 ji93))) ?hg ?ho ?hn ?hr ?_; (case ho => rfl); (case hg => rfl); (case hn => rfl); (case hr => first | (go_simp; done) | (go_simp; rfl)); intro w96 hw; have hg : wr.grownBy w96 (some go94) := (by rw [hw]; exact HP95.2); have hp_ : Kd.R (Kd.int .i64) 3 w96 w.heap.size (fun _ => True) (.slice (some ⟨go94, 0, none⟩) x6_4.length co86) y173 := (by rw [hw, Ny173.out]; exact HP95.1); clear HP95; have n0_ := mK (hp_); have n1_ := mK (Kd.R_over' (v := (.slice (some ⟨go94, 0, none⟩) x6_4.length co86)) (by (with_reducible repeat (first | apply rA | apply rN | apply rD)); exact HO_7.out) (Kd.R_typed HO_6.out) (by decide) hg); have n2_ := mK (blk_grown (by (with_reducible repeat (first | refine kN ?_ _ | refine kD ?_ | refine kA ?_ _)); exact BK151.out) hg (Kd.R_ne HO_6.out BK151.out (by decide))); have n3_ := mK ((by rw [hw]; exact below_set (HB.out) GB94.out : Below w.heap.size w w96)); clear HO_6; clear HO_7; clear BK151; clear HB; have HO_6 := n0_; have HO_7 := n1_; have BK151 := n2_; have HB := n3_; clear n0_ n1_ n2_ n3_; clear hg hw hp_))
              (try simp only [← hl6_4])
              go_roundg k4
              case measure => have := HJ2.out; have := HK2.out; have := HK3.out; have := HK4.out; omega
              case rel => exact ⟨(y173), (wrap64 (x90_4 + 1)), (by first | rfl | (simp; done) | (simp [*]; done)), H', ⟨by have := HJ2.out; have := HK2.out; have := HK3.out; have := HK4.out; omega⟩, ⟨by (try simp only [hl7_2]); (try simp only [hl7_3]); (try simp only [hl6_4]); (with_reducible repeat (first | apply rA | apply rN | apply rD)); exact HO_6.out⟩, ⟨by (try simp only [hl7_2]); (try simp only [hl7_3]); (try simp only [hl6_4]); (with_reducible repeat (first | apply rA | apply rN | apply rD)); exact HO_7.out⟩, ⟨by (try simp only [hl7_2]); (try simp only [hl7_3]); (try simp only [hl6_4]); (with_reducible repeat (first | refine kN ?_ _ | refine kD ?_ | refine kA ?_ _)); exact BK151.out⟩, ⟨by repeat (first | (with_reducible first | exact HB.out | apply bA | apply bN | apply bD | refine bS ?_ GE151.out) | exact HB.out)⟩⟩
            replace c91 := Bool.eq_false_iff.mpr c91
            subst c91
            have H1 : (if x90_4 < (x6_4.length : Int) then ((some (x6_4.set (x90_4 : Int).toNat 1000000 : List Int)).bind fun y174 => (impl_ShortestFrom.l2 k4 (y174.set (x90_4 : Int).toNat (mn (rd y174 x90_4) 1000000)) x7_3 (x6_3.length : Int) (wrap64 (x90_4 + 1)))) else (none)) = some (r1, r2) := by rw [if_neg (show ¬ (false = true) by decide)] at H; exact H
            clear H
            have H := H1
            clear H1
            by_cases c97 : x90_4 < (x6_4.length : Int)
            rotate_left
            · rw [if_neg c97] at H
              exact absurd H (by simp)
            rw [if_pos c97] at H
            have c97b0 : decide (x90_4 < (x6_4.length : Int)) = true := decide_eq_true c97
            clear c97
            obtain ⟨y174, hy174⟩ : ∃ y_ : List Int, y_ = (x6_4.set (x90_4 : Int).toNat 1000000) := ⟨_, rfl⟩
            replace H : (impl_ShortestFrom.l2 k4 (y174.set (x90_4 : Int).toNat (mn (rd y174 x90_4) 1000000)) x7_3 (x6_3.length : Int) (wrap64 (x90_4 + 1))) = some (r1, r2) := by first | (rw [hy174]; with_reducible exact H) | (have H2_ := (Option.bind_some _ _).symm.trans H; rw [hy174]; with_reducible exact H2_) | (have H2_ := (Option.bind_some _ _).symm.trans H; with_reducible exact H2_) | with_reducible exact H | (rw [hy174]; exact H) | exact H
            have Ny174 := mK hy174
            clear hy174
            obtain ⟨ji99, hji99⟩ : ∃ j_ : Int, (mn (rd y174 x90_4) 1000000) = j_ := ⟨_, rfl⟩
            replace H : (impl_ShortestFrom.l2 k4 (y174.set (x90_4 : Int).toNat (ji99)) x7_3 (x6_3.length : Int) (wrap64 (x90_4 + 1))) = some (r1, r2) := by first | (rw [hji99] at H; exact H) | (simp only [hji99] at H ⊢; exact H)
            have hji99_ : (if 1000000 < (rd y174 x90_4) then 1000000 else (rd y174 x90_4)) = ji99 := hji99
            obtain ⟨y176, hy176⟩ : ∃ y_ : List Int, y_ = (y174.set (x90_4 : Int).toNat (ji99)) := ⟨_, rfl⟩
            replace H : (impl_ShortestFrom.l2 k4 y176 x7_3 (x6_3.length : Int) (wrap64 (x90_4 + 1))) = some (r1, r2) := by first | (rw [hy176]; with_reducible exact H) | (have H2_ := (Option.bind_some _ _).symm.trans H; rw [hy176]; with_reducible exact H2_) | (have H2_ := (Option.bind_some _ _).symm.trans H; with_reducible exact H2_) | with_reducible exact H | (rw [hy176]; exact H) | exact H
            have Ny176 := mK hy176
            clear hy176
            have H' := mK H
            clear H
            have p171 : 0 ≤ (x90_4 : Int) := of_decide_eq_true (by first | (with_reducible assumption) | assumption)
            have q171 : x90_4 < (x7_3.length : Int) := of_decide_eq_true (by first | (with_reducible assumption) | assumption)
            obtain ⟨ad171, e171, hx171_0⟩ := Kd.at_bool (Kd.R_reads' HO_7.out).2.2 x90_4 p171 q171
            (try rw [← Nbq90.out] at hx171_0)
            obtain rfl : (⟨go19, 0, none⟩ : Addr) = ad171 := (by injection e171)
            (first | simp only [add_plain] at hx171_0 | simp only [add_at] at hx171_0 | simp only [Addr.add, Nat.zero_add] at hx171_0 | skip)
            replace p171 := eq_true p171
            replace q171 := eq_true q171
            have p98 : 0 ≤ (x90_4 : Int) := of_decide_eq_true (by first | (with_reducible assumption) | assumption)
            have q98 : (x90_4 : Int) < ((x6_4.length : Int) : Int) := of_decide_eq_true (by first | (with_reducible assumption) | assumption)
            obtain ⟨go98, co98, eo98, gb98, gl98, cl98, HG98⟩ := Kd.R_form HO_6.out (by omega)
            (first | cases eo98 | (injection eo98 with ea_ en_ ec_; (first | subst ea_ | (injection ea_ with ea_; subst ea_)); subst ec_; clear en_))
            have GB98 := mK gb98
            have GG98 := mK HG98
            clear gb98 gl98 HG98
            obtain ⟨hx98_0, hf98_0⟩ := Kd.R_celln 0 HO_6.out (x90_4 : Int) p98 q98
            replace p98 := eq_true p98
            replace q98 := eq_true q98
            have HP101 := Kd.R_putg HO_6.out (x90_4 : Int) 1000000
            go_wp2_with (first | ((with_reducible refine gate_store (t := 3) (p := 100) rfl ?_); refine store_event (t := 3) (p := 100) (v := ?vo_w102) (w1 := (wr.setCell ⟨go98, (x90_4 : Int).toNat, none⟩ (.int .i64 1000000))) ?hg ?ho ?hn ?hr ?_; (case ho => rfl); (case hg => rfl); (case hn => rfl); (case hr => first | (go_simp; done) | (go_simp; rfl)); intro w102 hw; have hg : wr.grownBy w102 (some go98) := (by rw [hw]; exact HP101.2); have hp_ : Kd.R (Kd.int .i64) 3 w102 w.heap.size (fun _ => True) (.slice (some ⟨go98, 0, none⟩) x6_4.length co86) y174 := (by rw [hw, Ny174.out]; exact HP101.1); clear HP101; have n0_ := mK (hp_); have n1_ := mK (Kd.R_over' (v := (.slice (some ⟨go98, 0, none⟩) x6_4.length co86)) (by (with_reducible repeat (first | apply rA | apply rN | apply rD)); exact HO_7.out) (Kd.R_typed HO_6.out) (by decide) hg); have n2_ := mK (blk_grown (by (with_reducible repeat (first | refine kN ?_ _ | refine kD ?_ | refine kA ?_ _)); exact BK151.out) hg (Kd.R_ne HO_6.out BK151.out (by decide))); have n3_ := mK ((by rw [hw]; exact below_set (HB.out) GB98.out : Below w.heap.size w w102)); clear HO_6; clear HO_7; clear BK151; clear HB; have HO_6 := n0_; have HO_7 := n1_; have BK151 := n2_; have HB := n3_; clear n0_ n1_ n2_ n3_; clear hg hw hp_; have p175 : 0 ≤ (x90_4 : Int) := of_decide_eq_true (by first | (with_reducible assumption) | assumption); have q175 : x90_4 < (y174.length : Int) := (by have h_ : (x90_4 : Int) < ((x6_4.length : Int) : Int) := of_decide_eq_true (by first | (with_reducible assumption) | assumption); first | (have e_ := (Kd.R_reads' HO_6.out).1; omega) | simpa only [Ny174.out, List.length_set] using h_); have ql175 : ((x90_4 : Int) < ((x6_4.length : Int) : Int)) = True := eq_true (of_decide_eq_true (by first | (with_reducible assumption) | assumption)); obtain ⟨ad175, e175, hx175_0⟩ := Kd.at_int (Kd.R_reads' HO_6.out).2.2 x90_4 p175 q175; obtain rfl : (⟨go98, 0, none⟩ : Addr) = ad175 := (by injection e175); (first | simp only [add_plain] at hx175_0 | simp only [add_at] at hx175_0 | simp only [Addr.add, Nat.zero_add] at hx175_0 | skip); replace p175 := eq_true p175; replace q175 := eq_true q175; have p100 : 0 ≤ (x90_4 : Int) := of_decide_eq_true (by first | (with_reducible assumption) | assumption); have q100 : (x90_4 : Int) < ((x6_4.length : Int) : Int) := of_decide_eq_true (by first | (with_reducible assumption) | assumption); obtain ⟨hx100_0, hf100_0⟩ := Kd.R_celln 0 HO_6.out (x90_4 : Int) p100 q100; replace p100 := eq_true p100; replace q100 := eq_true q100; obtain ⟨hy103_, hz103_⟩ := Kd.R_celln 0 HO_6.out (x90_4 : Int) (of_decide_eq_true (by first | (with_reducible assumption) | assumption)) (of_decide_eq_true (by first | (with_reducible assumption) | assumption)); have HP103 := Kd.R_putg HO_6.out (x90_4 : Int) ji99) | ((with_reducible refine gate_store (t := 3) (p := 108) rfl ?_); refine store_event (t := 3) (p := 108) (v := ?vo_w104) (w1 := (w102.setCell ⟨go98, (x90_4 : Int).toNat, none⟩ (.int .i64 ji99))) ?hg ?ho ?hn ?hr ?_; (case ho => rfl); (case hg => rfl); (case hn => rfl); (case hr => first | (go_simp; done) | (go_simp; rfl)); intro w104 hw; have hg : w102.grownBy w104 (some go98) := (by rw [hw]; exact HP103.2); have hp_ : Kd.R (Kd.int .i64) 3 w104 w.heap.size (fun _ => True) (.slice (some ⟨go98, 0, none⟩) x6_4.length co86) y176 := (by rw [hw, Ny176.out]; exact HP103.1); clear HP103; have n0_ := mK (hp_); have n1_ := mK (Kd.R_over' (v := (.slice (some ⟨go98, 0, none⟩) x6_4.length co86)) (by (with_reducible repeat (first | apply rA | apply rN | apply rD)); exact HO_7.out) (Kd.R_typed HO_6.out) (by decide) hg); have n2_ := mK (blk_grown (by (with_reducible repeat (first | refine kN ?_ _ | refine kD ?_ | refine kA ?_ _)); exact BK151.out) hg (Kd.R_ne HO_6.out BK151.out (by decide))); have n3_ := mK ((by rw [hw]; exact below_set (HB.out) GB98.out : Below w.heap.size w w104)); clear HO_6; clear HO_7; clear BK151; clear HB; have HO_6 := n0_; have HO_7 := n1_; have BK151 := n2_; have HB := n3_; clear n0_ n1_ n2_ n3_; clear hg hw hp_))
            (try simp only [← hl6_4])
            go_roundg k4
            case measure => have := HJ2.out; have := HK2.out; have := HK3.out; have := HK4.out; omega
            case rel => exact ⟨(y176), (wrap64 (x90_4 + 1)), (by first | rfl | (simp; done) | (simp [*]; done)), H', ⟨by have := HJ2.out; have := HK2.out; have := HK3.out; have := HK4.out; omega⟩, ⟨by (try simp only [hl7_2]); (try simp only [hl7_3]); (try simp only [hl6_4]); (with_reducible repeat (first | apply rA | apply rN | apply rD)); exact HO_6.out⟩, ⟨by (try simp only [hl7_2]); (try simp only [hl7_3]); (try simp only [hl6_4]); (with_reducible repeat (first | apply rA | apply rN | apply rD)); exact HO_7.out⟩, ⟨by (try simp only [hl7_2]); (try simp only [hl7_3]); (try simp only [hl6_4]); (with_reducible repeat (first | refine kN ?_ _ | refine kD ?_ | refine kA ?_ _)); exact BK151.out⟩, ⟨by repeat (first | (with_reducible first | exact HB.out | apply bA | apply bN | apply bD | refine bS ?_ GE151.out) | exact HB.out)⟩⟩
        rw [if_pos c29] at H
        have c29b0 : decide (x38_3 < (l0_1.length : Int)) = true := decide_eq_true c29
        clear c29
        by_cases c30 : 0 ≤ x38_3
        rotate_left
        · rw [if_neg c30] at H
          exact absurd H (by simp)
        rw [if_pos c30] at H
        have c30b0 : decide (0 ≤ x38_3) = true := decide_eq_true c30
        clear c30
        by_cases c31 : x38_3 < (l0_1.length : Int)
        rotate_left
        · rw [if_neg c31] at H
          exact absurd H (by simp)
        rw [if_pos c31] at H
        have c31b0 : decide (x38_3 < (l0_1.length : Int)) = true := decide_eq_true c31
        clear c31
        by_cases c32 : 0 ≤ ((rd_T39 l0_1 x38_3).f0)
        rotate_left
        · rw [if_neg c32] at H
          exact absurd H (by simp)
        rw [if_pos c32] at H
        have c32b0 : decide (0 ≤ ((rd_T39 l0_1 x38_3).f0)) = true := decide_eq_true c32
        clear c32
        by_cases c33 : ((rd_T39 l0_1 x38_3).f0) < (x6_3.length : Int)
        rotate_left
        · rw [if_neg c33] at H
          exact absurd H (by simp)
        rw [if_pos c33] at H
        have c33b0 : decide (((rd_T39 l0_1 x38_3).f0) < (x6_3.length : Int)) = true := decide_eq_true c33
        clear c33
        by_cases c34 : ((rd_T39 l0_1 x38_3).f0) < (x7_3.length : Int)
        rotate_left
        · rw [if_neg c34] at H
          exact absurd H (by simp)
        rw [if_pos c34] at H
        have c34b0 : decide (((rd_T39 l0_1 x38_3).f0) < (x7_3.length : Int)) = true := decide_eq_true c34
        clear c34
        obtain ⟨bq35, hbq35⟩ : ∃ b_ : Bool, b_ = (rdOf false x7_3 ((rd_T39 l0_1 x38_3).f0)) := ⟨_, rfl⟩
        replace H : (if bq35 = true then (if 0 ≤ ((rd_T39 l0_1 x38_3).f1) then (if ((rd_T39 l0_1 x38_3).f1) < (x7_3.length : Int) then (if (rdOf false x7_3 ((rd_T39 l0_1 x38_3).f1) = true) then (if ((rd_T39 l0_1 x38_3).f1) < (x6_3.length : Int) then (if (wrap64 ((rd x6_3 ((rd_T39 l0_1 x38_3).f0)) + ((rd_T39 l0_1 x38_3).f2))) < (rd x6_3 ((rd_T39 l0_1 x38_3).f1)) then (impl_ShortestFrom.l1 k3 (x6_3.set (((rd_T39 l0_1 x38_3).f1) : Int).toNat (wrap64 ((rd x6_3 ((rd_T39 l0_1 x38_3).f0)) + ((rd_T39 l0_1 x38_3).f2)))) (x7_3.set (((rd_T39 l0_1 x38_3).f1) : Int).toNat true) x8_2 true l0_1 (l0_1.length : Int) (wrap64 (x38_3 + 1)) a0_0 l0_1) else (impl_ShortestFrom.l1 k3 x6_3 x7_3 x8_2 x9_3 l0_1 (l0_1.length : Int) (wrap64 (x38_3 + 1)) a0_0 l0_1)) else (none)) else (if ((rd_T39 l0_1 x38_3).f1) < (x6_3.length : Int) then (impl_ShortestFrom.l1 k3 (x6_3.set (((rd_T39 l0_1 x38_3).f1) : Int).toNat (wrap64 ((rd x6_3 ((rd_T39 l0_1 x38_3).f0)) + ((rd_T39 l0_1 x38_3).f2)))) (x7_3.set (((rd_T39 l0_1 x38_3).f1) : Int).toNat true) x8_2 true l0_1 (l0_1.length : Int) (wrap64 (x38_3 + 1)) a0_0 l0_1) else (none))) else (none)) else (none)) else (impl_ShortestFrom.l1 k3 x6_3 x7_3 x8_2 x9_3 l0_1 (l0_1.length : Int) (wrap64 (x38_3 + 1)) a0_0 l0_1)) = some (r1, r2) := by rw [← hbq35] at H; exact H
        have Nbq35 := mK hbq35
        clear hbq35
        by_cases c36 : bq35 = true
        rotate_left
        · replace c36 := Bool.eq_false_iff.mpr c36
          subst c36
          have H1 : (impl_ShortestFrom.l1 k3 x6_3 x7_3 x8_2 x9_3 l0_1 (l0_1.length : Int) (wrap64 (x38_3 + 1)) a0_0 l0_1) = some (r1, r2) := by rw [if_neg (show ¬ (false = true) by decide)] at H; exact H
          clear H
          have H := H1
          clear H1
          have H' := mK H
          clear H
          have p161 : 0 ≤ (x38_3 : Int) := of_decide_eq_true (by first | (with_reducible assumption) | assumption)
          have q161 : x38_3 < (l0_1.length : Int) := of_decide_eq_true (by first | (with_reducible assumption) | assumption)
          obtain ⟨ad161, e161, hx161_0, hx161_1, hx161_2⟩ := at_T39 HR0_1.out x38_3 p161 q161
          cases e161
          replace hx161_0 := (HB.out.cell (World.block_lt_of_cell? w _ hx161_0)).trans hx161_0
          replace hx161_1 := (HB.out.cell (World.block_lt_of_cell? w _ hx161_1)).trans hx161_1
          replace hx161_2 := (HB.out.cell (World.block_lt_of_cell? w _ hx161_2)).trans hx161_2
          replace p161 := eq_true p161
          replace q161 := eq_true q161
          try go_wp2_with (first | ((with_reducible refine gate_dst (N := 11) rfl ?_); refine box_event ?hg (N := 11) ?hd (cs := #[.int .i64 0, .int .i64 0, .int .i64 0]) (t := 39) ?hr ?_; (case hd => rfl); (case hg => rfl); (case hr => first | (go_simp; done) | (go_simp; rfl)); intro gb162 hg w75 hbox hb; have n0_ := mK (Kd.R_below (by (with_reducible repeat (first | apply rA | apply rN | apply rD)); exact HO_6.out) hb); have n1_ := mK (Kd.R_below (by (with_reducible repeat (first | apply rA | apply rN | apply rD)); exact HO_7.out) hb); have n2_ := mK (blk_below (by (with_reducible repeat (first | refine kN ?_ _ | refine kD ?_ | refine kA ?_ _)); exact BK151.out) hb); have n3_ := mK (below_step (by repeat (first | (with_reducible first | exact HB.out | apply bA | apply bN | apply bD | refine bS ?_ GE151.out) | exact HB.out)) hb); have n4_ := mK (hbox); have n5_ := mK ((by rw [hg]; exact (below_size (by repeat (first | (with_reducible first | exact HB.out | apply bA | apply bN | apply bD | refine bS ?_ GE151.out) | exact HB.out))) : w.heap.size ≤ gb162)); have n6_ := mK ((by rw [hg]; exact (below_size (by repeat (first | (with_reducible first | exact HB.out | apply bA | apply bN | apply bD | refine bS ?_ GE151.out) | exact HB.out))) : w.heap.size ≤ gb162)); have n7_ := mK ((by rw [hg]; exact Nat.ne_of_lt (blk_lt (by (with_reducible repeat (first | refine kN ?_ _ | refine kD ?_ | refine kA ?_ _)); exact BK151.out)) : gb151 ≠ gb162)); have n8_ := mK ((by rw [hg]; exact Nat.ne_of_gt (blk_lt (by (with_reducible repeat (first | refine kN ?_ _ | refine kD ?_ | refine kA ?_ _)); exact BK151.out)) : gb162 ≠ gb151)); clear HO_6; clear HO_7; clear BK151; clear HB; have HO_6 := n0_; have HO_7 := n1_; have BK151 := n2_; have HB := n3_; have BK162 := n4_; have GW162 := n5_; have GE162 := n6_; have NB151_162 := n7_; have NB162_151 := n8_; clear n0_ n1_ n2_ n3_ n4_ n5_ n6_ n7_ n8_; clear hb hbox hg; have hnb76 := NB162_151.out; have hnc76 := NB151_162.out; have hcz77_0 : w75.cell? ⟨gb162, 0, none⟩ = some (.int .i64 0) := (blk_cell BK162.out 0).trans rfl; have hcz77_1 : w75.cell? ⟨gb162, 1, none⟩ = some (.int .i64 0) := (blk_cell BK162.out 1).trans rfl; have hcz77_2 : w75.cell? ⟨gb162, 2, none⟩ = some (.int .i64 0) := (blk_cell BK162.out 2).trans rfl; have hfz77_0 := blk_frozen BK162.out 0; have hfz77_1 := blk_frozen BK162.out 1; have hfz77_2 := blk_frozen BK162.out 2))
          have n0_ : Aside0 (Kd.R (Kd.int .i64) 3 (((w75.setCell ⟨gb162, 0, none⟩ (.int .i64 ((rd_T39 l0_1 x38_3).f0))).setCell ⟨gb162, 1, none⟩ (.int .i64 ((rd_T39 l0_1 x38_3).f1))).setCell ⟨gb162, 2, none⟩ (.int .i64 ((rd_T39 l0_1 x38_3).f2))) w.heap.size (fun _ => True) v155 x6_3) := ⟨by (with_reducible repeat (first | apply rA | apply rN | apply rD)); exact Kd.R_mono (Kd.R_far (p := ⟨gb162, 2, none⟩) (Kd.R_far (p := ⟨gb162, 1, none⟩) (Kd.R_far (p := ⟨gb162, 0, none⟩) (Kd.R_types HO_6.out BK162.out (by decide)) (fun _ hk => hk.2) (.int .i64 ((rd_T39 l0_1 x38_3).f0))) (fun _ hk => hk.2) (.int .i64 ((rd_T39 l0_1 x38_3).f1))) (fun _ hk => hk.2) (.int .i64 ((rd_T39 l0_1 x38_3).f2))) (fun _ hk => trivial)⟩
          have n1_ : Aside0 (Kd.R Kd.bool 4 (((w75.setCell ⟨gb162, 0, none⟩ (.int .i64 ((rd_T39 l0_1 x38_3).f0))).setCell ⟨gb162, 1, none⟩ (.int .i64 ((rd_T39 l0_1 x38_3).f1))).setCell ⟨gb162, 2, none⟩ (.int .i64 ((rd_T39 l0_1 x38_3).f2))) w.heap.size (fun _ => True) (.slice (some ⟨go19, 0, none⟩) x7_3.length co19) x7_3) := ⟨by (with_reducible repeat (first | apply rA | apply rN | apply rD)); exact Kd.R_mono (Kd.R_far (p := ⟨gb162, 2, none⟩) (Kd.R_far (p := ⟨gb162, 1, none⟩) (Kd.R_far (p := ⟨gb162, 0, none⟩) (Kd.R_types HO_7.out BK162.out (by decide)) (fun _ hk => hk.2) (.int .i64 ((rd_T39 l0_1 x38_3).f0))) (fun _ hk => hk.2) (.int .i64 ((rd_T39 l0_1 x38_3).f1))) (fun _ hk => hk.2) (.int .i64 ((rd_T39 l0_1 x38_3).f2))) (fun _ hk => trivial)⟩
          have n2_ : Aside0 ((((w75.setCell ⟨gb162, 0, none⟩ (.int .i64 ((rd_T39 l0_1 x38_3).f0))).setCell ⟨gb162, 1, none⟩ (.int .i64 ((rd_T39 l0_1 x38_3).f1))).setCell ⟨gb162, 2, none⟩ (.int .i64 ((rd_T39 l0_1 x38_3).f2))).heap[gb151]? = some (.cells #[.int .i64 a0_0, .slice (some ad161) l0_1.length c0_1] 25 (0, 0))) := ⟨by (with_reducible repeat (first | refine kN ?_ _ | refine kD ?_ | refine kA ?_ _)); refine blk_far ?_ NB151_162.out _; (with_reducible repeat (first | refine kN ?_ _ | refine kD ?_ | refine kA ?_ _)); refine blk_far ?_ NB151_162.out _; (with_reducible repeat (first | refine kN ?_ _ | refine kD ?_ | refine kA ?_ _)); refine blk_far ?_ NB151_162.out _; (with_reducible repeat (first | refine kN ?_ _ | refine kD ?_ | refine kA ?_ _)); exact BK151.out⟩
          have n3_ : Aside0 ((((w75.setCell ⟨gb162, 0, none⟩ (.int .i64 ((rd_T39 l0_1 x38_3).f0))).setCell ⟨gb162, 1, none⟩ (.int .i64 ((rd_T39 l0_1 x38_3).f1))).setCell ⟨gb162, 2, none⟩ (.int .i64 ((rd_T39 l0_1 x38_3).f2))).heap[gb162]? = some (.cells #[.int .i64 ((rd_T39 l0_1 x38_3).f0), .int .i64 ((rd_T39 l0_1 x38_3).f1), .int .i64 ((rd_T39 l0_1 x38_3).f2)] 39 (0, 0))) := ⟨by (with_reducible repeat (first | refine kN ?_ _ | refine kD ?_ | refine kA ?_ _)); refine blk_put (cs := #[.int .i64 ((rd_T39 l0_1 x38_3).f0), .int .i64 ((rd_T39 l0_1 x38_3).f1), .int .i64 0]) ?_ 2 _ rfl; (with_reducible repeat (first | refine kN ?_ _ | refine kD ?_ | refine kA ?_ _)); refine blk_put (cs := #[.int .i64 ((rd_T39 l0_1 x38_3).f0), .int .i64 0, .int .i64 0]) ?_ 1 _ rfl; (with_reducible repeat (first | refine kN ?_ _ | refine kD ?_ | refine kA ?_ _)); refine blk_put (cs := #[.int .i64 0, .int .i64 0, .int .i64 0]) ?_ 0 _ rfl; (with_reducible repeat (first | refine kN ?_ _ | refine kD ?_ | refine kA ?_ _)); exact BK162.out⟩
          have n4_ : Aside0 (Below w.heap.size w (((w75.setCell ⟨gb162, 0, none⟩ (.int .i64 ((rd_T39 l0_1 x38_3).f0))).setCell ⟨gb162, 1, none⟩ (.int .i64 ((rd_T39 l0_1 x38_3).f1))).setCell ⟨gb162, 2, none⟩ (.int .i64 ((rd_T39 l0_1 x38_3).f2)))) := ⟨by repeat (first | (with_reducible first | exact HB.out | apply bA | apply bN | apply bD | refine bS ?_ GE151.out | refine bS ?_ GE162.out) | exact HB.out)⟩
          (try clear HO_6)
          (try clear HO_7)
          (try clear BK151)
          (try clear BK162)
          (try clear HB)
          generalize (((w75.setCell ⟨gb162, 0, none⟩ (.int .i64 ((rd_T39 l0_1 x38_3).f0))).setCell ⟨gb162, 1, none⟩ (.int .i64 ((rd_T39 l0_1 x38_3).f1))).setCell ⟨gb162, 2, none⟩ (.int .i64 ((rd_T39 l0_1 x38_3).f2))) = w78 at n0_ n1_ n2_ n3_ n4_ ⊢
          have HO_6 := n0_
          have HO_7 := n1_
          have BK151 := n2_
          have BK162 := n3_
          have HB := n4_
          clear n0_ n1_ n2_ n3_ n4_
          have n0_ := mK (Kd.R_drew HO_6.out)
          have n1_ := mK (Kd.R_drew HO_7.out)
          have n2_ := mK (blk_drew BK151.out)
          have n3_ := mK (blk_drew BK162.out)
          have n4_ := mK (below_drew1 HB.out)
          clear HO_6
          clear HO_7
          clear BK151
          clear BK162
          clear HB
          have HO_6 := n0_
          have HO_7 := n1_
          have BK151 := n2_
          have BK162 := n3_
          have HB := n4_
          clear n0_ n1_ n2_ n3_ n4_
          obtain ⟨Ao80, co80, eo80⟩ := Kd.R_slice HO_6.out
          (first | subst eo80 | (injection eo80 with f1_ f2_ f3_; have f4_ := f1_.symm; have f5_ := f3_.symm; clear f1_ f2_ f3_; subst f4_; subst f5_))
          have p163 : 0 ≤ (((rd_T39 l0_1 x38_3).f0) : Int) := of_decide_eq_true (by first | (with_reducible assumption) | assumption)
          have q163 : ((rd_T39 l0_1 x38_3).f0) < (x6_3.length : Int) := of_decide_eq_true (by first | (with_reducible assumption) | assumption)
          obtain ⟨ad163, e163, hx163_0⟩ := Kd.at_int (Kd.R_reads' HO_6.out).2.2 ((rd_T39 l0_1 x38_3).f0) p163 q163
          cases e163
          replace p163 := eq_true p163
          replace q163 := eq_true q163
          refine start_ (n := 9) (S := fun w' => w'.cell? ⟨gb162, 0, none⟩ = some (.int .i64 ((rd_T39 l0_1 x38_3).f0)) ∧ w'.cell? ⟨gb162, 1, none⟩ = some (.int .i64 ((rd_T39 l0_1 x38_3).f1)) ∧ w'.cell? ⟨gb162, 2, none⟩ = some (.int .i64 ((rd_T39 l0_1 x38_3).f2)) ∧ w'.cell? (ad163.add (((rd_T39 l0_1 x38_3).f0)).toNat) = some (.int .i64 (rd x6_3 ((rd_T39 l0_1 x38_3).f0)))) (ds := []) #[false, false, false, false, false, false, false, false, false] (by kernel_rfl) rfl rfl ⟨(blk_cell BK162.out 0).trans rfl, (blk_cell BK162.out 1).trans rfl, (blk_cell BK162.out 2).trans rfl, hx163_0⟩ (fun hHeld => ?_); refine with_tabW impl_ShortestFrom.tab11 impl_ShortestFrom.bits11 (fun HT_ HW_ => ?_)
          generalize w78.drew = w79 at HO_6 HO_7 BK151 BK162 HB hx163_0 hHeld ⊢
          refine pure_ (i := 0) (N := some 42) (v := ?_) (a' := ?_) #[true, false, false, false, false, false, false, false, false] rfl rfl (any_of HT_.out (by kernel_rfl)) (fun _ _ _ h => h) (Or.inl ⟨by rfl, ?_⟩) ?_ ?_
          rotate_left
          · intro w'
            go_simp
            with_reducible rfl
          rotate_left
          · simp only [Act.put, sT, sZ, sU, i64_w, i32_w]
            rfl
          refine pure_ (i := 1) (N := some 43) (v := ?_) (a' := ?_) #[true, true, false, false, false, false, false, false, false] rfl rfl (any_of HT_.out (by kernel_rfl)) (fun _ _ _ h => h) (Or.inl ⟨by rfl, ?_⟩) ?_ ?_
          rotate_left
          · intro w'
            go_simp
            with_reducible rfl
          rotate_left
          · simp only [Act.put, sT, sZ, sU, i64_w, i32_w]
            rfl
          refine pure_ (i := 5) (N := some 47) (v := ?_) (a' := ?_) #[true, true, false, false, false, true, false, false, false] rfl rfl (any_of HT_.out (by kernel_rfl)) (fun _ _ _ h => h) (Or.inl ⟨by rfl, ?_⟩) ?_ ?_
          rotate_left
          · intro w'
            go_simp
            with_reducible rfl
          rotate_left
          · simp only [Act.put, sT, sZ, sU, i64_w, i32_w]
            rfl
          refine take_ (i := 2) (N := some 44) (v := ?_) (a' := ?_) #[true, true, true, false, false, true, false, false, false] rfl rfl (take_ofW HT_.out HW_.out (by kernel_rfl)) (fun _ _ _ h => h) (Or.inl ⟨by rfl, ?_⟩) hHeld ?_ ?_
          rotate_left
          · rintro w' ⟨s0, s1, s2, s3⟩
            go_simp
            with_reducible rfl
          rotate_left
          · simp only [Act.put, sT, sZ, sU, i64_w, i32_w]
            rfl
          refine pure_ (i := 3) (N := some 45) (v := ?_) (a' := ?_) #[true, true, true, true, false, true, false, false, false] rfl rfl (any_of HT_.out (by kernel_rfl)) (fun _ _ _ h => h) (Or.inl ⟨by rfl, ?_⟩) ?_ ?_
          rotate_left
          · intro w'
            go_simp
            with_reducible rfl
          rotate_left
          · simp only [Act.put, sT, sZ, sU, i64_w, i32_w]
            rfl
          refine take_ (i := 4) (N := some 46) (v := ?_) (a' := ?_) #[true, true, true, true, true, true, false, false, false] rfl rfl (take_ofW HT_.out HW_.out (by kernel_rfl)) (fun _ _ _ h => h) (Or.inl ⟨by rfl, ?_⟩) hHeld ?_ ?_
          rotate_left
          · rintro w' ⟨s0, s1, s2, s3⟩
            go_simp
            with_reducible rfl
          rotate_left
          · simp only [Act.put, sT, sZ, sU, i64_w, i32_w]
            rfl
          refine take_ (i := 6) (N := some 48) (v := ?_) (a' := ?_) #[true, true, true, true, true, true, true, false, false] rfl rfl (take_ofW HT_.out HW_.out (by kernel_rfl)) (fun _ _ _ h => h) (Or.inl ⟨by rfl, ?_⟩) hHeld ?_ ?_
          rotate_left
          · rintro w' ⟨s0, s1, s2, s3⟩
            go_simp
            with_reducible rfl
          rotate_left
          · simp only [Act.put, sT, sZ, sU, i64_w, i32_w]
            rfl
          refine pure_ (i := 7) (N := some 49) (v := ?_) (a' := ?_) #[true, true, true, true, true, true, true, true, false] rfl rfl (any_of HT_.out (by kernel_rfl)) (fun _ _ _ h => h) (Or.inl ⟨by rfl, ?_⟩) ?_ ?_
          rotate_left
          · intro w'
            go_simp
            with_reducible rfl
          rotate_left
          · simp only [Act.put, sT, sZ, sU, i64_w, i32_w]
            rfl
          refine pure_ (i := 8) (N := some 12) (v := ?_) (a' := ?_) #[true, true, true, true, true, true, true, true, true] rfl rfl (any_of HT_.out (by kernel_rfl)) (fun _ _ _ h => h) (Or.inl ⟨by rfl, ?_⟩) ?_ ?_
          rotate_left
          · intro w'
            go_simp
            with_reducible rfl
          rotate_left
          · simp only [Act.put, sT, sZ, sU, i64_w, i32_w]
            rfl
          refine done_ (done_of HT_.out (by kernel_rfl)) ?_
          have hcz81_0 : w79.cell? ⟨gb162, 0, none⟩ = some (.int .i64 ((rd_T39 l0_1 x38_3).f0)) := (blk_cell BK162.out 0).trans rfl
          have hcz81_1 : w79.cell? ⟨gb162, 1, none⟩ = some (.int .i64 ((rd_T39 l0_1 x38_3).f1)) := (blk_cell BK162.out 1).trans rfl
          have hcz81_2 : w79.cell? ⟨gb162, 2, none⟩ = some (.int .i64 ((rd_T39 l0_1 x38_3).f2)) := (blk_cell BK162.out 2).trans rfl
          have hfz81_0 := blk_frozen BK162.out 0
          have hfz81_1 := blk_frozen BK162.out 1
          have hfz81_2 := blk_frozen BK162.out 2
          have p164 : 0 ≤ (((rd_T39 l0_1 x38_3).f0) : Int) := of_decide_eq_true (by first | (with_reducible assumption) | assumption)
          have q164 : ((rd_T39 l0_1 x38_3).f0) < (x7_3.length : Int) := of_decide_eq_true (by first | (with_reducible assumption) | assumption)
          obtain ⟨ad164, e164, hx164_0⟩ := Kd.at_bool (Kd.R_reads' HO_7.out).2.2 ((rd_T39 l0_1 x38_3).f0) p164 q164
          (try rw [← Nbq35.out] at hx164_0)
          obtain rfl : (⟨go19, 0, none⟩ : Addr) = ad164 := (by injection e164)
          (first | simp only [add_plain] at hx164_0 | simp only [add_at] at hx164_0 | simp only [Addr.add, Nat.zero_add] at hx164_0 | skip)
          replace p164 := eq_true p164
          replace q164 := eq_true q164
          try go_wp2
          (try simp only [← hl7_3])
          go_roundg k3
          case measure => have := HJ2.out; have := HK2.out; have := HK3.out; omega
          case rel => exact ⟨(x6_3), (x7_3), (x9_3), (wrap64 (x38_3 + 1)), (by first | rfl | (simp; done) | (simp [*]; done)), (by first | rfl | (simp; done) | (simp [*]; done)), H', ⟨by have := HJ2.out; have := HK2.out; have := HK3.out; omega⟩, ⟨by (try simp only [hl7_2]); (try simp only [hl7_3]); (with_reducible repeat (first | apply rA | apply rN | apply rD)); exact HO_6.out⟩, ⟨by (try simp only [hl7_2]); (try simp only [hl7_3]); (with_reducible repeat (first | apply rA | apply rN | apply rD)); exact HO_7.out⟩, ⟨by (try simp only [hl7_2]); (try simp only [hl7_3]); (with_reducible repeat (first | refine kN ?_ _ | refine kD ?_ | refine kA ?_ _)); exact BK151.out⟩, ⟨by repeat (first | (with_reducible first | exact HB.out | apply bA | apply bN | apply bD | refine bS ?_ GE151.out | refine bS ?_ GE162.out) | exact HB.out)⟩⟩
        subst c36
        have H1 : (if 0 ≤ ((rd_T39 l0_1 x38_3).f1) then (if ((rd_T39 l0_1 x38_3).f1) < (x7_3.length : Int) then (if (rdOf false x7_3 ((rd_T39 l0_1 x38_3).f1) = true) then (if ((rd_T39 l0_1 x38_3).f1) < (x6_3.length : Int) then (if (wrap64 ((rd x6_3 ((rd_T39 l0_1 x38_3).f0)) + ((rd_T39 l0_1 x38_3).f2))) < (rd x6_3 ((rd_T39 l0_1 x38_3).f1)) then (impl_ShortestFrom.l1 k3 (x6_3.set (((rd_T39 l0_1 x38_3).f1) : Int).toNat (wrap64 ((rd x6_3 ((rd_T39 l0_1 x38_3).f0)) + ((rd_T39 l0_1 x38_3).f2)))) (x7_3.set (((rd_T39 l0_1 x38_3).f1) : Int).toNat true) x8_2 true l0_1 (l0_1.length : Int) (wrap64 (x38_3 + 1)) a0_0 l0_1) else (impl_ShortestFrom.l1 k3 x6_3 x7_3 x8_2 x9_3 l0_1 (l0_1.length : Int) (wrap64 (x38_3 + 1)) a0_0 l0_1)) else (none)) else (if ((rd_T39 l0_1 x38_3).f1) < (x6_3.length : Int) then (impl_ShortestFrom.l1 k3 (x6_3.set (((rd_T39 l0_1 x38_3).f1) : Int).toNat (wrap64 ((rd x6_3 ((rd_T39 l0_1 x38_3).f0)) + ((rd_T39 l0_1 x38_3).f2)))) (x7_3.set (((rd_T39 l0_1 x38_3).f1) : Int).toNat true) x8_2 true l0_1 (l0_1.length : Int) (wrap64 (x38_3 + 1)) a0_0 l0_1) else (none))) else (none)) else (none)) = some (r1, r2) := by rw [if_pos rfl] at H; exact H
        clear H
        have H := H1
        clear H1
        by_cases c37 : 0 ≤ ((rd_T39 l0_1 x38_3).f1)
        rotate_left
        · rw [if_neg c37] at H
          exact absurd H (by simp)
        rw [if_pos c37] at H
        have c37b0 : decide (0 ≤ ((rd_T39 l0_1 x38_3).f1)) = true := decide_eq_true c37
        clear c37
        by_cases c38 : ((rd_T39 l0_1 x38_3).f1) < (x7_3.length : Int)
        rotate_left
        · rw [if_neg c38] at H
          exact absurd H (by simp)
        rw [if_pos c38] at H
        have c38b0 : decide (((rd_T39 l0_1 x38_3).f1) < (x7_3.length : Int)) = true := decide_eq_true c38
        clear c38
        obtain ⟨bq39, hbq39⟩ : ∃ b_ : Bool, b_ = (rdOf false x7_3 ((rd_T39 l0_1 x38_3).f1)) := ⟨_, rfl⟩
        replace H : (if (bq39 = true) then (if ((rd_T39 l0_1 x38_3).f1) < (x6_3.length : Int) then (if (wrap64 ((rd x6_3 ((rd_T39 l0_1 x38_3).f0)) + ((rd_T39 l0_1 x38_3).f2))) < (rd x6_3 ((rd_T39 l0_1 x38_3).f1)) then (impl_ShortestFrom.l1 k3 (x6_3.set (((rd_T39 l0_1 x38_3).f1) : Int).toNat (wrap64 ((rd x6_3 ((rd_T39 l0_1 x38_3).f0)) + ((rd_T39 l0_1 x38_3).f2)))) (x7_3.set (((rd_T39 l0_1 x38_3).f1) : Int).toNat true) x8_2 true l0_1 (l0_1.length : Int) (wrap64 (x38_3 + 1)) a0_0 l0_1) else (impl_ShortestFrom.l1 k3 x6_3 x7_3 x8_2 x9_3 l0_1 (l0_1.length : Int) (wrap64 (x38_3 + 1)) a0_0 l0_1)) else (none)) else (if ((rd_T39 l0_1 x38_3).f1) < (x6_3.length : Int) then (impl_ShortestFrom.l1 k3 (x6_3.set (((rd_T39 l0_1 x38_3).f1) : Int).toNat (wrap64 ((rd x6_3 ((rd_T39 l0_1 x38_3).f0)) + ((rd_T39 l0_1 x38_3).f2)))) (x7_3.set (((rd_T39 l0_1 x38_3).f1) : Int).toNat true) x8_2 true l0_1 (l0_1.length : Int) (wrap64 (x38_3 + 1)) a0_0 l0_1) else (none))) = some (r1, r2) := by rw [← hbq39] at H; exact H
        have Nbq39 := mK hbq39
        clear hbq39
        by_cases c40 : (bq39 = true)
        rotate_left
        · replace c40 := Bool.eq_false_iff.mpr c40
          subst c40
          have H1 : (if ((rd_T39 l0_1 x38_3).f1) < (x6_3.length : Int) then (impl_ShortestFrom.l1 k3 (x6_3.set (((rd_T39 l0_1 x38_3).f1) : Int).toNat (wrap64 ((rd x6_3 ((rd_T39 l0_1 x38_3).f0)) + ((rd_T39 l0_1 x38_3).f2)))) (x7_3.set (((rd_T39 l0_1 x38_3).f1) : Int).toNat true) x8_2 true l0_1 (l0_1.length : Int) (wrap64 (x38_3 + 1)) a0_0 l0_1) else (none)) = some (r1, r2) := by rw [if_neg (show ¬ (false = true) by decide)] at H; exact H
          clear H
          have H := H1
          clear H1
          by_cases c62 : ((rd_T39 l0_1 x38_3).f1) < (x6_3.length : Int)
          rotate_left
          · rw [if_neg c62] at H
            exact absurd H (by simp)
          rw [if_pos c62] at H
          have c62b0 : decide (((rd_T39 l0_1 x38_3).f1) < (x6_3.length : Int)) = true := decide_eq_true c62
          clear c62
          obtain ⟨y169, hy169⟩ : ∃ y_ : List Int, y_ = (x6_3.set (((rd_T39 l0_1 x38_3).f1) : Int).toNat (wrap64 ((rd x6_3 ((rd_T39 l0_1 x38_3).f0)) + ((rd_T39 l0_1 x38_3).f2)))) := ⟨_, rfl⟩
          replace H : (impl_ShortestFrom.l1 k3 y169 (x7_3.set (((rd_T39 l0_1 x38_3).f1) : Int).toNat true) x8_2 true l0_1 (l0_1.length : Int) (wrap64 (x38_3 + 1)) a0_0 l0_1) = some (r1, r2) := by first | (rw [hy169]; with_reducible exact H) | (have H2_ := (Option.bind_some _ _).symm.trans H; rw [hy169]; with_reducible exact H2_) | (have H2_ := (Option.bind_some _ _).symm.trans H; with_reducible exact H2_) | with_reducible exact H | (rw [hy169]; exact H) | exact H
          have Ny169 := mK hy169
          clear hy169
          obtain ⟨y170, hy170⟩ : ∃ y_ : List Bool, y_ = (x7_3.set (((rd_T39 l0_1 x38_3).f1) : Int).toNat true) := ⟨_, rfl⟩
          replace H : (impl_ShortestFrom.l1 k3 y169 y170 x8_2 true l0_1 (l0_1.length : Int) (wrap64 (x38_3 + 1)) a0_0 l0_1) = some (r1, r2) := by first | (rw [hy170]; with_reducible exact H) | (have H2_ := (Option.bind_some _ _).symm.trans H; rw [hy170]; with_reducible exact H2_) | (have H2_ := (Option.bind_some _ _).symm.trans H; with_reducible exact H2_) | with_reducible exact H | (rw [hy170]; exact H) | exact H
          have Ny170 := mK hy170
          clear hy170
          have H' := mK H
          clear H
          have p161 : 0 ≤ (x38_3 : Int) := of_decide_eq_true (by first | (with_reducible assumption) | assumption)
          have q161 : x38_3 < (l0_1.length : Int) := of_decide_eq_true (by first | (with_reducible assumption) | assumption)
          obtain ⟨ad161, e161, hx161_0, hx161_1, hx161_2⟩ := at_T39 HR0_1.out x38_3 p161 q161
          cases e161
          replace hx161_0 := (HB.out.cell (World.block_lt_of_cell? w _ hx161_0)).trans hx161_0
          replace hx161_1 := (HB.out.cell (World.block_lt_of_cell? w _ hx161_1)).trans hx161_1
          replace hx161_2 := (HB.out.cell (World.block_lt_of_cell? w _ hx161_2)).trans hx161_2
          replace p161 := eq_true p161
          replace q161 := eq_true q161
          try go_wp2_with (first | ((with_reducible refine gate_dst (N := 11) rfl ?_); refine box_event ?hg (N := 11) ?hd (cs := #[.int .i64 0, .int .i64 0, .int .i64 0]) (t := 39) ?hr ?_; (case hd => rfl); (case hg => rfl); (case hr => first | (go_simp; done) | (go_simp; rfl)); intro gb162 hg w65 hbox hb; have n0_ := mK (Kd.R_below (by (with_reducible repeat (first | apply rA | apply rN | apply rD)); exact HO_6.out) hb); have n1_ := mK (Kd.R_below (by (with_reducible repeat (first | apply rA | apply rN | apply rD)); exact HO_7.out) hb); have n2_ := mK (blk_below (by (with_reducible repeat (first | refine kN ?_ _ | refine kD ?_ | refine kA ?_ _)); exact BK151.out) hb); have n3_ := mK (below_step (by repeat (first | (with_reducible first | exact HB.out | apply bA | apply bN | apply bD | refine bS ?_ GE151.out) | exact HB.out)) hb); have n4_ := mK (hbox); have n5_ := mK ((by rw [hg]; exact (below_size (by repeat (first | (with_reducible first | exact HB.out | apply bA | apply bN | apply bD | refine bS ?_ GE151.out) | exact HB.out))) : w.heap.size ≤ gb162)); have n6_ := mK ((by rw [hg]; exact (below_size (by repeat (first | (with_reducible first | exact HB.out | apply bA | apply bN | apply bD | refine bS ?_ GE151.out) | exact HB.out))) : w.heap.size ≤ gb162)); have n7_ := mK ((by rw [hg]; exact Nat.ne_of_lt (blk_lt (by (with_reducible repeat (first | refine kN ?_ _ | refine kD ?_ | refine kA ?_ _)); exact BK151.out)) : gb151 ≠ gb162)); have n8_ := mK ((by rw [hg]; exact Nat.ne_of_gt (blk_lt (by (with_reducible repeat (first | refine kN ?_ _ | refine kD ?_ | refine kA ?_ _)); exact BK151.out)) : gb162 ≠ gb151)); clear HO_6; clear HO_7; clear BK151; clear HB; have HO_6 := n0_; have HO_7 := n1_; have BK151 := n2_; have HB := n3_; have BK162 := n4_; have GW162 := n5_; have GE162 := n6_; have NB151_162 := n7_; have NB162_151 := n8_; clear n0_ n1_ n2_ n3_ n4_ n5_ n6_ n7_ n8_; clear hb hbox hg; have hnb66 := NB162_151.out; have hnc66 := NB151_162.out; have hcz67_0 : w65.cell? ⟨gb162, 0, none⟩ = some (.int .i64 0) := (blk_cell BK162.out 0).trans rfl; have hcz67_1 : w65.cell? ⟨gb162, 1, none⟩ = some (.int .i64 0) := (blk_cell BK162.out 1).trans rfl; have hcz67_2 : w65.cell? ⟨gb162, 2, none⟩ = some (.int .i64 0) := (blk_cell BK162.out 2).trans rfl; have hfz67_0 := blk_frozen BK162.out 0; have hfz67_1 := blk_frozen BK162.out 1; have hfz67_2 := blk_frozen BK162.out 2))
          have n0_ : Aside0 (Kd.R (Kd.int .i64) 3 (((w65.setCell ⟨gb162, 0, none⟩ (.int .i64 ((rd_T39 l0_1 x38_3).f0))).setCell ⟨gb162, 1, none⟩ (.int .i64 ((rd_T39 l0_1 x38_3).f1))).setCell ⟨gb162, 2, none⟩ (.int .i64 ((rd_T39 l0_1 x38_3).f2))) w.heap.size (fun _ => True) v155 x6_3) := ⟨by (with_reducible repeat (first | apply rA | apply rN | apply rD)); exact Kd.R_mono (Kd.R_far (p := ⟨gb162, 2, none⟩) (Kd.R_far (p := ⟨gb162, 1, none⟩) (Kd.R_far (p := ⟨gb162, 0, none⟩) (Kd.R_types HO_6.out BK162.out (by decide)) (fun _ hk => hk.2) (.int .i64 ((rd_T39 l0_1 x38_3).f0))) (fun _ hk => hk.2) (.int .i64 ((rd_T39 l0_1 x38_3).f1))) (fun _ hk => hk.2) (.int .i64 ((rd_T39 l0_1 x38_3).f2))) (fun _ hk => trivial)⟩
          have n1_ : Aside0 (Kd.R Kd.bool 4 (((w65.setCell ⟨gb162, 0, none⟩ (.int .i64 ((rd_T39 l0_1 x38_3).f0))).setCell ⟨gb162, 1, none⟩ (.int .i64 ((rd_T39 l0_1 x38_3).f1))).setCell ⟨gb162, 2, none⟩ (.int .i64 ((rd_T39 l0_1 x38_3).f2))) w.heap.size (fun _ => True) (.slice (some ⟨go19, 0, none⟩) x7_3.length co19) x7_3) := ⟨by (with_reducible repeat (first | apply rA | apply rN | apply rD)); exact Kd.R_mono (Kd.R_far (p := ⟨gb162, 2, none⟩) (Kd.R_far (p := ⟨gb162, 1, none⟩) (Kd.R_far (p := ⟨gb162, 0, none⟩) (Kd.R_types HO_7.out BK162.out (by decide)) (fun _ hk => hk.2) (.int .i64 ((rd_T39 l0_1 x38_3).f0))) (fun _ hk => hk.2) (.int .i64 ((rd_T39 l0_1 x38_3).f1))) (fun _ hk => hk.2) (.int .i64 ((rd_T39 l0_1 x38_3).f2))) (fun _ hk => trivial)⟩
          have n2_ : Aside0 ((((w65.setCell ⟨gb162, 0, none⟩ (.int .i64 ((rd_T39 l0_1 x38_3).f0))).setCell ⟨gb162, 1, none⟩ (.int .i64 ((rd_T39 l0_1 x38_3).f1))).setCell ⟨gb162, 2, none⟩ (.int .i64 ((rd_T39 l0_1 x38_3).f2))).heap[gb151]? = some (.cells #[.int .i64 a0_0, .slice (some ad161) l0_1.length c0_1] 25 (0, 0))) := ⟨by (with_reducible repeat (first | refine kN ?_ _ | refine kD ?_ | refine kA ?_ _)); refine blk_far ?_ NB151_162.out _; (with_reducible repeat (first | refine kN ?_ _ | refine kD ?_ | refine kA ?_ _)); refine blk_far ?_ NB151_162.out _; (with_reducible repeat (first | refine kN ?_ _ | refine kD ?_ | refine kA ?_ _)); refine blk_far ?_ NB151_162.out _; (with_reducible repeat (first | refine kN ?_ _ | refine kD ?_ | refine kA ?_ _)); exact BK151.out⟩
          have n3_ : Aside0 ((((w65.setCell ⟨gb162, 0, none⟩ (.int .i64 ((rd_T39 l0_1 x38_3).f0))).setCell ⟨gb162, 1, none⟩ (.int .i64 ((rd_T39 l0_1 x38_3).f1))).setCell ⟨gb162, 2, none⟩ (.int .i64 ((rd_T39 l0_1 x38_3).f2))).heap[gb162]? = some (.cells #[.int .i64 ((rd_T39 l0_1 x38_3).f0), .int .i64 ((rd_T39 l0_1 x38_3).f1), .int .i64 ((rd_T39 l0_1 x38_3).f2)] 39 (0, 0))) := ⟨by (with_reducible repeat (first | refine kN ?_ _ | refine kD ?_ | refine kA ?_ _)); refine blk_put (cs := #[.int .i64 ((rd_T39 l0_1 x38_3).f0), .int .i64 ((rd_T39 l0_1 x38_3).f1), .int .i64 0]) ?_ 2 _ rfl; (with_reducible repeat (first | refine kN ?_ _ | refine kD ?_ | refine kA ?_ _)); refine blk_put (cs := #[.int .i64 ((rd_T39 l0_1 x38_3).f0), .int .i64 0, .int .i64 0]) ?_ 1 _ rfl; (with_reducible repeat (first | refine kN ?_ _ | refine kD ?_ | refine kA ?_ _)); refine blk_put (cs := #[.int .i64 0, .int .i64 0, .int .i64 0]) ?_ 0 _ rfl; (with_reducible repeat (first | refine kN ?_ _ | refine kD ?_ | refine kA ?_ _)); exact BK162.out⟩
          have n4_ : Aside0 (Below w.heap.size w (((w65.setCell ⟨gb162, 0, none⟩ (.int .i64 ((rd_T39 l0_1 x38_3).f0))).setCell ⟨gb162, 1, none⟩ (.int .i64 ((rd_T39 l0_1 x38_3).f1))).setCell ⟨gb162, 2, none⟩ (.int .i64 ((rd_T39 l0_1 x38_3).f2)))) := ⟨by repeat (first | (with_reducible first | exact HB.out | apply bA | apply bN | apply bD | refine bS ?_ GE151.out | refine bS ?_ GE162.out) | exact HB.out)⟩
          (try clear HO_6)
          (try clear HO_7)
          (try clear BK151)
          (try clear BK162)
          (try clear HB)
          generalize (((w65.setCell ⟨gb162, 0, none⟩ (.int .i64 ((rd_T39 l0_1 x38_3).f0))).setCell ⟨gb162, 1, none⟩ (.int .i64 ((rd_T39 l0_1 x38_3).f1))).setCell ⟨gb162, 2, none⟩ (.int .i64 ((rd_T39 l0_1 x38_3).f2))) = w68 at n0_ n1_ n2_ n3_ n4_ ⊢
          have HO_6 := n0_
          have HO_7 := n1_
          have BK151 := n2_
          have BK162 := n3_
          have HB := n4_
          clear n0_ n1_ n2_ n3_ n4_
          have n0_ := mK (Kd.R_drew HO_6.out)
          have n1_ := mK (Kd.R_drew HO_7.out)
          have n2_ := mK (blk_drew BK151.out)
          have n3_ := mK (blk_drew BK162.out)
          have n4_ := mK (below_drew1 HB.out)
          clear HO_6
          clear HO_7
          clear BK151
          clear BK162
          clear HB
          have HO_6 := n0_
          have HO_7 := n1_
          have BK151 := n2_
          have BK162 := n3_
          have HB := n4_
          clear n0_ n1_ n2_ n3_ n4_
          obtain ⟨Ao70, co70, eo70⟩ := Kd.R_slice HO_6.out
          (first | subst eo70 | (injection eo70 with f1_ f2_ f3_; have f4_ := f1_.symm; have f5_ := f3_.symm; clear f1_ f2_ f3_; subst f4_; subst f5_))
          have p163 : 0 ≤ (((rd_T39 l0_1 x38_3).f0) : Int) := of_decide_eq_true (by first | (with_reducible assumption) | assumption)
          have q163 : ((rd_T39 l0_1 x38_3).f0) < (x6_3.length : Int) := of_decide_eq_true (by first | (with_reducible assumption) | assumption)
          obtain ⟨ad163, e163, hx163_0⟩ := Kd.at_int (Kd.R_reads' HO_6.out).2.2 ((rd_T39 l0_1 x38_3).f0) p163 q163
          cases e163
          replace p163 := eq_true p163
          replace q163 := eq_true q163
          refine start_ (n := 9) (S := fun w' => w'.cell? ⟨gb162, 0, none⟩ = some (.int .i64 ((rd_T39 l0_1 x38_3).f0)) ∧ w'.cell? ⟨gb162, 1, none⟩ = some (.int .i64 ((rd_T39 l0_1 x38_3).f1)) ∧ w'.cell? ⟨gb162, 2, none⟩ = some (.int .i64 ((rd_T39 l0_1 x38_3).f2)) ∧ w'.cell? (ad163.add (((rd_T39 l0_1 x38_3).f0)).toNat) = some (.int .i64 (rd x6_3 ((rd_T39 l0_1 x38_3).f0)))) (ds := []) #[false, false, false, false, false, false, false, false, false] (by kernel_rfl) rfl rfl ⟨(blk_cell BK162.out 0).trans rfl, (blk_cell BK162.out 1).trans rfl, (blk_cell BK162.out 2).trans rfl, hx163_0⟩ (fun hHeld => ?_); refine with_tabW impl_ShortestFrom.tab11 impl_ShortestFrom.bits11 (fun HT_ HW_ => ?_)
          generalize w68.drew = w69 at HO_6 HO_7 BK151 BK162 HB hx163_0 hHeld ⊢
          refine pure_ (i := 0) (N := some 42) (v := ?_) (a' := ?_) #[true, false, false, false, false, false, false, false, false] rfl rfl (any_of HT_.out (by kernel_rfl)) (fun _ _ _ h => h) (Or.inl ⟨by rfl, ?_⟩) ?_ ?_
          rotate_left
          · intro w'
            go_simp
            with_reducible rfl
          rotate_left
          · simp only [Act.put, sT, sZ, sU, i64_w, i32_w]
            rfl
          refine pure_ (i := 1) (N := some 43) (v := ?_) (a' := ?_) #[true, true, false, false, false, false, false, false, false] rfl rfl (any_of HT_.out (by kernel_rfl)) (fun _ _ _ h => h) (Or.inl ⟨by rfl, ?_⟩) ?_ ?_
          rotate_left
          · intro w'
            go_simp
            with_reducible rfl
          rotate_left
          · simp only [Act.put, sT, sZ, sU, i64_w, i32_w]
            rfl
          refine pure_ (i := 5) (N := some 47) (v := ?_) (a' := ?_) #[true, true, false, false, false, true, false, false, false] rfl rfl (any_of HT_.out (by kernel_rfl)) (fun _ _ _ h => h) (Or.inl ⟨by rfl, ?_⟩) ?_ ?_
          rotate_left
          · intro w'
            go_simp
            with_reducible rfl
          rotate_left
          · simp only [Act.put, sT, sZ, sU, i64_w, i32_w]
            rfl
          refine take_ (i := 2) (N := some 44) (v := ?_) (a' := ?_) #[true, true, true, false, false, true, false, false, false] rfl rfl (take_ofW HT_.out HW_.out (by kernel_rfl)) (fun _ _ _ h => h) (Or.inl ⟨by rfl, ?_⟩) hHeld ?_ ?_
          rotate_left
          · rintro w' ⟨s0, s1, s2, s3⟩
            go_simp
            with_reducible rfl
          rotate_left
          · simp only [Act.put, sT, sZ, sU, i64_w, i32_w]
            rfl
          refine pure_ (i := 3) (N := some 45) (v := ?_) (a' := ?_) #[true, true, true, true, false, true, false, false, false] rfl rfl (any_of HT_.out (by kernel_rfl)) (fun _ _ _ h => h) (Or.inl ⟨by rfl, ?_⟩) ?_ ?_
          rotate_left
          · intro w'
            go_simp
            with_reducible rfl
          rotate_left
          · simp only [Act.put, sT, sZ, sU, i64_w, i32_w]
            rfl
          refine take_ (i := 4) (N := some 46) (v := ?_) (a' := ?_) #[true, true, true, true, true, true, false, false, false] rfl rfl (take_ofW HT_.out HW_.out (by kernel_rfl)) (fun _ _ _ h => h) (Or.inl ⟨by rfl, ?_⟩) hHeld ?_ ?_
          rotate_left
          · rintro w' ⟨s0, s1, s2, s3⟩
            go_simp
            with_reducible rfl
          rotate_left
          · simp only [Act.put, sT, sZ, sU, i64_w, i32_w]
            rfl
          refine take_ (i := 6) (N := some 48) (v := ?_) (a' := ?_) #[true, true, true, true, true, true, true, false, false] rfl rfl (take_ofW HT_.out HW_.out (by kernel_rfl)) (fun _ _ _ h => h) (Or.inl ⟨by rfl, ?_⟩) hHeld ?_ ?_
          rotate_left
          · rintro w' ⟨s0, s1, s2, s3⟩
            go_simp
            with_reducible rfl
          rotate_left
          · simp only [Act.put, sT, sZ, sU, i64_w, i32_w]
            rfl
          refine pure_ (i := 7) (N := some 49) (v := ?_) (a' := ?_) #[true, true, true, true, true, true, true, true, false] rfl rfl (any_of HT_.out (by kernel_rfl)) (fun _ _ _ h => h) (Or.inl ⟨by rfl, ?_⟩) ?_ ?_
          rotate_left
          · intro w'
            go_simp
            with_reducible rfl
          rotate_left
          · simp only [Act.put, sT, sZ, sU, i64_w, i32_w]
            rfl
          refine pure_ (i := 8) (N := some 12) (v := ?_) (a' := ?_) #[true, true, true, true, true, true, true, true, true] rfl rfl (any_of HT_.out (by kernel_rfl)) (fun _ _ _ h => h) (Or.inl ⟨by rfl, ?_⟩) ?_ ?_
          rotate_left
          · intro w'
            go_simp
            with_reducible rfl
          rotate_left
          · simp only [Act.put, sT, sZ, sU, i64_w, i32_w]
            rfl
          refine done_ (done_of HT_.out (by kernel_rfl)) ?_
          have hcz71_0 : w69.cell? ⟨gb162, 0, none⟩ = some (.int .i64 ((rd_T39 l0_1 x38_3).f0)) := (blk_cell BK162.out 0).trans rfl
          have hcz71_1 : w69.cell? ⟨gb162, 1, none⟩ = some (.int .i64 ((rd_T39 l0_1 x38_3).f1)) := (blk_cell BK162.out 1).trans rfl
          have hcz71_2 : w69.cell? ⟨gb162, 2, none⟩ = some (.int .i64 ((rd_T39 l0_1 x38_3).f2)) := (blk_cell BK162.out 2).trans rfl
          have hfz71_0 := blk_frozen BK162.out 0
          have hfz71_1 := blk_frozen BK162.out 1
          have hfz71_2 := blk_frozen BK162.out 2
          have p164 : 0 ≤ (((rd_T39 l0_1 x38_3).f0) : Int) := of_decide_eq_true (by first | (with_reducible assumption) | assumption)
          have q164 : ((rd_T39 l0_1 x38_3).f0) < (x7_3.length : Int) := of_decide_eq_true (by first | (with_reducible assumption) | assumption)
          obtain ⟨ad164, e164, hx164_0⟩ := Kd.at_bool (Kd.R_reads' HO_7.out).2.2 ((rd_T39 l0_1 x38_3).f0) p164 q164
          (try rw [← Nbq35.out] at hx164_0)
          (try rw [← Nbq39.out] at hx164_0)
          obtain rfl : (⟨go19, 0, none⟩ : Addr) = ad164 := (by injection e164)
          (first | simp only [add_plain] at hx164_0 | simp only [add_at] at hx164_0 | simp only [Addr.add, Nat.zero_add] at hx164_0 | skip)
          replace p164 := eq_true p164
          replace q164 := eq_true q164
          have p165 : 0 ≤ (((rd_T39 l0_1 x38_3).f1) : Int) := of_decide_eq_true (by first | (with_reducible assumption) | assumption)
          have q165 : ((rd_T39 l0_1 x38_3).f1) < (x7_3.length : Int) := of_decide_eq_true (by first | (with_reducible assumption) | assumption)
          obtain ⟨ad165, e165, hx165_0⟩ := Kd.at_bool (Kd.R_reads' HO_7.out).2.2 ((rd_T39 l0_1 x38_3).f1) p165 q165
          (try rw [← Nbq35.out] at hx165_0)
          (try rw [← Nbq39.out] at hx165_0)
          obtain rfl : (⟨go19, 0, none⟩ : Addr) = ad165 := (by injection e165)
          (first | simp only [add_plain] at hx165_0 | simp only [add_at] at hx165_0 | simp only [Addr.add, Nat.zero_add] at hx165_0 | skip)
          replace p165 := eq_true p165
          replace q165 := eq_true q165
          try go_wp2
          have n0_ := mK (Kd.R_drew HO_6.out)
          have n1_ := mK (Kd.R_drew HO_7.out)
          have n2_ := mK (blk_drew BK151.out)
          have n3_ := mK (blk_drew BK162.out)
          have n4_ := mK (below_drew1 HB.out)
          clear HO_6
          clear HO_7
          clear BK151
          clear BK162
          clear HB
          have HO_6 := n0_
          have HO_7 := n1_
          have BK151 := n2_
          have BK162 := n3_
          have HB := n4_
          clear n0_ n1_ n2_ n3_ n4_
          have p63 : 0 ≤ (((rd_T39 l0_1 x38_3).f1) : Int) := of_decide_eq_true (by first | (with_reducible assumption) | assumption)
          have q63 : (((rd_T39 l0_1 x38_3).f1) : Int) < ((x6_3.length : Int) : Int) := of_decide_eq_true (by first | (with_reducible assumption) | assumption)
          obtain ⟨go63, co63, eo63, gb63, gl63, cl63, HG63⟩ := Kd.R_form HO_6.out (by omega)
          (first | cases eo63 | (injection eo63 with ea_ en_ ec_; (first | subst ea_ | (injection ea_ with ea_; subst ea_)); subst ec_; clear en_))
          have GB63 := mK gb63
          have GG63 := mK HG63
          clear gb63 gl63 HG63
          (first | simp only [add_plain] at hx163_0 | skip)
          (first | simp only [add_plain] at hx166_0 | skip)
          obtain ⟨hx63_0, hf63_0⟩ := Kd.R_celln 0 HO_6.out (((rd_T39 l0_1 x38_3).f1) : Int) p63 q63
          replace p63 := eq_true p63
          replace q63 := eq_true q63
          have HP73 := Kd.R_putn HO_6.out (((rd_T39 l0_1 x38_3).f1) : Int) (wrap64 ((rd x6_3 ((rd_T39 l0_1 x38_3).f0)) + ((rd_T39 l0_1 x38_3).f2)))
          rw [← Ny169.out] at HP73
          have HQ73 := mK HP73
          clear HP73
          have p64 : 0 ≤ (((rd_T39 l0_1 x38_3).f1) : Int) := of_decide_eq_true (by first | (with_reducible assumption) | assumption)
          have q64 : (((rd_T39 l0_1 x38_3).f1) : Int) < ((x7_3.length : Int) : Int) := of_decide_eq_true (by first | (with_reducible assumption) | assumption)
          obtain ⟨hx64_0, hf64_0⟩ := Kd.R_celln false (Kd.R_far (p := ⟨go63, (((rd_T39 l0_1 x38_3).f1) : Int).toNat, none⟩) (Kd.R_types HO_7.out GG63.out (by decide)) (fun _ hk => hk.2) (.int .i64 (wrap64 ((rd x6_3 ((rd_T39 l0_1 x38_3).f0)) + ((rd_T39 l0_1 x38_3).f2))))) (((rd_T39 l0_1 x38_3).f1) : Int) p64 q64
          replace p64 := eq_true p64
          replace q64 := eq_true q64
          have HP74 := Kd.R_putn (Kd.R_far (p := ⟨go63, (((rd_T39 l0_1 x38_3).f1) : Int).toNat, none⟩) (Kd.R_types HO_7.out GG63.out (by decide)) (fun _ hk => hk.2) (.int .i64 (wrap64 ((rd x6_3 ((rd_T39 l0_1 x38_3).f0)) + ((rd_T39 l0_1 x38_3).f2))))) (((rd_T39 l0_1 x38_3).f1) : Int) true
          rw [← Ny170.out] at HP74
          have HQ74 := mK HP74
          clear HP74
          refine start_ (n := 12) (S := fun w' => w'.cell? ⟨gb162, 0, none⟩ = some (.int .i64 ((rd_T39 l0_1 x38_3).f0)) ∧ w'.cell? ⟨gb162, 1, none⟩ = some (.int .i64 ((rd_T39 l0_1 x38_3).f1)) ∧ w'.cell? ⟨gb162, 2, none⟩ = some (.int .i64 ((rd_T39 l0_1 x38_3).f2))) (ds := [10]) #[false, false, false, false, false, false, false, false, false, false, false, false] (by kernel_rfl) rfl rfl ⟨(blk_cell BK162.out 0).trans rfl, (blk_cell BK162.out 1).trans rfl, (blk_cell BK162.out 2).trans rfl⟩ (fun hHeld => ?_); refine with_tabW impl_ShortestFrom.tab13 impl_ShortestFrom.bits13 (fun HT_ HW_ => ?_)
          first | generalize w69.drew = w72 at HO_6 HO_7 BK151 BK162 HB GG63 HQ73 HQ74 hf63_0 hf64_0 hx163_0 hx166_0 hx63_0 hx64_0 hHeld ⊢ | generalize w69.drew = w72 at HO_6 HO_7 BK151 BK162 HB GG63 HQ73 HQ74 hf63_0 hf64_0 hx63_0 hx64_0 hHeld ⊢
          refine pure_ (i := 0) (N := some 72) (v := ?_) (a' := ?_) #[true, false, false, false, false, false, false, false, false, false, false, false] rfl rfl (any_of HT_.out (by kernel_rfl)) (fun _ _ _ h => h) (Or.inl ⟨by rfl, ?_⟩) ?_ ?_
          rotate_left
          · intro w'
            go_simp
            with_reducible rfl
          rotate_left
          · simp only [Act.put, sT, sZ, sU, i64_w, i32_w]
            rfl
          refine pure_ (i := 1) (N := some 73) (v := ?_) (a' := ?_) #[true, true, false, false, false, false, false, false, false, false, false, false] rfl rfl (any_of HT_.out (by kernel_rfl)) (fun _ _ _ h => h) (Or.inl ⟨by rfl, ?_⟩) ?_ ?_
          rotate_left
          · intro w'
            go_simp
            with_reducible rfl
          rotate_left
          · simp only [Act.put, sT, sZ, sU, i64_w, i32_w]
            rfl
          refine pure_ (i := 3) (N := some 75) (v := ?_) (a' := ?_) #[true, true, false, true, false, false, false, false, false, false, false, false] rfl rfl (any_of HT_.out (by kernel_rfl)) (fun _ _ _ h => h) (Or.inl ⟨by rfl, ?_⟩) ?_ ?_
          rotate_left
          · intro w'
            go_simp
            with_reducible rfl
          rotate_left
          · simp only [Act.put, sT, sZ, sU, i64_w, i32_w]
            rfl
          refine pure_ (i := 4) (N := some 76) (v := ?_) (a' := ?_) #[true, true, false, true, true, false, false, false, false, false, false, false] rfl rfl (any_of HT_.out (by kernel_rfl)) (fun _ _ _ h => h) (Or.inl ⟨by rfl, ?_⟩) ?_ ?_
          rotate_left
          · intro w'
            go_simp
            with_reducible rfl
          rotate_left
          · simp only [Act.put, sT, sZ, sU, i64_w, i32_w]
            rfl
          refine pure_ (i := 6) (N := some 78) (v := ?_) (a' := ?_) #[true, true, false, true, true, false, true, false, false, false, false, false] rfl rfl (any_of HT_.out (by kernel_rfl)) (fun _ _ _ h => h) (Or.inl ⟨by rfl, ?_⟩) ?_ ?_
          rotate_left
          · intro w'
            go_simp
            with_reducible rfl
          rotate_left
          · simp only [Act.put, sT, sZ, sU, i64_w, i32_w]
            rfl
          refine take_ (i := 2) (N := some 74) (v := ?_) (a' := ?_) #[true, true, true, true, true, false, true, false, false, false, false, false] rfl rfl (take_ofW HT_.out HW_.out (by kernel_rfl)) (fun _ _ _ h => h) (Or.inl ⟨by rfl, ?_⟩) hHeld ?_ ?_
          rotate_left
          · rintro w' ⟨s0, s1, s2⟩
            go_simp
            with_reducible rfl
          rotate_left
          · simp only [Act.put, sT, sZ, sU, i64_w, i32_w]
            rfl
          refine pure_ (i := 7) (N := some 79) (v := ?_) (a' := ?_) #[true, true, true, true, true, false, true, true, false, false, false, false] rfl rfl (any_of HT_.out (by kernel_rfl)) (fun _ _ _ h => h) (Or.inl ⟨by rfl, ?_⟩) ?_ ?_
          rotate_left
          · intro w'
            go_simp
            with_reducible rfl
          rotate_left
          · simp only [Act.put, sT, sZ, sU, i64_w, i32_w]
            rfl
          refine take_ (i := 5) (N := some 77) (v := ?_) (a' := ?_) #[true, true, true, true, true, true, true, true, false, false, false, false] rfl rfl (take_ofW HT_.out HW_.out (by kernel_rfl)) (fun _ _ _ h => h) (Or.inl ⟨by rfl, ?_⟩) hHeld ?_ ?_
          rotate_left
          · rintro w' ⟨s0, s1, s2⟩
            go_simp
            with_reducible rfl
          rotate_left
          · simp only [Act.put, sT, sZ, sU, i64_w, i32_w]
            rfl
          refine one_ (i := 8) (N := none) #[true, true, true, true, true, true, true, true, true, false, false, false] rfl rfl (one_of HT_.out (by kernel_rfl)) (by decide) (fun K hK => ?_)
          refine skip_ (w1 := ?_) (by rfl) rfl ?_ ?_
          rotate_left
          · go_simp
            rfl
          refine hK.out _ _ ⟨((cell_far ((by have h_ := Kd.R_ne HO_6.out BK162.out (by decide); intro e_; exact h_ (congrArg some e_))) _).trans (hHeld.1)), ((cell_far ((by have h_ := Kd.R_ne HO_6.out BK162.out (by decide); intro e_; exact h_ (congrArg some e_))) _).trans (hHeld.2.1)), ((cell_far ((by have h_ := Kd.R_ne HO_6.out BK162.out (by decide); intro e_; exact h_ (congrArg some e_))) _).trans (hHeld.2.2))⟩ (fun hHeld => ?_)
          clear hK K
          refine pure_ (i := 9) (N := some 80) (v := ?_) (a' := ?_) #[true, true, true, true, true, true, true, true, true, true, false, false] rfl rfl (any_of HT_.out (by kernel_rfl)) (fun _ _ _ h => h) (Or.inl ⟨by rfl, ?_⟩) ?_ ?_
          rotate_left
          · intro w'
            go_simp
            with_reducible rfl
          rotate_left
          · simp only [Act.put, sT, sZ, sU, i64_w, i32_w]
            rfl
          refine last_ (i := 10) (N := none) #[true, true, true, true, true, true, true, true, true, true, true, false] rfl rfl (one_of HT_.out (by kernel_rfl)) (by decide) (fun K hK => ?_)
          refine skip_ (w1 := ?_) (by rfl) rfl ?_ ?_
          rotate_left
          · go_simp
            rfl
          refine hK.out _ _ ?_
          clear hK K
          refine pure_ (i := 11) (N := some 9) (v := ?_) (a' := ?_) #[true, true, true, true, true, true, true, true, true, true, true, true] rfl rfl (any_of HT_.out (by kernel_rfl)) (fun _ _ _ h => h) (Or.inl ⟨by rfl, ?_⟩) ?_ ?_
          rotate_left
          · intro w'
            go_simp
            with_reducible rfl
          rotate_left
          · simp only [Act.put, sT, sZ, sU, i64_w, i32_w]
            rfl
          refine done_ (done_of HT_.out (by kernel_rfl)) ?_
          try go_wp2
          (try simp only [← hl7_3])
          go_roundg k3
          case measure => have := HJ2.out; have := HK2.out; have := HK3.out; omega
          case rel => exact ⟨(y169), (y170), (true), (wrap64 (x38_3 + 1)), (by first | rfl | (simp; done) | (simp [*]; done)), (by first | rfl | (simp; done) | (simp [*]; done)), H', ⟨by have := HJ2.out; have := HK2.out; have := HK3.out; omega⟩, ⟨by (try simp only [hl7_2]); (try simp only [hl7_3]); (with_reducible repeat (first | apply rA | apply rN | apply rD)); exact Kd.R_mono (Kd.R_far (p := ⟨go19, (((rd_T39 l0_1 x38_3).f1) : Int).toNat, none⟩) (Exists.elim (Kd.R_typed HO_7.out _ rfl) fun c0_ h0_ => Exists.elim (Kd.R_typed HO_6.out _ rfl) fun c1_ h1_ => Kd.R_types HQ73.out (blk_far (p := ⟨go63, (((rd_T39 l0_1 x38_3).f1) : Int).toNat, none⟩) h0_ (blk_ne h0_ h1_ (by decide)) _) (by decide)) (fun _ hk => hk.2) (.bool true)) (fun _ hk => trivial)⟩, ⟨by (try simp only [hl7_2]); (try simp only [hl7_3]); (with_reducible repeat (first | apply rA | apply rN | apply rD)); exact Kd.R_mono HQ74.out (fun _ hk => trivial)⟩, ⟨by (try simp only [hl7_2]); (try simp only [hl7_3]); (with_reducible repeat (first | refine kN ?_ _ | refine kD ?_ | refine kA ?_ _)); refine blk_far ?_ (by have h_ := Kd.R_ne HO_7.out BK151.out (by decide); intro e_; exact h_ (by rw [e_]; rfl)) _; (with_reducible repeat (first | refine kN ?_ _ | refine kD ?_ | refine kA ?_ _)); refine blk_far ?_ (by have h_ := Kd.R_ne HO_6.out BK151.out (by decide); intro e_; exact h_ (by rw [e_]; rfl)) _; (with_reducible repeat (first | refine kN ?_ _ | refine kD ?_ | refine kA ?_ _)); exact BK151.out⟩, ⟨by repeat (first | (with_reducible first | exact HB.out | apply bA | apply bN | apply bD | refine bS ?_ GB63.out | refine bS ?_ GB19.out | refine bS ?_ GE151.out | refine bS ?_ GE162.out) | exact HB.out)⟩⟩
        subst c40
        have H1 : (if ((rd_T39 l0_1 x38_3).f1) < (x6_3.length : Int) then (if (wrap64 ((rd x6_3 ((rd_T39 l0_1 x38_3).f0)) + ((rd_T39 l0_1 x38_3).f2))) < (rd x6_3 ((rd_T39 l0_1 x38_3).f1)) then (impl_ShortestFrom.l1 k3 (x6_3.set (((rd_T39 l0_1 x38_3).f1) : Int).toNat (wrap64 ((rd x6_3 ((rd_T39 l0_1 x38_3).f0)) + ((rd_T39 l0_1 x38_3).f2)))) (x7_3.set (((rd_T39 l0_1 x38_3).f1) : Int).toNat true) x8_2 true l0_1 (l0_1.length : Int) (wrap64 (x38_3 + 1)) a0_0 l0_1) else (impl_ShortestFrom.l1 k3 x6_3 x7_3 x8_2 x9_3 l0_1 (l0_1.length : Int) (wrap64 (x38_3 + 1)) a0_0 l0_1)) else (none)) = some (r1, r2) := by rw [if_pos rfl] at H; exact H
        clear H
        have H := H1
        clear H1
        by_cases c41 : ((rd_T39 l0_1 x38_3).f1) < (x6_3.length : Int)
        rotate_left
        · rw [if_neg c41] at H
          exact absurd H (by simp)
        rw [if_pos c41] at H
        have c41b0 : decide (((rd_T39 l0_1 x38_3).f1) < (x6_3.length : Int)) = true := decide_eq_true c41
        clear c41
        by_cases c42 : (wrap64 ((rd x6_3 ((rd_T39 l0_1 x38_3).f0)) + ((rd_T39 l0_1 x38_3).f2))) < (rd x6_3 ((rd_T39 l0_1 x38_3).f1))
        rotate_left
        · rw [if_neg c42] at H
          have c42b0 : decide ((wrap64 ((rd x6_3 ((rd_T39 l0_1 x38_3).f0)) + ((rd_T39 l0_1 x38_3).f2))) < (rd x6_3 ((rd_T39 l0_1 x38_3).f1))) = false := decide_eq_false c42
          clear c42
          have H' := mK H
          clear H
          have p161 : 0 ≤ (x38_3 : Int) := of_decide_eq_true (by first | (with_reducible assumption) | assumption)
          have q161 : x38_3 < (l0_1.length : Int) := of_decide_eq_true (by first | (with_reducible assumption) | assumption)
          obtain ⟨ad161, e161, hx161_0, hx161_1, hx161_2⟩ := at_T39 HR0_1.out x38_3 p161 q161
          cases e161
          replace hx161_0 := (HB.out.cell (World.block_lt_of_cell? w _ hx161_0)).trans hx161_0
          replace hx161_1 := (HB.out.cell (World.block_lt_of_cell? w _ hx161_1)).trans hx161_1
          replace hx161_2 := (HB.out.cell (World.block_lt_of_cell? w _ hx161_2)).trans hx161_2
          replace p161 := eq_true p161
          replace q161 := eq_true q161
          try go_wp2_with (first | ((with_reducible refine gate_dst (N := 11) rfl ?_); refine box_event ?hg (N := 11) ?hd (cs := #[.int .i64 0, .int .i64 0, .int .i64 0]) (t := 39) ?hr ?_; (case hd => rfl); (case hg => rfl); (case hr => first | (go_simp; done) | (go_simp; rfl)); intro gb162 hg w55 hbox hb; have n0_ := mK (Kd.R_below (by (with_reducible repeat (first | apply rA | apply rN | apply rD)); exact HO_6.out) hb); have n1_ := mK (Kd.R_below (by (with_reducible repeat (first | apply rA | apply rN | apply rD)); exact HO_7.out) hb); have n2_ := mK (blk_below (by (with_reducible repeat (first | refine kN ?_ _ | refine kD ?_ | refine kA ?_ _)); exact BK151.out) hb); have n3_ := mK (below_step (by repeat (first | (with_reducible first | exact HB.out | apply bA | apply bN | apply bD | refine bS ?_ GE151.out) | exact HB.out)) hb); have n4_ := mK (hbox); have n5_ := mK ((by rw [hg]; exact (below_size (by repeat (first | (with_reducible first | exact HB.out | apply bA | apply bN | apply bD | refine bS ?_ GE151.out) | exact HB.out))) : w.heap.size ≤ gb162)); have n6_ := mK ((by rw [hg]; exact (below_size (by repeat (first | (with_reducible first | exact HB.out | apply bA | apply bN | apply bD | refine bS ?_ GE151.out) | exact HB.out))) : w.heap.size ≤ gb162)); have n7_ := mK ((by rw [hg]; exact Nat.ne_of_lt (blk_lt (by (with_reducible repeat (first | refine kN ?_ _ | refine kD ?_ | refine kA ?_ _)); exact BK151.out)) : gb151 ≠ gb162)); have n8_ := mK ((by rw [hg]; exact Nat.ne_of_gt (blk_lt (by (with_reducible repeat (first | refine kN ?_ _ | refine kD ?_ | refine kA ?_ _)); exact BK151.out)) : gb162 ≠ gb151)); clear HO_6; clear HO_7; clear BK151; clear HB; have HO_6 := n0_; have HO_7 := n1_; have BK151 := n2_; have HB := n3_; have BK162 := n4_; have GW162 := n5_; have GE162 := n6_; have NB151_162 := n7_; have NB162_151 := n8_; clear n0_ n1_ n2_ n3_ n4_ n5_ n6_ n7_ n8_; clear hb hbox hg; have hnb56 := NB162_151.out; have hnc56 := NB151_162.out; have hcz57_0 : w55.cell? ⟨gb162, 0, none⟩ = some (.int .i64 0) := (blk_cell BK162.out 0).trans rfl; have hcz57_1 : w55.cell? ⟨gb162, 1, none⟩ = some (.int .i64 0) := (blk_cell BK162.out 1).trans rfl; have hcz57_2 : w55.cell? ⟨gb162, 2, none⟩ = some (.int .i64 0) := (blk_cell BK162.out 2).trans rfl; have hfz57_0 := blk_frozen BK162.out 0; have hfz57_1 := blk_frozen BK162.out 1; have hfz57_2 := blk_frozen BK162.out 2))
          have n0_ : Aside0 (Kd.R (Kd.int .i64) 3 (((w55.setCell ⟨gb162, 0, none⟩ (.int .i64 ((rd_T39 l0_1 x38_3).f0))).setCell ⟨gb162, 1, none⟩ (.int .i64 ((rd_T39 l0_1 x38_3).f1))).setCell ⟨gb162, 2, none⟩ (.int .i64 ((rd_T39 l0_1 x38_3).f2))) w.heap.size (fun _ => True) v155 x6_3) := ⟨by (with_reducible repeat (first | apply rA | apply rN | apply rD)); exact Kd.R_mono (Kd.R_far (p := ⟨gb162, 2, none⟩) (Kd.R_far (p := ⟨gb162, 1, none⟩) (Kd.R_far (p := ⟨gb162, 0, none⟩) (Kd.R_types HO_6.out BK162.out (by decide)) (fun _ hk => hk.2) (.int .i64 ((rd_T39 l0_1 x38_3).f0))) (fun _ hk => hk.2) (.int .i64 ((rd_T39 l0_1 x38_3).f1))) (fun _ hk => hk.2) (.int .i64 ((rd_T39 l0_1 x38_3).f2))) (fun _ hk => trivial)⟩
          have n1_ : Aside0 (Kd.R Kd.bool 4 (((w55.setCell ⟨gb162, 0, none⟩ (.int .i64 ((rd_T39 l0_1 x38_3).f0))).setCell ⟨gb162, 1, none⟩ (.int .i64 ((rd_T39 l0_1 x38_3).f1))).setCell ⟨gb162, 2, none⟩ (.int .i64 ((rd_T39 l0_1 x38_3).f2))) w.heap.size (fun _ => True) (.slice (some ⟨go19, 0, none⟩) x7_3.length co19) x7_3) := ⟨by (with_reducible repeat (first | apply rA | apply rN | apply rD)); exact Kd.R_mono (Kd.R_far (p := ⟨gb162, 2, none⟩) (Kd.R_far (p := ⟨gb162, 1, none⟩) (Kd.R_far (p := ⟨gb162, 0, none⟩) (Kd.R_types HO_7.out BK162.out (by decide)) (fun _ hk => hk.2) (.int .i64 ((rd_T39 l0_1 x38_3).f0))) (fun _ hk => hk.2) (.int .i64 ((rd_T39 l0_1 x38_3).f1))) (fun _ hk => hk.2) (.int .i64 ((rd_T39 l0_1 x38_3).f2))) (fun _ hk => trivial)⟩
          have n2_ : Aside0 ((((w55.setCell ⟨gb162, 0, none⟩ (.int .i64 ((rd_T39 l0_1 x38_3).f0))).setCell ⟨gb162, 1, none⟩ (.int .i64 ((rd_T39 l0_1 x38_3).f1))).setCell ⟨gb162, 2, none⟩ (.int .i64 ((rd_T39 l0_1 x38_3).f2))).heap[gb151]? = some (.cells #[.int .i64 a0_0, .slice (some ad161) l0_1.length c0_1] 25 (0, 0))) := ⟨by (with_reducible repeat (first | refine kN ?_ _ | refine kD ?_ | refine kA ?_ _)); refine blk_far ?_ NB151_162.out _; (with_reducible repeat (first | refine kN ?_ _ | refine kD ?_ | refine kA ?_ _)); refine blk_far ?_ NB151_162.out _; (with_reducible repeat (first | refine kN ?_ _ | refine kD ?_ | refine kA ?_ _)); refine blk_far ?_ NB151_162.out _; (with_reducible repeat (first | refine kN ?_ _ | refine kD ?_ | refine kA ?_ _)); exact BK151.out⟩
          have n3_ : Aside0 ((((w55.setCell ⟨gb162, 0, none⟩ (.int .i64 ((rd_T39 l0_1 x38_3).f0))).setCell ⟨gb162, 1, none⟩ (.int .i64 ((rd_T39 l0_1 x38_3).f1))).setCell ⟨gb162, 2, none⟩ (.int .i64 ((rd_T39 l0_1 x38_3).f2))).heap[gb162]? = some (.cells #[.int .i64 ((rd_T39 l0_1 x38_3).f0), .int .i64 ((rd_T39 l0_1 x38_3).f1), .int .i64 ((rd_T39 l0_1 x38_3).f2)] 39 (0, 0))) := ⟨by (with_reducible repeat (first | refine kN ?_ _ | refine kD ?_ | refine kA ?_ _)); refine blk_put (cs := #[.int .i64 ((rd_T39 l0_1 x38_3).f0), .int .i64 ((rd_T39 l0_1 x38_3).f1), .int .i64 0]) ?_ 2 _ rfl; (with_reducible repeat (first | refine kN ?_ _ | refine kD ?_ | refine kA ?_ _)); refine blk_put (cs := #[.int .i64 ((rd_T39 l0_1 x38_3).f0), .int .i64 0, .int .i64 0]) ?_ 1 _ rfl; (with_reducible repeat (first | refine kN ?_ _ | refine kD ?_ | refine kA ?_ _)); refine blk_put (cs := #[.int .i64 0, .int .i64 0, .int .i64 0]) ?_ 0 _ rfl; (with_reducible repeat (first | refine kN ?_ _ | refine kD ?_ | refine kA ?_ _)); exact BK162.out⟩
          have n4_ : Aside0 (Below w.heap.size w (((w55.setCell ⟨gb162, 0, none⟩ (.int .i64 ((rd_T39 l0_1 x38_3).f0))).setCell ⟨gb162, 1, none⟩ (.int .i64 ((rd_T39 l0_1 x38_3).f1))).setCell ⟨gb162, 2, none⟩ (.int .i64 ((rd_T39 l0_1 x38_3).f2)))) := ⟨by repeat (first | (with_reducible first | exact HB.out | apply bA | apply bN | apply bD | refine bS ?_ GE151.out | refine bS ?_ GE162.out) | exact HB.out)⟩
          (try clear HO_6)
          (try clear HO_7)
          (try clear BK151)
          (try clear BK162)
          (try clear HB)
          generalize (((w55.setCell ⟨gb162, 0, none⟩ (.int .i64 ((rd_T39 l0_1 x38_3).f0))).setCell ⟨gb162, 1, none⟩ (.int .i64 ((rd_T39 l0_1 x38_3).f1))).setCell ⟨gb162, 2, none⟩ (.int .i64 ((rd_T39 l0_1 x38_3).f2))) = w58 at n0_ n1_ n2_ n3_ n4_ ⊢
          have HO_6 := n0_
          have HO_7 := n1_
          have BK151 := n2_
          have BK162 := n3_
          have HB := n4_
          clear n0_ n1_ n2_ n3_ n4_
          have n0_ := mK (Kd.R_drew HO_6.out)
          have n1_ := mK (Kd.R_drew HO_7.out)
          have n2_ := mK (blk_drew BK151.out)
          have n3_ := mK (blk_drew BK162.out)
          have n4_ := mK (below_drew1 HB.out)
          clear HO_6
          clear HO_7
          clear BK151
          clear BK162
          clear HB
          have HO_6 := n0_
          have HO_7 := n1_
          have BK151 := n2_
          have BK162 := n3_
          have HB := n4_
          clear n0_ n1_ n2_ n3_ n4_
          obtain ⟨Ao60, co60, eo60⟩ := Kd.R_slice HO_6.out
          (first | subst eo60 | (injection eo60 with f1_ f2_ f3_; have f4_ := f1_.symm; have f5_ := f3_.symm; clear f1_ f2_ f3_; subst f4_; subst f5_))
          have p163 : 0 ≤ (((rd_T39 l0_1 x38_3).f0) : Int) := of_decide_eq_true (by first | (with_reducible assumption) | assumption)
          have q163 : ((rd_T39 l0_1 x38_3).f0) < (x6_3.length : Int) := of_decide_eq_true (by first | (with_reducible assumption) | assumption)
          obtain ⟨ad163, e163, hx163_0⟩ := Kd.at_int (Kd.R_reads' HO_6.out).2.2 ((rd_T39 l0_1 x38_3).f0) p163 q163
          cases e163
          replace p163 := eq_true p163
          replace q163 := eq_true q163
          refine start_ (n := 9) (S := fun w' => w'.cell? ⟨gb162, 0, none⟩ = some (.int .i64 ((rd_T39 l0_1 x38_3).f0)) ∧ w'.cell? ⟨gb162, 1, none⟩ = some (.int .i64 ((rd_T39 l0_1 x38_3).f1)) ∧ w'.cell? ⟨gb162, 2, none⟩ = some (.int .i64 ((rd_T39 l0_1 x38_3).f2)) ∧ w'.cell? (ad163.add (((rd_T39 l0_1 x38_3).f0)).toNat) = some (.int .i64 (rd x6_3 ((rd_T39 l0_1 x38_3).f0)))) (ds := []) #[false, false, false, false, false, false, false, false, false] (by kernel_rfl) rfl rfl ⟨(blk_cell BK162.out 0).trans rfl, (blk_cell BK162.out 1).trans rfl, (blk_cell BK162.out 2).trans rfl, hx163_0⟩ (fun hHeld => ?_); refine with_tabW impl_ShortestFrom.tab11 impl_ShortestFrom.bits11 (fun HT_ HW_ => ?_)
          generalize w58.drew = w59 at HO_6 HO_7 BK151 BK162 HB hx163_0 hHeld ⊢
          refine pure_ (i := 0) (N := some 42) (v := ?_) (a' := ?_) #[true, false, false, false, false, false, false, false, false] rfl rfl (any_of HT_.out (by kernel_rfl)) (fun _ _ _ h => h) (Or.inl ⟨by rfl, ?_⟩) ?_ ?_
          rotate_left
          · intro w'
            go_simp
            with_reducible rfl
          rotate_left
          · simp only [Act.put, sT, sZ, sU, i64_w, i32_w]
            rfl
          refine pure_ (i := 1) (N := some 43) (v := ?_) (a' := ?_) #[true, true, false, false, false, false, false, false, false] rfl rfl (any_of HT_.out (by kernel_rfl)) (fun _ _ _ h => h) (Or.inl ⟨by rfl, ?_⟩) ?_ ?_
          rotate_left
          · intro w'
            go_simp
            with_reducible rfl
          rotate_left
          · simp only [Act.put, sT, sZ, sU, i64_w, i32_w]
            rfl
          refine pure_ (i := 5) (N := some 47) (v := ?_) (a' := ?_) #[true, true, false, false, false, true, false, false, false] rfl rfl (any_of HT_.out (by kernel_rfl)) (fun _ _ _ h => h) (Or.inl ⟨by rfl, ?_⟩) ?_ ?_
          rotate_left
          · intro w'
            go_simp
            with_reducible rfl
          rotate_left
          · simp only [Act.put, sT, sZ, sU, i64_w, i32_w]
            rfl
          refine take_ (i := 2) (N := some 44) (v := ?_) (a' := ?_) #[true, true, true, false, false, true, false, false, false] rfl rfl (take_ofW HT_.out HW_.out (by kernel_rfl)) (fun _ _ _ h => h) (Or.inl ⟨by rfl, ?_⟩) hHeld ?_ ?_
          rotate_left
          · rintro w' ⟨s0, s1, s2, s3⟩
            go_simp
            with_reducible rfl
          rotate_left
          · simp only [Act.put, sT, sZ, sU, i64_w, i32_w]
            rfl
          refine pure_ (i := 3) (N := some 45) (v := ?_) (a' := ?_) #[true, true, true, true, false, true, false, false, false] rfl rfl (any_of HT_.out (by kernel_rfl)) (fun _ _ _ h => h) (Or.inl ⟨by rfl, ?_⟩) ?_ ?_
          rotate_left
          · intro w'
            go_simp
            with_reducible rfl
          rotate_left
          · simp only [Act.put, sT, sZ, sU, i64_w, i32_w]
            rfl
          refine take_ (i := 4) (N := some 46) (v := ?_) (a' := ?_) #[true, true, true, true, true, true, false, false, false] rfl rfl (take_ofW HT_.out HW_.out (by kernel_rfl)) (fun _ _ _ h => h) (Or.inl ⟨by rfl, ?_⟩) hHeld ?_ ?_
          rotate_left
          · rintro w' ⟨s0, s1, s2, s3⟩
            go_simp
            with_reducible rfl
          rotate_left
          · simp only [Act.put, sT, sZ, sU, i64_w, i32_w]
            rfl
          refine take_ (i := 6) (N := some 48) (v := ?_) (a' := ?_) #[true, true, true, true, true, true, true, false, false] rfl rfl (take_ofW HT_.out HW_.out (by kernel_rfl)) (fun _ _ _ h => h) (Or.inl ⟨by rfl, ?_⟩) hHeld ?_ ?_
          rotate_left
          · rintro w' ⟨s0, s1, s2, s3⟩
            go_simp
            with_reducible rfl
          rotate_left
          · simp only [Act.put, sT, sZ, sU, i64_w, i32_w]
            rfl
          refine pure_ (i := 7) (N := some 49) (v := ?_) (a' := ?_) #[true, true, true, true, true, true, true, true, false] rfl rfl (any_of HT_.out (by kernel_rfl)) (fun _ _ _ h => h) (Or.inl ⟨by rfl, ?_⟩) ?_ ?_
          rotate_left
          · intro w'
            go_simp
            with_reducible rfl
          rotate_left
          · simp only [Act.put, sT, sZ, sU, i64_w, i32_w]
            rfl
          refine pure_ (i := 8) (N := some 12) (v := ?_) (a' := ?_) #[true, true, true, true, true, true, true, true, true] rfl rfl (any_of HT_.out (by kernel_rfl)) (fun _ _ _ h => h) (Or.inl ⟨by rfl, ?_⟩) ?_ ?_
          rotate_left
          · intro w'
            go_simp
            with_reducible rfl
          rotate_left
          · simp only [Act.put, sT, sZ, sU, i64_w, i32_w]
            rfl
          refine done_ (done_of HT_.out (by kernel_rfl)) ?_
          have hcz61_0 : w59.cell? ⟨gb162, 0, none⟩ = some (.int .i64 ((rd_T39 l0_1 x38_3).f0)) := (blk_cell BK162.out 0).trans rfl
          have hcz61_1 : w59.cell? ⟨gb162, 1, none⟩ = some (.int .i64 ((rd_T39 l0_1 x38_3).f1)) := (blk_cell BK162.out 1).trans rfl
          have hcz61_2 : w59.cell? ⟨gb162, 2, none⟩ = some (.int .i64 ((rd_T39 l0_1 x38_3).f2)) := (blk_cell BK162.out 2).trans rfl
          have hfz61_0 := blk_frozen BK162.out 0
          have hfz61_1 := blk_frozen BK162.out 1
          have hfz61_2 := blk_frozen BK162.out 2
          have p164 : 0 ≤ (((rd_T39 l0_1 x38_3).f0) : Int) := of_decide_eq_true (by first | (with_reducible assumption) | assumption)
          have q164 : ((rd_T39 l0_1 x38_3).f0) < (x7_3.length : Int) := of_decide_eq_true (by first | (with_reducible assumption) | assumption)
          obtain ⟨ad164, e164, hx164_0⟩ := Kd.at_bool (Kd.R_reads' HO_7.out).2.2 ((rd_T39 l0_1 x38_3).f0) p164 q164
          (try rw [← Nbq35.out] at hx164_0)
          (try rw [← Nbq39.out] at hx164_0)
          obtain rfl : (⟨go19, 0, none⟩ : Addr) = ad164 := (by injection e164)
          (first | simp only [add_plain] at hx164_0 | simp only [add_at] at hx164_0 | simp only [Addr.add, Nat.zero_add] at hx164_0 | skip)
          replace p164 := eq_true p164
          replace q164 := eq_true q164
          have p165 : 0 ≤ (((rd_T39 l0_1 x38_3).f1) : Int) := of_decide_eq_true (by first | (with_reducible assumption) | assumption)
          have q165 : ((rd_T39 l0_1 x38_3).f1) < (x7_3.length : Int) := of_decide_eq_true (by first | (with_reducible assumption) | assumption)
          obtain ⟨ad165, e165, hx165_0⟩ := Kd.at_bool (Kd.R_reads' HO_7.out).2.2 ((rd_T39 l0_1 x38_3).f1) p165 q165
          (try rw [← Nbq35.out] at hx165_0)
          (try rw [← Nbq39.out] at hx165_0)
          obtain rfl : (⟨go19, 0, none⟩ : Addr) = ad165 := (by injection e165)
          (first | simp only [add_plain] at hx165_0 | simp only [add_at] at hx165_0 | simp only [Addr.add, Nat.zero_add] at hx165_0 | skip)
          replace p165 := eq_true p165
          replace q165 := eq_true q165
          have p166 : 0 ≤ (((rd_T39 l0_1 x38_3).f1) : Int) := of_decide_eq_true (by first | (with_reducible assumption) | assumption)
          have q166 : ((rd_T39 l0_1 x38_3).f1) < (x6_3.length : Int) := of_decide_eq_true (by first | (with_reducible assumption) | assumption)
          obtain ⟨ad166, e166, hx166_0⟩ := Kd.at_int (Kd.R_reads' HO_6.out).2.2 ((rd_T39 l0_1 x38_3).f1) p166 q166
          obtain rfl : ad163 = ad166 := (by injection e166)
          replace p166 := eq_true p166
          replace q166 := eq_true q166
          try go_wp2
          (try simp only [← hl7_3])
          go_roundg k3
          case measure => have := HJ2.out; have := HK2.out; have := HK3.out; omega
          case rel => exact ⟨(x6_3), (x7_3), (x9_3), (wrap64 (x38_3 + 1)), (by first | rfl | (simp; done) | (simp [*]; done)), (by first | rfl | (simp; done) | (simp [*]; done)), H', ⟨by have := HJ2.out; have := HK2.out; have := HK3.out; omega⟩, ⟨by (try simp only [hl7_2]); (try simp only [hl7_3]); (with_reducible repeat (first | apply rA | apply rN | apply rD)); exact HO_6.out⟩, ⟨by (try simp only [hl7_2]); (try simp only [hl7_3]); (with_reducible repeat (first | apply rA | apply rN | apply rD)); exact HO_7.out⟩, ⟨by (try simp only [hl7_2]); (try simp only [hl7_3]); (with_reducible repeat (first | refine kN ?_ _ | refine kD ?_ | refine kA ?_ _)); exact BK151.out⟩, ⟨by repeat (first | (with_reducible first | exact HB.out | apply bA | apply bN | apply bD | refine bS ?_ GE151.out | refine bS ?_ GE162.out) | exact HB.out)⟩⟩
        rw [if_pos c42] at H
        have c42b0 : decide ((wrap64 ((rd x6_3 ((rd_T39 l0_1 x38_3).f0)) + ((rd_T39 l0_1 x38_3).f2))) < (rd x6_3 ((rd_T39 l0_1 x38_3).f1))) = true := decide_eq_true c42
        clear c42
        obtain ⟨y167, hy167⟩ : ∃ y_ : List Int, y_ = (x6_3.set (((rd_T39 l0_1 x38_3).f1) : Int).toNat (wrap64 ((rd x6_3 ((rd_T39 l0_1 x38_3).f0)) + ((rd_T39 l0_1 x38_3).f2)))) := ⟨_, rfl⟩
        replace H : (impl_ShortestFrom.l1 k3 y167 (x7_3.set (((rd_T39 l0_1 x38_3).f1) : Int).toNat true) x8_2 true l0_1 (l0_1.length : Int) (wrap64 (x38_3 + 1)) a0_0 l0_1) = some (r1, r2) := by first | (rw [hy167]; with_reducible exact H) | (have H2_ := (Option.bind_some _ _).symm.trans H; rw [hy167]; with_reducible exact H2_) | (have H2_ := (Option.bind_some _ _).symm.trans H; with_reducible exact H2_) | with_reducible exact H | (rw [hy167]; exact H) | exact H
        have Ny167 := mK hy167
        clear hy167
        obtain ⟨y168, hy168⟩ : ∃ y_ : List Bool, y_ = (x7_3.set (((rd_T39 l0_1 x38_3).f1) : Int).toNat true) := ⟨_, rfl⟩
        replace H : (impl_ShortestFrom.l1 k3 y167 y168 x8_2 true l0_1 (l0_1.length : Int) (wrap64 (x38_3 + 1)) a0_0 l0_1) = some (r1, r2) := by first | (rw [hy168]; with_reducible exact H) | (have H2_ := (Option.bind_some _ _).symm.trans H; rw [hy168]; with_reducible exact H2_) | (have H2_ := (Option.bind_some _ _).symm.trans H; with_reducible exact H2_) | with_reducible exact H | (rw [hy168]; exact H) | exact H
        have Ny168 := mK hy168
        clear hy168
        have H' := mK H
        clear H
        have p161 : 0 ≤ (x38_3 : Int) := of_decide_eq_true (by first | (with_reducible assumption) | assumption)
        have q161 : x38_3 < (l0_1.length : Int) := of_decide_eq_true (by first | (with_reducible assumption) | assumption)
        obtain ⟨ad161, e161, hx161_0, hx161_1, hx161_2⟩ := at_T39 HR0_1.out x38_3 p161 q161
        cases e161
        replace hx161_0 := (HB.out.cell (World.block_lt_of_cell? w _ hx161_0)).trans hx161_0
        replace hx161_1 := (HB.out.cell (World.block_lt_of_cell? w _ hx161_1)).trans hx161_1
        replace hx161_2 := (HB.out.cell (World.block_lt_of_cell? w _ hx161_2)).trans hx161_2
        replace p161 := eq_true p161
        replace q161 := eq_true q161
        try go_wp2_with (first | ((with_reducible refine gate_dst (N := 11) rfl ?_); refine box_event ?hg (N := 11) ?hd (cs := #[.int .i64 0, .int .i64 0, .int .i64 0]) (t := 39) ?hr ?_; (case hd => rfl); (case hg => rfl); (case hr => first | (go_simp; done) | (go_simp; rfl)); intro gb162 hg w45 hbox hb; have n0_ := mK (Kd.R_below (by (with_reducible repeat (first | apply rA | apply rN | apply rD)); exact HO_6.out) hb); have n1_ := mK (Kd.R_below (by (with_reducible repeat (first | apply rA | apply rN | apply rD)); exact HO_7.out) hb); have n2_ := mK (blk_below (by (with_reducible repeat (first | refine kN ?_ _ | refine kD ?_ | refine kA ?_ _)); exact BK151.out) hb); have n3_ := mK (below_step (by repeat (first | (with_reducible first | exact HB.out | apply bA | apply bN | apply bD | refine bS ?_ GE151.out) | exact HB.out)) hb); have n4_ := mK (hbox); have n5_ := mK ((by rw [hg]; exact (below_size (by repeat (first | (with_reducible first | exact HB.out | apply bA | apply bN | apply bD | refine bS ?_ GE151.out) | exact HB.out))) : w.heap.size ≤ gb162)); have n6_ := mK ((by rw [hg]; exact (below_size (by repeat (first | (with_reducible first | exact HB.out | apply bA | apply bN | apply bD | refine bS ?_ GE151.out) | exact HB.out))) : w.heap.size ≤ gb162)); have n7_ := mK ((by rw [hg]; exact Nat.ne_of_lt (blk_lt (by (with_reducible repeat (first | refine kN ?_ _ | refine kD ?_ | refine kA ?_ _)); exact BK151.out)) : gb151 ≠ gb162)); have n8_ := mK ((by rw [hg]; exact Nat.ne_of_gt (blk_lt (by (with_reducible repeat (first | refine kN ?_ _ | refine kD ?_ | refine kA ?_ _)); exact BK151.out)) : gb162 ≠ gb151)); clear HO_6; clear HO_7; clear BK151; clear HB; have HO_6 := n0_; have HO_7 := n1_; have BK151 := n2_; have HB := n3_; have BK162 := n4_; have GW162 := n5_; have GE162 := n6_; have NB151_162 := n7_; have NB162_151 := n8_; clear n0_ n1_ n2_ n3_ n4_ n5_ n6_ n7_ n8_; clear hb hbox hg; have hnb46 := NB162_151.out; have hnc46 := NB151_162.out; have hcz47_0 : w45.cell? ⟨gb162, 0, none⟩ = some (.int .i64 0) := (blk_cell BK162.out 0).trans rfl; have hcz47_1 : w45.cell? ⟨gb162, 1, none⟩ = some (.int .i64 0) := (blk_cell BK162.out 1).trans rfl; have hcz47_2 : w45.cell? ⟨gb162, 2, none⟩ = some (.int .i64 0) := (blk_cell BK162.out 2).trans rfl; have hfz47_0 := blk_frozen BK162.out 0; have hfz47_1 := blk_frozen BK162.out 1; have hfz47_2 := blk_frozen BK162.out 2))
        have n0_ : Aside0 (Kd.R (Kd.int .i64) 3 (((w45.setCell ⟨gb162, 0, none⟩ (.int .i64 ((rd_T39 l0_1 x38_3).f0))).setCell ⟨gb162, 1, none⟩ (.int .i64 ((rd_T39 l0_1 x38_3).f1))).setCell ⟨gb162, 2, none⟩ (.int .i64 ((rd_T39 l0_1 x38_3).f2))) w.heap.size (fun _ => True) v155 x6_3) := ⟨by (with_reducible repeat (first | apply rA | apply rN | apply rD)); exact Kd.R_mono (Kd.R_far (p := ⟨gb162, 2, none⟩) (Kd.R_far (p := ⟨gb162, 1, none⟩) (Kd.R_far (p := ⟨gb162, 0, none⟩) (Kd.R_types HO_6.out BK162.out (by decide)) (fun _ hk => hk.2) (.int .i64 ((rd_T39 l0_1 x38_3).f0))) (fun _ hk => hk.2) (.int .i64 ((rd_T39 l0_1 x38_3).f1))) (fun _ hk => hk.2) (.int .i64 ((rd_T39 l0_1 x38_3).f2))) (fun _ hk => trivial)⟩
        have n1_ : Aside0 (Kd.R Kd.bool 4 (((w45.setCell ⟨gb162, 0, none⟩ (.int .i64 ((rd_T39 l0_1 x38_3).f0))).setCell ⟨gb162, 1, none⟩ (.int .i64 ((rd_T39 l0_1 x38_3).f1))).setCell ⟨gb162, 2, none⟩ (.int .i64 ((rd_T39 l0_1 x38_3).f2))) w.heap.size (fun _ => True) (.slice (some ⟨go19, 0, none⟩) x7_3.length co19) x7_3) := ⟨by (with_reducible repeat (first | apply rA | apply rN | apply rD)); exact Kd.R_mono (Kd.R_far (p := ⟨gb162, 2, none⟩) (Kd.R_far (p := ⟨gb162, 1, none⟩) (Kd.R_far (p := ⟨gb162, 0, none⟩) (Kd.R_types HO_7.out BK162.out (by decide)) (fun _ hk => hk.2) (.int .i64 ((rd_T39 l0_1 x38_3).f0))) (fun _ hk => hk.2) (.int .i64 ((rd_T39 l0_1 x38_3).f1))) (fun _ hk => hk.2) (.int .i64 ((rd_T39 l0_1 x38_3).f2))) (fun _ hk => trivial)⟩
        have n2_ : Aside0 ((((w45.setCell ⟨gb162, 0, none⟩ (.int .i64 ((rd_T39 l0_1 x38_3).f0))).setCell ⟨gb162, 1, none⟩ (.int .i64 ((rd_T39 l0_1 x38_3).f1))).setCell ⟨gb162, 2, none⟩ (.int .i64 ((rd_T39 l0_1 x38_3).f2))).heap[gb151]? = some (.cells #[.int .i64 a0_0, .slice (some ad161) l0_1.length c0_1] 25 (0, 0))) := ⟨by (with_reducible repeat (first | refine kN ?_ _ | refine kD ?_ | refine kA ?_ _)); refine blk_far ?_ NB151_162.out _; (with_reducible repeat (first | refine kN ?_ _ | refine kD ?_ | refine kA ?_ _)); refine blk_far ?_ NB151_162.out _; (with_reducible repeat (first | refine kN ?_ _ | refine kD ?_ | refine kA ?_ _)); refine blk_far ?_ NB151_162.out _; (with_reducible repeat (first | refine kN ?_ _ | refine kD ?_ | refine kA ?_ _)); exact BK151.out⟩
        have n3_ : Aside0 ((((w45.setCell ⟨gb162, 0, none⟩ (.int .i64 ((rd_T39 l0_1 x38_3).f0))).setCell ⟨gb162, 1, none⟩ (.int .i64 ((rd_T39 l0_1 x38_3).f1))).setCell ⟨gb162, 2, none⟩ (.int .i64 ((rd_T39 l0_1 x38_3).f2))).heap[gb162]? = some (.cells #[.int .i64 ((rd_T39 l0_1 x38_3).f0), .int .i64 ((rd_T39 l0_1 x38_3).f1), .int .i64 ((rd_T39 l0_1 x38_3).f2)] 39 (0, 0))) := ⟨by (with_reducible repeat (first | refine kN ?_ _ | refine kD ?_ | refine kA ?_ _)); refine blk_put (cs := #[.int .i64 ((rd_T39 l0_1 x38_3).f0), .int .i64 ((rd_T39 l0_1 x38_3).f1), .int .i64 0]) ?_ 2 _ rfl; (with_reducible repeat (first | refine kN ?_ _ | refine kD ?_ | refine kA ?_ _)); refine blk_put (cs := #[.int .i64 ((rd_T39 l0_1 x38_3).f0), .int .i64 0, .int .i64 0]) ?_ 1 _ rfl; (with_reducible repeat (first | refine kN ?_ _ | refine kD ?_ | refine kA ?_ _)); refine blk_put (cs := #[.int .i64 0, .int .i64 0, .int .i64 0]) ?_ 0 _ rfl; (with_reducible repeat (first | refine kN ?_ _ | refine kD ?_ | refine kA ?_ _)); exact BK162.out⟩
        have n4_ : Aside0 (Below w.heap.size w (((w45.setCell ⟨gb162, 0, none⟩ (.int .i64 ((rd_T39 l0_1 x38_3).f0))).setCell ⟨gb162, 1, none⟩ (.int .i64 ((rd_T39 l0_1 x38_3).f1))).setCell ⟨gb162, 2, none⟩ (.int .i64 ((rd_T39 l0_1 x38_3).f2)))) := ⟨by repeat (first | (with_reducible first | exact HB.out | apply bA | apply bN | apply bD | refine bS ?_ GE151.out | refine bS ?_ GE162.out) | exact HB.out)⟩
        (try clear HO_6)
        (try clear HO_7)
        (try clear BK151)
        (try clear BK162)
        (try clear HB)
        generalize (((w45.setCell ⟨gb162, 0, none⟩ (.int .i64 ((rd_T39 l0_1 x38_3).f0))).setCell ⟨gb162, 1, none⟩ (.int .i64 ((rd_T39 l0_1 x38_3).f1))).setCell ⟨gb162, 2, none⟩ (.int .i64 ((rd_T39 l0_1 x38_3).f2))) = w48 at n0_ n1_ n2_ n3_ n4_ ⊢
        have HO_6 := n0_
        have HO_7 := n1_
        have BK151 := n2_
        have BK162 := n3_
        have HB := n4_
        clear n0_ n1_ n2_ n3_ n4_
        have n0_ := mK (Kd.R_drew HO_6.out)
        have n1_ := mK (Kd.R_drew HO_7.out)
        have n2_ := mK (blk_drew BK151.out)
        have n3_ := mK (blk_drew BK162.out)
        have n4_ := mK (below_drew1 HB.out)
        clear HO_6
        clear HO_7
        clear BK151
        clear BK162
        clear HB
        have HO_6 := n0_
        have HO_7 := n1_
        have BK151 := n2_
        have BK162 := n3_
        have HB := n4_
        clear n0_ n1_ n2_ n3_ n4_
        obtain ⟨Ao50, co50, eo50⟩ := Kd.R_slice HO_6.out
        (first | subst eo50 | (injection eo50 with f1_ f2_ f3_; have f4_ := f1_.symm; have f5_ := f3_.symm; clear f1_ f2_ f3_; subst f4_; subst f5_))
        have p163 : 0 ≤ (((rd_T39 l0_1 x38_3).f0) : Int) := of_decide_eq_true (by first | (with_reducible assumption) | assumption)
        have q163 : ((rd_T39 l0_1 x38_3).f0) < (x6_3.length : Int) := of_decide_eq_true (by first | (with_reducible assumption) | assumption)
        obtain ⟨ad163, e163, hx163_0⟩ := Kd.at_int (Kd.R_reads' HO_6.out).2.2 ((rd_T39 l0_1 x38_3).f0) p163 q163
        cases e163
        replace p163 := eq_true p163
        replace q163 := eq_true q163
        refine start_ (n := 9) (S := fun w' => w'.cell? ⟨gb162, 0, none⟩ = some (.int .i64 ((rd_T39 l0_1 x38_3).f0)) ∧ w'.cell? ⟨gb162, 1, none⟩ = some (.int .i64 ((rd_T39 l0_1 x38_3).f1)) ∧ w'.cell? ⟨gb162, 2, none⟩ = some (.int .i64 ((rd_T39 l0_1 x38_3).f2)) ∧ w'.cell? (ad163.add (((rd_T39 l0_1 x38_3).f0)).toNat) = some (.int .i64 (rd x6_3 ((rd_T39 l0_1 x38_3).f0)))) (ds := []) #[false, false, false, false, false, false, false, false, false] (by kernel_rfl) rfl rfl ⟨(blk_cell BK162.out 0).trans rfl, (blk_cell BK162.out 1).trans rfl, (blk_cell BK162.out 2).trans rfl, hx163_0⟩ (fun hHeld => ?_); refine with_tabW impl_ShortestFrom.tab11 impl_ShortestFrom.bits11 (fun HT_ HW_ => ?_)
        generalize w48.drew = w49 at HO_6 HO_7 BK151 BK162 HB hx163_0 hHeld ⊢
        refine pure_ (i := 0) (N := some 42) (v := ?_) (a' := ?_) #[true, false, false, false, false, false, false, false, false] rfl rfl (any_of HT_.out (by kernel_rfl)) (fun _ _ _ h => h) (Or.inl ⟨by rfl, ?_⟩) ?_ ?_
        rotate_left
        · intro w'
          go_simp
          with_reducible rfl
        rotate_left
        · simp only [Act.put, sT, sZ, sU, i64_w, i32_w]
          rfl
        refine pure_ (i := 1) (N := some 43) (v := ?_) (a' := ?_) #[true, true, false, false, false, false, false, false, false] rfl rfl (any_of HT_.out (by kernel_rfl)) (fun _ _ _ h => h) (Or.inl ⟨by rfl, ?_⟩) ?_ ?_
        rotate_left
        · intro w'
          go_simp
          with_reducible rfl
        rotate_left
        · simp only [Act.put, sT, sZ, sU, i64_w, i32_w]
          rfl
        refine pure_ (i := 5) (N := some 47) (v := ?_) (a' := ?_) #[true, true, false, false, false, true, false, false, false] rfl rfl (any_of HT_.out (by kernel_rfl)) (fun _ _ _ h => h) (Or.inl ⟨by rfl, ?_⟩) ?_ ?_
        rotate_left
        · intro w'
          go_simp
          with_reducible rfl
        rotate_left
        · simp only [Act.put, sT, sZ, sU, i64_w, i32_w]
          rfl
        refine take_ (i := 2) (N := some 44) (v := ?_) (a' := ?_) #[true, true, true, false, false, true, false, false, false] rfl rfl (take_ofW HT_.out HW_.out (by kernel_rfl)) (fun _ _ _ h => h) (Or.inl ⟨by rfl, ?_⟩) hHeld ?_ ?_
        rotate_left
        · rintro w' ⟨s0, s1, s2, s3⟩
          go_simp
          with_reducible rfl
        rotate_left
        · simp only [Act.put, sT, sZ, sU, i64_w, i32_w]
          rfl
        refine pure_ (i := 3) (N := some 45) (v := ?_) (a' := ?_) #[true, true, true, true, false, true, false, false, false] rfl rfl (any_of HT_.out (by kernel_rfl)) (fun _ _ _ h => h) (Or.inl ⟨by rfl, ?_⟩) ?_ ?_
        rotate_left
        · intro w'
          go_simp
          with_reducible rfl
        rotate_left
        · simp only [Act.put, sT, sZ, sU, i64_w, i32_w]
          rfl
        refine take_ (i := 4) (N := some 46) (v := ?_) (a' := ?_) #[true, true, true, true, true, true, false, false, false] rfl rfl (take_ofW HT_.out HW_.out (by kernel_rfl)) (fun _ _ _ h => h) (Or.inl ⟨by rfl, ?_⟩) hHeld ?_ ?_
        rotate_left
        · rintro w' ⟨s0, s1, s2, s3⟩
          go_simp
          with_reducible rfl
        rotate_left
        · simp only [Act.put, sT, sZ, sU, i64_w, i32_w]
          rfl
        refine take_ (i := 6) (N := some 48) (v := ?_) (a' := ?_) #[true, true, true, true, true, true, true, false, false] rfl rfl (take_ofW HT_.out HW_.out (by kernel_rfl)) (fun _ _ _ h => h) (Or.inl ⟨by rfl, ?_⟩) hHeld ?_ ?_
        rotate_left
        · rintro w' ⟨s0, s1, s2, s3⟩
          go_simp
          with_reducible rfl
        rotate_left
        · simp only [Act.put, sT, sZ, sU, i64_w, i32_w]
          rfl
        refine pure_ (i := 7) (N := some 49) (v := ?_) (a' := ?_) #[true, true, true, true, true, true, true, true, false] rfl rfl (any_of HT_.out (by kernel_rfl)) (fun _ _ _ h => h) (Or.inl ⟨by rfl, ?_⟩) ?_ ?_
        rotate_left
        · intro w'
          go_simp
          with_reducible rfl
        rotate_left
        · simp only [Act.put, sT, sZ, sU, i64_w, i32_w]
          rfl
        refine pure_ (i := 8) (N := some 12) (v := ?_) (a' := ?_) #[true, true, true, true, true, true, true, true, true] rfl rfl (any_of HT_.out (by kernel_rfl)) (fun _ _ _ h => h) (Or.inl ⟨by rfl, ?_⟩) ?_ ?_
        rotate_left
        · intro w'
          go_simp
          with_reducible rfl
        rotate_left
        · simp only [Act.put, sT, sZ, sU, i64_w, i32_w]
          rfl
        refine done_ (done_of HT_.out (by kernel_rfl)) ?_
        have hcz51_0 : w49.cell? ⟨gb162, 0, none⟩ = some (.int .i64 ((rd_T39 l0_1 x38_3).f0)) := (blk_cell BK162.out 0).trans rfl
        have hcz51_1 : w49.cell? ⟨gb162, 1, none⟩ = some (.int .i64 ((rd_T39 l0_1 x38_3).f1)) := (blk_cell BK162.out 1).trans rfl
        have hcz51_2 : w49.cell? ⟨gb162, 2, none⟩ = some (.int .i64 ((rd_T39 l0_1 x38_3).f2)) := (blk_cell BK162.out 2).trans rfl
        have hfz51_0 := blk_frozen BK162.out 0
        have hfz51_1 := blk_frozen BK162.out 1
        have hfz51_2 := blk_frozen BK162.out 2
        have p164 : 0 ≤ (((rd_T39 l0_1 x38_3).f0) : Int) := of_decide_eq_true (by first | (with_reducible assumption) | assumption)
        have q164 : ((rd_T39 l0_1 x38_3).f0) < (x7_3.length : Int) := of_decide_eq_true (by first | (with_reducible assumption) | assumption)
        obtain ⟨ad164, e164, hx164_0⟩ := Kd.at_bool (Kd.R_reads' HO_7.out).2.2 ((rd_T39 l0_1 x38_3).f0) p164 q164
        (try rw [← Nbq35.out] at hx164_0)
        (try rw [← Nbq39.out] at hx164_0)
        obtain rfl : (⟨go19, 0, none⟩ : Addr) = ad164 := (by injection e164)
        (first | simp only [add_plain] at hx164_0 | simp only [add_at] at hx164_0 | simp only [Addr.add, Nat.zero_add] at hx164_0 | skip)
        replace p164 := eq_true p164
        replace q164 := eq_true q164
        have p165 : 0 ≤ (((rd_T39 l0_1 x38_3).f1) : Int) := of_decide_eq_true (by first | (with_reducible assumption) | assumption)
        have q165 : ((rd_T39 l0_1 x38_3).f1) < (x7_3.length : Int) := of_decide_eq_true (by first | (with_reducible assumption) | assumption)
        obtain ⟨ad165, e165, hx165_0⟩ := Kd.at_bool (Kd.R_reads' HO_7.out).2.2 ((rd_T39 l0_1 x38_3).f1) p165 q165
        (try rw [← Nbq35.out] at hx165_0)
        (try rw [← Nbq39.out] at hx165_0)
        obtain rfl : (⟨go19, 0, none⟩ : Addr) = ad165 := (by injection e165)
        (first | simp only [add_plain] at hx165_0 | simp only [add_at] at hx165_0 | simp only [Addr.add, Nat.zero_add] at hx165_0 | skip)
        replace p165 := eq_true p165
        replace q165 := eq_true q165
        have p166 : 0 ≤ (((rd_T39 l0_1 x38_3).f1) : Int) := of_decide_eq_true (by first | (with_reducible assumption) | assumption)
        have q166 : ((rd_T39 l0_1 x38_3).f1) < (x6_3.length : Int) := of_decide_eq_true (by first | (with_reducible assumption) | assumption)
        obtain ⟨ad166, e166, hx166_0⟩ := Kd.at_int (Kd.R_reads' HO_6.out).2.2 ((rd_T39 l0_1 x38_3).f1) p166 q166
        obtain rfl : ad163 = ad166 := (by injection e166)
        replace p166 := eq_true p166
        replace q166 := eq_true q166
        try go_wp2
        have n0_ := mK (Kd.R_drew HO_6.out)
        have n1_ := mK (Kd.R_drew HO_7.out)
        have n2_ := mK (blk_drew BK151.out)
        have n3_ := mK (blk_drew BK162.out)
        have n4_ := mK (below_drew1 HB.out)
        clear HO_6
        clear HO_7
        clear BK151
        clear BK162
        clear HB
        have HO_6 := n0_
        have HO_7 := n1_
        have BK151 := n2_
        have BK162 := n3_
        have HB := n4_
        clear n0_ n1_ n2_ n3_ n4_
        have p43 : 0 ≤ (((rd_T39 l0_1 x38_3).f1) : Int) := of_decide_eq_true (by first | (with_reducible assumption) | assumption)
        have q43 : (((rd_T39 l0_1 x38_3).f1) : Int) < ((x6_3.length : Int) : Int) := of_decide_eq_true (by first | (with_reducible assumption) | assumption)
        obtain ⟨go43, co43, eo43, gb43, gl43, cl43, HG43⟩ := Kd.R_form HO_6.out (by omega)
        (first | cases eo43 | (injection eo43 with ea_ en_ ec_; (first | subst ea_ | (injection ea_ with ea_; subst ea_)); subst ec_; clear en_))
        have GB43 := mK gb43
        have GG43 := mK HG43
        clear gb43 gl43 HG43
        (first | simp only [add_plain] at hx163_0 | skip)
        (first | simp only [add_plain] at hx166_0 | skip)
        obtain ⟨hx43_0, hf43_0⟩ := Kd.R_celln 0 HO_6.out (((rd_T39 l0_1 x38_3).f1) : Int) p43 q43
        replace p43 := eq_true p43
        replace q43 := eq_true q43
        have HP53 := Kd.R_putn HO_6.out (((rd_T39 l0_1 x38_3).f1) : Int) (wrap64 ((rd x6_3 ((rd_T39 l0_1 x38_3).f0)) + ((rd_T39 l0_1 x38_3).f2)))
        rw [← Ny167.out] at HP53
        have HQ53 := mK HP53
        clear HP53
        have p44 : 0 ≤ (((rd_T39 l0_1 x38_3).f1) : Int) := of_decide_eq_true (by first | (with_reducible assumption) | assumption)
        have q44 : (((rd_T39 l0_1 x38_3).f1) : Int) < ((x7_3.length : Int) : Int) := of_decide_eq_true (by first | (with_reducible assumption) | assumption)
        obtain ⟨hx44_0, hf44_0⟩ := Kd.R_celln false (Kd.R_far (p := ⟨go43, (((rd_T39 l0_1 x38_3).f1) : Int).toNat, none⟩) (Kd.R_types HO_7.out GG43.out (by decide)) (fun _ hk => hk.2) (.int .i64 (wrap64 ((rd x6_3 ((rd_T39 l0_1 x38_3).f0)) + ((rd_T39 l0_1 x38_3).f2))))) (((rd_T39 l0_1 x38_3).f1) : Int) p44 q44
        replace p44 := eq_true p44
        replace q44 := eq_true q44
        have HP54 := Kd.R_putn (Kd.R_far (p := ⟨go43, (((rd_T39 l0_1 x38_3).f1) : Int).toNat, none⟩) (Kd.R_types HO_7.out GG43.out (by decide)) (fun _ hk => hk.2) (.int .i64 (wrap64 ((rd x6_3 ((rd_T39 l0_1 x38_3).f0)) + ((rd_T39 l0_1 x38_3).f2))))) (((rd_T39 l0_1 x38_3).f1) : Int) true
        rw [← Ny168.out] at HP54
        have HQ54 := mK HP54
        clear HP54
        refine start_ (n := 12) (S := fun w' => w'.cell? ⟨gb162, 0, none⟩ = some (.int .i64 ((rd_T39 l0_1 x38_3).f0)) ∧ w'.cell? ⟨gb162, 1, none⟩ = some (.int .i64 ((rd_T39 l0_1 x38_3).f1)) ∧ w'.cell? ⟨gb162, 2, none⟩ = some (.int .i64 ((rd_T39 l0_1 x38_3).f2))) (ds := [10]) #[false, false, false, false, false, false, false, false, false, false, false, false] (by kernel_rfl) rfl rfl ⟨(blk_cell BK162.out 0).trans rfl, (blk_cell BK162.out 1).trans rfl, (blk_cell BK162.out 2).trans rfl⟩ (fun hHeld => ?_); refine with_tabW impl_ShortestFrom.tab13 impl_ShortestFrom.bits13 (fun HT_ HW_ => ?_)
        first | generalize w49.drew = w52 at HO_6 HO_7 BK151 BK162 HB GG43 HQ53 HQ54 hf43_0 hf44_0 hx163_0 hx166_0 hx43_0 hx44_0 hHeld ⊢ | generalize w49.drew = w52 at HO_6 HO_7 BK151 BK162 HB GG43 HQ53 HQ54 hf43_0 hf44_0 hx43_0 hx44_0 hHeld ⊢
        refine pure_ (i := 0) (N := some 72) (v := ?_) (a' := ?_) #[true, false, false, false, false, false, false, false, false, false, false, false] rfl rfl (any_of HT_.out (by kernel_rfl)) (fun _ _ _ h => h) (Or.inl ⟨by rfl, ?_⟩) ?_ ?_
        rotate_left
        · intro w'
          go_simp
          with_reducible rfl
        rotate_left
        · simp only [Act.put, sT, sZ, sU, i64_w, i32_w]
          rfl
        refine pure_ (i := 1) (N := some 73) (v := ?_) (a' := ?_) #[true, true, false, false, false, false, false, false, false, false, false, false] rfl rfl (any_of HT_.out (by kernel_rfl)) (fun _ _ _ h => h) (Or.inl ⟨by rfl, ?_⟩) ?_ ?_
        rotate_left
        · intro w'
          go_simp
          with_reducible rfl
        rotate_left
        · simp only [Act.put, sT, sZ, sU, i64_w, i32_w]
          rfl
        refine pure_ (i := 3) (N := some 75) (v := ?_) (a' := ?_) #[true, true, false, true, false, false, false, false, false, false, false, false] rfl rfl (any_of HT_.out (by kernel_rfl)) (fun _ _ _ h => h) (Or.inl ⟨by rfl, ?_⟩) ?_ ?_
        rotate_left
        · intro w'
          go_simp
          with_reducible rfl
        rotate_left
        · simp only [Act.put, sT, sZ, sU, i64_w, i32_w]
          rfl
        refine pure_ (i := 4) (N := some 76) (v := ?_) (a' := ?_) #[true, true, false, true, true, false, false, false, false, false, false, false] rfl rfl (any_of HT_.out (by kernel_rfl)) (fun _ _ _ h => h) (Or.inl ⟨by rfl, ?_⟩) ?_ ?_
        rotate_left
        · intro w'
          go_simp
          with_reducible rfl
        rotate_left
        · simp only [Act.put, sT, sZ, sU, i64_w, i32_w]
          rfl
        refine pure_ (i := 6) (N := some 78) (v := ?_) (a' := ?_) #[true, true, false, true, true, false, true, false, false, false, false, false] rfl rfl (any_of HT_.out (by kernel_rfl)) (fun _ _ _ h => h) (Or.inl ⟨by rfl, ?_⟩) ?_ ?_
        rotate_left
        · intro w'
          go_simp
          with_reducible rfl
        rotate_left
        · simp only [Act.put, sT, sZ, sU, i64_w, i32_w]
          rfl
        refine take_ (i := 2) (N := some 74) (v := ?_) (a' := ?_) #[true, true, true, true, true, false, true, false, false, false, false, false] rfl rfl (take_ofW HT_.out HW_.out (by kernel_rfl)) (fun _ _ _ h => h) (Or.inl ⟨by rfl, ?_⟩) hHeld ?_ ?_
        rotate_left
        · rintro w' ⟨s0, s1, s2⟩
          go_simp
          with_reducible rfl
        rotate_left
        · simp only [Act.put, sT, sZ, sU, i64_w, i32_w]
          rfl
        refine pure_ (i := 7) (N := some 79) (v := ?_) (a' := ?_) #[true, true, true, true, true, false, true, true, false, false, false, false] rfl rfl (any_of HT_.out (by kernel_rfl)) (fun _ _ _ h => h) (Or.inl ⟨by rfl, ?_⟩) ?_ ?_
        rotate_left
        · intro w'
          go_simp
          with_reducible rfl
        rotate_left
        · simp only [Act.put, sT, sZ, sU, i64_w, i32_w]
          rfl
        refine take_ (i := 5) (N := some 77) (v := ?_) (a' := ?_) #[true, true, true, true, true, true, true, true, false, false, false, false] rfl rfl (take_ofW HT_.out HW_.out (by kernel_rfl)) (fun _ _ _ h => h) (Or.inl ⟨by rfl, ?_⟩) hHeld ?_ ?_
        rotate_left
        · rintro w' ⟨s0, s1, s2⟩
          go_simp
          with_reducible rfl
        rotate_left
        · simp only [Act.put, sT, sZ, sU, i64_w, i32_w]
          rfl
        refine one_ (i := 8) (N := none) #[true, true, true, true, true, true, true, true, true, false, false, false] rfl rfl (one_of HT_.out (by kernel_rfl)) (by decide) (fun K hK => ?_)
        refine skip_ (w1 := ?_) (by rfl) rfl ?_ ?_
        rotate_left
        · go_simp
          rfl
        refine hK.out _ _ ⟨((cell_far ((by have h_ := Kd.R_ne HO_6.out BK162.out (by decide); intro e_; exact h_ (congrArg some e_))) _).trans (hHeld.1)), ((cell_far ((by have h_ := Kd.R_ne HO_6.out BK162.out (by decide); intro e_; exact h_ (congrArg some e_))) _).trans (hHeld.2.1)), ((cell_far ((by have h_ := Kd.R_ne HO_6.out BK162.out (by decide); intro e_; exact h_ (congrArg some e_))) _).trans (hHeld.2.2))⟩ (fun hHeld => ?_)
        clear hK K
        refine pure_ (i := 9) (N := some 80) (v := ?_) (a' := ?_) #[true, true, true, true, true, true, true, true, true, true, false, false] rfl rfl (any_of HT_.out (by kernel_rfl)) (fun _ _ _ h => h) (Or.inl ⟨by rfl, ?_⟩) ?_ ?_
        rotate_left
        · intro w'
          go_simp
          with_reducible rfl
        rotate_left
        · simp only [Act.put, sT, sZ, sU, i64_w, i32_w]
          rfl
        refine last_ (i := 10) (N := none) #[true, true, true, true, true, true, true, true, true, true, true, false] rfl rfl (one_of HT_.out (by kernel_rfl)) (by decide) (fun K hK => ?_)
        refine skip_ (w1 := ?_) (by rfl) rfl ?_ ?_
        rotate_left
        · go_simp
          rfl
        refine hK.out _ _ ?_
        clear hK K
        refine pure_ (i := 11) (N := some 9) (v := ?_) (a' := ?_) #[true, true, true, true, true, true, true, true, true, true, true, true] rfl rfl (any_of HT_.out (by kernel_rfl)) (fun _ _ _ h => h) (Or.inl ⟨by rfl, ?_⟩) ?_ ?_
        rotate_left
        · intro w'
          go_simp
          with_reducible rfl
        rotate_left
        · simp only [Act.put, sT, sZ, sU, i64_w, i32_w]
          rfl
        refine done_ (done_of HT_.out (by kernel_rfl)) ?_
        try go_wp2
        (try simp only [← hl7_3])
        go_roundg k3
        case measure => have := HJ2.out; have := HK2.out; have := HK3.out; omega
        case rel => exact ⟨(y167), (y168), (true), (wrap64 (x38_3 + 1)), (by first | rfl | (simp; done) | (simp [*]; done)), (by first | rfl | (simp; done) | (simp [*]; done)), H', ⟨by have := HJ2.out; have := HK2.out; have := HK3.out; omega⟩, ⟨by (try simp only [hl7_2]); (try simp only [hl7_3]); (with_reducible repeat (first | apply rA | apply rN | apply rD)); exact Kd.R_mono (Kd.R_far (p := ⟨go19, (((rd_T39 l0_1 x38_3).f1) : Int).toNat, none⟩) (Exists.elim (Kd.R_typed HO_7.out _ rfl) fun c0_ h0_ => Exists.elim (Kd.R_typed HO_6.out _ rfl) fun c1_ h1_ => Kd.R_types HQ53.out (blk_far (p := ⟨go43, (((rd_T39 l0_1 x38_3).f1) : Int).toNat, none⟩) h0_ (blk_ne h0_ h1_ (by decide)) _) (by decide)) (fun _ hk => hk.2) (.bool true)) (fun _ hk => trivial)⟩, ⟨by (try simp only [hl7_2]); (try simp only [hl7_3]); (with_reducible repeat (first | apply rA | apply rN | apply rD)); exact Kd.R_mono HQ54.out (fun _ hk => trivial)⟩, ⟨by (try simp only [hl7_2]); (try simp only [hl7_3]); (with_reducible repeat (first | refine kN ?_ _ | refine kD ?_ | refine kA ?_ _)); refine blk_far ?_ (by have h_ := Kd.R_ne HO_7.out BK151.out (by decide); intro e_; exact h_ (by rw [e_]; rfl)) _; (with_reducible repeat (first | refine kN ?_ _ | refine kD ?_ | refine kA ?_ _)); refine blk_far ?_ (by have h_ := Kd.R_ne HO_6.out BK151.out (by decide); intro e_; exact h_ (by rw [e_]; rfl)) _; (with_reducible repeat (first | refine kN ?_ _ | refine kD ?_ | refine kA ?_ _)); exact BK151.out⟩, ⟨by repeat (first | (with_reducible first | exact HB.out | apply bA | apply bN | apply bD | refine bS ?_ GB43.out | refine bS ?_ GB19.out | refine bS ?_ GE151.out | refine bS ?_ GE162.out) | exact HB.out)⟩⟩

end Go.Proofs.Ytegkkbncnmakaaa.QFnTightened
