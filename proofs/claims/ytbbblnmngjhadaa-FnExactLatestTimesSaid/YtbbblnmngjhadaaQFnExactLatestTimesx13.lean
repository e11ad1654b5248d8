-- Written by this session's program wip/tools/mk.py out of the translation; Lean checks it.
import Derived.Test.YtbbblnmngjhadaaQFnExactLatestTimesx0
import Derived.Test.YtbbblnmngjhadaaQFnExactLatestTimesx9
namespace Go.Proofs.Ytbbblnmngjhadaa.QFnExactLatestTimes
open Go.RowKit Go.Proofs.YtbbblnmngjhadaaW.PrintWords Go.Proofs.YtbbblnmngjhadaaW.PrintLast Go.Proofs.YtbbblnmngjhadaaW.PrintMore
attribute [local go_sem] max2_int min2_int max_two min_two max_three min_three max_four min_four   -- for this text's walks alone
set_option linter.unusedVariables false
set_option linter.unusedSimpArgs false

/-! ### impl_ShortestFrom: function 43 -/
mutual
def impl_ShortestFrom.j0 : Nat → Int → Bool → Int → List (S70) → Option (List Int × Bool)
  | 0, _, _, _, _ => none
  | k + 1, x1, x23, x415000, x415001 => if x23 = true then (some (([] : List Int), false)) else (if 0 ≤ x415000 then (if (x415000 : Int).toNat ≤ 35184372088832 then (if (x415000 : Int).toNat ≤ 281474976710656 then ((some (List.replicate (x415000 : Int).toNat false : List Bool)).bind fun y420 => (if 0 ≤ x1 then (if x1 < (y420.length : Int) then (impl_ShortestFrom.l0 k (List.replicate (x415000 : Int).toNat 0) (y420.set (x1 : Int).toNat true) 0 x415000 x415001) else (none)) else (none))) else (none)) else (none)) else (none))
def impl_ShortestFrom.l0 : Nat → List Int → List Bool → Int → Int → List (S70) → Option (List Int × Bool)
  | 0, _, _, _, _, _ => none
  | k + 1, x6, x7, x8, x415000, x415001 => impl_ShortestFrom.l1 k x6 x7 x8 false x415001 (x415001.length : Int) 0 x415000 x415001
def impl_ShortestFrom.l1 : Nat → List Int → List Bool → Int → Bool → List (S70) → Int → Int → Int → List (S70) → Option (List Int × Bool)
  | 0, _, _, _, _, _, _, _, _, _ => none
  | k + 1, x6, x7, x8, x9, x36, x37, x38, x415000, x415001 => if x38 < x37 then (if 0 ≤ x38 then (if x38 < (x36.length : Int) then (if 0 ≤ ((rd_T70 x36 x38).f0) then (if ((rd_T70 x36 x38).f0) < (x6.length : Int) then (if ((rd_T70 x36 x38).f0) < (x7.length : Int) then (if rdOf false x7 ((rd_T70 x36 x38).f0) = true then (if 0 ≤ ((rd_T70 x36 x38).f1) then (if ((rd_T70 x36 x38).f1) < (x7.length : Int) then (if (rdOf false x7 ((rd_T70 x36 x38).f1) = true) then (if ((rd_T70 x36 x38).f1) < (x6.length : Int) then (if (wrap64 ((rd x6 ((rd_T70 x36 x38).f0)) + ((rd_T70 x36 x38).f2))) < (rd x6 ((rd_T70 x36 x38).f1)) then (impl_ShortestFrom.l1 k (x6.set (((rd_T70 x36 x38).f1) : Int).toNat (wrap64 ((rd x6 ((rd_T70 x36 x38).f0)) + ((rd_T70 x36 x38).f2)))) (x7.set (((rd_T70 x36 x38).f1) : Int).toNat true) x8 true x36 x37 (wrap64 (x38 + 1)) x415000 x415001) else (impl_ShortestFrom.l1 k x6 x7 x8 x9 x36 x37 (wrap64 (x38 + 1)) x415000 x415001)) else (none)) else (if ((rd_T70 x36 x38).f1) < (x6.length : Int) then (impl_ShortestFrom.l1 k (x6.set (((rd_T70 x36 x38).f1) : Int).toNat (wrap64 ((rd x6 ((rd_T70 x36 x38).f0)) + ((rd_T70 x36 x38).f2)))) (x7.set (((rd_T70 x36 x38).f1) : Int).toNat true) x8 true x36 x37 (wrap64 (x38 + 1)) x415000 x415001) else (none))) else (none)) else (none)) else (impl_ShortestFrom.l1 k x6 x7 x8 x9 x36 x37 (wrap64 (x38 + 1)) x415000 x415001)) else (none)) else (none)) else (none)) else (none)) else (none)) else (if x9 = true then (if x8 = x415000 then (some (([] : List Int), false)) else (impl_ShortestFrom.l0 k x6 x7 (wrap64 (x8 + 1)) x415000 x415001)) else (impl_ShortestFrom.l2 k x6 x7 (x6.length : Int) 0))
def impl_ShortestFrom.l2 : Nat → List Int → List Bool → Int → Int → Option (List Int × Bool)
  | 0, _, _, _, _ => none
  | k + 1, x6, x7, x89, x90 => if x90 < x89 then (if 0 ≤ x90 then (if x90 < (x7.length : Int) then (if rdOf false x7 x90 = true then (if x90 < (x6.length : Int) then (impl_ShortestFrom.l2 k (x6.set (x90 : Int).toNat (mn (rd x6 x90) 1000000)) x7 x89 (wrap64 (x90 + 1))) else (none)) else (if x90 < (x6.length : Int) then ((some (x6.set (x90 : Int).toNat 1000000 : List Int)).bind fun y437 => (impl_ShortestFrom.l2 k (y437.set (x90 : Int).toNat (mn (rd y437 x90) 1000000)) x7 x89 (wrap64 (x90 + 1)))) else (none))) else (none)) else (none)) else (some (x6, true))
end
def impl_ShortestFrom.f (k : Nat) (a0_0 : Int) (l0_1 : List (S70)) (a1 : Int) : Option (List Int × Bool) := (impl_GraphOk.f a0_0 l0_1).bind fun t415 => (if t415 = true then ((impl_isNode.f a0_0 a1).bind fun t416 => (impl_ShortestFrom.j0 k a1 (!t416) a0_0 l0_1)) else (impl_ShortestFrom.j0 k a1 true a0_0 l0_1))
theorem impl_ShortestFrom.mono_l : ∀ k, (∀ y0 y1 y2 y3, LeO (impl_ShortestFrom.j0 k y0 y1 y2 y3) (impl_ShortestFrom.j0 (k + 1) y0 y1 y2 y3)) ∧ (∀ y0 y1 y2 y3 y4, LeO (impl_ShortestFrom.l0 k y0 y1 y2 y3 y4) (impl_ShortestFrom.l0 (k + 1) y0 y1 y2 y3 y4)) ∧ (∀ y0 y1 y2 y3 y4 y5 y6 y7 y8, LeO (impl_ShortestFrom.l1 k y0 y1 y2 y3 y4 y5 y6 y7 y8) (impl_ShortestFrom.l1 (k + 1) y0 y1 y2 y3 y4 y5 y6 y7 y8)) ∧ (∀ y0 y1 y2 y3, LeO (impl_ShortestFrom.l2 k y0 y1 y2 y3) (impl_ShortestFrom.l2 (k + 1) y0 y1 y2 y3))
  | 0 => ⟨fun _ _ _ _ r h => by simp [impl_ShortestFrom.j0] at h, fun _ _ _ _ _ r h => by simp [impl_ShortestFrom.l0] at h, fun _ _ _ _ _ _ _ _ _ r h => by simp [impl_ShortestFrom.l1] at h, fun _ _ _ _ r h => by simp [impl_ShortestFrom.l2] at h⟩
  | k + 1 => by
    obtain ⟨ih0, ih1, ih2, ih3⟩ := impl_ShortestFrom.mono_l k
    refine ⟨?_, ?_, ?_, ?_⟩
    · intro y0 y1 y2 y3
      unfold impl_ShortestFrom.j0
      repeat' first|(with_reducible first|exact ih0 _ _ _ _|exact ih1 _ _ _ _ _|exact ih2 _ _ _ _ _ _ _ _ _|exact ih3 _ _ _ _|exact lR _|exact lN _|refine lI ?_ ?_|refine lB ?_ (fun _ => ?_))|exact ih0 _ _ _ _|exact ih1 _ _ _ _ _|exact ih2 _ _ _ _ _ _ _ _ _|exact ih3 _ _ _ _|exact lN _|refine lI ?_ ?_|refine lB ?_ (fun _ => ?_)
    · intro y0 y1 y2 y3 y4
      unfold impl_ShortestFrom.l0
      repeat' first|(with_reducible first|exact ih0 _ _ _ _|exact ih1 _ _ _ _ _|exact ih2 _ _ _ _ _ _ _ _ _|exact ih3 _ _ _ _|exact lR _|exact lN _|refine lI ?_ ?_|refine lB ?_ (fun _ => ?_))|exact ih0 _ _ _ _|exact ih1 _ _ _ _ _|exact ih2 _ _ _ _ _ _ _ _ _|exact ih3 _ _ _ _|exact lN _|refine lI ?_ ?_|refine lB ?_ (fun _ => ?_)
    · intro y0 y1 y2 y3 y4 y5 y6 y7 y8
      unfold impl_ShortestFrom.l1
      repeat' first|(with_reducible first|exact ih0 _ _ _ _|exact ih1 _ _ _ _ _|exact ih2 _ _ _ _ _ _ _ _ _|exact ih3 _ _ _ _|exact lR _|exact lN _|refine lI ?_ ?_|refine lB ?_ (fun _ => ?_))|exact ih0 _ _ _ _|exact ih1 _ _ _ _ _|exact ih2 _ _ _ _ _ _ _ _ _|exact ih3 _ _ _ _|exact lN _|refine lI ?_ ?_|refine lB ?_ (fun _ => ?_)
    · intro y0 y1 y2 y3
      unfold impl_ShortestFrom.l2
      repeat' first|(with_reducible first|exact ih0 _ _ _ _|exact ih1 _ _ _ _ _|exact ih2 _ _ _ _ _ _ _ _ _|exact ih3 _ _ _ _|exact lR _|exact lN _|refine lI ?_ ?_|refine lB ?_ (fun _ => ?_))|exact ih0 _ _ _ _|exact ih1 _ _ _ _ _|exact ih2 _ _ _ _ _ _ _ _ _|exact ih3 _ _ _ _|exact lN _|refine lI ?_ ?_|refine lB ?_ (fun _ => ?_)
theorem impl_ShortestFrom.mono : ∀ a0 a1 a2 k, LeO (impl_ShortestFrom.f k a0 a1 a2) (impl_ShortestFrom.f (k + 1) a0 a1 a2) := by
  intro a0 a1 a2 k
  obtain ⟨ih0, ih1, ih2, ih3⟩ := impl_ShortestFrom.mono_l k
  unfold impl_ShortestFrom.f
  repeat' first|(with_reducible first|exact ih0 _ _ _ _|exact ih1 _ _ _ _ _|exact ih2 _ _ _ _ _ _ _ _ _|exact ih3 _ _ _ _|exact lR _|exact lN _|refine lI ?_ ?_|refine lB ?_ (fun _ => ?_))|exact ih0 _ _ _ _|exact ih1 _ _ _ _ _|exact ih2 _ _ _ _ _ _ _ _ _|exact ih3 _ _ _ _|exact lN _|refine lI ?_ ?_|refine lB ?_ (fun _ => ?_)
def impl_ShortestFrom.T3 : Bool × List (List Nat × List Nat) := (true, [([], []), ([0], [0]), ([1, 1], [1]), ([], []), ([3], [3]), ([4, 4], [4]), ([2, 0, 1, 2], [2]), ([5, 6, 0, 1, 2, 3, 4, 5, 6], [5])])
def impl_ShortestFrom.B3 : List Nat := [0, 1, 3, 0, 8, 24, 7, 127]
theorem impl_ShortestFrom.tab3 : rtab .any (opsOf Try.f43 3) = impl_ShortestFrom.T3 := by kernel_rfl
theorem impl_ShortestFrom.bits3 : waitsOk impl_ShortestFrom.T3.2 impl_ShortestFrom.B3 = true := by kernel_rfl
def impl_ShortestFrom.T11 : Bool × List (List Nat × List Nat) := (true, [([], []), ([], []), ([1], [1]), ([0, 2], [0, 2]), ([3], [3]), ([], []), ([5], [5]), ([4, 6], [4, 6]), ([7, 0, 1, 2, 3, 4, 5, 6, 7], [7])])
def impl_ShortestFrom.B11 : List Nat := [0, 0, 2, 7, 15, 0, 32, 127, 255]
theorem impl_ShortestFrom.tab11 : rtab .any (opsOf Try.f43 11) = impl_ShortestFrom.T11 := by kernel_rfl
theorem impl_ShortestFrom.bits11 : waitsOk impl_ShortestFrom.T11.2 impl_ShortestFrom.B11 = true := by kernel_rfl
def impl_ShortestFrom.T13 : Bool × List (List Nat × List Nat) := (true, [([], []), ([], []), ([1], [1]), ([], []), ([], []), ([4], [4]), ([], []), ([0, 2, 0, 1, 2, 6], [0, 2]), ([7, 6, 0, 1, 2, 6], [6, 7]), ([3, 5, 0, 1, 2, 3, 4, 5, 6, 7, 8], [3, 5]), ([9, 8, 0, 1, 2, 3, 4, 5, 6, 7, 8], [9]), ([10, 0, 1, 2, 3, 4, 5, 6, 7, 8, 9, 10], [])])
def impl_ShortestFrom.B13 : List Nat := [0, 0, 2, 0, 0, 16, 0, 71, 199, 511, 1023, 2047]
theorem impl_ShortestFrom.tab13 : rtab .any (opsOf Try.f43 13) = impl_ShortestFrom.T13 := by kernel_rfl
theorem impl_ShortestFrom.bits13 : waitsOk impl_ShortestFrom.T13.2 impl_ShortestFrom.B13 = true := by kernel_rfl
set_option maxHeartbeats 8000000 in
set_option maxRecDepth 100000 in
theorem impl_ShortestFrom.calls (k : Nat) (a0_0 : Int) (A0_1 : Option Addr) (c0_1 : Nat) (l0_1 : List (S70)) (a1 : Int) (r1 : List Int) (r2 : Bool) (w : World) (hr0_1 : Kd.C k70 w A0_1 l0_1.length l0_1) (hc0_1 : l0_1.length ≤ c0_1) (h : impl_ShortestFrom.f k a0_0 l0_1 a1 = some (r1, r2)) :
    Calls Try.prog 43 #[.agg #[.int .i64 a0_0, .slice A0_1 l0_1.length c0_1], .int .i64 a1] w fun e w' => ∃ v0_ : Value, e = .returned (.tuple #[v0_, .bool r2]) ∧ Kd.R (Kd.int .i64) 3 w' w.heap.size (fun _ => True) v0_ r1 ∧ Below w.heap.size w w' := by
 have hu33 := Try.underlying33
 have hu70 := Try.underlying70
 have HR0_1 := mK hr0_1
 have HC0_1 := mK hc0_1
 clear hr0_1 hc0_1
 have HB := mK (Below.refl w.heap.size w)
 have H : ((impl_GraphOk.f a0_0 l0_1).bind fun t415 => (if t415 = true then ((impl_isNode.f a0_0 a1).bind fun t416 => (impl_ShortestFrom.j0 k a1 (!t416) a0_0 l0_1)) else (impl_ShortestFrom.j0 k a1 true a0_0 l0_1))) = some (r1, r2) := h
 clear h
 have HC3 := mK H
 clear H
 go_enter Try.func43, Try.ntmps43
 go_upto_region 1 with (first | ((with_reducible refine gate_dst (N := 2) rfl ?_); refine bxE 2 #[.int .i64 a0_0, .slice A0_1 l0_1.length c0_1] 33 ?_; intro gb414 hg w4 hbox hb; have BK414 := mK hbox; have GW414 := mK (gX hg HB); have GE414 := mK (gX hg HB); replace HB := bB HB hb; clear hb hbox hg))
 (try simp only [Act.put, sT, sZ, sU])
 go_cut [23] (fun v23 wc => ∃ (kq : Nat) (x23_2 : Bool), v23 = .bool x23_2 ∧ Aside0 (impl_ShortestFrom.j0 kq a1 x23_2 a0_0 l0_1 = some (r1, r2)) ∧ Aside0 (kq ≤ k) ∧ Aside0 (wc.heap[gb414]? = some (.cells #[.int .i64 a0_0, (.slice A0_1 l0_1.length c0_1)] 33 (0, 0))) ∧ Aside0 (Below w.heap.size w wc))
 case first => (
 have H := HC3.out
 clear HC3
 replace H := Option.bind_eq_some_iff.mp H
 obtain ⟨t415, A50, H⟩ := H
 replace H : (if t415 = true then ((impl_isNode.f a0_0 a1).bind fun t416 => (impl_ShortestFrom.j0 k a1 (!t416) a0_0 l0_1)) else (impl_ShortestFrom.j0 k a1 true a0_0 l0_1)) = some (r1, r2) := H
 have A5 := mK A50
 clear A50
 by_cases c6 : t415 = true
 rotate_left
 {
 replace c6 := Bool.eq_false_iff.mpr c6
 subst c6
 rw [if_neg (show ¬ (false = true) by decide)] at H
 have H' := mK H
 clear H
 have hcz11_0 := q0 BK414
 have hcz11_1 := q1 BK414
 have hfz11_0 := fX BK414 0
 have hfz11_1 := fX BK414 1
 go_wp2_with (first | ((with_reducible refine gate_callee (f := 41) rfl ?_); refine gsE (some 15) Try.func41 #[.agg #[.int .i64 a0_0, .slice A0_1 l0_1.length c0_1]] ?_; (with_reducible refine (impl_GraphOk.calls a0_0 _ _ l0_1 false _ ?side1 ?side2 A5.out).mono ?_); (case side1 => exact cX HR0_1 HB); (case side2 => exact HC0_1.out); rintro e w12 ⟨rfl, hb⟩; refine ⟨_, rfl, ?_⟩; replace BK414 := kB BK414 hb; replace HB := bB HB hb; (try clear hb); (try clear hb2); (try clear hk); (try clear hi)))
 go_meet
 case rel => exact ⟨_, (true), (by first | rfl | (simp; done) | (simp [*]; done)), H', ⟨by first | omega | exact Nat.le_refl _⟩, ⟨kX BK414⟩, ⟨bX HB⟩⟩
 }
 subst c6
 rw [if_pos rfl] at H
 replace H := Option.bind_eq_some_iff.mp H
 obtain ⟨t416, A70, H⟩ := H
 replace H : (impl_ShortestFrom.j0 k a1 (!t416) a0_0 l0_1) = some (r1, r2) := H
 have A7 := mK A70
 clear A70
 have H' := mK H
 clear H
 have hcz8_0 := q0 BK414
 have hcz8_1 := q1 BK414
 have hfz8_0 := fX BK414 0
 have hfz8_1 := fX BK414 1
 go_wp2_with (first | ((with_reducible refine gate_callee (f := 41) rfl ?_); refine gsE (some 15) Try.func41 #[.agg #[.int .i64 a0_0, .slice A0_1 l0_1.length c0_1]] ?_; (with_reducible refine (impl_GraphOk.calls a0_0 _ _ l0_1 true _ ?side1 ?side2 A5.out).mono ?_); (case side1 => exact cX HR0_1 HB); (case side2 => exact HC0_1.out); rintro e w9 ⟨rfl, hb⟩; refine ⟨_, rfl, ?_⟩; replace BK414 := kB BK414 hb; replace HB := bB HB hb; (try clear hb); (try clear hb2); (try clear hk); (try clear hi); have hcz10_0 := q0 BK414; have hcz10_1 := q1 BK414; have hfz10_0 := fX BK414 0; have hfz10_1 := fX BK414 1) | (go_at_call 79; (with_reducible refine (impl_isNode.calls a0_0 a1 t416 _ A7.out).mono ?_); rintro e w' ⟨rfl, ⟨nd, rfl⟩⟩))
 go_meet
 case rel => exact ⟨_, (!t416), (by first | rfl | (simp; done) | (simp [*]; done)), H', ⟨by first | omega | exact Nat.le_refl _⟩, ⟨kX BK414⟩, ⟨bX HB⟩⟩
 )
 case rest => (
 clear HC3
 try clear p2
 try clear c4
 try clear c6
 try clear hcz10_0
 try clear hcz10_1
 try clear hcz11_0
 try clear hcz11_1
 try clear hcz8_0
 try clear hcz8_1
 try clear hfz10_0
 try clear hfz10_1
 try clear hfz11_0
 try clear hfz11_1
 try clear hfz8_0
 try clear hfz8_1
 obtain ⟨kq, x23_2, rfl, HA, HJ2, BK414, HB⟩ := hcut
 cases kq with
 | zero => exact absurd HA.out (by simp [impl_ShortestFrom.j0])
 | succ kj2 => (
 have H := HA.out
 clear HA
 simp only [impl_ShortestFrom.j0] at H
 by_cases c13 : x23_2 = true
 {
 subst c13
 rw [if_pos rfl] at H
 simp only [Option.some.injEq, Prod.mk.injEq] at H
 obtain ⟨rfl, rfl⟩ := H
 go_wp2
 go_ret2
 exact ⟨_, by first | rfl | (simp [errW_none, errW_some] <;> rfl) | (simp [*, errW_none, errW_some] <;> rfl), by first | exact Kd.R_nil _ _ _ _ _ | exact Kd.N_nil _ _ _ _ _ | exact Kd.V_nil _ _ _ _ _ | exact Kd.Q_nil _ _ _ _ _ | exact Kd.S_nil _ _ _ _ _, bX HB⟩
 }
 replace c13 := Bool.eq_false_iff.mpr c13
 subst c13
 rw [if_neg (show ¬ (false = true) by decide)] at H
 by_cases c14 : 0 ≤ a0_0
 rotate_left
 {
 rw [if_neg c14] at H
 exact absurd H (by simp)
 }
 rw [if_pos c14] at H
 have c14b0 := eq_true c14
 have c14b1 : decide (0 ≤ a0_0) = true := decide_eq_true c14
 clear c14
 by_cases c15 : (a0_0 : Int).toNat ≤ 35184372088832
 rotate_left
 {
 rw [if_neg c15] at H
 exact absurd H (by simp)
 }
 rw [if_pos c15] at H
 have c15b0 := eq_true c15
 have c15b1 : decide ((a0_0 : Int).toNat ≤ 35184372088832) = true := decide_eq_true c15
 clear c15
 obtain ⟨y417, hy417⟩ : ∃ y_ : List Int, y_ = (List.replicate (a0_0 : Int).toNat 0) := ⟨_, rfl⟩
 replace H : (if (a0_0 : Int).toNat ≤ 281474976710656 then ((some (List.replicate (a0_0 : Int).toNat false : List Bool)).bind fun y420 => (if 0 ≤ a1 then (if a1 < (y420.length : Int) then (impl_ShortestFrom.l0 kj2 y417 (y420.set (a1 : Int).toNat true) 0 a0_0 l0_1) else (none)) else (none))) else (none)) = some (r1, r2) := by first | (rw [hy417]; with_reducible exact H) | (have H2_ := (Option.bind_some _ _).symm.trans H; rw [hy417]; with_reducible exact H2_) | (have H2_ := (Option.bind_some _ _).symm.trans H; with_reducible exact H2_) | with_reducible exact H | (rw [hy417]; exact H) | exact H
 have Ny417 := mK hy417
 clear hy417
 by_cases c16 : (a0_0 : Int).toNat ≤ 281474976710656
 rotate_left
 {
 rw [if_neg c16] at H
 exact absurd H (by simp)
 }
 rw [if_pos c16] at H
 have c16b0 := eq_true c16
 have c16b1 : decide ((a0_0 : Int).toNat ≤ 281474976710656) = true := decide_eq_true c16
 clear c16
 obtain ⟨y420, hy420⟩ : ∃ y_ : List Bool, y_ = (List.replicate (a0_0 : Int).toNat false) := ⟨_, rfl⟩
 replace H : (if 0 ≤ a1 then (if a1 < (y420.length : Int) then (impl_ShortestFrom.l0 kj2 y417 (y420.set (a1 : Int).toNat true) 0 a0_0 l0_1) else (none)) else (none)) = some (r1, r2) := by first | (rw [hy420]; with_reducible exact H) | (have H2_ := (Option.bind_some _ _).symm.trans H; rw [hy420]; with_reducible exact H2_) | (have H2_ := (Option.bind_some _ _).symm.trans H; with_reducible exact H2_) | with_reducible exact H | (rw [hy420]; exact H) | exact H
 have Ny420 := mK hy420
 clear hy420
 by_cases c17 : 0 ≤ a1
 rotate_left
 {
 rw [if_neg c17] at H
 exact absurd H (by simp)
 }
 rw [if_pos c17] at H
 have c17b0 : decide (0 ≤ a1) = true := decide_eq_true c17
 clear c17
 by_cases c18 : a1 < (y420.length : Int)
 rotate_left
 {
 rw [if_neg c18] at H
 exact absurd H (by simp)
 }
 rw [if_pos c18] at H
 have c18b0 : decide (a1 < (y420.length : Int)) = true := decide_eq_true c18
 clear c18
 obtain ⟨y423, hy423⟩ : ∃ y_ : List Bool, y_ = (y420.set (a1 : Int).toNat true) := ⟨_, rfl⟩
 replace H : (impl_ShortestFrom.l0 kj2 y417 y423 0 a0_0 l0_1) = some (r1, r2) := by first | (rw [hy423]; with_reducible exact H) | (have H2_ := (Option.bind_some _ _).symm.trans H; rw [hy423]; with_reducible exact H2_) | (have H2_ := (Option.bind_some _ _).symm.trans H; with_reducible exact H2_) | with_reducible exact H | (rw [hy423]; exact H) | exact H
 have Ny423 := mK hy423
 clear hy423
 have H' := mK H
 clear H
 try go_wp2
 have n0_ := mK (blk_drew BK414.out)
 have n1_ := mK (below_drew1 HB.out)
 clear BK414
 clear HB
 have BK414 := n0_
 have HB := n1_
 clear n0_ n1_
 refine start_ (n := 8) (S := fun w' => w'.cell? ⟨gb414, 0, none⟩ = some (.int .i64 a0_0) ∧ w'.cell? ⟨gb414, 1, none⟩ = some (.slice A0_1 l0_1.length c0_1)) (ds := []) (bs 0 8) (by kernel_rfl) rfl (by kernel_rfl) ⟨(blk_cell BK414.out 0).trans rfl, (blk_cell BK414.out 1).trans rfl⟩ (fun hHeld => ?_); refine with_tabW impl_ShortestFrom.tab3 impl_ShortestFrom.bits3 (fun HT_ HW_ => ?_)
 generalize wc.drew = w20 at BK414 HB hHeld ⊢
 refine pL 0 24 (bs 1 8) HT_ ?_
 refine pL 3 27 #[true, false, false, true, false, false, false, false] HT_ ?_
 refine tL 1 25 #[true, true, false, true, false, false, false, false] HT_ HW_ hHeld ?_
 refine tL 4 28 #[true, true, false, true, true, false, false, false] HT_ HW_ hHeld ?_
 refine join_ (σ := Value × Value) 1 (bs 7 8) (fun s_ => [(26, s_.1), (29, s_.2), (6, s_.1)]) (fun s_ w' => (w'.cell? ⟨gb414, 0, none⟩ = some (.int .i64 a0_0) ∧ w'.cell? ⟨gb414, 1, none⟩ = some (.slice A0_1 l0_1.length c0_1)) ∧ (Kd.R (Kd.int .i64) 3 w' w.heap.size (fun _ => True) s_.1 y417) ∧ (Kd.R Kd.bool 4 w' w.heap.size (fun _ => True) s_.2 y420) ∧ (w'.heap[gb414]? = some (.cells #[.int .i64 a0_0, .slice A0_1 l0_1.length c0_1] 33 (0, 0))) ∧ (Below w.heap.size w w')) ?_ ?_
 rotate_left
 {
 intro hCont
 refine two_ (i := 2) (j := 5) (Ni := some 26) (Nj := some 29) (bs 5 8) #[true, true, false, true, true, true, false, false] rfl rfl rfl rfl (two_of HT_.out (by kernel_rfl)) (by decide) (by decide) (fun K hK => ?_) (fun K hK => ?_)
 {
 skip
 refine Kd.R_make_step (Kd.int .i64) _ 3 (by rfl) (N := 26) rfl 26 _ _ rfl a0_0 rfl rfl Try.underlying26 (.int .i64 0) 8 info3 rfl (by decide) (by omega) 0 (ok := fun _ => True) (okp := fun _ => True) rfl (fun _ hk => hk) trivial (of_decide_eq_true oX) (Nat.le_trans (Nat.mul_le_mul_right _ (of_decide_eq_true oX : a0_0.toNat ≤ 35184372088832)) (by omega)) (Below.refl _ _) (Nat.le_refl _) ?_
 intro v418 w21 ho22 hb hg_ hnew_
 clear hg_ hnew_
 (first | rw [← Ny417.out] at ho22 | (simp only [Int.reduceToNat] at ho22; rw [← Ny417.out] at ho22))
 have n0_ := mK (Kd.R_lower ho22 (below_size (bX HB)))
 have n1_ := kB BK414 hb
 have n2_ := bB HB hb
 clear BK414
 clear HB
 have HO419 := n0_
 have BK414 := n1_
 have HB := n2_
 clear n0_ n1_ n2_
 clear hb ho22
 refine hK.out _ _ ⟨(blk_cell BK414.out 0).trans rfl, (blk_cell BK414.out 1).trans rfl⟩ (fun hHeld => ?_)
 clear hK K
 refine norm_ (a' := ?_) ?_ ?_
 rotate_left
 {
 show Act.put _ (some 26) _ = _
 simp only [Act.put, sT, sZ, sU, i64_w, i32_w]
 rfl
 }
 refine pL 6 6 #[true, true, true, true, true, false, true, false] HT_ ?_
 refine one_ (i := 5) (N := some 29) (bs 7 8) rfl rfl (one_of HT_.out (by kernel_rfl)) (by decide) (fun K hK => ?_)
 refine Kd.R_make_step Kd.bool _ 4 (by rfl) (N := 29) rfl 107 _ _ rfl a0_0 rfl rfl Try.underlying107 (.bool false) 1 info4 rfl (by decide) (by omega) false (ok := fun _ => True) (okp := fun _ => True) rfl (fun _ hk => hk) trivial (of_decide_eq_true oX) (Nat.le_trans (Nat.mul_le_mul_right _ (of_decide_eq_true oX : a0_0.toNat ≤ 281474976710656)) (by omega)) (Below.refl _ _) (Nat.le_refl _) ?_
 intro v421 w23 ho24 hb hg_ hnew_
 clear hg_ hnew_
 (first | rw [← Ny420.out] at ho24 | (simp only [Int.reduceToNat] at ho24; rw [← Ny420.out] at ho24))
 have n0_ := mK (Kd.R_below (rX HO419) hb)
 have n1_ := mK (Kd.R_lower ho24 (below_size (bX HB)))
 have n2_ := kB BK414 hb
 have n3_ := bB HB hb
 clear HO419
 clear BK414
 clear HB
 have HO419 := n0_
 have HO422 := n1_
 have BK414 := n2_
 have HB := n3_
 clear n0_ n1_ n2_ n3_
 clear hb ho24
 refine hK.out _ _ ⟨(blk_cell BK414.out 0).trans rfl, (blk_cell BK414.out 1).trans rfl⟩ (fun hHeld => ?_)
 clear hK K
 refine norm_ (a' := ?_) ?_ ?_
 rotate_left
 {
 show Act.put _ (some 29) _ = _
 simp only [Act.put, sT, sZ, sU, i64_w, i32_w]
 rfl
 }
 exact norm_ (by simp only [putAll, Act.put, sT, sZ, sU]) (hCont (v418, v421) _ ⟨hHeld, HO419.out, HO422.out, BK414.out, HB.out⟩)
 }
 {
 skip
 refine Kd.R_make_step Kd.bool _ 4 (by rfl) (N := 29) rfl 107 _ _ rfl a0_0 rfl rfl Try.underlying107 (.bool false) 1 info4 rfl (by decide) (by omega) false (ok := fun _ => True) (okp := fun _ => True) rfl (fun _ hk => hk) trivial (of_decide_eq_true oX) (Nat.le_trans (Nat.mul_le_mul_right _ (of_decide_eq_true oX : a0_0.toNat ≤ 281474976710656)) (by omega)) (Below.refl _ _) (Nat.le_refl _) ?_
 intro v421 w21 ho22 hb hg_ hnew_
 clear hg_ hnew_
 (first | rw [← Ny420.out] at ho22 | (simp only [Int.reduceToNat] at ho22; rw [← Ny420.out] at ho22))
 have n0_ := mK (Kd.R_lower ho22 (below_size (bX HB)))
 have n1_ := kB BK414 hb
 have n2_ := bB HB hb
 clear BK414
 clear HB
 have HO422 := n0_
 have BK414 := n1_
 have HB := n2_
 clear n0_ n1_ n2_
 clear hb ho22
 refine hK.out _ _ ⟨(blk_cell BK414.out 0).trans rfl, (blk_cell BK414.out 1).trans rfl⟩ (fun hHeld => ?_)
 clear hK K
 refine norm_ (a' := ?_) ?_ ?_
 rotate_left
 {
 show Act.put _ (some 29) _ = _
 simp only [Act.put, sT, sZ, sU, i64_w, i32_w]
 rfl
 }
 refine one_ (i := 2) (N := some 26) (bs 6 8) rfl rfl (one_of HT_.out (by kernel_rfl)) (by decide) (fun K hK => ?_)
 refine Kd.R_make_step (Kd.int .i64) _ 3 (by rfl) (N := 26) rfl 26 _ _ rfl a0_0 rfl rfl Try.underlying26 (.int .i64 0) 8 info3 rfl (by decide) (by omega) 0 (ok := fun _ => True) (okp := fun _ => True) rfl (fun _ hk => hk) trivial (of_decide_eq_true oX) (Nat.le_trans (Nat.mul_le_mul_right _ (of_decide_eq_true oX : a0_0.toNat ≤ 35184372088832)) (by omega)) (Below.refl _ _) (Nat.le_refl _) ?_
 intro v418 w23 ho24 hb hg_ hnew_
 clear hg_ hnew_
 (first | rw [← Ny417.out] at ho24 | (simp only [Int.reduceToNat] at ho24; rw [← Ny417.out] at ho24))
 have n0_ := mK (Kd.R_below (rX HO422) hb)
 have n1_ := mK (Kd.R_lower ho24 (below_size (bX HB)))
 have n2_ := kB BK414 hb
 have n3_ := bB HB hb
 clear HO422
 clear BK414
 clear HB
 have HO422 := n0_
 have HO419 := n1_
 have BK414 := n2_
 have HB := n3_
 clear n0_ n1_ n2_ n3_
 clear hb ho24
 refine hK.out _ _ ⟨(blk_cell BK414.out 0).trans rfl, (blk_cell BK414.out 1).trans rfl⟩ (fun hHeld => ?_)
 clear hK K
 refine norm_ (a' := ?_) ?_ ?_
 rotate_left
 {
 show Act.put _ (some 26) _ = _
 simp only [Act.put, sT, sZ, sU, i64_w, i32_w]
 rfl
 }
 refine pL 6 6 (bs 7 8) HT_ ?_
 exact norm_ (by simp only [putAll, Act.put, sT, sZ, sU]) (hCont (v418, v421) _ ⟨hHeld, HO419.out, HO422.out, BK414.out, HB.out⟩)
 }
 }
 rintro ⟨v418, v421⟩ w25 ⟨hS_, h0_, h1_, h2_, h3_⟩
 have n0_ : Aside0 (Kd.R (Kd.int .i64) 3 w25 w.heap.size (fun _ => True) v418 y417) := ⟨h0_⟩
 have n1_ : Aside0 (Kd.R Kd.bool 4 w25 w.heap.size (fun _ => True) v421 y420) := ⟨h1_⟩
 have n2_ : Aside0 (w25.heap[gb414]? = some (.cells #[.int .i64 a0_0, .slice A0_1 l0_1.length c0_1] 33 (0, 0))) := ⟨h2_⟩
 have n3_ : Aside0 (Below w.heap.size w w25) := ⟨h3_⟩
 clear BK414
 clear HB
 clear h0_ h1_ h2_ h3_
 have HO419 := n0_
 have HO422 := n1_
 have BK414 := n2_
 have HB := n3_
 clear n0_ n1_ n2_ n3_
 have hHeld : w25.cell? ⟨gb414, 0, none⟩ = some (.int .i64 a0_0) ∧ w25.cell? ⟨gb414, 1, none⟩ = some (.slice A0_1 l0_1.length c0_1) := hS_
 refine norm_ (a' := ?_) ?_ ?_
 rotate_left
 {
 simp only [putAll, Act.put, sT, sZ, sU]
 rfl
 }
 refine pL 7 7 (bs 8 8) HT_ ?_
 refine done_ (done_of HT_.out (by kernel_rfl)) ?_
 have p19 : 0 ≤ (a1 : Int) := of_decide_eq_true oX
 have q19 : (a1 : Int) < ((y420.length : Int) : Int) := of_decide_eq_true oX
 obtain ⟨go19, co19, eo19, gb19, gl19, cl19, HG19⟩ := Kd.R_form HO422.out (by omega)
 (first | cases eo19 | (injection eo19 with ea_ en_ ec_; (first | subst ea_ | (injection ea_ with ea_; subst ea_)); subst ec_; clear en_))
 have GB19 := mK gb19
 have GG19 := mK HG19
 clear gb19 gl19 HG19
 obtain ⟨hx19_0, hf19_0⟩ := Kd.R_celln false HO422.out (a1 : Int) p19 q19
 replace p19 := eq_true p19
 replace q19 := eq_true q19
 obtain ⟨hy26_, hz26_⟩ := Kd.R_celln false HO422.out (a1 : Int) (of_decide_eq_true oX) (of_decide_eq_true oX)
 have HP26 := Kd.R_putg HO422.out (a1 : Int) true
 try go_wp2_with (first | ((with_reducible refine gate_store (t := 4) (p := 32) rfl ?_); refine store_event (t := 4) (p := 32) (v := ?vo_w27) (w1 := (w25.setCell ⟨go19, (a1 : Int).toNat, none⟩ (.bool true))) ?hg ?ho ?hn ?hr ?_; (case ho => rfl); (case hg => rfl); (case hn => rfl); (case hr => go_simp <;> rfl); intro w27 hw; have hg : w25.grownBy w27 (some go19) := (by rw [hw]; exact HP26.2); have hp_ : Kd.R Kd.bool 4 w27 w.heap.size (fun _ => True) (.slice (some ⟨go19, 0, none⟩) y420.length co19) y423 := (by rw [hw, Ny423.out]; exact HP26.1); clear HP26; have n0_ := mK (blk_grown (kX BK414) hg (Kd.R_ne HO422.out BK414.out (by decide))); have n1_ := mK (Kd.R_over' (v := (.slice (some ⟨go19, 0, none⟩) y420.length co19)) (rX HO419) (Kd.R_typed HO422.out) (by decide) hg); have n2_ := mK (hp_); have n3_ := mK ((by rw [hw]; exact below_set (HB.out) GB19.out : Below w.heap.size w w27)); clear BK414; clear HO419; clear HO422; clear HB; have BK414 := n0_; have HO419 := n1_; have HO422 := n2_; have HB := n3_; clear n0_ n1_ n2_ n3_; clear hg hw hp_))
 go_loopg [8] kj2 (fun kq v8 w' => ∃ (x6_2 : List Int) (x7_2 : List Bool) (x8_2 : Int), v8 = .int .i64 x8_2 ∧ Aside0 (impl_ShortestFrom.l0 kq x6_2 x7_2 x8_2 a0_0 l0_1 = some (r1, r2)) ∧ Aside0 (kq ≤ kj2) ∧ Aside0 (Kd.R (Kd.int .i64) 3 w' w.heap.size (fun _ => True) v418 x6_2) ∧ Aside0 (Kd.R Kd.bool 4 w' w.heap.size (fun _ => True) (.slice (some ⟨go19, 0, none⟩) y420.length co19) x7_2) ∧ Aside0 (w'.heap[gb414]? = some (.cells #[.int .i64 a0_0, (.slice A0_1 l0_1.length c0_1)] 33 (0, 0))) ∧ Aside0 (Below w.heap.size w w'))
 case atStart => exact ⟨(y417), (y423), (0), (by first | rfl | (simp; done) | (simp [*]; done)), H', ⟨Nat.le_refl _⟩, ⟨rX HO419⟩, ⟨rX HO422⟩, ⟨kX BK414⟩, ⟨bX HB⟩⟩
 case round => (
 clear H'
 try clear c1
 try clear p1
 try clear q1
 try clear hx1
 try clear p2
 try clear c4
 try clear c6
 try clear c13
 try clear c14
 try clear c14b0
 try clear c14b1
 try clear c15
 try clear c15b0
 try clear c15b1
 try clear c16
 try clear c16b0
 try clear c16b1
 try clear c17
 try clear c17b0
 try clear c18
 try clear c18b0
 try clear p19
 try clear q19
 try clear hx19
 try clear hf19
 try clear hcz10_0
 try clear hcz10_1
 try clear hcz11_0
 try clear hcz11_1
 try clear hcz8_0
 try clear hcz8_1
 try clear hfz10_0
 try clear hfz10_1
 try clear hfz11_0
 try clear hfz11_1
 try clear hfz8_0
 try clear hfz8_1
 try clear hx19_0
 try clear p19
 try clear p2
 try clear q19
 obtain ⟨x6_2, x7_2, x8_2, rfl, HA, HK2, HO_6, HO_7, BK414, HB⟩ := hrel
 have hl7_2 := (Kd.R_reads' HO_7.out).1
 rw [hl7_2] at HO_7
 (try simp only [hl7_2])
 (try simp only [hl7_2] at BK414)
 (try simp only [hl7_2] at HO_6)
 cases gk with
 | zero => exact absurd HA.out (by simp [impl_ShortestFrom.l0])
 | succ k2 => (
 have H := HA.out
 clear HA
 simp only [impl_ShortestFrom.l0] at H
 have H' := mK H
 clear H
 have hcz28_0 := q0 BK414
 have hcz28_1 := q1 BK414
 have hfz28_0 := fX BK414 0
 have hfz28_1 := fX BK414 1
 (try simp only [hl7_2] at c18b0)
 go_wp2
 go_loopg [9, 38] k2 (fun kq v9 v38 w' => ∃ (x6_3 : List Int) (x7_3 : List Bool) (x9_3 : Bool) (x38_3 : Int), v9 = .bool x9_3 ∧ v38 = .int .i64 x38_3 ∧ Aside0 (impl_ShortestFrom.l1 kq x6_3 x7_3 x8_2 x9_3 l0_1 (l0_1.length : Int) x38_3 a0_0 l0_1 = some (r1, r2)) ∧ Aside0 (kq ≤ k2) ∧ Aside0 (Kd.R (Kd.int .i64) 3 w' w.heap.size (fun _ => True) v418 x6_3) ∧ Aside0 (Kd.R Kd.bool 4 w' w.heap.size (fun _ => True) (.slice (some ⟨go19, 0, none⟩) x7_2.length co19) x7_3) ∧ Aside0 (w'.heap[gb414]? = some (.cells #[.int .i64 a0_0, (.slice A0_1 l0_1.length c0_1)] 33 (0, 0))) ∧ Aside0 (Below w.heap.size w w'))
 case atStart => exact ⟨(x6_2), (x7_2), (false), (0), (by first | rfl | (simp; done) | (simp [*]; done)), (by first | rfl | (simp; done) | (simp [*]; done)), H', ⟨Nat.le_refl _⟩, ⟨by (try simp only [hl7_2]); (with_reducible repeat first|apply rA|apply rN|apply rD); exact HO_6.out⟩, ⟨by (try simp only [hl7_2]); (with_reducible repeat first|apply rA|apply rN|apply rD); exact HO_7.out⟩, ⟨by (try simp only [hl7_2]); (with_reducible repeat first|apply kN|apply kD|apply kA); exact BK414.out⟩, ⟨bX HB⟩⟩
 case round => (
 clear H'
 try clear c1
 try clear p1
 try clear q1
 try clear hx1
 try clear p2
 try clear c4
 try clear c6
 try clear c13
 try clear c14
 try clear c14b0
 try clear c14b1
 try clear c15
 try clear c15b0
 try clear c15b1
 try clear c16
 try clear c16b0
 try clear c16b1
 try clear c17
 try clear c17b0
 try clear c18
 try clear c18b0
 try clear p19
 try clear q19
 try clear hx19
 try clear hf19
 try clear hcz10_0
 try clear hcz10_1
 try clear hcz11_0
 try clear hcz11_1
 try clear hcz28_0
 try clear hcz28_1
 try clear hcz8_0
 try clear hcz8_1
 try clear hfz10_0
 try clear hfz10_1
 try clear hfz11_0
 try clear hfz11_1
 try clear hfz28_0
 try clear hfz28_1
 try clear hfz8_0
 try clear hfz8_1
 try clear hx19_0
 try clear p1
 try clear p19
 try clear p2
 try clear q1
 try clear q19
 obtain ⟨x6_3, x7_3, x9_3, x38_3, rfl, rfl, HA, HK3, HO_6, HO_7, BK414, HB⟩ := hrel
 have hl7_3 := (Kd.R_reads' HO_7.out).1
 rw [hl7_3] at HO_7
 (try simp only [hl7_3])
 (try simp only [hl7_3] at BK414)
 (try simp only [hl7_3] at HO_6)
 cases gk with
 | zero => exact absurd HA.out (by simp [impl_ShortestFrom.l1])
 | succ k3 => (
 have H := HA.out
 clear HA
 simp only [impl_ShortestFrom.l1] at H
 by_cases c29 : x38_3 < (l0_1.length : Int)
 rotate_left
 {
 rw [if_neg c29] at H
 have c29b0 : decide (x38_3 < (l0_1.length : Int)) = false := decide_eq_false c29
 clear c29
 by_cases c82 : x9_3 = true
 {
 subst c82
 rw [if_pos rfl] at H
 by_cases c83 : x8_2 = a0_0
 {
 rw [if_pos c83] at H
 have c83b0 : (x8_2 == a0_0) = true := beq_iff_eq.mpr c83
 have c83b1 : (x8_2 != a0_0) = false := bne_eq_false_iff_eq.mpr c83
 clear c83
 simp only [Option.some.injEq, Prod.mk.injEq] at H
 obtain ⟨rfl, rfl⟩ := H
 have hcz84_0 := q0 BK414
 have hcz84_1 := q1 BK414
 have hfz84_0 := fX BK414 0
 have hfz84_1 := fX BK414 1
 (try simp only [hl7_2, hl7_3] at c18b0)
 (try simp only [hl7_2, hl7_3] at c29b0)
 go_wp2
 go_ret2
 exact ⟨_, by first | rfl | (simp [errW_none, errW_some] <;> rfl) | (simp [*, errW_none, errW_some] <;> rfl), by first | exact Kd.R_nil _ _ _ _ _ | exact Kd.N_nil _ _ _ _ _ | exact Kd.V_nil _ _ _ _ _ | exact Kd.Q_nil _ _ _ _ _ | exact Kd.S_nil _ _ _ _ _, bX HB⟩
 }
 rw [if_neg c83] at H
 have c83b0 : (x8_2 == a0_0) = false := beq_eq_false_iff_ne.mpr c83
 have c83b1 : (x8_2 != a0_0) = true := bne_iff_ne.mpr c83
 have H' := mK H
 clear H
 have hcz85_0 := q0 BK414
 have hcz85_1 := q1 BK414
 have hfz85_0 := fX BK414 0
 have hfz85_1 := fX BK414 1
 go_wp2
 (try simp only [← hl7_2, ← hl7_3])
 go_roundg k3
 case measure => have := HJ2.out; have := HK2.out; have := HK3.out; omega
 case rel => exact ⟨(x6_3), (x7_3), (wrap64 (x8_2 + 1)), (by first | rfl | (simp; done) | (simp [*]; done)), H', ⟨by have := HJ2.out; have := HK2.out; have := HK3.out; omega⟩, ⟨by (try simp only [hl7_2]); (try simp only [hl7_3]); (with_reducible repeat first|apply rA|apply rN|apply rD); exact HO_6.out⟩, ⟨by (try simp only [hl7_2]); (try simp only [hl7_3]); (with_reducible repeat first|apply rA|apply rN|apply rD); exact HO_7.out⟩, ⟨by (try simp only [hl7_2]); (try simp only [hl7_3]); (with_reducible repeat first|apply kN|apply kD|apply kA); exact BK414.out⟩, ⟨bX HB⟩⟩
 }
 replace c82 := Bool.eq_false_iff.mpr c82
 subst c82
 rw [if_neg (show ¬ (false = true) by decide)] at H
 have H' := mK H
 clear H
 obtain ⟨Ao86, co86, eo86⟩ := Kd.R_slice HO_6.out
 subst eo86
 (try simp only [hl7_2, hl7_3] at c18b0)
 (try simp only [hl7_2, hl7_3] at c29b0)
 go_wp2
 go_loopg [90] k3 (fun kq v90 w' => ∃ (x6_4 : List Int) (x90_4 : Int), v90 = .int .i64 x90_4 ∧ Aside0 (impl_ShortestFrom.l2 kq x6_4 x7_3 (x6_3.length : Int) x90_4 = some (r1, r2)) ∧ Aside0 (kq ≤ k3) ∧ Aside0 (Kd.R (Kd.int .i64) 3 w' w.heap.size (fun _ => True) (.slice Ao86 x6_3.length co86) x6_4) ∧ Aside0 (Kd.R Kd.bool 4 w' w.heap.size (fun _ => True) (.slice (some ⟨go19, 0, none⟩) x7_3.length co19) x7_3) ∧ Aside0 (w'.heap[gb414]? = some (.cells #[.int .i64 a0_0, (.slice A0_1 l0_1.length c0_1)] 33 (0, 0))) ∧ Aside0 (Below w.heap.size w w'))
 case atStart => exact ⟨(x6_3), (0), (by first | rfl | (simp; done) | (simp [*]; done)), H', ⟨Nat.le_refl _⟩, ⟨by (try simp only [hl7_2]); (try simp only [hl7_3]); (with_reducible repeat first|apply rA|apply rN|apply rD); exact HO_6.out⟩, ⟨by (try simp only [hl7_2]); (try simp only [hl7_3]); (with_reducible repeat first|apply rA|apply rN|apply rD); exact HO_7.out⟩, ⟨by (try simp only [hl7_2]); (try simp only [hl7_3]); (with_reducible repeat first|apply kN|apply kD|apply kA); exact BK414.out⟩, ⟨bX HB⟩⟩
 case round => (
 clear H'
 try clear c1
 try clear c2
 try clear p2
 try clear c3
 try clear q3
 try clear c4
 try clear p4
 try clear q4
 try clear hx4
 try clear c6
 try clear p6
 try clear q6
 try clear hx6
 try clear hf6
 try clear c7
 try clear c8
 try clear c18
 try clear c18b0
 try clear c29
 try clear c29b0
 try clear c30
 try clear c31
 try clear c32
 try clear c33
 try clear c34
 try clear q35
 try clear c36
 try clear c37
 try clear c38
 try clear q39
 try clear c40
 try clear c41
 try clear p42
 try clear q42
 try clear hx42
 try clear c62
 try clear c62b0
 try clear p63
 try clear q63
 try clear hx63
 try clear hf63
 try clear p64
 try clear q64
 try clear hx64
 try clear hf64
 try clear c66
 try clear c76
 try clear c82
 try clear c83
 try clear c83b0
 try clear c83b1
 try clear hcz61_0
 try clear hcz61_1
 try clear hcz61_2
 try clear hcz67_0
 try clear hcz67_1
 try clear hcz67_2
 try clear hcz71_0
 try clear hcz71_1
 try clear hcz71_2
 try clear hcz77_0
 try clear hcz77_1
 try clear hcz77_2
 try clear hcz81_0
 try clear hcz81_1
 try clear hcz81_2
 try clear hcz84_0
 try clear hcz84_1
 try clear hcz85_0
 try clear hcz85_1
 try clear hfz61_0
 try clear hfz61_1
 try clear hfz61_2
 try clear hfz67_0
 try clear hfz67_1
 try clear hfz67_2
 try clear hfz71_0
 try clear hfz71_1
 try clear hfz71_2
 try clear hfz77_0
 try clear hfz77_1
 try clear hfz77_2
 try clear hfz81_0
 try clear hfz81_1
 try clear hfz81_2
 try clear hfz84_0
 try clear hfz84_1
 try clear hfz85_0
 try clear hfz85_1
 try clear hx424_0
 try clear hx424_1
 try clear hx424_2
 try clear hx426_0
 try clear hx427_0
 try clear hx428_0
 try clear hx429_0
 try clear hx63_0
 try clear hx64_0
 try clear p424
 try clear p426
 try clear p427
 try clear p428
 try clear p429
 try clear p63
 try clear p64
 try clear q424
 try clear q426
 try clear q427
 try clear q428
 try clear q429
 try clear q63
 try clear q64
 obtain ⟨x6_4, x90_4, rfl, HA, HK4, HO_6, HO_7, BK414, HB⟩ := hrel
 have hl6_4 := (Kd.R_reads' HO_6.out).1
 rw [hl6_4] at HO_6
 (try simp only [hl6_4])
 (try simp only [hl6_4] at BK414)
 (try simp only [hl6_4] at HO_7)
 cases gk with
 | zero => exact absurd HA.out (by simp [impl_ShortestFrom.l2])
 | succ k4 => (
 have H := HA.out
 clear HA
 simp only [impl_ShortestFrom.l2] at H
 by_cases c87 : x90_4 < (x6_3.length : Int)
 rotate_left
 {
 rw [if_neg c87] at H
 have c87b0 : decide (x90_4 < (x6_3.length : Int)) = false := decide_eq_false c87
 clear c87
 simp only [Option.some.injEq, Prod.mk.injEq] at H
 obtain ⟨rfl, rfl⟩ := H
 (try simp only [hl7_2, hl7_3, hl6_4] at c18b0)
 (try simp only [hl7_2, hl7_3, hl6_4] at c29b0)
 (try simp only [hl7_2, hl7_3, hl6_4] at c87b0)
 go_wp2
 go_ret2
 exact ⟨_, by first | rfl | (simp [errW_none, errW_some] <;> rfl) | (simp [*, errW_none, errW_some] <;> rfl), rX HO_6, bX HB⟩
 }
 rw [if_pos c87] at H
 have c87b0 : decide (x90_4 < (x6_3.length : Int)) = true := decide_eq_true c87
 clear c87
 by_cases c88 : 0 ≤ x90_4
 rotate_left
 {
 rw [if_neg c88] at H
 exact absurd H (by simp)
 }
 rw [if_pos c88] at H
 have c88b0 : decide (0 ≤ x90_4) = true := decide_eq_true c88
 clear c88
 by_cases c89 : x90_4 < (x7_3.length : Int)
 rotate_left
 {
 rw [if_neg c89] at H
 exact absurd H (by simp)
 }
 rw [if_pos c89] at H
 have c89b0 : decide (x90_4 < (x7_3.length : Int)) = true := decide_eq_true c89
 clear c89
 obtain ⟨bq90, hbq90⟩ : ∃ b_ : Bool, b_ = (rdOf false x7_3 x90_4) := ⟨_, rfl⟩
 replace H : (if bq90 = true then (if x90_4 < (x6_4.length : Int) then (impl_ShortestFrom.l2 k4 (x6_4.set (x90_4 : Int).toNat (mn (rd x6_4 x90_4) 1000000)) x7_3 (x6_3.length : Int) (wrap64 (x90_4 + 1))) else (none)) else (if x90_4 < (x6_4.length : Int) then ((some (x6_4.set (x90_4 : Int).toNat 1000000 : List Int)).bind fun y437 => (impl_ShortestFrom.l2 k4 (y437.set (x90_4 : Int).toNat (mn (rd y437 x90_4) 1000000)) x7_3 (x6_3.length : Int) (wrap64 (x90_4 + 1)))) else (none))) = some (r1, r2) := by rw [← hbq90] at H; exact H
 have Nbq90 := mK hbq90
 clear hbq90
 by_cases c91 : bq90 = true
 {
 subst c91
 rw [if_pos rfl] at H
 by_cases c92 : x90_4 < (x6_4.length : Int)
 rotate_left
 {
 rw [if_neg c92] at H
 exact absurd H (by simp)
 }
 rw [if_pos c92] at H
 have c92b0 : decide (x90_4 < (x6_4.length : Int)) = true := decide_eq_true c92
 clear c92
 obtain ⟨ji93, hji93⟩ : ∃ j_ : Int, (mn (rd x6_4 x90_4) 1000000) = j_ := ⟨_, rfl⟩
 replace H : (impl_ShortestFrom.l2 k4 (x6_4.set (x90_4 : Int).toNat (ji93)) x7_3 (x6_3.length : Int) (wrap64 (x90_4 + 1))) = some (r1, r2) := by first | (rw [hji93] at H; exact H) | (simp only [hji93] at H ⊢; exact H)
 have hji93_ : (if 1000000 < (rd x6_4 x90_4) then 1000000 else (rd x6_4 x90_4)) = ji93 := hji93
 obtain ⟨y436, hy436⟩ : ∃ y_ : List Int, y_ = (x6_4.set (x90_4 : Int).toNat (ji93)) := ⟨_, rfl⟩
 replace H : (impl_ShortestFrom.l2 k4 y436 x7_3 (x6_3.length : Int) (wrap64 (x90_4 + 1))) = some (r1, r2) := by first | (rw [hy436]; with_reducible exact H) | (have H2_ := (Option.bind_some _ _).symm.trans H; rw [hy436]; with_reducible exact H2_) | (have H2_ := (Option.bind_some _ _).symm.trans H; with_reducible exact H2_) | with_reducible exact H | (rw [hy436]; exact H) | exact H
 have Ny436 := mK hy436
 clear hy436
 have H' := mK H
 clear H
 have p434 : 0 ≤ (x90_4 : Int) := of_decide_eq_true oX
 have q434 : x90_4 < (x7_3.length : Int) := of_decide_eq_true oX
 obtain ⟨ad434, e434, hx434_0⟩ := Kd.at_bool (Kd.R_reads' HO_7.out).2.2 x90_4 p434 q434
 (try rw [← Nbq90.out] at hx434_0)
 obtain rfl : (⟨go19, 0, none⟩ : Addr) = ad434 := (by injection e434)
 (first | simp only [add_plain] at hx434_0 | simp only [add_at] at hx434_0 | simp only [Addr.add, Nat.zero_add] at hx434_0 | skip)
 replace p434 := eq_true p434
 replace q434 := eq_true q434
 have p435 : 0 ≤ (x90_4 : Int) := of_decide_eq_true oX
 have q435 : x90_4 < (x6_4.length : Int) := of_decide_eq_true oX
 obtain ⟨ad435, e435, hx435_0⟩ := Kd.at_int (Kd.R_reads' HO_6.out).2.2 x90_4 p435 q435
 cases e435
 replace p435 := eq_true p435
 replace q435 := eq_true q435
 have p94 : 0 ≤ (x90_4 : Int) := of_decide_eq_true oX
 have q94 : (x90_4 : Int) < ((x6_4.length : Int) : Int) := of_decide_eq_true oX
 obtain ⟨go94, co94, eo94, gb94, gl94, cl94, HG94⟩ := Kd.R_form HO_6.out (by omega)
 (first | cases eo94 | (injection eo94 with ea_ en_ ec_; (first | subst ea_ | (injection ea_ with ea_; subst ea_)); subst ec_; clear en_))
 have GB94 := mK gb94
 have GG94 := mK HG94
 clear gb94 gl94 HG94
 (first | simp only [add_plain] at hx435_0 | skip)
 obtain ⟨hx94_0, hf94_0⟩ := Kd.R_celln 0 HO_6.out (x90_4 : Int) p94 q94
 replace p94 := eq_true p94
 replace q94 := eq_true q94
 have HP95 := Kd.R_putg HO_6.out (x90_4 : Int) ji93
 go_wp2_with (first | ((with_reducible refine gate_store (t := 3) (p := 108) rfl ?_); refine store_event (t := 3) (p := 108) (v := ?vo_w96) (w1 := (wr.setCell ⟨go94, (x90_4 : Int).toNat, none⟩ (.int .i64 ji93))) ?hg ?ho ?hn ?hr ?_; (case ho => rfl); (case hg => rfl); (case hn => rfl); (case hr => go_simp <;> rfl); intro w96 hw; have hg : wr.grownBy w96 (some go94) := (by rw [hw]; exact HP95.2); have hp_ : Kd.R (Kd.int .i64) 3 w96 w.heap.size (fun _ => True) (.slice (some ⟨go94, 0, none⟩) x6_4.length co86) y436 := (by rw [hw, Ny436.out]; exact HP95.1); clear HP95; have n0_ := mK (hp_); have n1_ := mK (Kd.R_over' (v := (.slice (some ⟨go94, 0, none⟩) x6_4.length co86)) (rX HO_7) (Kd.R_typed HO_6.out) (by decide) hg); have n2_ := mK (blk_grown (kX BK414) hg (Kd.R_ne HO_6.out BK414.out (by decide))); have n3_ := mK ((by rw [hw]; exact below_set (HB.out) GB94.out : Below w.heap.size w w96)); clear HO_6; clear HO_7; clear BK414; clear HB; have HO_6 := n0_; have HO_7 := n1_; have BK414 := n2_; have HB := n3_; clear n0_ n1_ n2_ n3_; clear hg hw hp_))
 (try simp only [← hl6_4])
 go_roundg k4
 case measure => have := HJ2.out; have := HK2.out; have := HK3.out; have := HK4.out; omega
 case rel => exact ⟨(y436), (wrap64 (x90_4 + 1)), (by first | rfl | (simp; done) | (simp [*]; done)), H', ⟨by have := HJ2.out; have := HK2.out; have := HK3.out; have := HK4.out; omega⟩, ⟨by (try simp only [hl7_2]); (try simp only [hl7_3]); (try simp only [hl6_4]); (with_reducible repeat first|apply rA|apply rN|apply rD); exact HO_6.out⟩, ⟨by (try simp only [hl7_2]); (try simp only [hl7_3]); (try simp only [hl6_4]); (with_reducible repeat first|apply rA|apply rN|apply rD); exact HO_7.out⟩, ⟨by (try simp only [hl7_2]); (try simp only [hl7_3]); (try simp only [hl6_4]); (with_reducible repeat first|apply kN|apply kD|apply kA); exact BK414.out⟩, ⟨bX HB⟩⟩
 }
 replace c91 := Bool.eq_false_iff.mpr c91
 subst c91
 rw [if_neg (show ¬ (false = true) by decide)] at H
 by_cases c97 : x90_4 < (x6_4.length : Int)
 rotate_left
 {
 rw [if_neg c97] at H
 exact absurd H (by simp)
 }
 rw [if_pos c97] at H
 have c97b0 : decide (x90_4 < (x6_4.length : Int)) = true := decide_eq_true c97
 clear c97
 obtain ⟨y437, hy437⟩ : ∃ y_ : List Int, y_ = (x6_4.set (x90_4 : Int).toNat 1000000) := ⟨_, rfl⟩
 replace H : (impl_ShortestFrom.l2 k4 (y437.set (x90_4 : Int).toNat (mn (rd y437 x90_4) 1000000)) x7_3 (x6_3.length : Int) (wrap64 (x90_4 + 1))) = some (r1, r2) := by first | (rw [hy437]; with_reducible exact H) | (have H2_ := (Option.bind_some _ _).symm.trans H; rw [hy437]; with_reducible exact H2_) | (have H2_ := (Option.bind_some _ _).symm.trans H; with_reducible exact H2_) | with_reducible exact H | (rw [hy437]; exact H) | exact H
 have Ny437 := mK hy437
 clear hy437
 obtain ⟨ji99, hji99⟩ : ∃ j_ : Int, (mn (rd y437 x90_4) 1000000) = j_ := ⟨_, rfl⟩
 replace H : (impl_ShortestFrom.l2 k4 (y437.set (x90_4 : Int).toNat (ji99)) x7_3 (x6_3.length : Int) (wrap64 (x90_4 + 1))) = some (r1, r2) := by first | (rw [hji99] at H; exact H) | (simp only [hji99] at H ⊢; exact H)
 have hji99_ : (if 1000000 < (rd y437 x90_4) then 1000000 else (rd y437 x90_4)) = ji99 := hji99
 obtain ⟨y439, hy439⟩ : ∃ y_ : List Int, y_ = (y437.set (x90_4 : Int).toNat (ji99)) := ⟨_, rfl⟩
 replace H : (impl_ShortestFrom.l2 k4 y439 x7_3 (x6_3.length : Int) (wrap64 (x90_4 + 1))) = some (r1, r2) := by first | (rw [hy439]; with_reducible exact H) | (have H2_ := (Option.bind_some _ _).symm.trans H; rw [hy439]; with_reducible exact H2_) | (have H2_ := (Option.bind_some _ _).symm.trans H; with_reducible exact H2_) | with_reducible exact H | (rw [hy439]; exact H) | exact H
 have Ny439 := mK hy439
 clear hy439
 have H' := mK H
 clear H
 have p434 : 0 ≤ (x90_4 : Int) := of_decide_eq_true oX
 have q434 : x90_4 < (x7_3.length : Int) := of_decide_eq_true oX
 obtain ⟨ad434, e434, hx434_0⟩ := Kd.at_bool (Kd.R_reads' HO_7.out).2.2 x90_4 p434 q434
 (try rw [← Nbq90.out] at hx434_0)
 obtain rfl : (⟨go19, 0, none⟩ : Addr) = ad434 := (by injection e434)
 (first | simp only [add_plain] at hx434_0 | simp only [add_at] at hx434_0 | simp only [Addr.add, Nat.zero_add] at hx434_0 | skip)
 replace p434 := eq_true p434
 replace q434 := eq_true q434
 have p98 : 0 ≤ (x90_4 : Int) := of_decide_eq_true oX
 have q98 : (x90_4 : Int) < ((x6_4.length : Int) : Int) := of_decide_eq_true oX
 obtain ⟨go98, co98, eo98, gb98, gl98, cl98, HG98⟩ := Kd.R_form HO_6.out (by omega)
 (first | cases eo98 | (injection eo98 with ea_ en_ ec_; (first | subst ea_ | (injection ea_ with ea_; subst ea_)); subst ec_; clear en_))
 have GB98 := mK gb98
 have GG98 := mK HG98
 clear gb98 gl98 HG98
 obtain ⟨hx98_0, hf98_0⟩ := Kd.R_celln 0 HO_6.out (x90_4 : Int) p98 q98
 replace p98 := eq_true p98
 replace q98 := eq_true q98
 have HP101 := Kd.R_putg HO_6.out (x90_4 : Int) 1000000
 go_wp2_with (first | ((with_reducible refine gate_store (t := 3) (p := 100) rfl ?_); refine store_event (t := 3) (p := 100) (v := ?vo_w102) (w1 := (wr.setCell ⟨go98, (x90_4 : Int).toNat, none⟩ (.int .i64 1000000))) ?hg ?ho ?hn ?hr ?_; (case ho => rfl); (case hg => rfl); (case hn => rfl); (case hr => go_simp <;> rfl); intro w102 hw; have hg : wr.grownBy w102 (some go98) := (by rw [hw]; exact HP101.2); have hp_ : Kd.R (Kd.int .i64) 3 w102 w.heap.size (fun _ => True) (.slice (some ⟨go98, 0, none⟩) x6_4.length co86) y437 := (by rw [hw, Ny437.out]; exact HP101.1); clear HP101; have n0_ := mK (hp_); have n1_ := mK (Kd.R_over' (v := (.slice (some ⟨go98, 0, none⟩) x6_4.length co86)) (rX HO_7) (Kd.R_typed HO_6.out) (by decide) hg); have n2_ := mK (blk_grown (kX BK414) hg (Kd.R_ne HO_6.out BK414.out (by decide))); have n3_ := mK ((by rw [hw]; exact below_set (HB.out) GB98.out : Below w.heap.size w w102)); clear HO_6; clear HO_7; clear BK414; clear HB; have HO_6 := n0_; have HO_7 := n1_; have BK414 := n2_; have HB := n3_; clear n0_ n1_ n2_ n3_; clear hg hw hp_; have p438 : 0 ≤ (x90_4 : Int) := of_decide_eq_true oX; have q438 : x90_4 < (y437.length : Int) := (by have h_ : (x90_4 : Int) < ((x6_4.length : Int) : Int) := of_decide_eq_true oX; first | (have e_ := (Kd.R_reads' HO_6.out).1; omega) | simpa only [Ny437.out, List.length_set] using h_); have ql438 : ((x90_4 : Int) < ((x6_4.length : Int) : Int)) = True := eq_true (of_decide_eq_true oX); obtain ⟨ad438, e438, hx438_0⟩ := Kd.at_int (Kd.R_reads' HO_6.out).2.2 x90_4 p438 q438; obtain rfl : (⟨go98, 0, none⟩ : Addr) = ad438 := (by injection e438); (first | simp only [add_plain] at hx438_0 | simp only [add_at] at hx438_0 | simp only [Addr.add, Nat.zero_add] at hx438_0 | skip); replace p438 := eq_true p438; replace q438 := eq_true q438; have p100 : 0 ≤ (x90_4 : Int) := of_decide_eq_true oX; have q100 : (x90_4 : Int) < ((x6_4.length : Int) : Int) := of_decide_eq_true oX; obtain ⟨hx100_0, hf100_0⟩ := Kd.R_celln 0 HO_6.out (x90_4 : Int) p100 q100; replace p100 := eq_true p100; replace q100 := eq_true q100; obtain ⟨hy103_, hz103_⟩ := Kd.R_celln 0 HO_6.out (x90_4 : Int) (of_decide_eq_true oX) (of_decide_eq_true oX); have HP103 := Kd.R_putg HO_6.out (x90_4 : Int) ji99) | ((with_reducible refine gate_store (t := 3) (p := 108) rfl ?_); refine store_event (t := 3) (p := 108) (v := ?vo_w104) (w1 := (w102.setCell ⟨go98, (x90_4 : Int).toNat, none⟩ (.int .i64 ji99))) ?hg ?ho ?hn ?hr ?_; (case ho => rfl); (case hg => rfl); (case hn => rfl); (case hr => go_simp <;> rfl); intro w104 hw; have hg : w102.grownBy w104 (some go98) := (by rw [hw]; exact HP103.2); have hp_ : Kd.R (Kd.int .i64) 3 w104 w.heap.size (fun _ => True) (.slice (some ⟨go98, 0, none⟩) x6_4.length co86) y439 := (by rw [hw, Ny439.out]; exact HP103.1); clear HP103; have n0_ := mK (hp_); have n1_ := mK (Kd.R_over' (v := (.slice (some ⟨go98, 0, none⟩) x6_4.length co86)) (rX HO_7) (Kd.R_typed HO_6.out) (by decide) hg); have n2_ := mK (blk_grown (kX BK414) hg (Kd.R_ne HO_6.out BK414.out (by decide))); have n3_ := mK ((by rw [hw]; exact below_set (HB.out) GB98.out : Below w.heap.size w w104)); clear HO_6; clear HO_7; clear BK414; clear HB; have HO_6 := n0_; have HO_7 := n1_; have BK414 := n2_; have HB := n3_; clear n0_ n1_ n2_ n3_; clear hg hw hp_))
 (try simp only [← hl6_4])
 go_roundg k4
 case measure => have := HJ2.out; have := HK2.out; have := HK3.out; have := HK4.out; omega
 case rel => exact ⟨(y439), (wrap64 (x90_4 + 1)), (by first | rfl | (simp; done) | (simp [*]; done)), H', ⟨by have := HJ2.out; have := HK2.out; have := HK3.out; have := HK4.out; omega⟩, ⟨by (try simp only [hl7_2]); (try simp only [hl7_3]); (try simp only [hl6_4]); (with_reducible repeat first|apply rA|apply rN|apply rD); exact HO_6.out⟩, ⟨by (try simp only [hl7_2]); (try simp only [hl7_3]); (try simp only [hl6_4]); (with_reducible repeat first|apply rA|apply rN|apply rD); exact HO_7.out⟩, ⟨by (try simp only [hl7_2]); (try simp only [hl7_3]); (try simp only [hl6_4]); (with_reducible repeat first|apply kN|apply kD|apply kA); exact BK414.out⟩, ⟨bX HB⟩⟩
 )
 )
 }
 rw [if_pos c29] at H
 have c29b0 : decide (x38_3 < (l0_1.length : Int)) = true := decide_eq_true c29
 clear c29
 by_cases c30 : 0 ≤ x38_3
 rotate_left
 {
 rw [if_neg c30] at H
 exact absurd H (by simp)
 }
 rw [if_pos c30] at H
 have c30b0 : decide (0 ≤ x38_3) = true := decide_eq_true c30
 clear c30
 by_cases c31 : x38_3 < (l0_1.length : Int)
 rotate_left
 {
 rw [if_neg c31] at H
 exact absurd H (by simp)
 }
 rw [if_pos c31] at H
 have c31b0 : decide (x38_3 < (l0_1.length : Int)) = true := decide_eq_true c31
 clear c31
 by_cases c32 : 0 ≤ ((rd_T70 l0_1 x38_3).f0)
 rotate_left
 {
 rw [if_neg c32] at H
 exact absurd H (by simp)
 }
 rw [if_pos c32] at H
 have c32b0 : decide (0 ≤ ((rd_T70 l0_1 x38_3).f0)) = true := decide_eq_true c32
 clear c32
 by_cases c33 : ((rd_T70 l0_1 x38_3).f0) < (x6_3.length : Int)
 rotate_left
 {
 rw [if_neg c33] at H
 exact absurd H (by simp)
 }
 rw [if_pos c33] at H
 have c33b0 : decide (((rd_T70 l0_1 x38_3).f0) < (x6_3.length : Int)) = true := decide_eq_true c33
 clear c33
 by_cases c34 : ((rd_T70 l0_1 x38_3).f0) < (x7_3.length : Int)
 rotate_left
 {
 rw [if_neg c34] at H
 exact absurd H (by simp)
 }
 rw [if_pos c34] at H
 have c34b0 : decide (((rd_T70 l0_1 x38_3).f0) < (x7_3.length : Int)) = true := decide_eq_true c34
 clear c34
 obtain ⟨bq35, hbq35⟩ : ∃ b_ : Bool, b_ = (rdOf false x7_3 ((rd_T70 l0_1 x38_3).f0)) := ⟨_, rfl⟩
 replace H : (if bq35 = true then (if 0 ≤ ((rd_T70 l0_1 x38_3).f1) then (if ((rd_T70 l0_1 x38_3).f1) < (x7_3.length : Int) then (if (rdOf false x7_3 ((rd_T70 l0_1 x38_3).f1) = true) then (if ((rd_T70 l0_1 x38_3).f1) < (x6_3.length : Int) then (if (wrap64 ((rd x6_3 ((rd_T70 l0_1 x38_3).f0)) + ((rd_T70 l0_1 x38_3).f2))) < (rd x6_3 ((rd_T70 l0_1 x38_3).f1)) then (impl_ShortestFrom.l1 k3 (x6_3.set (((rd_T70 l0_1 x38_3).f1) : Int).toNat (wrap64 ((rd x6_3 ((rd_T70 l0_1 x38_3).f0)) + ((rd_T70 l0_1 x38_3).f2)))) (x7_3.set (((rd_T70 l0_1 x38_3).f1) : Int).toNat true) x8_2 true l0_1 (l0_1.length : Int) (wrap64 (x38_3 + 1)) a0_0 l0_1) else (impl_ShortestFrom.l1 k3 x6_3 x7_3 x8_2 x9_3 l0_1 (l0_1.length : Int) (wrap64 (x38_3 + 1)) a0_0 l0_1)) else (none)) else (if ((rd_T70 l0_1 x38_3).f1) < (x6_3.length : Int) then (impl_ShortestFrom.l1 k3 (x6_3.set (((rd_T70 l0_1 x38_3).f1) : Int).toNat (wrap64 ((rd x6_3 ((rd_T70 l0_1 x38_3).f0)) + ((rd_T70 l0_1 x38_3).f2)))) (x7_3.set (((rd_T70 l0_1 x38_3).f1) : Int).toNat true) x8_2 true l0_1 (l0_1.length : Int) (wrap64 (x38_3 + 1)) a0_0 l0_1) else (none))) else (none)) else (none)) else (impl_ShortestFrom.l1 k3 x6_3 x7_3 x8_2 x9_3 l0_1 (l0_1.length : Int) (wrap64 (x38_3 + 1)) a0_0 l0_1)) = some (r1, r2) := by rw [← hbq35] at H; exact H
 have Nbq35 := mK hbq35
 clear hbq35
 by_cases c36 : bq35 = true
 rotate_left
 {
 replace c36 := Bool.eq_false_iff.mpr c36
 subst c36
 rw [if_neg (show ¬ (false = true) by decide)] at H
 have H' := mK H
 clear H
 have p424 : 0 ≤ (x38_3 : Int) := of_decide_eq_true oX
 have q424 : x38_3 < (l0_1.length : Int) := of_decide_eq_true oX
 obtain ⟨ad424, e424, hx424_0, hx424_1, hx424_2⟩ := at_T70 HR0_1.out x38_3 p424 q424
 cases e424
 replace hx424_0 := (HB.out.cell (World.block_lt_of_cell? w _ hx424_0)).trans hx424_0
 replace hx424_1 := (HB.out.cell (World.block_lt_of_cell? w _ hx424_1)).trans hx424_1
 replace hx424_2 := (HB.out.cell (World.block_lt_of_cell? w _ hx424_2)).trans hx424_2
 replace p424 := eq_true p424
 replace q424 := eq_true q424
 try go_wp2_with (first | ((with_reducible refine gate_dst (N := 11) rfl ?_); refine bxE 11 #[.int .i64 0, .int .i64 0, .int .i64 0] 70 ?_; intro gb425 hg w75 hbox hb; replace HO_6 := mK (Kd.R_below (rX HO_6) hb); replace HO_7 := mK (Kd.R_below (rX HO_7) hb); have BK425 := mK hbox; have GW425 := mK (gX hg HB); have GE425 := mK (gX hg HB); replace HB := bB HB hb; have NB414_425 := mK (lX hg BK414); have NB425_414 := mK (mX hg BK414); replace BK414 := kB BK414 hb; clear hb hbox hg; have hnb76 := NB425_414.out; have hnc76 := NB414_425.out; have hcz77_0 := q0 BK425; have hcz77_1 := q1 BK425; have hcz77_2 := q2 BK425; have hfz77_0 := fX BK425 0; have hfz77_1 := fX BK425 1; have hfz77_2 := fX BK425 2))
 have n0_ : Aside0 (Kd.R (Kd.int .i64) 3 (((w75.setCell ⟨gb425, 0, none⟩ (.int .i64 ((rd_T70 l0_1 x38_3).f0))).setCell ⟨gb425, 1, none⟩ (.int .i64 ((rd_T70 l0_1 x38_3).f1))).setCell ⟨gb425, 2, none⟩ (.int .i64 ((rd_T70 l0_1 x38_3).f2))) w.heap.size (fun _ => True) v418 x6_3) := ⟨rF3 HO_6 BK425⟩
 have n1_ : Aside0 (Kd.R Kd.bool 4 (((w75.setCell ⟨gb425, 0, none⟩ (.int .i64 ((rd_T70 l0_1 x38_3).f0))).setCell ⟨gb425, 1, none⟩ (.int .i64 ((rd_T70 l0_1 x38_3).f1))).setCell ⟨gb425, 2, none⟩ (.int .i64 ((rd_T70 l0_1 x38_3).f2))) w.heap.size (fun _ => True) (.slice (some ⟨go19, 0, none⟩) x7_3.length co19) x7_3) := ⟨rF3 HO_7 BK425⟩
 have n2_ : Aside0 ((((w75.setCell ⟨gb425, 0, none⟩ (.int .i64 ((rd_T70 l0_1 x38_3).f0))).setCell ⟨gb425, 1, none⟩ (.int .i64 ((rd_T70 l0_1 x38_3).f1))).setCell ⟨gb425, 2, none⟩ (.int .i64 ((rd_T70 l0_1 x38_3).f2))).heap[gb414]? = some (.cells #[.int .i64 a0_0, .slice (some ad424) l0_1.length c0_1] 33 (0, 0))) := ⟨kF BK414 NB414_425⟩
 have n3_ : Aside0 ((((w75.setCell ⟨gb425, 0, none⟩ (.int .i64 ((rd_T70 l0_1 x38_3).f0))).setCell ⟨gb425, 1, none⟩ (.int .i64 ((rd_T70 l0_1 x38_3).f1))).setCell ⟨gb425, 2, none⟩ (.int .i64 ((rd_T70 l0_1 x38_3).f2))).heap[gb425]? = some (.cells #[.int .i64 ((rd_T70 l0_1 x38_3).f0), .int .i64 ((rd_T70 l0_1 x38_3).f1), .int .i64 ((rd_T70 l0_1 x38_3).f2)] 70 (0, 0))) := ⟨kP3 BK425⟩
 have n4_ : Aside0 (Below w.heap.size w (((w75.setCell ⟨gb425, 0, none⟩ (.int .i64 ((rd_T70 l0_1 x38_3).f0))).setCell ⟨gb425, 1, none⟩ (.int .i64 ((rd_T70 l0_1 x38_3).f1))).setCell ⟨gb425, 2, none⟩ (.int .i64 ((rd_T70 l0_1 x38_3).f2)))) := ⟨bX HB⟩
 (try clear HO_6)
 (try clear HO_7)
 (try clear BK414)
 (try clear BK425)
 (try clear HB)
 generalize (((w75.setCell ⟨gb425, 0, none⟩ (.int .i64 ((rd_T70 l0_1 x38_3).f0))).setCell ⟨gb425, 1, none⟩ (.int .i64 ((rd_T70 l0_1 x38_3).f1))).setCell ⟨gb425, 2, none⟩ (.int .i64 ((rd_T70 l0_1 x38_3).f2))) = w78 at n0_ n1_ n2_ n3_ n4_ ⊢
 have HO_6 := n0_
 have HO_7 := n1_
 have BK414 := n2_
 have BK425 := n3_
 have HB := n4_
 clear n0_ n1_ n2_ n3_ n4_
 have n0_ := mK (Kd.R_drew HO_6.out)
 have n1_ := mK (Kd.R_drew HO_7.out)
 have n2_ := mK (blk_drew BK414.out)
 have n3_ := mK (blk_drew BK425.out)
 have n4_ := mK (below_drew1 HB.out)
 clear HO_6
 clear HO_7
 clear BK414
 clear BK425
 clear HB
 have HO_6 := n0_
 have HO_7 := n1_
 have BK414 := n2_
 have BK425 := n3_
 have HB := n4_
 clear n0_ n1_ n2_ n3_ n4_
 obtain ⟨Ao80, co80, eo80⟩ := Kd.R_slice HO_6.out
 (first | subst eo80 | (injection eo80 with f1_ f2_ f3_; have f4_ := f1_.symm; have f5_ := f3_.symm; clear f1_ f2_ f3_; subst f4_; subst f5_))
 have p426 : 0 ≤ (((rd_T70 l0_1 x38_3).f0) : Int) := of_decide_eq_true oX
 have q426 : ((rd_T70 l0_1 x38_3).f0) < (x6_3.length : Int) := of_decide_eq_true oX
 obtain ⟨ad426, e426, hx426_0⟩ := Kd.at_int (Kd.R_reads' HO_6.out).2.2 ((rd_T70 l0_1 x38_3).f0) p426 q426
 cases e426
 replace p426 := eq_true p426
 replace q426 := eq_true q426
 refine start_ (n := 9) (S := fun w' => w'.cell? ⟨gb425, 0, none⟩ = some (.int .i64 ((rd_T70 l0_1 x38_3).f0)) ∧ w'.cell? ⟨gb425, 1, none⟩ = some (.int .i64 ((rd_T70 l0_1 x38_3).f1)) ∧ w'.cell? ⟨gb425, 2, none⟩ = some (.int .i64 ((rd_T70 l0_1 x38_3).f2)) ∧ w'.cell? (ad426.add (((rd_T70 l0_1 x38_3).f0)).toNat) = some (.int .i64 (rd x6_3 ((rd_T70 l0_1 x38_3).f0)))) (ds := []) (bs 0 9) (by kernel_rfl) rfl (by kernel_rfl) ⟨(blk_cell BK425.out 0).trans rfl, (blk_cell BK425.out 1).trans rfl, (blk_cell BK425.out 2).trans rfl, hx426_0⟩ (fun hHeld => ?_); refine with_tabW impl_ShortestFrom.tab11 impl_ShortestFrom.bits11 (fun HT_ HW_ => ?_)
 generalize w78.drew = w79 at HO_6 HO_7 BK414 BK425 HB hx426_0 hHeld ⊢
 refine pL 0 42 (bs 1 9) HT_ ?_
 refine pL 1 43 (bs 2 9) HT_ ?_
 refine pL 5 47 #[true, true, false, false, false, true, false, false, false] HT_ ?_
 refine tL 2 44 #[true, true, true, false, false, true, false, false, false] HT_ HW_ hHeld ?_
 refine pL 3 45 #[true, true, true, true, false, true, false, false, false] HT_ ?_
 refine tL 4 46 (bs 6 9) HT_ HW_ hHeld ?_
 refine tL 6 48 (bs 7 9) HT_ HW_ hHeld ?_
 refine pL 7 49 (bs 8 9) HT_ ?_
 refine pL 8 12 (bs 9 9) HT_ ?_
 refine done_ (done_of HT_.out (by kernel_rfl)) ?_
 have hcz81_0 := q0 BK425
 have hcz81_1 := q1 BK425
 have hcz81_2 := q2 BK425
 have hfz81_0 := fX BK425 0
 have hfz81_1 := fX BK425 1
 have hfz81_2 := fX BK425 2
 have p427 : 0 ≤ (((rd_T70 l0_1 x38_3).f0) : Int) := of_decide_eq_true oX
 have q427 : ((rd_T70 l0_1 x38_3).f0) < (x7_3.length : Int) := of_decide_eq_true oX
 obtain ⟨ad427, e427, hx427_0⟩ := Kd.at_bool (Kd.R_reads' HO_7.out).2.2 ((rd_T70 l0_1 x38_3).f0) p427 q427
 (try rw [← Nbq35.out] at hx427_0)
 obtain rfl : (⟨go19, 0, none⟩ : Addr) = ad427 := (by injection e427)
 (first | simp only [add_plain] at hx427_0 | simp only [add_at] at hx427_0 | simp only [Addr.add, Nat.zero_add] at hx427_0 | skip)
 replace p427 := eq_true p427
 replace q427 := eq_true q427
 try go_wp2
 (try simp only [← hl7_3])
 go_roundg k3
 case measure => have := HJ2.out; have := HK2.out; have := HK3.out; omega
 case rel => exact ⟨(x6_3), (x7_3), (x9_3), (wrap64 (x38_3 + 1)), (by first | rfl | (simp; done) | (simp [*]; done)), (by first | rfl | (simp; done) | (simp [*]; done)), H', ⟨by have := HJ2.out; have := HK2.out; have := HK3.out; omega⟩, ⟨by (try simp only [hl7_2]); (try simp only [hl7_3]); (with_reducible repeat first|apply rA|apply rN|apply rD); exact HO_6.out⟩, ⟨by (try simp only [hl7_2]); (try simp only [hl7_3]); (with_reducible repeat first|apply rA|apply rN|apply rD); exact HO_7.out⟩, ⟨by (try simp only [hl7_2]); (try simp only [hl7_3]); (with_reducible repeat first|apply kN|apply kD|apply kA); exact BK414.out⟩, ⟨bX HB⟩⟩
 }
 subst c36
 rw [if_pos rfl] at H
 by_cases c37 : 0 ≤ ((rd_T70 l0_1 x38_3).f1)
 rotate_left
 {
 rw [if_neg c37] at H
 exact absurd H (by simp)
 }
 rw [if_pos c37] at H
 have c37b0 : decide (0 ≤ ((rd_T70 l0_1 x38_3).f1)) = true := decide_eq_true c37
 clear c37
 by_cases c38 : ((rd_T70 l0_1 x38_3).f1) < (x7_3.length : Int)
 rotate_left
 {
 rw [if_neg c38] at H
 exact absurd H (by simp)
 }
 rw [if_pos c38] at H
 have c38b0 : decide (((rd_T70 l0_1 x38_3).f1) < (x7_3.length : Int)) = true := decide_eq_true c38
 clear c38
 obtain ⟨bq39, hbq39⟩ : ∃ b_ : Bool, b_ = (rdOf false x7_3 ((rd_T70 l0_1 x38_3).f1)) := ⟨_, rfl⟩
 replace H : (if (bq39 = true) then (if ((rd_T70 l0_1 x38_3).f1) < (x6_3.length : Int) then (if (wrap64 ((rd x6_3 ((rd_T70 l0_1 x38_3).f0)) + ((rd_T70 l0_1 x38_3).f2))) < (rd x6_3 ((rd_T70 l0_1 x38_3).f1)) then (impl_ShortestFrom.l1 k3 (x6_3.set (((rd_T70 l0_1 x38_3).f1) : Int).toNat (wrap64 ((rd x6_3 ((rd_T70 l0_1 x38_3).f0)) + ((rd_T70 l0_1 x38_3).f2)))) (x7_3.set (((rd_T70 l0_1 x38_3).f1) : Int).toNat true) x8_2 true l0_1 (l0_1.length : Int) (wrap64 (x38_3 + 1)) a0_0 l0_1) else (impl_ShortestFrom.l1 k3 x6_3 x7_3 x8_2 x9_3 l0_1 (l0_1.length : Int) (wrap64 (x38_3 + 1)) a0_0 l0_1)) else (none)) else (if ((rd_T70 l0_1 x38_3).f1) < (x6_3.length : Int) then (impl_ShortestFrom.l1 k3 (x6_3.set (((rd_T70 l0_1 x38_3).f1) : Int).toNat (wrap64 ((rd x6_3 ((rd_T70 l0_1 x38_3).f0)) + ((rd_T70 l0_1 x38_3).f2)))) (x7_3.set (((rd_T70 l0_1 x38_3).f1) : Int).toNat true) x8_2 true l0_1 (l0_1.length : Int) (wrap64 (x38_3 + 1)) a0_0 l0_1) else (none))) = some (r1, r2) := by rw [← hbq39] at H; exact H
 have Nbq39 := mK hbq39
 clear hbq39
 by_cases c40 : (bq39 = true)
 rotate_left
 {
 replace c40 := Bool.eq_false_iff.mpr c40
 subst c40
 rw [if_neg (show ¬ (false = true) by decide)] at H
 by_cases c62 : ((rd_T70 l0_1 x38_3).f1) < (x6_3.length : Int)
 rotate_left
 {
 rw [if_neg c62] at H
 exact absurd H (by simp)
 }
 rw [if_pos c62] at H
 have c62b0 : decide (((rd_T70 l0_1 x38_3).f1) < (x6_3.length : Int)) = true := decide_eq_true c62
 clear c62
 obtain ⟨y432, hy432⟩ : ∃ y_ : List Int, y_ = (x6_3.set (((rd_T70 l0_1 x38_3).f1) : Int).toNat (wrap64 ((rd x6_3 ((rd_T70 l0_1 x38_3).f0)) + ((rd_T70 l0_1 x38_3).f2)))) := ⟨_, rfl⟩
 replace H : (impl_ShortestFrom.l1 k3 y432 (x7_3.set (((rd_T70 l0_1 x38_3).f1) : Int).toNat true) x8_2 true l0_1 (l0_1.length : Int) (wrap64 (x38_3 + 1)) a0_0 l0_1) = some (r1, r2) := by first | (rw [hy432]; with_reducible exact H) | (have H2_ := (Option.bind_some _ _).symm.trans H; rw [hy432]; with_reducible exact H2_) | (have H2_ := (Option.bind_some _ _).symm.trans H; with_reducible exact H2_) | with_reducible exact H | (rw [hy432]; exact H) | exact H
 have Ny432 := mK hy432
 clear hy432
 obtain ⟨y433, hy433⟩ : ∃ y_ : List Bool, y_ = (x7_3.set (((rd_T70 l0_1 x38_3).f1) : Int).toNat true) := ⟨_, rfl⟩
 replace H : (impl_ShortestFrom.l1 k3 y432 y433 x8_2 true l0_1 (l0_1.length : Int) (wrap64 (x38_3 + 1)) a0_0 l0_1) = some (r1, r2) := by first | (rw [hy433]; with_reducible exact H) | (have H2_ := (Option.bind_some _ _).symm.trans H; rw [hy433]; with_reducible exact H2_) | (have H2_ := (Option.bind_some _ _).symm.trans H; with_reducible exact H2_) | with_reducible exact H | (rw [hy433]; exact H) | exact H
 have Ny433 := mK hy433
 clear hy433
 have H' := mK H
 clear H
 have p424 : 0 ≤ (x38_3 : Int) := of_decide_eq_true oX
 have q424 : x38_3 < (l0_1.length : Int) := of_decide_eq_true oX
 obtain ⟨ad424, e424, hx424_0, hx424_1, hx424_2⟩ := at_T70 HR0_1.out x38_3 p424 q424
 cases e424
 replace hx424_0 := (HB.out.cell (World.block_lt_of_cell? w _ hx424_0)).trans hx424_0
 replace hx424_1 := (HB.out.cell (World.block_lt_of_cell? w _ hx424_1)).trans hx424_1
 replace hx424_2 := (HB.out.cell (World.block_lt_of_cell? w _ hx424_2)).trans hx424_2
 replace p424 := eq_true p424
 replace q424 := eq_true q424
 try go_wp2_with (first | ((with_reducible refine gate_dst (N := 11) rfl ?_); refine bxE 11 #[.int .i64 0, .int .i64 0, .int .i64 0] 70 ?_; intro gb425 hg w65 hbox hb; replace HO_6 := mK (Kd.R_below (rX HO_6) hb); replace HO_7 := mK (Kd.R_below (rX HO_7) hb); have BK425 := mK hbox; have GW425 := mK (gX hg HB); have GE425 := mK (gX hg HB); replace HB := bB HB hb; have NB414_425 := mK (lX hg BK414); have NB425_414 := mK (mX hg BK414); replace BK414 := kB BK414 hb; clear hb hbox hg; have hnb66 := NB425_414.out; have hnc66 := NB414_425.out; have hcz67_0 := q0 BK425; have hcz67_1 := q1 BK425; have hcz67_2 := q2 BK425; have hfz67_0 := fX BK425 0; have hfz67_1 := fX BK425 1; have hfz67_2 := fX BK425 2))
 have n0_ : Aside0 (Kd.R (Kd.int .i64) 3 (((w65.setCell ⟨gb425, 0, none⟩ (.int .i64 ((rd_T70 l0_1 x38_3).f0))).setCell ⟨gb425, 1, none⟩ (.int .i64 ((rd_T70 l0_1 x38_3).f1))).setCell ⟨gb425, 2, none⟩ (.int .i64 ((rd_T70 l0_1 x38_3).f2))) w.heap.size (fun _ => True) v418 x6_3) := ⟨rF3 HO_6 BK425⟩
 have n1_ : Aside0 (Kd.R Kd.bool 4 (((w65.setCell ⟨gb425, 0, none⟩ (.int .i64 ((rd_T70 l0_1 x38_3).f0))).setCell ⟨gb425, 1, none⟩ (.int .i64 ((rd_T70 l0_1 x38_3).f1))).setCell ⟨gb425, 2, none⟩ (.int .i64 ((rd_T70 l0_1 x38_3).f2))) w.heap.size (fun _ => True) (.slice (some ⟨go19, 0, none⟩) x7_3.length co19) x7_3) := ⟨rF3 HO_7 BK425⟩
 have n2_ : Aside0 ((((w65.setCell ⟨gb425, 0, none⟩ (.int .i64 ((rd_T70 l0_1 x38_3).f0))).setCell ⟨gb425, 1, none⟩ (.int .i64 ((rd_T70 l0_1 x38_3).f1))).setCell ⟨gb425, 2, none⟩ (.int .i64 ((rd_T70 l0_1 x38_3).f2))).heap[gb414]? = some (.cells #[.int .i64 a0_0, .slice (some ad424) l0_1.length c0_1] 33 (0, 0))) := ⟨kF BK414 NB414_425⟩
 have n3_ : Aside0 ((((w65.setCell ⟨gb425, 0, none⟩ (.int .i64 ((rd_T70 l0_1 x38_3).f0))).setCell ⟨gb425, 1, none⟩ (.int .i64 ((rd_T70 l0_1 x38_3).f1))).setCell ⟨gb425, 2, none⟩ (.int .i64 ((rd_T70 l0_1 x38_3).f2))).heap[gb425]? = some (.cells #[.int .i64 ((rd_T70 l0_1 x38_3).f0), .int .i64 ((rd_T70 l0_1 x38_3).f1), .int .i64 ((rd_T70 l0_1 x38_3).f2)] 70 (0, 0))) := ⟨kP3 BK425⟩
 have n4_ : Aside0 (Below w.heap.size w (((w65.setCell ⟨gb425, 0, none⟩ (.int .i64 ((rd_T70 l0_1 x38_3).f0))).setCell ⟨gb425, 1, none⟩ (.int .i64 ((rd_T70 l0_1 x38_3).f1))).setCell ⟨gb425, 2, none⟩ (.int .i64 ((rd_T70 l0_1 x38_3).f2)))) := ⟨bX HB⟩
 (try clear HO_6)
 (try clear HO_7)
 (try clear BK414)
 (try clear BK425)
 (try clear HB)
 generalize (((w65.setCell ⟨gb425, 0, none⟩ (.int .i64 ((rd_T70 l0_1 x38_3).f0))).setCell ⟨gb425, 1, none⟩ (.int .i64 ((rd_T70 l0_1 x38_3).f1))).setCell ⟨gb425, 2, none⟩ (.int .i64 ((rd_T70 l0_1 x38_3).f2))) = w68 at n0_ n1_ n2_ n3_ n4_ ⊢
 have HO_6 := n0_
 have HO_7 := n1_
 have BK414 := n2_
 have BK425 := n3_
 have HB := n4_
 clear n0_ n1_ n2_ n3_ n4_
 have n0_ := mK (Kd.R_drew HO_6.out)
 have n1_ := mK (Kd.R_drew HO_7.out)
 have n2_ := mK (blk_drew BK414.out)
 have n3_ := mK (blk_drew BK425.out)
 have n4_ := mK (below_drew1 HB.out)
 clear HO_6
 clear HO_7
 clear BK414
 clear BK425
 clear HB
 have HO_6 := n0_
 have HO_7 := n1_
 have BK414 := n2_
 have BK425 := n3_
 have HB := n4_
 clear n0_ n1_ n2_ n3_ n4_
 obtain ⟨Ao70, co70, eo70⟩ := Kd.R_slice HO_6.out
 (first | subst eo70 | (injection eo70 with f1_ f2_ f3_; have f4_ := f1_.symm; have f5_ := f3_.symm; clear f1_ f2_ f3_; subst f4_; subst f5_))
 have p426 : 0 ≤ (((rd_T70 l0_1 x38_3).f0) : Int) := of_decide_eq_true oX
 have q426 : ((rd_T70 l0_1 x38_3).f0) < (x6_3.length : Int) := of_decide_eq_true oX
 obtain ⟨ad426, e426, hx426_0⟩ := Kd.at_int (Kd.R_reads' HO_6.out).2.2 ((rd_T70 l0_1 x38_3).f0) p426 q426
 cases e426
 replace p426 := eq_true p426
 replace q426 := eq_true q426
 refine start_ (n := 9) (S := fun w' => w'.cell? ⟨gb425, 0, none⟩ = some (.int .i64 ((rd_T70 l0_1 x38_3).f0)) ∧ w'.cell? ⟨gb425, 1, none⟩ = some (.int .i64 ((rd_T70 l0_1 x38_3).f1)) ∧ w'.cell? ⟨gb425, 2, none⟩ = some (.int .i64 ((rd_T70 l0_1 x38_3).f2)) ∧ w'.cell? (ad426.add (((rd_T70 l0_1 x38_3).f0)).toNat) = some (.int .i64 (rd x6_3 ((rd_T70 l0_1 x38_3).f0)))) (ds := []) (bs 0 9) (by kernel_rfl) rfl (by kernel_rfl) ⟨(blk_cell BK425.out 0).trans rfl, (blk_cell BK425.out 1).trans rfl, (blk_cell BK425.out 2).trans rfl, hx426_0⟩ (fun hHeld => ?_); refine with_tabW impl_ShortestFrom.tab11 impl_ShortestFrom.bits11 (fun HT_ HW_ => ?_)
 generalize w68.drew = w69 at HO_6 HO_7 BK414 BK425 HB hx426_0 hHeld ⊢
 refine pL 0 42 (bs 1 9) HT_ ?_
 refine pL 1 43 (bs 2 9) HT_ ?_
 refine pL 5 47 #[true, true, false, false, false, true, false, false, false] HT_ ?_
 refine tL 2 44 #[true, true, true, false, false, true, false, false, false] HT_ HW_ hHeld ?_
 refine pL 3 45 #[true, true, true, true, false, true, false, false, false] HT_ ?_
 refine tL 4 46 (bs 6 9) HT_ HW_ hHeld ?_
 refine tL 6 48 (bs 7 9) HT_ HW_ hHeld ?_
 refine pL 7 49 (bs 8 9) HT_ ?_
 refine pL 8 12 (bs 9 9) HT_ ?_
 refine done_ (done_of HT_.out (by kernel_rfl)) ?_
 have hcz71_0 := q0 BK425
 have hcz71_1 := q1 BK425
 have hcz71_2 := q2 BK425
 have hfz71_0 := fX BK425 0
 have hfz71_1 := fX BK425 1
 have hfz71_2 := fX BK425 2
 have p427 : 0 ≤ (((rd_T70 l0_1 x38_3).f0) : Int) := of_decide_eq_true oX
 have q427 : ((rd_T70 l0_1 x38_3).f0) < (x7_3.length : Int) := of_decide_eq_true oX
 obtain ⟨ad427, e427, hx427_0⟩ := Kd.at_bool (Kd.R_reads' HO_7.out).2.2 ((rd_T70 l0_1 x38_3).f0) p427 q427
 (try rw [← Nbq35.out] at hx427_0)
 (try rw [← Nbq39.out] at hx427_0)
 obtain rfl : (⟨go19, 0, none⟩ : Addr) = ad427 := (by injection e427)
 (first | simp only [add_plain] at hx427_0 | simp only [add_at] at hx427_0 | simp only [Addr.add, Nat.zero_add] at hx427_0 | skip)
 replace p427 := eq_true p427
 replace q427 := eq_true q427
 have p428 : 0 ≤ (((rd_T70 l0_1 x38_3).f1) : Int) := of_decide_eq_true oX
 have q428 : ((rd_T70 l0_1 x38_3).f1) < (x7_3.length : Int) := of_decide_eq_true oX
 obtain ⟨ad428, e428, hx428_0⟩ := Kd.at_bool (Kd.R_reads' HO_7.out).2.2 ((rd_T70 l0_1 x38_3).f1) p428 q428
 (try rw [← Nbq35.out] at hx428_0)
 (try rw [← Nbq39.out] at hx428_0)
 obtain rfl : (⟨go19, 0, none⟩ : Addr) = ad428 := (by injection e428)
 (first | simp only [add_plain] at hx428_0 | simp only [add_at] at hx428_0 | simp only [Addr.add, Nat.zero_add] at hx428_0 | skip)
 replace p428 := eq_true p428
 replace q428 := eq_true q428
 try go_wp2
 have n0_ := mK (Kd.R_drew HO_6.out)
 have n1_ := mK (Kd.R_drew HO_7.out)
 have n2_ := mK (blk_drew BK414.out)
 have n3_ := mK (blk_drew BK425.out)
 have n4_ := mK (below_drew1 HB.out)
 clear HO_6
 clear HO_7
 clear BK414
 clear BK425
 clear HB
 have HO_6 := n0_
 have HO_7 := n1_
 have BK414 := n2_
 have BK425 := n3_
 have HB := n4_
 clear n0_ n1_ n2_ n3_ n4_
 have p63 : 0 ≤ (((rd_T70 l0_1 x38_3).f1) : Int) := of_decide_eq_true oX
 have q63 : (((rd_T70 l0_1 x38_3).f1) : Int) < ((x6_3.length : Int) : Int) := of_decide_eq_true oX
 obtain ⟨go63, co63, eo63, gb63, gl63, cl63, HG63⟩ := Kd.R_form HO_6.out (by omega)
 (first | cases eo63 | (injection eo63 with ea_ en_ ec_; (first | subst ea_ | (injection ea_ with ea_; subst ea_)); subst ec_; clear en_))
 have GB63 := mK gb63
 have GG63 := mK HG63
 clear gb63 gl63 HG63
 (first | simp only [add_plain] at hx426_0 | skip)
 (first | simp only [add_plain] at hx429_0 | skip)
 obtain ⟨hx63_0, hf63_0⟩ := Kd.R_celln 0 HO_6.out (((rd_T70 l0_1 x38_3).f1) : Int) p63 q63
 replace p63 := eq_true p63
 replace q63 := eq_true q63
 have HP73 := Kd.R_putn HO_6.out (((rd_T70 l0_1 x38_3).f1) : Int) (wrap64 ((rd x6_3 ((rd_T70 l0_1 x38_3).f0)) + ((rd_T70 l0_1 x38_3).f2)))
 rw [← Ny432.out] at HP73
 have HQ73 := mK HP73
 clear HP73
 have p64 : 0 ≤ (((rd_T70 l0_1 x38_3).f1) : Int) := of_decide_eq_true oX
 have q64 : (((rd_T70 l0_1 x38_3).f1) : Int) < ((x7_3.length : Int) : Int) := of_decide_eq_true oX
 obtain ⟨hx64_0, hf64_0⟩ := Kd.R_celln false (Kd.R_far (p := ⟨go63, (((rd_T70 l0_1 x38_3).f1) : Int).toNat, none⟩) (Kd.R_types HO_7.out GG63.out (by decide)) (fun _ hk => hk.2) (.int .i64 (wrap64 ((rd x6_3 ((rd_T70 l0_1 x38_3).f0)) + ((rd_T70 l0_1 x38_3).f2))))) (((rd_T70 l0_1 x38_3).f1) : Int) p64 q64
 replace p64 := eq_true p64
 replace q64 := eq_true q64
 have HP74 := Kd.R_putn (Kd.R_far (p := ⟨go63, (((rd_T70 l0_1 x38_3).f1) : Int).toNat, none⟩) (Kd.R_types HO_7.out GG63.out (by decide)) (fun _ hk => hk.2) (.int .i64 (wrap64 ((rd x6_3 ((rd_T70 l0_1 x38_3).f0)) + ((rd_T70 l0_1 x38_3).f2))))) (((rd_T70 l0_1 x38_3).f1) : Int) true
 rw [← Ny433.out] at HP74
 have HQ74 := mK HP74
 clear HP74
 refine start_ (n := 12) (S := fun w' => w'.cell? ⟨gb425, 0, none⟩ = some (.int .i64 ((rd_T70 l0_1 x38_3).f0)) ∧ w'.cell? ⟨gb425, 1, none⟩ = some (.int .i64 ((rd_T70 l0_1 x38_3).f1)) ∧ w'.cell? ⟨gb425, 2, none⟩ = some (.int .i64 ((rd_T70 l0_1 x38_3).f2))) (ds := [10]) (bs 0 12) (by kernel_rfl) rfl (by kernel_rfl) ⟨(blk_cell BK425.out 0).trans rfl, (blk_cell BK425.out 1).trans rfl, (blk_cell BK425.out 2).trans rfl⟩ (fun hHeld => ?_); refine with_tabW impl_ShortestFrom.tab13 impl_ShortestFrom.bits13 (fun HT_ HW_ => ?_)
 first | generalize w69.drew = w72 at HO_6 HO_7 BK414 BK425 HB GG63 HQ73 HQ74 hf63_0 hf64_0 hx426_0 hx429_0 hx63_0 hx64_0 hHeld ⊢ | generalize w69.drew = w72 at HO_6 HO_7 BK414 BK425 HB GG63 HQ73 HQ74 hf63_0 hf64_0 hx63_0 hx64_0 hHeld ⊢
 refine pL 0 72 (bs 1 12) HT_ ?_
 refine pL 1 73 (bs 2 12) HT_ ?_
 refine pL 3 75 #[true, true, false, true, false, false, false, false, false, false, false, false] HT_ ?_
 refine pL 4 76 #[true, true, false, true, true, false, false, false, false, false, false, false] HT_ ?_
 refine pL 6 78 #[true, true, false, true, true, false, true, false, false, false, false, false] HT_ ?_
 refine tL 2 74 #[true, true, true, true, true, false, true, false, false, false, false, false] HT_ HW_ hHeld ?_
 refine pL 7 79 #[true, true, true, true, true, false, true, true, false, false, false, false] HT_ ?_
 refine tL 5 77 (bs 8 12) HT_ HW_ hHeld ?_
 refine one_ (i := 8) (N := none) (bs 9 12) rfl rfl (one_of HT_.out (by kernel_rfl)) (by decide) (fun K hK => ?_)
 refine skip_ (w1 := ?_) (by rfl) rfl ?_ ?_
 rotate_left
 {
 go_simp
 rfl
 }
 refine hK.out _ _ ⟨((cell_far ((by have h_ := Kd.R_ne HO_6.out BK425.out (by decide); intro e_; exact h_ (congrArg some e_))) _).trans (hHeld.1)), ((cell_far ((by have h_ := Kd.R_ne HO_6.out BK425.out (by decide); intro e_; exact h_ (congrArg some e_))) _).trans (hHeld.2.1)), ((cell_far ((by have h_ := Kd.R_ne HO_6.out BK425.out (by decide); intro e_; exact h_ (congrArg some e_))) _).trans (hHeld.2.2))⟩ (fun hHeld => ?_)
 clear hK K
 refine pL 9 80 (bs 10 12) HT_ ?_
 refine last_ (i := 10) (N := none) (bs 11 12) rfl rfl (one_of HT_.out (by kernel_rfl)) (by decide) (fun K hK => ?_)
 refine skip_ (w1 := ?_) (by rfl) rfl ?_ ?_
 rotate_left
 {
 go_simp
 rfl
 }
 refine hK.out _ _ ?_
 clear hK K
 refine pL 11 9 (bs 12 12) HT_ ?_
 refine done_ (done_of HT_.out (by kernel_rfl)) ?_
 try go_wp2
 (try simp only [← hl7_3])
 go_roundg k3
 case measure => have := HJ2.out; have := HK2.out; have := HK3.out; omega
 case rel => exact ⟨(y432), (y433), (true), (wrap64 (x38_3 + 1)), (by first | rfl | (simp; done) | (simp [*]; done)), (by first | rfl | (simp; done) | (simp [*]; done)), H', ⟨by have := HJ2.out; have := HK2.out; have := HK3.out; omega⟩, ⟨by (try simp only [hl7_2]); (try simp only [hl7_3]); (with_reducible repeat first|apply rA|apply rN|apply rD); exact Kd.R_mono (Kd.R_far (p := ⟨go19, (((rd_T70 l0_1 x38_3).f1) : Int).toNat, none⟩) (Exists.elim (Kd.R_typed HO_7.out _ rfl) fun c0_ h0_ => Exists.elim (Kd.R_typed HO_6.out _ rfl) fun c1_ h1_ => Kd.R_types HQ73.out (blk_far (p := ⟨go63, (((rd_T70 l0_1 x38_3).f1) : Int).toNat, none⟩) h0_ (blk_ne h0_ h1_ (by decide)) _) (by decide)) (fun _ hk => hk.2) (.bool true)) (fun _ hk => trivial)⟩, ⟨by (try simp only [hl7_2]); (try simp only [hl7_3]); (with_reducible repeat first|apply rA|apply rN|apply rD); exact Kd.R_mono HQ74.out (fun _ hk => trivial)⟩, ⟨by (try simp only [hl7_2]); (try simp only [hl7_3]); (with_reducible repeat first|apply kN|apply kD|apply kA); refine blk_far ?_ (by have h_ := Kd.R_ne HO_7.out BK414.out (by decide); intro e_; exact h_ (by rw [e_]; rfl)) _; (with_reducible repeat first|apply kN|apply kD|apply kA); refine blk_far ?_ (by have h_ := Kd.R_ne HO_6.out BK414.out (by decide); intro e_; exact h_ (by rw [e_]; rfl)) _; (with_reducible repeat first|apply kN|apply kD|apply kA); exact BK414.out⟩, ⟨bX HB⟩⟩
 }
 subst c40
 rw [if_pos rfl] at H
 by_cases c41 : ((rd_T70 l0_1 x38_3).f1) < (x6_3.length : Int)
 rotate_left
 {
 rw [if_neg c41] at H
 exact absurd H (by simp)
 }
 rw [if_pos c41] at H
 have c41b0 : decide (((rd_T70 l0_1 x38_3).f1) < (x6_3.length : Int)) = true := decide_eq_true c41
 clear c41
 by_cases c42 : (wrap64 ((rd x6_3 ((rd_T70 l0_1 x38_3).f0)) + ((rd_T70 l0_1 x38_3).f2))) < (rd x6_3 ((rd_T70 l0_1 x38_3).f1))
 rotate_left
 {
 rw [if_neg c42] at H
 have c42b0 : decide ((wrap64 ((rd x6_3 ((rd_T70 l0_1 x38_3).f0)) + ((rd_T70 l0_1 x38_3).f2))) < (rd x6_3 ((rd_T70 l0_1 x38_3).f1))) = false := decide_eq_false c42
 clear c42
 have H' := mK H
 clear H
 have p424 : 0 ≤ (x38_3 : Int) := of_decide_eq_true oX
 have q424 : x38_3 < (l0_1.length : Int) := of_decide_eq_true oX
 obtain ⟨ad424, e424, hx424_0, hx424_1, hx424_2⟩ := at_T70 HR0_1.out x38_3 p424 q424
 cases e424
 replace hx424_0 := (HB.out.cell (World.block_lt_of_cell? w _ hx424_0)).trans hx424_0
 replace hx424_1 := (HB.out.cell (World.block_lt_of_cell? w _ hx424_1)).trans hx424_1
 replace hx424_2 := (HB.out.cell (World.block_lt_of_cell? w _ hx424_2)).trans hx424_2
 replace p424 := eq_true p424
 replace q424 := eq_true q424
 try go_wp2_with (first | ((with_reducible refine gate_dst (N := 11) rfl ?_); refine bxE 11 #[.int .i64 0, .int .i64 0, .int .i64 0] 70 ?_; intro gb425 hg w55 hbox hb; replace HO_6 := mK (Kd.R_below (rX HO_6) hb); replace HO_7 := mK (Kd.R_below (rX HO_7) hb); have BK425 := mK hbox; have GW425 := mK (gX hg HB); have GE425 := mK (gX hg HB); replace HB := bB HB hb; have NB414_425 := mK (lX hg BK414); have NB425_414 := mK (mX hg BK414); replace BK414 := kB BK414 hb; clear hb hbox hg; have hnb56 := NB425_414.out; have hnc56 := NB414_425.out; have hcz57_0 := q0 BK425; have hcz57_1 := q1 BK425; have hcz57_2 := q2 BK425; have hfz57_0 := fX BK425 0; have hfz57_1 := fX BK425 1; have hfz57_2 := fX BK425 2))
 have n0_ : Aside0 (Kd.R (Kd.int .i64) 3 (((w55.setCell ⟨gb425, 0, none⟩ (.int .i64 ((rd_T70 l0_1 x38_3).f0))).setCell ⟨gb425, 1, none⟩ (.int .i64 ((rd_T70 l0_1 x38_3).f1))).setCell ⟨gb425, 2, none⟩ (.int .i64 ((rd_T70 l0_1 x38_3).f2))) w.heap.size (fun _ => True) v418 x6_3) := ⟨rF3 HO_6 BK425⟩
 have n1_ : Aside0 (Kd.R Kd.bool 4 (((w55.setCell ⟨gb425, 0, none⟩ (.int .i64 ((rd_T70 l0_1 x38_3).f0))).setCell ⟨gb425, 1, none⟩ (.int .i64 ((rd_T70 l0_1 x38_3).f1))).setCell ⟨gb425, 2, none⟩ (.int .i64 ((rd_T70 l0_1 x38_3).f2))) w.heap.size (fun _ => True) (.slice (some ⟨go19, 0, none⟩) x7_3.length co19) x7_3) := ⟨rF3 HO_7 BK425⟩
 have n2_ : Aside0 ((((w55.setCell ⟨gb425, 0, none⟩ (.int .i64 ((rd_T70 l0_1 x38_3).f0))).setCell ⟨gb425, 1, none⟩ (.int .i64 ((rd_T70 l0_1 x38_3).f1))).setCell ⟨gb425, 2, none⟩ (.int .i64 ((rd_T70 l0_1 x38_3).f2))).heap[gb414]? = some (.cells #[.int .i64 a0_0, .slice (some ad424) l0_1.length c0_1] 33 (0, 0))) := ⟨kF BK414 NB414_425⟩
 have n3_ : Aside0 ((((w55.setCell ⟨gb425, 0, none⟩ (.int .i64 ((rd_T70 l0_1 x38_3).f0))).setCell ⟨gb425, 1, none⟩ (.int .i64 ((rd_T70 l0_1 x38_3).f1))).setCell ⟨gb425, 2, none⟩ (.int .i64 ((rd_T70 l0_1 x38_3).f2))).heap[gb425]? = some (.cells #[.int .i64 ((rd_T70 l0_1 x38_3).f0), .int .i64 ((rd_T70 l0_1 x38_3).f1), .int .i64 ((rd_T70 l0_1 x38_3).f2)] 70 (0, 0))) := ⟨kP3 BK425⟩
 have n4_ : Aside0 (Below w.heap.size w (((w55.setCell ⟨gb425, 0, none⟩ (.int .i64 ((rd_T70 l0_1 x38_3).f0))).setCell ⟨gb425, 1, none⟩ (.int .i64 ((rd_T70 l0_1 x38_3).f1))).setCell ⟨gb425, 2, none⟩ (.int .i64 ((rd_T70 l0_1 x38_3).f2)))) := ⟨bX HB⟩
 (try clear HO_6)
 (try clear HO_7)
 (try clear BK414)
 (try clear BK425)
 (try clear HB)
 generalize (((w55.setCell ⟨gb425, 0, none⟩ (.int .i64 ((rd_T70 l0_1 x38_3).f0))).setCell ⟨gb425, 1, none⟩ (.int .i64 ((rd_T70 l0_1 x38_3).f1))).setCell ⟨gb425, 2, none⟩ (.int .i64 ((rd_T70 l0_1 x38_3).f2))) = w58 at n0_ n1_ n2_ n3_ n4_ ⊢
 have HO_6 := n0_
 have HO_7 := n1_
 have BK414 := n2_
 have BK425 := n3_
 have HB := n4_
 clear n0_ n1_ n2_ n3_ n4_
 have n0_ := mK (Kd.R_drew HO_6.out)
 have n1_ := mK (Kd.R_drew HO_7.out)
 have n2_ := mK (blk_drew BK414.out)
 have n3_ := mK (blk_drew BK425.out)
 have n4_ := mK (below_drew1 HB.out)
 clear HO_6
 clear HO_7
 clear BK414
 clear BK425
 clear HB
 have HO_6 := n0_
 have HO_7 := n1_
 have BK414 := n2_
 have BK425 := n3_
 have HB := n4_
 clear n0_ n1_ n2_ n3_ n4_
 obtain ⟨Ao60, co60, eo60⟩ := Kd.R_slice HO_6.out
 (first | subst eo60 | (injection eo60 with f1_ f2_ f3_; have f4_ := f1_.symm; have f5_ := f3_.symm; clear f1_ f2_ f3_; subst f4_; subst f5_))
 have p426 : 0 ≤ (((rd_T70 l0_1 x38_3).f0) : Int) := of_decide_eq_true oX
 have q426 : ((rd_T70 l0_1 x38_3).f0) < (x6_3.length : Int) := of_decide_eq_true oX
 obtain ⟨ad426, e426, hx426_0⟩ := Kd.at_int (Kd.R_reads' HO_6.out).2.2 ((rd_T70 l0_1 x38_3).f0) p426 q426
 cases e426
 replace p426 := eq_true p426
 replace q426 := eq_true q426
 refine start_ (n := 9) (S := fun w' => w'.cell? ⟨gb425, 0, none⟩ = some (.int .i64 ((rd_T70 l0_1 x38_3).f0)) ∧ w'.cell? ⟨gb425, 1, none⟩ = some (.int .i64 ((rd_T70 l0_1 x38_3).f1)) ∧ w'.cell? ⟨gb425, 2, none⟩ = some (.int .i64 ((rd_T70 l0_1 x38_3).f2)) ∧ w'.cell? (ad426.add (((rd_T70 l0_1 x38_3).f0)).toNat) = some (.int .i64 (rd x6_3 ((rd_T70 l0_1 x38_3).f0)))) (ds := []) (bs 0 9) (by kernel_rfl) rfl (by kernel_rfl) ⟨(blk_cell BK425.out 0).trans rfl, (blk_cell BK425.out 1).trans rfl, (blk_cell BK425.out 2).trans rfl, hx426_0⟩ (fun hHeld => ?_); refine with_tabW impl_ShortestFrom.tab11 impl_ShortestFrom.bits11 (fun HT_ HW_ => ?_)
 generalize w58.drew = w59 at HO_6 HO_7 BK414 BK425 HB hx426_0 hHeld ⊢
 refine pL 0 42 (bs 1 9) HT_ ?_
 refine pL 1 43 (bs 2 9) HT_ ?_
 refine pL 5 47 #[true, true, false, false, false, true, false, false, false] HT_ ?_
 refine tL 2 44 #[true, true, true, false, false, true, false, false, false] HT_ HW_ hHeld ?_
 refine pL 3 45 #[true, true, true, true, false, true, false, false, false] HT_ ?_
 refine tL 4 46 (bs 6 9) HT_ HW_ hHeld ?_
 refine tL 6 48 (bs 7 9) HT_ HW_ hHeld ?_
 refine pL 7 49 (bs 8 9) HT_ ?_
 refine pL 8 12 (bs 9 9) HT_ ?_
 refine done_ (done_of HT_.out (by kernel_rfl)) ?_
 have hcz61_0 := q0 BK425
 have hcz61_1 := q1 BK425
 have hcz61_2 := q2 BK425
 have hfz61_0 := fX BK425 0
 have hfz61_1 := fX BK425 1
 have hfz61_2 := fX BK425 2
 have p427 : 0 ≤ (((rd_T70 l0_1 x38_3).f0) : Int) := of_decide_eq_true oX
 have q427 : ((rd_T70 l0_1 x38_3).f0) < (x7_3.length : Int) := of_decide_eq_true oX
 obtain ⟨ad427, e427, hx427_0⟩ := Kd.at_bool (Kd.R_reads' HO_7.out).2.2 ((rd_T70 l0_1 x38_3).f0) p427 q427
 (try rw [← Nbq35.out] at hx427_0)
 (try rw [← Nbq39.out] at hx427_0)
 obtain rfl : (⟨go19, 0, none⟩ : Addr) = ad427 := (by injection e427)
 (first | simp only [add_plain] at hx427_0 | simp only [add_at] at hx427_0 | simp only [Addr.add, Nat.zero_add] at hx427_0 | skip)
 replace p427 := eq_true p427
 replace q427 := eq_true q427
 have p428 : 0 ≤ (((rd_T70 l0_1 x38_3).f1) : Int) := of_decide_eq_true oX
 have q428 : ((rd_T70 l0_1 x38_3).f1) < (x7_3.length : Int) := of_decide_eq_true oX
 obtain ⟨ad428, e428, hx428_0⟩ := Kd.at_bool (Kd.R_reads' HO_7.out).2.2 ((rd_T70 l0_1 x38_3).f1) p428 q428
 (try rw [← Nbq35.out] at hx428_0)
 (try rw [← Nbq39.out] at hx428_0)
 obtain rfl : (⟨go19, 0, none⟩ : Addr) = ad428 := (by injection e428)
 (first | simp only [add_plain] at hx428_0 | simp only [add_at] at hx428_0 | simp only [Addr.add, Nat.zero_add] at hx428_0 | skip)
 replace p428 := eq_true p428
 replace q428 := eq_true q428
 have p429 : 0 ≤ (((rd_T70 l0_1 x38_3).f1) : Int) := of_decide_eq_true oX
 have q429 : ((rd_T70 l0_1 x38_3).f1) < (x6_3.length : Int) := of_decide_eq_true oX
 obtain ⟨ad429, e429, hx429_0⟩ := Kd.at_int (Kd.R_reads' HO_6.out).2.2 ((rd_T70 l0_1 x38_3).f1) p429 q429
 obtain rfl : ad426 = ad429 := (by injection e429)
 replace p429 := eq_true p429
 replace q429 := eq_true q429
 try go_wp2
 (try simp only [← hl7_3])
 go_roundg k3
 case measure => have := HJ2.out; have := HK2.out; have := HK3.out; omega
 case rel => exact ⟨(x6_3), (x7_3), (x9_3), (wrap64 (x38_3 + 1)), (by first | rfl | (simp; done) | (simp [*]; done)), (by first | rfl | (simp; done) | (simp [*]; done)), H', ⟨by have := HJ2.out; have := HK2.out; have := HK3.out; omega⟩, ⟨by (try simp only [hl7_2]); (try simp only [hl7_3]); (with_reducible repeat first|apply rA|apply rN|apply rD); exact HO_6.out⟩, ⟨by (try simp only [hl7_2]); (try simp only [hl7_3]); (with_reducible repeat first|apply rA|apply rN|apply rD); exact HO_7.out⟩, ⟨by (try simp only [hl7_2]); (try simp only [hl7_3]); (with_reducible repeat first|apply kN|apply kD|apply kA); exact BK414.out⟩, ⟨bX HB⟩⟩
 }
 rw [if_pos c42] at H
 have c42b0 : decide ((wrap64 ((rd x6_3 ((rd_T70 l0_1 x38_3).f0)) + ((rd_T70 l0_1 x38_3).f2))) < (rd x6_3 ((rd_T70 l0_1 x38_3).f1))) = true := decide_eq_true c42
 clear c42
 obtain ⟨y430, hy430⟩ : ∃ y_ : List Int, y_ = (x6_3.set (((rd_T70 l0_1 x38_3).f1) : Int).toNat (wrap64 ((rd x6_3 ((rd_T70 l0_1 x38_3).f0)) + ((rd_T70 l0_1 x38_3).f2)))) := ⟨_, rfl⟩
 replace H : (impl_ShortestFrom.l1 k3 y430 (x7_3.set (((rd_T70 l0_1 x38_3).f1) : Int).toNat true) x8_2 true l0_1 (l0_1.length : Int) (wrap64 (x38_3 + 1)) a0_0 l0_1) = some (r1, r2) := by first | (rw [hy430]; with_reducible exact H) | (have H2_ := (Option.bind_some _ _).symm.trans H; rw [hy430]; with_reducible exact H2_) | (have H2_ := (Option.bind_some _ _).symm.trans H; with_reducible exact H2_) | with_reducible exact H | (rw [hy430]; exact H) | exact H
 have Ny430 := mK hy430
 clear hy430
 obtain ⟨y431, hy431⟩ : ∃ y_ : List Bool, y_ = (x7_3.set (((rd_T70 l0_1 x38_3).f1) : Int).toNat true) := ⟨_, rfl⟩
 replace H : (impl_ShortestFrom.l1 k3 y430 y431 x8_2 true l0_1 (l0_1.length : Int) (wrap64 (x38_3 + 1)) a0_0 l0_1) = some (r1, r2) := by first | (rw [hy431]; with_reducible exact H) | (have H2_ := (Option.bind_some _ _).symm.trans H; rw [hy431]; with_reducible exact H2_) | (have H2_ := (Option.bind_some _ _).symm.trans H; with_reducible exact H2_) | with_reducible exact H | (rw [hy431]; exact H) | exact H
 have Ny431 := mK hy431
 clear hy431
 have H' := mK H
 clear H
 have p424 : 0 ≤ (x38_3 : Int) := of_decide_eq_true oX
 have q424 : x38_3 < (l0_1.length : Int) := of_decide_eq_true oX
 obtain ⟨ad424, e424, hx424_0, hx424_1, hx424_2⟩ := at_T70 HR0_1.out x38_3 p424 q424
 cases e424
 replace hx424_0 := (HB.out.cell (World.block_lt_of_cell? w _ hx424_0)).trans hx424_0
 replace hx424_1 := (HB.out.cell (World.block_lt_of_cell? w _ hx424_1)).trans hx424_1
 replace hx424_2 := (HB.out.cell (World.block_lt_of_cell? w _ hx424_2)).trans hx424_2
 replace p424 := eq_true p424
 replace q424 := eq_true q424
 try go_wp2_with (first | ((with_reducible refine gate_dst (N := 11) rfl ?_); refine bxE 11 #[.int .i64 0, .int .i64 0, .int .i64 0] 70 ?_; intro gb425 hg w45 hbox hb; replace HO_6 := mK (Kd.R_below (rX HO_6) hb); replace HO_7 := mK (Kd.R_below (rX HO_7) hb); have BK425 := mK hbox; have GW425 := mK (gX hg HB); have GE425 := mK (gX hg HB); replace HB := bB HB hb; have NB414_425 := mK (lX hg BK414); have NB425_414 := mK (mX hg BK414); replace BK414 := kB BK414 hb; clear hb hbox hg; have hnb46 := NB425_414.out; have hnc46 := NB414_425.out; have hcz47_0 := q0 BK425; have hcz47_1 := q1 BK425; have hcz47_2 := q2 BK425; have hfz47_0 := fX BK425 0; have hfz47_1 := fX BK425 1; have hfz47_2 := fX BK425 2))
 have n0_ : Aside0 (Kd.R (Kd.int .i64) 3 (((w45.setCell ⟨gb425, 0, none⟩ (.int .i64 ((rd_T70 l0_1 x38_3).f0))).setCell ⟨gb425, 1, none⟩ (.int .i64 ((rd_T70 l0_1 x38_3).f1))).setCell ⟨gb425, 2, none⟩ (.int .i64 ((rd_T70 l0_1 x38_3).f2))) w.heap.size (fun _ => True) v418 x6_3) := ⟨rF3 HO_6 BK425⟩
 have n1_ : Aside0 (Kd.R Kd.bool 4 (((w45.setCell ⟨gb425, 0, none⟩ (.int .i64 ((rd_T70 l0_1 x38_3).f0))).setCell ⟨gb425, 1, none⟩ (.int .i64 ((rd_T70 l0_1 x38_3).f1))).setCell ⟨gb425, 2, none⟩ (.int .i64 ((rd_T70 l0_1 x38_3).f2))) w.heap.size (fun _ => True) (.slice (some ⟨go19, 0, none⟩) x7_3.length co19) x7_3) := ⟨rF3 HO_7 BK425⟩
 have n2_ : Aside0 ((((w45.setCell ⟨gb425, 0, none⟩ (.int .i64 ((rd_T70 l0_1 x38_3).f0))).setCell ⟨gb425, 1, none⟩ (.int .i64 ((rd_T70 l0_1 x38_3).f1))).setCell ⟨gb425, 2, none⟩ (.int .i64 ((rd_T70 l0_1 x38_3).f2))).heap[gb414]? = some (.cells #[.int .i64 a0_0, .slice (some ad424) l0_1.length c0_1] 33 (0, 0))) := ⟨kF BK414 NB414_425⟩
 have n3_ : Aside0 ((((w45.setCell ⟨gb425, 0, none⟩ (.int .i64 ((rd_T70 l0_1 x38_3).f0))).setCell ⟨gb425, 1, none⟩ (.int .i64 ((rd_T70 l0_1 x38_3).f1))).setCell ⟨gb425, 2, none⟩ (.int .i64 ((rd_T70 l0_1 x38_3).f2))).heap[gb425]? = some (.cells #[.int .i64 ((rd_T70 l0_1 x38_3).f0), .int .i64 ((rd_T70 l0_1 x38_3).f1), .int .i64 ((rd_T70 l0_1 x38_3).f2)] 70 (0, 0))) := ⟨kP3 BK425⟩
 have n4_ : Aside0 (Below w.heap.size w (((w45.setCell ⟨gb425, 0, none⟩ (.int .i64 ((rd_T70 l0_1 x38_3).f0))).setCell ⟨gb425, 1, none⟩ (.int .i64 ((rd_T70 l0_1 x38_3).f1))).setCell ⟨gb425, 2, none⟩ (.int .i64 ((rd_T70 l0_1 x38_3).f2)))) := ⟨bX HB⟩
 (try clear HO_6)
 (try clear HO_7)
 (try clear BK414)
 (try clear BK425)
 (try clear HB)
 generalize (((w45.setCell ⟨gb425, 0, none⟩ (.int .i64 ((rd_T70 l0_1 x38_3).f0))).setCell ⟨gb425, 1, none⟩ (.int .i64 ((rd_T70 l0_1 x38_3).f1))).setCell ⟨gb425, 2, none⟩ (.int .i64 ((rd_T70 l0_1 x38_3).f2))) = w48 at n0_ n1_ n2_ n3_ n4_ ⊢
 have HO_6 := n0_
 have HO_7 := n1_
 have BK414 := n2_
 have BK425 := n3_
 have HB := n4_
 clear n0_ n1_ n2_ n3_ n4_
 have n0_ := mK (Kd.R_drew HO_6.out)
 have n1_ := mK (Kd.R_drew HO_7.out)
 have n2_ := mK (blk_drew BK414.out)
 have n3_ := mK (blk_drew BK425.out)
 have n4_ := mK (below_drew1 HB.out)
 clear HO_6
 clear HO_7
 clear BK414
 clear BK425
 clear HB
 have HO_6 := n0_
 have HO_7 := n1_
 have BK414 := n2_
 have BK425 := n3_
 have HB := n4_
 clear n0_ n1_ n2_ n3_ n4_
 obtain ⟨Ao50, co50, eo50⟩ := Kd.R_slice HO_6.out
 (first | subst eo50 | (injection eo50 with f1_ f2_ f3_; have f4_ := f1_.symm; have f5_ := f3_.symm; clear f1_ f2_ f3_; subst f4_; subst f5_))
 have p426 : 0 ≤ (((rd_T70 l0_1 x38_3).f0) : Int) := of_decide_eq_true oX
 have q426 : ((rd_T70 l0_1 x38_3).f0) < (x6_3.length : Int) := of_decide_eq_true oX
 obtain ⟨ad426, e426, hx426_0⟩ := Kd.at_int (Kd.R_reads' HO_6.out).2.2 ((rd_T70 l0_1 x38_3).f0) p426 q426
 cases e426
 replace p426 := eq_true p426
 replace q426 := eq_true q426
 refine start_ (n := 9) (S := fun w' => w'.cell? ⟨gb425, 0, none⟩ = some (.int .i64 ((rd_T70 l0_1 x38_3).f0)) ∧ w'.cell? ⟨gb425, 1, none⟩ = some (.int .i64 ((rd_T70 l0_1 x38_3).f1)) ∧ w'.cell? ⟨gb425, 2, none⟩ = some (.int .i64 ((rd_T70 l0_1 x38_3).f2)) ∧ w'.cell? (ad426.add (((rd_T70 l0_1 x38_3).f0)).toNat) = some (.int .i64 (rd x6_3 ((rd_T70 l0_1 x38_3).f0)))) (ds := []) (bs 0 9) (by kernel_rfl) rfl (by kernel_rfl) ⟨(blk_cell BK425.out 0).trans rfl, (blk_cell BK425.out 1).trans rfl, (blk_cell BK425.out 2).trans rfl, hx426_0⟩ (fun hHeld => ?_); refine with_tabW impl_ShortestFrom.tab11 impl_ShortestFrom.bits11 (fun HT_ HW_ => ?_)
 generalize w48.drew = w49 at HO_6 HO_7 BK414 BK425 HB hx426_0 hHeld ⊢
 refine pL 0 42 (bs 1 9) HT_ ?_
 refine pL 1 43 (bs 2 9) HT_ ?_
 refine pL 5 47 #[true, true, false, false, false, true, false, false, false] HT_ ?_
 refine tL 2 44 #[true, true, true, false, false, true, false, false, false] HT_ HW_ hHeld ?_
 refine pL 3 45 #[true, true, true, true, false, true, false, false, false] HT_ ?_
 refine tL 4 46 (bs 6 9) HT_ HW_ hHeld ?_
 refine tL 6 48 (bs 7 9) HT_ HW_ hHeld ?_
 refine pL 7 49 (bs 8 9) HT_ ?_
 refine pL 8 12 (bs 9 9) HT_ ?_
 refine done_ (done_of HT_.out (by kernel_rfl)) ?_
 have hcz51_0 := q0 BK425
 have hcz51_1 := q1 BK425
 have hcz51_2 := q2 BK425
 have hfz51_0 := fX BK425 0
 have hfz51_1 := fX BK425 1
 have hfz51_2 := fX BK425 2
 have p427 : 0 ≤ (((rd_T70 l0_1 x38_3).f0) : Int) := of_decide_eq_true oX
 have q427 : ((rd_T70 l0_1 x38_3).f0) < (x7_3.length : Int) := of_decide_eq_true oX
 obtain ⟨ad427, e427, hx427_0⟩ := Kd.at_bool (Kd.R_reads' HO_7.out).2.2 ((rd_T70 l0_1 x38_3).f0) p427 q427
 (try rw [← Nbq35.out] at hx427_0)
 (try rw [← Nbq39.out] at hx427_0)
 obtain rfl : (⟨go19, 0, none⟩ : Addr) = ad427 := (by injection e427)
 (first | simp only [add_plain] at hx427_0 | simp only [add_at] at hx427_0 | simp only [Addr.add, Nat.zero_add] at hx427_0 | skip)
 replace p427 := eq_true p427
 replace q427 := eq_true q427
 have p428 : 0 ≤ (((rd_T70 l0_1 x38_3).f1) : Int) := of_decide_eq_true oX
 have q428 : ((rd_T70 l0_1 x38_3).f1) < (x7_3.length : Int) := of_decide_eq_true oX
 obtain ⟨ad428, e428, hx428_0⟩ := Kd.at_bool (Kd.R_reads' HO_7.out).2.2 ((rd_T70 l0_1 x38_3).f1) p428 q428
 (try rw [← Nbq35.out] at hx428_0)
 (try rw [← Nbq39.out] at hx428_0)
 obtain rfl : (⟨go19, 0, none⟩ : Addr) = ad428 := (by injection e428)
 (first | simp only [add_plain] at hx428_0 | simp only [add_at] at hx428_0 | simp only [Addr.add, Nat.zero_add] at hx428_0 | skip)
 replace p428 := eq_true p428
 replace q428 := eq_true q428
 have p429 : 0 ≤ (((rd_T70 l0_1 x38_3).f1) : Int) := of_decide_eq_true oX
 have q429 : ((rd_T70 l0_1 x38_3).f1) < (x6_3.length : Int) := of_decide_eq_true oX
 obtain ⟨ad429, e429, hx429_0⟩ := Kd.at_int (Kd.R_reads' HO_6.out).2.2 ((rd_T70 l0_1 x38_3).f1) p429 q429
 obtain rfl : ad426 = ad429 := (by injection e429)
 replace p429 := eq_true p429
 replace q429 := eq_true q429
 try go_wp2
 have n0_ := mK (Kd.R_drew HO_6.out)
 have n1_ := mK (Kd.R_drew HO_7.out)
 have n2_ := mK (blk_drew BK414.out)
 have n3_ := mK (blk_drew BK425.out)
 have n4_ := mK (below_drew1 HB.out)
 clear HO_6
 clear HO_7
 clear BK414
 clear BK425
 clear HB
 have HO_6 := n0_
 have HO_7 := n1_
 have BK414 := n2_
 have BK425 := n3_
 have HB := n4_
 clear n0_ n1_ n2_ n3_ n4_
 have p43 : 0 ≤ (((rd_T70 l0_1 x38_3).f1) : Int) := of_decide_eq_true oX
 have q43 : (((rd_T70 l0_1 x38_3).f1) : Int) < ((x6_3.length : Int) : Int) := of_decide_eq_true oX
 obtain ⟨go43, co43, eo43, gb43, gl43, cl43, HG43⟩ := Kd.R_form HO_6.out (by omega)
 (first | cases eo43 | (injection eo43 with ea_ en_ ec_; (first | subst ea_ | (injection ea_ with ea_; subst ea_)); subst ec_; clear en_))
 have GB43 := mK gb43
 have GG43 := mK HG43
 clear gb43 gl43 HG43
 (first | simp only [add_plain] at hx426_0 | skip)
 (first | simp only [add_plain] at hx429_0 | skip)
 obtain ⟨hx43_0, hf43_0⟩ := Kd.R_celln 0 HO_6.out (((rd_T70 l0_1 x38_3).f1) : Int) p43 q43
 replace p43 := eq_true p43
 replace q43 := eq_true q43
 have HP53 := Kd.R_putn HO_6.out (((rd_T70 l0_1 x38_3).f1) : Int) (wrap64 ((rd x6_3 ((rd_T70 l0_1 x38_3).f0)) + ((rd_T70 l0_1 x38_3).f2)))
 rw [← Ny430.out] at HP53
 have HQ53 := mK HP53
 clear HP53
 have p44 : 0 ≤ (((rd_T70 l0_1 x38_3).f1) : Int) := of_decide_eq_true oX
 have q44 : (((rd_T70 l0_1 x38_3).f1) : Int) < ((x7_3.length : Int) : Int) := of_decide_eq_true oX
 obtain ⟨hx44_0, hf44_0⟩ := Kd.R_celln false (Kd.R_far (p := ⟨go43, (((rd_T70 l0_1 x38_3).f1) : Int).toNat, none⟩) (Kd.R_types HO_7.out GG43.out (by decide)) (fun _ hk => hk.2) (.int .i64 (wrap64 ((rd x6_3 ((rd_T70 l0_1 x38_3).f0)) + ((rd_T70 l0_1 x38_3).f2))))) (((rd_T70 l0_1 x38_3).f1) : Int) p44 q44
 replace p44 := eq_true p44
 replace q44 := eq_true q44
 have HP54 := Kd.R_putn (Kd.R_far (p := ⟨go43, (((rd_T70 l0_1 x38_3).f1) : Int).toNat, none⟩) (Kd.R_types HO_7.out GG43.out (by decide)) (fun _ hk => hk.2) (.int .i64 (wrap64 ((rd x6_3 ((rd_T70 l0_1 x38_3).f0)) + ((rd_T70 l0_1 x38_3).f2))))) (((rd_T70 l0_1 x38_3).f1) : Int) true
 rw [← Ny431.out] at HP54
 have HQ54 := mK HP54
 clear HP54
 refine start_ (n := 12) (S := fun w' => w'.cell? ⟨gb425, 0, none⟩ = some (.int .i64 ((rd_T70 l0_1 x38_3).f0)) ∧ w'.cell? ⟨gb425, 1, none⟩ = some (.int .i64 ((rd_T70 l0_1 x38_3).f1)) ∧ w'.cell? ⟨gb425, 2, none⟩ = some (.int .i64 ((rd_T70 l0_1 x38_3).f2))) (ds := [10]) (bs 0 12) (by kernel_rfl) rfl (by kernel_rfl) ⟨(blk_cell BK425.out 0).trans rfl, (blk_cell BK425.out 1).trans rfl, (blk_cell BK425.out 2).trans rfl⟩ (fun hHeld => ?_); refine with_tabW impl_ShortestFrom.tab13 impl_ShortestFrom.bits13 (fun HT_ HW_ => ?_)
 first | generalize w49.drew = w52 at HO_6 HO_7 BK414 BK425 HB GG43 HQ53 HQ54 hf43_0 hf44_0 hx426_0 hx429_0 hx43_0 hx44_0 hHeld ⊢ | generalize w49.drew = w52 at HO_6 HO_7 BK414 BK425 HB GG43 HQ53 HQ54 hf43_0 hf44_0 hx43_0 hx44_0 hHeld ⊢
 refine pL 0 72 (bs 1 12) HT_ ?_
 refine pL 1 73 (bs 2 12) HT_ ?_
 refine pL 3 75 #[true, true, false, true, false, false, false, false, false, false, false, false] HT_ ?_
 refine pL 4 76 #[true, true, false, true, true, false, false, false, false, false, false, false] HT_ ?_
 refine pL 6 78 #[true, true, false, true, true, false, true, false, false, false, false, false] HT_ ?_
 refine tL 2 74 #[true, true, true, true, true, false, true, false, false, false, false, false] HT_ HW_ hHeld ?_
 refine pL 7 79 #[true, true, true, true, true, false, true, true, false, false, false, false] HT_ ?_
 refine tL 5 77 (bs 8 12) HT_ HW_ hHeld ?_
 refine one_ (i := 8) (N := none) (bs 9 12) rfl rfl (one_of HT_.out (by kernel_rfl)) (by decide) (fun K hK => ?_)
 refine skip_ (w1 := ?_) (by rfl) rfl ?_ ?_
 rotate_left
 {
 go_simp
 rfl
 }
 refine hK.out _ _ ⟨((cell_far ((by have h_ := Kd.R_ne HO_6.out BK425.out (by decide); intro e_; exact h_ (congrArg some e_))) _).trans (hHeld.1)), ((cell_far ((by have h_ := Kd.R_ne HO_6.out BK425.out (by decide); intro e_; exact h_ (congrArg some e_))) _).trans (hHeld.2.1)), ((cell_far ((by have h_ := Kd.R_ne HO_6.out BK425.out (by decide); intro e_; exact h_ (congrArg some e_))) _).trans (hHeld.2.2))⟩ (fun hHeld => ?_)
 clear hK K
 refine pL 9 80 (bs 10 12) HT_ ?_
 refine last_ (i := 10) (N := none) (bs 11 12) rfl rfl (one_of HT_.out (by kernel_rfl)) (by decide) (fun K hK => ?_)
 refine skip_ (w1 := ?_) (by rfl) rfl ?_ ?_
 rotate_left
 {
 go_simp
 rfl
 }
 refine hK.out _ _ ?_
 clear hK K
 refine pL 11 9 (bs 12 12) HT_ ?_
 refine done_ (done_of HT_.out (by kernel_rfl)) ?_
 try go_wp2
 (try simp only [← hl7_3])
 go_roundg k3
 case measure => have := HJ2.out; have := HK2.out; have := HK3.out; omega
 case rel => exact ⟨(y430), (y431), (true), (wrap64 (x38_3 + 1)), (by first | rfl | (simp; done) | (simp [*]; done)), (by first | rfl | (simp; done) | (simp [*]; done)), H', ⟨by have := HJ2.out; have := HK2.out; have := HK3.out; omega⟩, ⟨by (try simp only [hl7_2]); (try simp only [hl7_3]); (with_reducible repeat first|apply rA|apply rN|apply rD); exact Kd.R_mono (Kd.R_far (p := ⟨go19, (((rd_T70 l0_1 x38_3).f1) : Int).toNat, none⟩) (Exists.elim (Kd.R_typed HO_7.out _ rfl) fun c0_ h0_ => Exists.elim (Kd.R_typed HO_6.out _ rfl) fun c1_ h1_ => Kd.R_types HQ53.out (blk_far (p := ⟨go43, (((rd_T70 l0_1 x38_3).f1) : Int).toNat, none⟩) h0_ (blk_ne h0_ h1_ (by decide)) _) (by decide)) (fun _ hk => hk.2) (.bool true)) (fun _ hk => trivial)⟩, ⟨by (try simp only [hl7_2]); (try simp only [hl7_3]); (with_reducible repeat first|apply rA|apply rN|apply rD); exact Kd.R_mono HQ54.out (fun _ hk => trivial)⟩, ⟨by (try simp only [hl7_2]); (try simp only [hl7_3]); (with_reducible repeat first|apply kN|apply kD|apply kA); refine blk_far ?_ (by have h_ := Kd.R_ne HO_7.out BK414.out (by decide); intro e_; exact h_ (by rw [e_]; rfl)) _; (with_reducible repeat first|apply kN|apply kD|apply kA); refine blk_far ?_ (by have h_ := Kd.R_ne HO_6.out BK414.out (by decide); intro e_; exact h_ (by rw [e_]; rfl)) _; (with_reducible repeat first|apply kN|apply kD|apply kA); exact BK414.out⟩, ⟨bX HB⟩⟩
 )
 )
 )
 )
 )
 )

end Go.Proofs.Ytbbblnmngjhadaa.QFnExactLatestTimes
