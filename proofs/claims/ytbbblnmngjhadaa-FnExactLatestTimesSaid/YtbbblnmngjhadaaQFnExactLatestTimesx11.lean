-- Written by this session's program wip/tools/mk.py out of the translation; Lean checks it.
import Derived.Test.YtbbblnmngjhadaaQFnExactLatestTimesx0
import Derived.Test.YtbbblnmngjhadaaQFnExactLatestTimesx9
import Derived.Test.YtbbblnmngjhadaaQFnExactLatestTimesx10
namespace Go.Proofs.Ytbbblnmngjhadaa.QFnExactLatestTimes
open Go.RowKit Go.Proofs.YtbbblnmngjhadaaW.PrintWords Go.Proofs.YtbbblnmngjhadaaW.PrintLast Go.Proofs.YtbbblnmngjhadaaW.PrintMore
attribute [local go_sem] max2_int min2_int max_two min_two max_three min_three max_four min_four   -- for this text's walks alone
set_option linter.unusedVariables false
set_option linter.unusedSimpArgs false

/-! ### impl_NegativeCycle: function 38 -/
mutual
def impl_NegativeCycle.l0 : Nat → List Int → List Int → Int → Int → Int → List (S70) → Option (List Int)
  | 0, _, _, _, _, _, _ => none
  | k + 1, x3, x4, x5, x6, x347000, x347001 => if x6 < x347000 then (impl_NegativeCycle.l1 k x3 x4 (-1) x6 x347001 (x347001.length : Int) 0 x347000 x347001) else (if x5 < 0 then (some ([] : List Int)) else (if 0 ≤ x5 then (if x5 < (x347001.length : Int) then (impl_NegativeCycle.l2 k x4 ((rd_T70 x347001 x5).f1) 0 x347000 x347001) else (none)) else (none)))
def impl_NegativeCycle.l1 : Nat → List Int → List Int → Int → Int → List (S70) → Int → Int → Int → List (S70) → Option (List Int)
  | 0, _, _, _, _, _, _, _, _, _ => none
  | k + 1, x3, x4, x5, x6, x31, x32, x33, x347000, x347001 => if x33 < x32 then (if 0 ≤ x33 then (if x33 < (x31.length : Int) then (if 0 ≤ ((rd_T70 x31 x33).f0) then (if ((rd_T70 x31 x33).f0) < (x3.length : Int) then (if 0 ≤ ((rd_T70 x31 x33).f1) then (if ((rd_T70 x31 x33).f1) < (x3.length : Int) then (if (wrap64 ((rd x3 ((rd_T70 x31 x33).f0)) + ((rd_T70 x31 x33).f2))) < (rd x3 ((rd_T70 x31 x33).f1)) then (if ((rd_T70 x31 x33).f1) < (x4.length : Int) then (impl_NegativeCycle.l1 k (x3.set (((rd_T70 x31 x33).f1) : Int).toNat (wrap64 ((rd x3 ((rd_T70 x31 x33).f0)) + ((rd_T70 x31 x33).f2)))) (x4.set (((rd_T70 x31 x33).f1) : Int).toNat x33) x33 x6 x31 x32 (wrap64 (x33 + 1)) x347000 x347001) else (none)) else (impl_NegativeCycle.l1 k x3 x4 x5 x6 x31 x32 (wrap64 (x33 + 1)) x347000 x347001)) else (none)) else (none)) else (none)) else (none)) else (none)) else (none)) else (impl_NegativeCycle.l0 k x3 x4 x5 (wrap64 (x6 + 1)) x347000 x347001)
def impl_NegativeCycle.l2 : Nat → List Int → Int → Int → Int → List (S70) → Option (List Int)
  | 0, _, _, _, _, _ => none
  | k + 1, x4, x10, x11, x347000, x347001 => if x11 < x347000 then (if 0 ≤ x10 then (if x10 < (x4.length : Int) then (if 0 ≤ (rd x4 x10) then (if (rd x4 x10) < (x347001.length : Int) then (impl_NegativeCycle.l2 k x4 ((rd_T70 x347001 (rd x4 x10)).f0) (wrap64 (x11 + 1)) x347000 x347001) else (none)) else (none)) else (none)) else (none)) else (impl_NegativeCycle.l3 k x4 x10 ([] : List Int) x10 x347000 x347001)
def impl_NegativeCycle.l3 : Nat → List Int → Int → List Int → Int → Int → List (S70) → Option (List Int)
  | 0, _, _, _, _, _, _ => none
  | k + 1, x4, x10, x12, x13, x347000, x347001 => if (x12.length : Int) = 0 then (if 0 ≤ x13 then (if x13 < (x4.length : Int) then (if x12.length < 17592186044416 then (if 0 ≤ (rd x4 x13) then (if (rd x4 x13) < (x347001.length : Int) then (impl_NegativeCycle.l3 k x4 x10 (x12 ++ [rd x4 x13]) ((rd_T70 x347001 (rd x4 x13)).f0) x347000 x347001) else (none)) else (none)) else (none)) else (none)) else (none)) else (if x13 = x10 then ((slices_Reverse_int_int.f k x12).bind fun t372 => (some t372)) else (if 0 ≤ x13 then (if x13 < (x4.length : Int) then (if x12.length < 17592186044416 then (if 0 ≤ (rd x4 x13) then (if (rd x4 x13) < (x347001.length : Int) then (impl_NegativeCycle.l3 k x4 x10 (x12 ++ [rd x4 x13]) ((rd_T70 x347001 (rd x4 x13)).f0) x347000 x347001) else (none)) else (none)) else (none)) else (none)) else (none)))
end
def impl_NegativeCycle.f (k : Nat) (a0_0 : Int) (l0_1 : List (S70)) : Option (List Int) := (impl_GraphOk.f a0_0 l0_1).bind fun t347 => (if t347 = true then (if 0 ≤ a0_0 then (if (a0_0 : Int).toNat ≤ 35184372088832 then ((slices_Repeat_int_int.f (([(-1)] : List Int)) a0_0).bind fun t354 => (impl_NegativeCycle.l0 k (List.replicate (a0_0 : Int).toNat 0) t354 (-1) 0 a0_0 l0_1)) else (none)) else (none)) else (some ([] : List Int)))
theorem impl_NegativeCycle.mono_l : ∀ k, (∀ y0 y1 y2 y3 y4 y5, LeO (impl_NegativeCycle.l0 k y0 y1 y2 y3 y4 y5) (impl_NegativeCycle.l0 (k + 1) y0 y1 y2 y3 y4 y5)) ∧ (∀ y0 y1 y2 y3 y4 y5 y6 y7 y8, LeO (impl_NegativeCycle.l1 k y0 y1 y2 y3 y4 y5 y6 y7 y8) (impl_NegativeCycle.l1 (k + 1) y0 y1 y2 y3 y4 y5 y6 y7 y8)) ∧ (∀ y0 y1 y2 y3 y4, LeO (impl_NegativeCycle.l2 k y0 y1 y2 y3 y4) (impl_NegativeCycle.l2 (k + 1) y0 y1 y2 y3 y4)) ∧ (∀ y0 y1 y2 y3 y4 y5, LeO (impl_NegativeCycle.l3 k y0 y1 y2 y3 y4 y5) (impl_NegativeCycle.l3 (k + 1) y0 y1 y2 y3 y4 y5))
  | 0 => ⟨fun _ _ _ _ _ _ r h => by simp [impl_NegativeCycle.l0] at h, fun _ _ _ _ _ _ _ _ _ r h => by simp [impl_NegativeCycle.l1] at h, fun _ _ _ _ _ r h => by simp [impl_NegativeCycle.l2] at h, fun _ _ _ _ _ _ r h => by simp [impl_NegativeCycle.l3] at h⟩
  | k + 1 => by
    obtain ⟨ih0, ih1, ih2, ih3⟩ := impl_NegativeCycle.mono_l k
    refine ⟨?_, ?_, ?_, ?_⟩
    · intro y0 y1 y2 y3 y4 y5
      unfold impl_NegativeCycle.l0
      repeat' first|(with_reducible first|exact ih0 _ _ _ _ _ _|exact ih1 _ _ _ _ _ _ _ _ _|exact ih2 _ _ _ _ _|exact ih3 _ _ _ _ _ _|exact slices_Reverse_int_int.mono _ _|exact lR _|exact lN _|refine lI ?_ ?_|refine lB ?_ (fun _ => ?_))|exact ih0 _ _ _ _ _ _|exact ih1 _ _ _ _ _ _ _ _ _|exact ih2 _ _ _ _ _|exact ih3 _ _ _ _ _ _|exact slices_Reverse_int_int.mono _ _|exact lN _|refine lI ?_ ?_|refine lB ?_ (fun _ => ?_)
    · intro y0 y1 y2 y3 y4 y5 y6 y7 y8
      unfold impl_NegativeCycle.l1
      repeat' first|(with_reducible first|exact ih0 _ _ _ _ _ _|exact ih1 _ _ _ _ _ _ _ _ _|exact ih2 _ _ _ _ _|exact ih3 _ _ _ _ _ _|exact slices_Reverse_int_int.mono _ _|exact lR _|exact lN _|refine lI ?_ ?_|refine lB ?_ (fun _ => ?_))|exact ih0 _ _ _ _ _ _|exact ih1 _ _ _ _ _ _ _ _ _|exact ih2 _ _ _ _ _|exact ih3 _ _ _ _ _ _|exact slices_Reverse_int_int.mono _ _|exact lN _|refine lI ?_ ?_|refine lB ?_ (fun _ => ?_)
    · intro y0 y1 y2 y3 y4
      unfold impl_NegativeCycle.l2
      repeat' first|(with_reducible first|exact ih0 _ _ _ _ _ _|exact ih1 _ _ _ _ _ _ _ _ _|exact ih2 _ _ _ _ _|exact ih3 _ _ _ _ _ _|exact slices_Reverse_int_int.mono _ _|exact lR _|exact lN _|refine lI ?_ ?_|refine lB ?_ (fun _ => ?_))|exact ih0 _ _ _ _ _ _|exact ih1 _ _ _ _ _ _ _ _ _|exact ih2 _ _ _ _ _|exact ih3 _ _ _ _ _ _|exact slices_Reverse_int_int.mono _ _|exact lN _|refine lI ?_ ?_|refine lB ?_ (fun _ => ?_)
    · intro y0 y1 y2 y3 y4 y5
      unfold impl_NegativeCycle.l3
      repeat' first|(with_reducible first|exact ih0 _ _ _ _ _ _|exact ih1 _ _ _ _ _ _ _ _ _|exact ih2 _ _ _ _ _|exact ih3 _ _ _ _ _ _|exact slices_Reverse_int_int.mono _ _|exact lR _|exact lN _|refine lI ?_ ?_|refine lB ?_ (fun _ => ?_))|exact ih0 _ _ _ _ _ _|exact ih1 _ _ _ _ _ _ _ _ _|exact ih2 _ _ _ _ _|exact ih3 _ _ _ _ _ _|exact slices_Reverse_int_int.mono _ _|exact lN _|refine lI ?_ ?_|refine lB ?_ (fun _ => ?_)
theorem impl_NegativeCycle.mono : ∀ a0 a1 k, LeO (impl_NegativeCycle.f k a0 a1) (impl_NegativeCycle.f (k + 1) a0 a1) := by
  intro a0 a1 k
  obtain ⟨ih0, ih1, ih2, ih3⟩ := impl_NegativeCycle.mono_l k
  unfold impl_NegativeCycle.f
  repeat' first|(with_reducible first|exact ih0 _ _ _ _ _ _|exact ih1 _ _ _ _ _ _ _ _ _|exact ih2 _ _ _ _ _|exact ih3 _ _ _ _ _ _|exact slices_Reverse_int_int.mono _ _|exact lR _|exact lN _|refine lI ?_ ?_|refine lB ?_ (fun _ => ?_))|exact ih0 _ _ _ _ _ _|exact ih1 _ _ _ _ _ _ _ _ _|exact ih2 _ _ _ _ _|exact ih3 _ _ _ _ _ _|exact slices_Reverse_int_int.mono _ _|exact lN _|refine lI ?_ ?_|refine lB ?_ (fun _ => ?_)
def impl_NegativeCycle.T3 : Bool × List (List Nat × List Nat) := (true, [([], []), ([0], [0]), ([1, 1], [1]), ([], []), ([], []), ([4], [4]), ([3, 5], [3, 5]), ([2, 6, 0, 1, 2], [2]), ([6, 7, 0, 1, 2, 3, 4, 5, 6, 7], [6])])
def impl_NegativeCycle.B3 : List Nat := [0, 1, 3, 0, 0, 16, 56, 127, 255]
theorem impl_NegativeCycle.tab3 : rtab .any (opsOf Try.f38 3) = impl_NegativeCycle.T3 := by kernel_rfl
theorem impl_NegativeCycle.bits3 : waitsOk impl_NegativeCycle.T3.2 impl_NegativeCycle.B3 = true := by kernel_rfl
def impl_NegativeCycle.T12 : Bool × List (List Nat × List Nat) := (true, [([], []), ([], []), ([1], [1]), ([0, 2], [0, 2]), ([3], [3]), ([], []), ([5], [5]), ([4, 6], [4, 6]), ([7, 0, 1, 2, 3, 4, 5, 6, 7], [7])])
def impl_NegativeCycle.B12 : List Nat := [0, 0, 2, 7, 15, 0, 32, 127, 255]
theorem impl_NegativeCycle.tab12 : rtab .any (opsOf Try.f38 12) = impl_NegativeCycle.T12 := by kernel_rfl
theorem impl_NegativeCycle.bits12 : waitsOk impl_NegativeCycle.T12.2 impl_NegativeCycle.B12 = true := by kernel_rfl
def impl_NegativeCycle.T14 : Bool × List (List Nat × List Nat) := (true, [([], []), ([], []), ([1], [1]), ([], []), ([], []), ([4], [4]), ([], []), ([], []), ([], []), ([0, 2, 0, 1, 2, 6], [0, 2]), ([9, 6, 0, 1, 2, 6], [6, 9]), ([3, 5, 0, 1, 2, 3, 4, 5, 6, 7, 9, 10], [3, 5]), ([11, 7, 10, 0, 1, 2, 3, 4, 5, 6, 7, 9, 10], [7, 11]), ([8, 12, 0, 1, 2, 3, 4, 5, 6, 7, 8, 9, 10, 11, 12], [8])])
def impl_NegativeCycle.B14 : List Nat := [0, 0, 2, 0, 0, 16, 0, 0, 0, 71, 583, 1791, 3839, 8191]
theorem impl_NegativeCycle.tab14 : rtab .any (opsOf Try.f38 14) = impl_NegativeCycle.T14 := by kernel_rfl
theorem impl_NegativeCycle.bits14 : waitsOk impl_NegativeCycle.T14.2 impl_NegativeCycle.B14 = true := by kernel_rfl
def impl_NegativeCycle.T22 : Bool × List (List Nat × List Nat) := (true, [([], []), ([0], [0]), ([], []), ([], []), ([2, 3], [2, 3]), ([4], [4]), ([1, 5], [1, 5]), ([6], [6]), ([7], [7]), ([8, 0, 1, 2, 3, 4, 5, 6, 7, 8], [3, 8])])
def impl_NegativeCycle.B22 : List Nat := [0, 1, 0, 0, 12, 28, 63, 127, 255, 511]
theorem impl_NegativeCycle.tab22 : rtab .any (opsOf Try.f38 22) = impl_NegativeCycle.T22 := by kernel_rfl
theorem impl_NegativeCycle.bits22 : waitsOk impl_NegativeCycle.T22.2 impl_NegativeCycle.B22 = true := by kernel_rfl
def impl_NegativeCycle.T26 : Bool × List (List Nat × List Nat) := (true, [([], []), ([0], [0]), ([], []), ([], []), ([2, 3], [2, 3]), ([4], [4]), ([1, 5], [1, 5]), ([6], [6]), ([7], [7]), ([8, 0, 1, 2, 3, 4, 5, 6, 7, 8], [3, 8])])
def impl_NegativeCycle.B26 : List Nat := [0, 1, 0, 0, 12, 28, 63, 127, 255, 511]
theorem impl_NegativeCycle.tab26 : rtab .any (opsOf Try.f38 26) = impl_NegativeCycle.T26 := by kernel_rfl
theorem impl_NegativeCycle.bits26 : waitsOk impl_NegativeCycle.T26.2 impl_NegativeCycle.B26 = true := by kernel_rfl
theorem rev_len : ∀ (k : Nat) (x : List Int) (a b : Int) (r : List Int), slices_Reverse_int_int.l0 k x a b = some r → r.length = x.length
  | 0, _, _, _, _, h => by simp [slices_Reverse_int_int.l0] at h
  | k + 1, x, a, b, r, h => by
    rw [slices_Reverse_int_int.l0] at h
    repeat' split at h
    all_goals first | (rw [Option.some.inj h]; done) | (have := rev_len k _ _ _ _ h; simpa using this) | (simp at h; done)
theorem rev_ne {k : Nat} {x r : List Int} (h : Aside0 (slices_Reverse_int_int.f k x = some r)) (hx : ¬ (x = [])) : ¬ (r = []) := by
  intro e
  have := rev_len k x _ _ r h.out
  rw [e] at this
  exact hx (List.eq_nil_of_length_eq_zero this.symm)
set_option maxHeartbeats 8000000 in
set_option maxRecDepth 100000 in
theorem impl_NegativeCycle.calls_nil (k : Nat) (a0_0 : Int) (A0_1 : Option Addr) (c0_1 : Nat) (l0_1 : List (S70)) (r : List Int) (w : World) (hr0_1 : Kd.C k70 w A0_1 l0_1.length l0_1) (hc0_1 : l0_1.length ≤ c0_1) (h : impl_NegativeCycle.f k a0_0 l0_1 = some r) :
    Calls Try.prog 38 #[.agg #[.int .i64 a0_0, .slice A0_1 l0_1.length c0_1]] w fun e w' => ∃ v0_ : Value, e = .returned (v0_) ∧ (Kd.R (Kd.int .i64) 3 w' w.heap.size (fun _ => True) v0_ r ∧ (r = [] → v0_ = .slice none 0 0)) ∧ Below w.heap.size w w' := by
 have hu33 := Try.underlying33
 have hu70 := Try.underlying70
 have HR0_1 := mK hr0_1
 have HC0_1 := mK hc0_1
 clear hr0_1 hc0_1
 have HB := mK (Below.refl w.heap.size w)
 have H : ((impl_GraphOk.f a0_0 l0_1).bind fun t347 => (if t347 = true then (if 0 ≤ a0_0 then (if (a0_0 : Int).toNat ≤ 35184372088832 then ((slices_Repeat_int_int.f (([(-1)] : List Int)) a0_0).bind fun t354 => (impl_NegativeCycle.l0 k (List.replicate (a0_0 : Int).toNat 0) t354 (-1) 0 a0_0 l0_1)) else (none)) else (none)) else (some ([] : List Int)))) = some r := h
 clear h
 replace H := Option.bind_eq_some_iff.mp H
 obtain ⟨t347, A20, H⟩ := H
 replace H : (if t347 = true then (if 0 ≤ a0_0 then (if (a0_0 : Int).toNat ≤ 35184372088832 then ((slices_Repeat_int_int.f (([(-1)] : List Int)) a0_0).bind fun t354 => (impl_NegativeCycle.l0 k (List.replicate (a0_0 : Int).toNat 0) t354 (-1) 0 a0_0 l0_1)) else (none)) else (none)) else (some ([] : List Int))) = some r := H
 have A2 := mK A20
 clear A20
 by_cases c3 : t347 = true
 rotate_left
 {
 replace c3 := Bool.eq_false_iff.mpr c3
 subst c3
 rw [if_neg (show ¬ (false = true) by decide)] at H
 obtain rfl := Option.some.inj H
 go_enter Try.func38, Try.ntmps38
 go_wp2_with (first | ((with_reducible refine gate_dst (N := 1) rfl ?_); refine bxE 1 #[.int .i64 a0_0, .slice A0_1 l0_1.length c0_1] 33 ?_; intro gb346 hg w85 hbox hb; have BK346 := mK hbox; have GW346 := mK (gX hg HB); have GE346 := mK (gX hg HB); replace HB := bB HB hb; clear hb hbox hg; have hcz86_0 := q0 BK346; have hcz86_1 := q1 BK346; have hfz86_0 := fX BK346 0; have hfz86_1 := fX BK346 1) | ((with_reducible refine gate_callee (f := 41) rfl ?_); refine gsE (some 15) Try.func41 #[.agg #[.int .i64 a0_0, .slice A0_1 l0_1.length c0_1]] ?_; (with_reducible refine (impl_GraphOk.calls a0_0 _ _ l0_1 false _ ?side1 ?side2 A2.out).mono ?_); (case side1 => exact cX HR0_1 HB); (case side2 => exact HC0_1.out); rintro e w87 ⟨rfl, hb⟩; refine ⟨_, rfl, ?_⟩; replace BK346 := kB BK346 hb; replace HB := bB HB hb; (try clear hb); (try clear hb2); (try clear hk); (try clear hi)))
 go_ret
 exact ⟨_, by first | rfl | (simp [errW_none, errW_some] <;> rfl) | (simp [*, errW_none, errW_some] <;> rfl), ⟨by first | exact Kd.R_nil _ _ _ _ _ | exact Kd.N_nil _ _ _ _ _ | exact Kd.V_nil _ _ _ _ _ | exact Kd.Q_nil _ _ _ _ _ | exact Kd.S_nil _ _ _ _ _, (by first | rfl | exact fun _ => rfl | (intros; rfl))⟩, bX HB⟩
 }
 subst c3
 rw [if_pos rfl] at H
 by_cases c4 : 0 ≤ a0_0
 rotate_left
 {
 rw [if_neg c4] at H
 exact absurd H (by simp)
 }
 rw [if_pos c4] at H
 have c4b0 := eq_true c4
 have c4b1 : decide (0 ≤ a0_0) = true := decide_eq_true c4
 clear c4
 by_cases c5 : (a0_0 : Int).toNat ≤ 35184372088832
 rotate_left
 {
 rw [if_neg c5] at H
 exact absurd H (by simp)
 }
 rw [if_pos c5] at H
 have c5b0 := eq_true c5
 have c5b1 : decide ((a0_0 : Int).toNat ≤ 35184372088832) = true := decide_eq_true c5
 clear c5
 obtain ⟨y348, hy348⟩ : ∃ y_ : List Int, y_ = (List.replicate (a0_0 : Int).toNat 0) := ⟨_, rfl⟩
 replace H : ((slices_Repeat_int_int.f (([(-1)] : List Int)) a0_0).bind fun t354 => (impl_NegativeCycle.l0 k y348 t354 (-1) 0 a0_0 l0_1)) = some r := by first | (rw [hy348]; with_reducible exact H) | (have H2_ := (Option.bind_some _ _).symm.trans H; rw [hy348]; with_reducible exact H2_) | (have H2_ := (Option.bind_some _ _).symm.trans H; with_reducible exact H2_) | with_reducible exact H | (rw [hy348]; exact H) | exact H
 have Ny348 := mK hy348
 clear hy348
 obtain ⟨y351, hy351⟩ : ∃ y_ : List Int, y_ = (([(-1)] : List Int)) := ⟨_, rfl⟩
 replace H : ((slices_Repeat_int_int.f y351 a0_0).bind fun t354 => (impl_NegativeCycle.l0 k y348 t354 (-1) 0 a0_0 l0_1)) = some r := by first | (rw [hy351]; with_reducible exact H) | (have H2_ := (Option.bind_some _ _).symm.trans H; rw [hy351]; with_reducible exact H2_) | (have H2_ := (Option.bind_some _ _).symm.trans H; with_reducible exact H2_) | with_reducible exact H | (rw [hy351]; exact H) | exact H
 have Ny351 := mK hy351
 clear hy351
 replace H := Option.bind_eq_some_iff.mp H
 obtain ⟨t354, A60, H⟩ := H
 replace H : (impl_NegativeCycle.l0 k y348 t354 (-1) 0 a0_0 l0_1) = some r := H
 have A6 := mK A60
 clear A60
 have H' := mK H
 clear H
 go_enter Try.func38, Try.ntmps38
 try go_wp2_with (first | ((with_reducible refine gate_dst (N := 1) rfl ?_); refine bxE 1 #[.int .i64 a0_0, .slice A0_1 l0_1.length c0_1] 33 ?_; intro gb346 hg w7 hbox hb; have BK346 := mK hbox; have GW346 := mK (gX hg HB); have GE346 := mK (gX hg HB); replace HB := bB HB hb; clear hb hbox hg; have hcz8_0 := q0 BK346; have hcz8_1 := q1 BK346; have hfz8_0 := fX BK346 0; have hfz8_1 := fX BK346 1) | ((with_reducible refine gate_callee (f := 41) rfl ?_); refine gsE (some 15) Try.func41 #[.agg #[.int .i64 a0_0, .slice A0_1 l0_1.length c0_1]] ?_; (with_reducible refine (impl_GraphOk.calls a0_0 _ _ l0_1 true _ ?side1 ?side2 A2.out).mono ?_); (case side1 => exact cX HR0_1 HB); (case side2 => exact HC0_1.out); rintro e w9 ⟨rfl, hb⟩; refine ⟨_, rfl, ?_⟩; replace BK346 := kB BK346 hb; replace HB := bB HB hb; (try clear hb); (try clear hb2); (try clear hk); (try clear hi)))
 have n0_ := mK (blk_drew BK346.out)
 have n1_ := mK (below_drew1 HB.out)
 clear BK346
 clear HB
 have BK346 := n0_
 have HB := n1_
 clear n0_ n1_
 refine start_ (n := 9) (S := fun w' => w'.cell? ⟨gb346, 0, none⟩ = some (.int .i64 a0_0) ∧ w'.cell? ⟨gb346, 1, none⟩ = some (.slice A0_1 l0_1.length c0_1)) (ds := []) (bs 0 9) (by kernel_rfl) rfl (by kernel_rfl) ⟨(blk_cell BK346.out 0).trans rfl, (blk_cell BK346.out 1).trans rfl⟩ (fun hHeld => ?_); refine with_tabW impl_NegativeCycle.tab3 impl_NegativeCycle.bits3 (fun HT_ HW_ => ?_)
 generalize w9.drew = w10 at BK346 HB hHeld ⊢
 refine pL 0 17 (bs 1 9) HT_ ?_
 refine pL 4 21 #[true, false, false, false, true, false, false, false, false] HT_ ?_
 refine tL 1 18 #[true, true, false, false, true, false, false, false, false] HT_ HW_ hHeld ?_
 refine tL 5 22 #[true, true, false, false, true, true, false, false, false] HT_ HW_ hHeld ?_
 refine join_ (σ := Value × Value × Value) 2 (bs 7 9) (fun s_ => [(19, s_.1), (20, s_.2.1), (23, s_.2.2)]) (fun s_ w' => (w'.cell? ⟨gb346, 0, none⟩ = some (.int .i64 a0_0) ∧ w'.cell? ⟨gb346, 1, none⟩ = some (.slice A0_1 l0_1.length c0_1)) ∧ (Kd.R (Kd.int .i64) 3 w' w.heap.size (fun k_ => some k_ ≠ (s_.2.1 : Value).ownBlock ∧ some k_ ≠ (s_.2.2 : Value).ownBlock) s_.1 y348) ∧ (Kd.R (Kd.int .i64) 3 w' w.heap.size (fun k_ => some k_ ≠ (s_.1 : Value).ownBlock ∧ some k_ ≠ (s_.2.2 : Value).ownBlock) s_.2.1 y351) ∧ (Kd.R (Kd.int .i64) 3 w' w.heap.size (fun k_ => some k_ ≠ (s_.1 : Value).ownBlock ∧ some k_ ≠ (s_.2.1 : Value).ownBlock) s_.2.2 t354) ∧ (w'.heap[gb346]? = some (.cells #[.int .i64 a0_0, .slice A0_1 l0_1.length c0_1] 33 (0, 0))) ∧ (Below w.heap.size w w')) ?_ ?_
 rotate_left
 {
 intro hCont
 refine two_ (i := 2) (j := 3) (Ni := some 19) (Nj := some 20) #[true, true, true, false, true, true, false, false, false] #[true, true, false, true, true, true, false, false, false] rfl rfl rfl rfl (two_of HT_.out (by kernel_rfl)) (by decide) (by decide) (fun K hK => ?_) (fun K hK => ?_)
 {
 skip
 refine Kd.R_make_step (Kd.int .i64) _ 3 (by rfl) (N := 19) rfl 26 _ _ rfl a0_0 rfl rfl Try.underlying26 (.int .i64 0) 8 info3 rfl (by decide) (by omega) 0 (ok := fun _ => True) (okp := fun _ => True) rfl (fun _ hk => hk) trivial (of_decide_eq_true oX) (Nat.le_trans (Nat.mul_le_mul_right _ (of_decide_eq_true oX : a0_0.toNat ≤ 35184372088832)) (by omega)) (Below.refl _ _) (Nat.le_refl _) ?_
 intro v349 w11 ho12 hb hg_ hnew_
 clear hg_ hnew_
 (first | rw [← Ny348.out] at ho12 | (simp only [Int.reduceToNat] at ho12; rw [← Ny348.out] at ho12))
 have n0_ := mK (Kd.R_lower ho12 (below_size (bX HB)))
 have n1_ := kB BK346 hb
 have n2_ := bB HB hb
 clear BK346
 clear HB
 have HO350 := n0_
 have BK346 := n1_
 have HB := n2_
 clear n0_ n1_ n2_
 clear hb ho12
 refine hK.out _ _ ⟨(blk_cell BK346.out 0).trans rfl, (blk_cell BK346.out 1).trans rfl⟩ (fun hHeld => ?_)
 clear hK K
 refine norm_ (a' := ?_) ?_ ?_
 rotate_left
 {
 show Act.put _ (some 19) _ = _
 simp only [Act.put, sT, sZ, sU, i64_w, i32_w]
 rfl
 }
 refine one_ (i := 3) (N := some 20) (bs 6 9) rfl rfl (one_of HT_.out (by kernel_rfl)) (by decide) (fun K hK => ?_)
 refine Kd.R_lit_step (Kd.int .i64) _ 3 ?hg (N := 20) ?hd (xs := ([(-1)] : List Int)) (inner := [.int .i64 (-1)]) (ok := fun _ => True) (okp := fun _ => True) ?hr ?hp (fun _ hk => hk) trivial (Below.refl _ _) (Nat.le_refl _) (by simp) ?_; (case hd => rfl); (case hg => rfl); (case hr => go_simp <;> rfl); (case hp => exact (Reps.one (show Kd.M (Kd.int .i64) _ _ _ (-1) [.int .i64 (-1)] from rfl) (Reps.none _ _)))
 intro v352 w13 ho14 hb hg_ hnew_
 clear hg_ hnew_
 (first | rw [← Ny351.out] at ho14 | (simp only [Int.reduceToNat] at ho14; rw [← Ny351.out] at ho14))
 have n0_ := mK (Kd.R_elder' (rX HO350) (Kd.R_base ho14) hb)
 have n1_ := mK (Kd.R_lower (Kd.R_new' ho14 (Kd.R_lt (rX HO350))) (below_size (bX HB)))
 have n2_ := kB BK346 hb
 have n3_ := bB HB hb
 clear HO350
 clear BK346
 clear HB
 have HO350 := n0_
 have HO353 := n1_
 have BK346 := n2_
 have HB := n3_
 clear n0_ n1_ n2_ n3_
 clear hb ho14
 obtain ⟨Ao15, co15, eo15⟩ := Kd.R_slice HO353.out
 (first | subst eo15 | (injection eo15 with f1_ f2_ f3_; have f4_ := f1_.symm; have f5_ := f3_.symm; clear f1_ f2_ f3_; subst f4_; subst f5_))
 refine hK.out _ _ ⟨(blk_cell BK346.out 0).trans rfl, (blk_cell BK346.out 1).trans rfl⟩ (fun hHeld => ?_)
 clear hK K
 refine norm_ (a' := ?_) ?_ ?_
 rotate_left
 {
 show Act.put _ (some 20) _ = _
 simp only [Act.put, sT, sZ, sU, i64_w, i32_w]
 rfl
 }
 refine one_ (i := 6) (N := some 23) (bs 7 9) rfl rfl (one_of HT_.out (by kernel_rfl)) (by decide) (fun K hK => ?_)
 refine gsK Try.func77 #[.slice Ao15 y351.length co15, .int .i64 a0_0] ?_
 with_reducible refine (slices_Repeat_int_int.calls _ _ y351 a0_0 t354 _ ?side1 ?side2 A6.out).mono ?_
 (case side1 => repeat (first | exact (Kd.R_reads' HO353.out).2.2 | (with_reducible refine Kd.C_alloc ?_ _) | (with_reducible refine Kd.C_drewN ?_ _) | (with_reducible refine Kd.C_drew ?_)))
 (case side2 => exact (Kd.R_reads' HO353.out).2.1)
 rintro e w16 ⟨v355, rfl, ho0, hb⟩
 refine ⟨_, rfl, ?_⟩
 have n0_ := mK (Kd.R_elder' (rX HO350) (Kd.R_base ho0) hb)
 have n1_ := mK (Kd.R_elder' (rX HO353) (Kd.R_base ho0) hb)
 have n2_ := mK (Kd.R_lower (Kd.R_new' (Kd.R_new' ho0 (Kd.R_lt (rX HO350))) (Kd.R_lt (rX HO353))) (below_size (bX HB)))
 have n3_ := kB BK346 hb
 have n4_ := bB HB hb
 clear HO350
 clear HO353
 clear BK346
 clear HB
 have HO350 := n0_
 have HO353 := n1_
 have HO356 := n2_
 have BK346 := n3_
 have HB := n4_
 clear n0_ n1_ n2_ n3_ n4_
 (try clear hb)
 (try clear hb2)
 (try clear hk)
 (try clear hi)
 (try clear ho0)
 refine hK.out _ _ ⟨(blk_cell BK346.out 0).trans rfl, (blk_cell BK346.out 1).trans rfl⟩ (fun hHeld => ?_)
 clear hK K
 refine norm_ (a' := ?_) ?_ ?_
 rotate_left
 {
 show Act.put _ (some 23) _ = _
 simp only [Act.put, sT, sZ, sU, i64_w, i32_w]
 rfl
 }
 exact norm_ (by simp only [putAll, Act.put, sT, sZ, sU]) (hCont (v349, .slice Ao15 y351.length co15, v355) _ ⟨hHeld, (Kd.R_mono HO350.out (fun _ hk => ⟨hk.1.2, hk.2⟩)), (Kd.R_mono HO353.out (fun _ hk => ⟨hk.1.2, hk.2⟩)), (Kd.R_mono HO356.out (fun _ hk => ⟨hk.1.2, hk.2⟩)), BK346.out, HB.out⟩)
 }
 {
 skip
 refine Kd.R_lit_step (Kd.int .i64) _ 3 ?hg (N := 20) ?hd (xs := ([(-1)] : List Int)) (inner := [.int .i64 (-1)]) (ok := fun _ => True) (okp := fun _ => True) ?hr ?hp (fun _ hk => hk) trivial (Below.refl _ _) (Nat.le_refl _) (by simp) ?_; (case hd => rfl); (case hg => rfl); (case hr => go_simp <;> rfl); (case hp => exact (Reps.one (show Kd.M (Kd.int .i64) _ _ _ (-1) [.int .i64 (-1)] from rfl) (Reps.none _ _)))
 intro v352 w11 ho12 hb hg_ hnew_
 clear hg_ hnew_
 (first | rw [← Ny351.out] at ho12 | (simp only [Int.reduceToNat] at ho12; rw [← Ny351.out] at ho12))
 have n0_ := mK (Kd.R_lower ho12 (below_size (bX HB)))
 have n1_ := kB BK346 hb
 have n2_ := bB HB hb
 clear BK346
 clear HB
 have HO353 := n0_
 have BK346 := n1_
 have HB := n2_
 clear n0_ n1_ n2_
 clear hb ho12
 refine hK.out _ _ ⟨(blk_cell BK346.out 0).trans rfl, (blk_cell BK346.out 1).trans rfl⟩ (fun hHeld => ?_)
 clear hK K
 refine norm_ (a' := ?_) ?_ ?_
 rotate_left
 {
 show Act.put _ (some 20) _ = _
 simp only [Act.put, sT, sZ, sU, i64_w, i32_w]
 rfl
 }
 refine two_ (i := 2) (j := 6) (Ni := some 19) (Nj := some 23) (bs 6 9) #[true, true, false, true, true, true, true, false, false] rfl rfl rfl rfl (two_of HT_.out (by kernel_rfl)) (by decide) (by decide) (fun K hK => ?_) (fun K hK => ?_)
 {
 skip
 refine Kd.R_make_step (Kd.int .i64) _ 3 (by rfl) (N := 19) rfl 26 _ _ rfl a0_0 rfl rfl Try.underlying26 (.int .i64 0) 8 info3 rfl (by decide) (by omega) 0 (ok := fun _ => True) (okp := fun _ => True) rfl (fun _ hk => hk) trivial (of_decide_eq_true oX) (Nat.le_trans (Nat.mul_le_mul_right _ (of_decide_eq_true oX : a0_0.toNat ≤ 35184372088832)) (by omega)) (Below.refl _ _) (Nat.le_refl _) ?_
 intro v349 w13 ho14 hb hg_ hnew_
 clear hg_ hnew_
 (first | rw [← Ny348.out] at ho14 | (simp only [Int.reduceToNat] at ho14; rw [← Ny348.out] at ho14))
 have n0_ := mK (Kd.R_elder' (rX HO353) (Kd.R_base ho14) hb)
 have n1_ := mK (Kd.R_lower (Kd.R_new' ho14 (Kd.R_lt (rX HO353))) (below_size (bX HB)))
 have n2_ := kB BK346 hb
 have n3_ := bB HB hb
 clear HO353
 clear BK346
 clear HB
 have HO353 := n0_
 have HO350 := n1_
 have BK346 := n2_
 have HB := n3_
 clear n0_ n1_ n2_ n3_
 clear hb ho14
 obtain ⟨Ao15, co15, eo15⟩ := Kd.R_slice HO353.out
 (first | subst eo15 | (injection eo15 with f1_ f2_ f3_; have f4_ := f1_.symm; have f5_ := f3_.symm; clear f1_ f2_ f3_; subst f4_; subst f5_))
 refine hK.out _ _ ⟨(blk_cell BK346.out 0).trans rfl, (blk_cell BK346.out 1).trans rfl⟩ (fun hHeld => ?_)
 clear hK K
 refine norm_ (a' := ?_) ?_ ?_
 rotate_left
 {
 show Act.put _ (some 19) _ = _
 simp only [Act.put, sT, sZ, sU, i64_w, i32_w]
 rfl
 }
 refine one_ (i := 6) (N := some 23) (bs 7 9) rfl rfl (one_of HT_.out (by kernel_rfl)) (by decide) (fun K hK => ?_)
 refine gsK Try.func77 #[.slice Ao15 y351.length co15, .int .i64 a0_0] ?_
 with_reducible refine (slices_Repeat_int_int.calls _ _ y351 a0_0 t354 _ ?side1 ?side2 A6.out).mono ?_
 (case side1 => repeat (first | exact (Kd.R_reads' HO353.out).2.2 | (with_reducible refine Kd.C_alloc ?_ _) | (with_reducible refine Kd.C_drewN ?_ _) | (with_reducible refine Kd.C_drew ?_)))
 (case side2 => exact (Kd.R_reads' HO353.out).2.1)
 rintro e w16 ⟨v355, rfl, ho0, hb⟩
 refine ⟨_, rfl, ?_⟩
 have n0_ := mK (Kd.R_elder' (rX HO353) (Kd.R_base ho0) hb)
 have n1_ := mK (Kd.R_elder' (rX HO350) (Kd.R_base ho0) hb)
 have n2_ := mK (Kd.R_lower (Kd.R_new' (Kd.R_new' ho0 (Kd.R_lt (rX HO353))) (Kd.R_lt (rX HO350))) (below_size (bX HB)))
 have n3_ := kB BK346 hb
 have n4_ := bB HB hb
 clear HO353
 clear HO350
 clear BK346
 clear HB
 have HO353 := n0_
 have HO350 := n1_
 have HO356 := n2_
 have BK346 := n3_
 have HB := n4_
 clear n0_ n1_ n2_ n3_ n4_
 (try clear hb)
 (try clear hb2)
 (try clear hk)
 (try clear hi)
 (try clear ho0)
 refine hK.out _ _ ⟨(blk_cell BK346.out 0).trans rfl, (blk_cell BK346.out 1).trans rfl⟩ (fun hHeld => ?_)
 clear hK K
 refine norm_ (a' := ?_) ?_ ?_
 rotate_left
 {
 show Act.put _ (some 23) _ = _
 simp only [Act.put, sT, sZ, sU, i64_w, i32_w]
 rfl
 }
 exact norm_ (by simp only [putAll, Act.put, sT, sZ, sU]) (hCont (v349, .slice Ao15 y351.length co15, v355) _ ⟨hHeld, (Kd.R_mono HO350.out (fun _ hk => ⟨hk.1.2, hk.2⟩)), (Kd.R_mono HO353.out (fun _ hk => ⟨hk.1.2, hk.2⟩)), (Kd.R_mono HO356.out (fun _ hk => ⟨hk.2, hk.1.2⟩)), BK346.out, HB.out⟩)
 }
 {
 skip
 obtain ⟨Ao13, co13, eo13⟩ := Kd.R_slice HO353.out
 (first | subst eo13 | (injection eo13 with f1_ f2_ f3_; have f4_ := f1_.symm; have f5_ := f3_.symm; clear f1_ f2_ f3_; subst f4_; subst f5_))
 refine gsK Try.func77 #[.slice Ao13 y351.length co13, .int .i64 a0_0] ?_
 with_reducible refine (slices_Repeat_int_int.calls _ _ y351 a0_0 t354 _ ?side1 ?side2 A6.out).mono ?_
 (case side1 => repeat (first | exact (Kd.R_reads' HO353.out).2.2 | (with_reducible refine Kd.C_alloc ?_ _) | (with_reducible refine Kd.C_drewN ?_ _) | (with_reducible refine Kd.C_drew ?_)))
 (case side2 => exact (Kd.R_reads' HO353.out).2.1)
 rintro e w14 ⟨v355, rfl, ho0, hb⟩
 refine ⟨_, rfl, ?_⟩
 have n0_ := mK (Kd.R_elder' (rX HO353) (Kd.R_base ho0) hb)
 have n1_ := mK (Kd.R_lower (Kd.R_new' ho0 (Kd.R_lt (rX HO353))) (below_size (bX HB)))
 have n2_ := kB BK346 hb
 have n3_ := bB HB hb
 clear HO353
 clear BK346
 clear HB
 have HO353 := n0_
 have HO356 := n1_
 have BK346 := n2_
 have HB := n3_
 clear n0_ n1_ n2_ n3_
 (try clear hb)
 (try clear hb2)
 (try clear hk)
 (try clear hi)
 (try clear ho0)
 refine hK.out _ _ ⟨(blk_cell BK346.out 0).trans rfl, (blk_cell BK346.out 1).trans rfl⟩ (fun hHeld => ?_)
 clear hK K
 refine norm_ (a' := ?_) ?_ ?_
 rotate_left
 {
 show Act.put _ (some 23) _ = _
 simp only [Act.put, sT, sZ, sU, i64_w, i32_w]
 rfl
 }
 refine one_ (i := 2) (N := some 19) (bs 7 9) rfl rfl (one_of HT_.out (by kernel_rfl)) (by decide) (fun K hK => ?_)
 refine Kd.R_make_step (Kd.int .i64) _ 3 (by rfl) (N := 19) rfl 26 _ _ rfl a0_0 rfl rfl Try.underlying26 (.int .i64 0) 8 info3 rfl (by decide) (by omega) 0 (ok := fun _ => True) (okp := fun _ => True) rfl (fun _ hk => hk) trivial (of_decide_eq_true oX) (Nat.le_trans (Nat.mul_le_mul_right _ (of_decide_eq_true oX : a0_0.toNat ≤ 35184372088832)) (by omega)) (Below.refl _ _) (Nat.le_refl _) ?_
 intro v349 w15 ho16 hb hg_ hnew_
 clear hg_ hnew_
 (first | rw [← Ny348.out] at ho16 | (simp only [Int.reduceToNat] at ho16; rw [← Ny348.out] at ho16))
 have n0_ := mK (Kd.R_elder' (rX HO353) (Kd.R_base ho16) hb)
 have n1_ := mK (Kd.R_elder' (rX HO356) (Kd.R_base ho16) hb)
 have n2_ := mK (Kd.R_lower (Kd.R_new' (Kd.R_new' ho16 (Kd.R_lt (rX HO353))) (Kd.R_lt (rX HO356))) (below_size (bX HB)))
 have n3_ := kB BK346 hb
 have n4_ := bB HB hb
 clear HO353
 clear HO356
 clear BK346
 clear HB
 have HO353 := n0_
 have HO356 := n1_
 have HO350 := n2_
 have BK346 := n3_
 have HB := n4_
 clear n0_ n1_ n2_ n3_ n4_
 clear hb ho16
 refine hK.out _ _ ⟨(blk_cell BK346.out 0).trans rfl, (blk_cell BK346.out 1).trans rfl⟩ (fun hHeld => ?_)
 clear hK K
 refine norm_ (a' := ?_) ?_ ?_
 rotate_left
 {
 show Act.put _ (some 19) _ = _
 simp only [Act.put, sT, sZ, sU, i64_w, i32_w]
 rfl
 }
 exact norm_ (by simp only [putAll, Act.put, sT, sZ, sU]) (hCont (v349, .slice Ao13 y351.length co13, v355) _ ⟨hHeld, (Kd.R_mono HO350.out (fun _ hk => ⟨hk.1.2, hk.2⟩)), (Kd.R_mono HO353.out (fun _ hk => ⟨hk.2, hk.1.2⟩)), (Kd.R_mono HO356.out (fun _ hk => ⟨hk.2, hk.1.2⟩)), BK346.out, HB.out⟩)
 }
 }
 }
 rintro ⟨v349, v352, v355⟩ w17 ⟨hS_, h0_, h1_, h2_, h3_, h4_⟩
 have n0_ : Aside0 (Kd.R (Kd.int .i64) 3 w17 w.heap.size (fun k_ => some k_ ≠ (v352 : Value).ownBlock ∧ some k_ ≠ (v355 : Value).ownBlock) v349 y348) := ⟨h0_⟩
 have n1_ : Aside0 (Kd.R (Kd.int .i64) 3 w17 w.heap.size (fun k_ => some k_ ≠ (v349 : Value).ownBlock ∧ some k_ ≠ (v355 : Value).ownBlock) v352 y351) := ⟨h1_⟩
 have n2_ : Aside0 (Kd.R (Kd.int .i64) 3 w17 w.heap.size (fun k_ => some k_ ≠ (v349 : Value).ownBlock ∧ some k_ ≠ (v352 : Value).ownBlock) v355 t354) := ⟨h2_⟩
 have n3_ : Aside0 (w17.heap[gb346]? = some (.cells #[.int .i64 a0_0, .slice A0_1 l0_1.length c0_1] 33 (0, 0))) := ⟨h3_⟩
 have n4_ : Aside0 (Below w.heap.size w w17) := ⟨h4_⟩
 clear BK346
 clear HB
 clear h0_ h1_ h2_ h3_ h4_
 have HO350 := n0_
 have HO353 := n1_
 have HO356 := n2_
 have BK346 := n3_
 have HB := n4_
 clear n0_ n1_ n2_ n3_ n4_
 have hHeld : w17.cell? ⟨gb346, 0, none⟩ = some (.int .i64 a0_0) ∧ w17.cell? ⟨gb346, 1, none⟩ = some (.slice A0_1 l0_1.length c0_1) := hS_
 refine norm_ (a' := ?_) ?_ ?_
 rotate_left
 {
 simp only [putAll, Act.put, sT, sZ, sU]
 rfl
 }
 refine pL 7 3 (bs 8 9) HT_ ?_
 refine pL 8 4 (bs 9 9) HT_ ?_
 refine done_ (done_of HT_.out (by kernel_rfl)) ?_
 try go_wp2
 go_loopg [5, 6] k (fun kq v5 v6 w' => ∃ (x3_1 : List Int) (x4_1 : List Int) (x5_1 : Int) (x6_1 : Int), v5 = .int .i64 x5_1 ∧ v6 = .int .i64 x6_1 ∧ Aside0 (impl_NegativeCycle.l0 kq x3_1 x4_1 x5_1 x6_1 a0_0 l0_1 = some r) ∧ Aside0 (kq ≤ k) ∧ Aside0 (Kd.R (Kd.int .i64) 3 w' w.heap.size (fun k_ => some k_ ≠ (v355 : Value).ownBlock) v349 x3_1) ∧ Aside0 (Kd.R (Kd.int .i64) 3 w' w.heap.size (fun k_ => some k_ ≠ (v349 : Value).ownBlock) v355 x4_1) ∧ Aside0 (w'.heap[gb346]? = some (.cells #[.int .i64 a0_0, (.slice A0_1 l0_1.length c0_1)] 33 (0, 0))) ∧ Aside0 (Below w.heap.size w w'))
 case atStart => exact ⟨(y348), (t354), ((-1)), (0), (by first | rfl | (simp; done) | (simp [*]; done)), (by first | rfl | (simp; done) | (simp [*]; done)), H', ⟨Nat.le_refl _⟩, ⟨by (with_reducible repeat first|apply rA|apply rN|apply rD); exact Kd.R_mono HO350.out (fun _ hk => hk.2)⟩, ⟨by (with_reducible repeat first|apply rA|apply rN|apply rD); exact Kd.R_mono HO356.out (fun _ hk => hk.1)⟩, ⟨kX BK346⟩, ⟨bX HB⟩⟩
 case round => (
 clear H'
 try clear p2
 try clear c3
 try clear c4
 try clear c4b0
 try clear c4b1
 try clear c5
 try clear c5b0
 try clear c5b1
 try clear c7
 try clear hcz8_0
 try clear hcz8_1
 try clear hfz8_0
 try clear hfz8_1
 obtain ⟨x3_1, x4_1, x5_1, x6_1, rfl, rfl, HA, HK1, HO_3, HO_4, BK346, HB⟩ := hrel
 cases gk with
 | zero => exact absurd HA.out (by simp [impl_NegativeCycle.l0])
 | succ k1 => (
 have H := HA.out
 clear HA
 simp only [impl_NegativeCycle.l0] at H
 by_cases c18 : x6_1 < a0_0
 rotate_left
 {
 rw [if_neg c18] at H
 have c18b0 : decide (x6_1 < a0_0) = false := decide_eq_false c18
 clear c18
 by_cases c48 : x5_1 < 0
 {
 rw [if_pos c48] at H
 have c48b0 : decide (x5_1 < 0) = true := decide_eq_true c48
 clear c48
 obtain rfl := Option.some.inj H
 have hcz49_0 := q0 BK346
 have hcz49_1 := q1 BK346
 have hfz49_0 := fX BK346 0
 have hfz49_1 := fX BK346 1
 go_wp2
 go_ret
 exact ⟨_, by first | rfl | (simp [errW_none, errW_some] <;> rfl) | (simp [*, errW_none, errW_some] <;> rfl), ⟨by first | exact Kd.R_nil _ _ _ _ _ | exact Kd.N_nil _ _ _ _ _ | exact Kd.V_nil _ _ _ _ _ | exact Kd.Q_nil _ _ _ _ _ | exact Kd.S_nil _ _ _ _ _, (by first | rfl | exact fun _ => rfl | (intros; rfl))⟩, bX HB⟩
 }
 rw [if_neg c48] at H
 have c48b0 : decide (x5_1 < 0) = false := decide_eq_false c48
 clear c48
 by_cases c50 : 0 ≤ x5_1
 rotate_left
 {
 rw [if_neg c50] at H
 exact absurd H (by simp)
 }
 rw [if_pos c50] at H
 have c50b0 : decide (0 ≤ x5_1) = true := decide_eq_true c50
 clear c50
 by_cases c51 : x5_1 < (l0_1.length : Int)
 rotate_left
 {
 rw [if_neg c51] at H
 exact absurd H (by simp)
 }
 rw [if_pos c51] at H
 have c51b0 : decide (x5_1 < (l0_1.length : Int)) = true := decide_eq_true c51
 clear c51
 have H' := mK H
 clear H
 have hcz52_0 := q0 BK346
 have hcz52_1 := q1 BK346
 have hfz52_0 := fX BK346 0
 have hfz52_1 := fX BK346 1
 have p363 : 0 ≤ (x5_1 : Int) := of_decide_eq_true oX
 have q363 : x5_1 < (l0_1.length : Int) := of_decide_eq_true oX
 obtain ⟨ad363, e363, hx363_0, hx363_1, hx363_2⟩ := at_T70 HR0_1.out x5_1 p363 q363
 cases e363
 replace hx363_0 := (HB.out.cell (World.block_lt_of_cell? w _ hx363_0)).trans hx363_0
 replace hx363_1 := (HB.out.cell (World.block_lt_of_cell? w _ hx363_1)).trans hx363_1
 replace hx363_2 := (HB.out.cell (World.block_lt_of_cell? w _ hx363_2)).trans hx363_2
 replace p363 := eq_true p363
 replace q363 := eq_true q363
 go_wp2
 go_loopg [10, 11] k1 (fun kq v10 v11 w' => ∃ (x10_2 : Int) (x11_2 : Int), v10 = .int .i64 x10_2 ∧ v11 = .int .i64 x11_2 ∧ Aside0 (impl_NegativeCycle.l2 kq x4_1 x10_2 x11_2 a0_0 l0_1 = some r) ∧ Aside0 (kq ≤ k1) ∧ Aside0 (Kd.R (Kd.int .i64) 3 w' w.heap.size (fun _ => True) v355 x4_1) ∧ Aside0 (w'.heap[gb346]? = some (.cells #[.int .i64 a0_0, (.slice (some ad363) l0_1.length c0_1)] 33 (0, 0))) ∧ Aside0 (Below w.heap.size w w'))
 case atStart => exact ⟨((rd_T70 l0_1 x5_1).f1), (0), (by first | rfl | (simp; done) | (simp [*]; done)), (by first | rfl | (simp; done) | (simp [*]; done)), H', ⟨Nat.le_refl _⟩, ⟨by (with_reducible repeat first|apply rA|apply rN|apply rD); exact Kd.R_mono HO_4.out (fun _ hk => trivial)⟩, ⟨kX BK346⟩, ⟨bX HB⟩⟩
 case round => (
 clear H'
 try clear c1
 try clear c2
 try clear p2
 try clear q2
 try clear hx2
 try clear hf2
 try clear c3
 try clear p3
 try clear q3
 try clear hx3
 try clear hf3
 try clear c4
 try clear c4b0
 try clear c4b1
 try clear c5
 try clear c5b0
 try clear c5b1
 try clear p6
 try clear c7
 try clear c18
 try clear c18b0
 try clear c20
 try clear c20b0
 try clear c21
 try clear c21b0
 try clear c22
 try clear c22b0
 try clear c23
 try clear c23b0
 try clear c24
 try clear c24b0
 try clear c25
 try clear c25b0
 try clear c26
 try clear c26b0
 try clear c27
 try clear c27b0
 try clear p28
 try clear q28
 try clear hx28
 try clear hf28
 try clear c29
 try clear c29b0
 try clear p30
 try clear q30
 try clear hx30
 try clear hf30
 try clear c32
 try clear p35
 try clear q35
 try clear hx35
 try clear p36
 try clear q36
 try clear hx36
 try clear c42
 try clear c48
 try clear c48b0
 try clear c50
 try clear c50b0
 try clear c51
 try clear c51b0
 try clear hcz19_0
 try clear hcz19_1
 try clear hcz33_0
 try clear hcz33_1
 try clear hcz33_2
 try clear hcz37_0
 try clear hcz37_1
 try clear hcz37_2
 try clear hcz43_0
 try clear hcz43_1
 try clear hcz43_2
 try clear hcz47_0
 try clear hcz47_1
 try clear hcz47_2
 try clear hcz49_0
 try clear hcz49_1
 try clear hcz52_0
 try clear hcz52_1
 try clear hcz8_0
 try clear hcz8_1
 try clear hfz19_0
 try clear hfz19_1
 try clear hfz33_0
 try clear hfz33_1
 try clear hfz33_2
 try clear hfz37_0
 try clear hfz37_1
 try clear hfz37_2
 try clear hfz43_0
 try clear hfz43_1
 try clear hfz43_2
 try clear hfz47_0
 try clear hfz47_1
 try clear hfz47_2
 try clear hfz49_0
 try clear hfz49_1
 try clear hfz52_0
 try clear hfz52_1
 try clear hfz8_0
 try clear hfz8_1
 try clear hx28_0
 try clear hx30_0
 try clear hx357_0
 try clear hx357_1
 try clear hx357_2
 try clear hx359_0
 try clear hx360_0
 try clear hx363_0
 try clear hx363_1
 try clear hx363_2
 try clear p2
 try clear p28
 try clear p30
 try clear p357
 try clear p359
 try clear p360
 try clear p363
 try clear q28
 try clear q30
 try clear q357
 try clear q359
 try clear q360
 try clear q363
 obtain ⟨x10_2, x11_2, rfl, rfl, HA, HK2, HO_4, BK346, HB⟩ := hrel
 cases gk with
 | zero => exact absurd HA.out (by simp [impl_NegativeCycle.l2])
 | succ k2 => (
 have H := HA.out
 clear HA
 simp only [impl_NegativeCycle.l2] at H
 by_cases c53 : x11_2 < a0_0
 {
 rw [if_pos c53] at H
 have c53b0 : decide (x11_2 < a0_0) = true := decide_eq_true c53
 clear c53
 by_cases c54 : 0 ≤ x10_2
 rotate_left
 {
 rw [if_neg c54] at H
 exact absurd H (by simp)
 }
 rw [if_pos c54] at H
 have c54b0 : decide (0 ≤ x10_2) = true := decide_eq_true c54
 clear c54
 by_cases c55 : x10_2 < (x4_1.length : Int)
 rotate_left
 {
 rw [if_neg c55] at H
 exact absurd H (by simp)
 }
 rw [if_pos c55] at H
 have c55b0 : decide (x10_2 < (x4_1.length : Int)) = true := decide_eq_true c55
 clear c55
 by_cases c56 : 0 ≤ (rd x4_1 x10_2)
 rotate_left
 {
 rw [if_neg c56] at H
 exact absurd H (by simp)
 }
 rw [if_pos c56] at H
 have c56b0 : decide (0 ≤ (rd x4_1 x10_2)) = true := decide_eq_true c56
 clear c56
 by_cases c57 : (rd x4_1 x10_2) < (l0_1.length : Int)
 rotate_left
 {
 rw [if_neg c57] at H
 exact absurd H (by simp)
 }
 rw [if_pos c57] at H
 have c57b0 : decide ((rd x4_1 x10_2) < (l0_1.length : Int)) = true := decide_eq_true c57
 clear c57
 have H' := mK H
 clear H
 have hcz58_0 := q0 BK346
 have hcz58_1 := q1 BK346
 have hfz58_0 := fX BK346 0
 have hfz58_1 := fX BK346 1
 try go_wp2
 have n0_ := mK (Kd.R_drew HO_4.out)
 have n1_ := mK (blk_drew BK346.out)
 have n2_ := mK (below_drew1 HB.out)
 clear HO_4
 clear BK346
 clear HB
 have HO_4 := n0_
 have BK346 := n1_
 have HB := n2_
 clear n0_ n1_ n2_
 obtain ⟨Ao60, co60, eo60⟩ := Kd.R_slice HO_4.out
 (first | subst eo60 | (injection eo60 with f1_ f2_ f3_; have f4_ := f1_.symm; have f5_ := f3_.symm; clear f1_ f2_ f3_; subst f4_; subst f5_))
 have p364 : 0 ≤ (x10_2 : Int) := of_decide_eq_true oX
 have q364 : x10_2 < (x4_1.length : Int) := of_decide_eq_true oX
 obtain ⟨ad364, e364, hx364_0⟩ := Kd.at_int (Kd.R_reads' HO_4.out).2.2 x10_2 p364 q364
 cases e364
 replace p364 := eq_true p364
 replace q364 := eq_true q364
 have p365 : 0 ≤ ((rd x4_1 x10_2) : Int) := of_decide_eq_true oX
 have q365 : (rd x4_1 x10_2) < (l0_1.length : Int) := of_decide_eq_true oX
 obtain ⟨ad365, e365, hx365_0, hx365_1, hx365_2⟩ := at_T70 HR0_1.out (rd x4_1 x10_2) p365 q365
 have hw365_2 := hx365_2
 have hw365_1 := hx365_1
 have hw365_0 := hx365_0
 obtain rfl : ad363 = ad365 := (by injection e365)
 replace hx365_0 := (HB.out.cell (World.block_lt_of_cell? w _ hx365_0)).trans hx365_0
 replace hx365_1 := (HB.out.cell (World.block_lt_of_cell? w _ hx365_1)).trans hx365_1
 replace hx365_2 := (HB.out.cell (World.block_lt_of_cell? w _ hx365_2)).trans hx365_2
 replace p365 := eq_true p365
 replace q365 := eq_true q365
 refine start_ (n := 10) (S := fun w' => w'.cell? ⟨gb346, 0, none⟩ = some (.int .i64 a0_0) ∧ w'.cell? ⟨gb346, 1, none⟩ = some (.slice (some ad363) l0_1.length c0_1) ∧ w'.cell? (ad364.add (x10_2).toNat) = some (.int .i64 (rd x4_1 x10_2)) ∧ w'.cell? (ad363.add (((rd x4_1 x10_2)).toNat * 3)) = some (.int .i64 ((rd_T70 l0_1 (rd x4_1 x10_2)).f0)) ∧ w'.cell? ⟨(ad363.add (((rd x4_1 x10_2)).toNat * 3)).block, (ad363.add (((rd x4_1 x10_2)).toNat * 3)).off + 1, none⟩ = some (.int .i64 ((rd_T70 l0_1 (rd x4_1 x10_2)).f1)) ∧ w'.cell? ⟨(ad363.add (((rd x4_1 x10_2)).toNat * 3)).block, (ad363.add (((rd x4_1 x10_2)).toNat * 3)).off + 2, none⟩ = some (.int .i64 ((rd_T70 l0_1 (rd x4_1 x10_2)).f2))) (ds := []) (bs 0 10) (by kernel_rfl) rfl (by kernel_rfl) ⟨(blk_cell BK346.out 0).trans rfl, (blk_cell BK346.out 1).trans rfl, hx364_0, ((HB.out.cell (World.block_lt_of_cell? w _ hw365_0)).trans hw365_0), ((HB.out.cell (World.block_lt_of_cell? w _ hw365_1)).trans hw365_1), ((HB.out.cell (World.block_lt_of_cell? w _ hw365_2)).trans hw365_2)⟩ (fun hHeld => ?_); refine with_tabW impl_NegativeCycle.tab22 impl_NegativeCycle.bits22 (fun HT_ HW_ => ?_)
 generalize wr.drew = w59 at HO_4 BK346 HB hx364_0 hx365_0 hx365_1 hx365_2 hHeld ⊢
 refine pL 0 79 (bs 1 10) HT_ ?_
 refine pL 2 81 #[true, false, true, false, false, false, false, false, false, false] HT_ ?_
 refine pL 3 82 #[true, false, true, true, false, false, false, false, false, false] HT_ ?_
 refine pL 4 83 #[true, false, true, true, true, false, false, false, false, false] HT_ ?_
 refine tL 1 80 (bs 5 10) HT_ HW_ hHeld ?_
 refine tL 5 84 (bs 6 10) HT_ HW_ hHeld ?_
 refine pL 6 85 (bs 7 10) HT_ ?_
 refine pL 7 86 (bs 8 10) HT_ ?_
 refine tL 8 87 (bs 9 10) HT_ HW_ hHeld ?_
 refine pL 9 10 (bs 10 10) HT_ ?_
 refine done_ (done_of HT_.out (by kernel_rfl)) ?_
 try go_wp2
 go_roundg k2
 case measure => have := HK1.out; have := HK2.out; omega
 case rel => exact ⟨((rd_T70 l0_1 (rd x4_1 x10_2)).f0), (wrap64 (x11_2 + 1)), (by first | rfl | (simp; done) | (simp [*]; done)), (by first | rfl | (simp; done) | (simp [*]; done)), H', ⟨by have := HK1.out; have := HK2.out; omega⟩, ⟨rX HO_4⟩, ⟨kX BK346⟩, ⟨bX HB⟩⟩
 }
 rw [if_neg c53] at H
 have c53b0 : decide (x11_2 < a0_0) = false := decide_eq_false c53
 clear c53
 have H' := mK H
 clear H
 have hcz61_0 := q0 BK346
 have hcz61_1 := q1 BK346
 have hfz61_0 := fX BK346 0
 have hfz61_1 := fX BK346 1
 go_wp2
 go_loopg [12, 13] k2 (fun kq v12 v13 w' => ∃ (x12_3 : List Int) (x13_3 : Int), v13 = .int .i64 x13_3 ∧ Aside0 (impl_NegativeCycle.l3 kq x4_1 x10_2 x12_3 x13_3 a0_0 l0_1 = some r) ∧ Aside0 (kq ≤ k2) ∧ Aside0 (Kd.R (Kd.int .i64) 3 w' w.heap.size (fun k_ => some k_ ≠ (v12 : Value).ownBlock) v355 x4_1) ∧ Aside0 (Kd.R (Kd.int .i64) 3 w' w.heap.size (fun k_ => some k_ ≠ (v355 : Value).ownBlock) v12 x12_3) ∧ Aside0 (w'.heap[gb346]? = some (.cells #[.int .i64 a0_0, (.slice (some ad363) l0_1.length c0_1)] 33 (0, 0))) ∧ Aside0 (Below w.heap.size w w'))
 case atStart => exact ⟨(([] : List Int)), (x10_2), (by first | rfl | (simp; done) | (simp [*]; done)), H', ⟨Nat.le_refl _⟩, ⟨by (with_reducible repeat first|apply rA|apply rN|apply rD); exact Kd.R_mono HO_4.out (fun _ hk => (by simp [Value.ownBlock]))⟩, ⟨by first | exact Kd.R_nil _ _ _ _ _ | exact Kd.N_nil _ _ _ _ _ | exact Kd.V_nil _ _ _ _ _ | exact Kd.Q_nil _ _ _ _ _ | exact Kd.S_nil _ _ _ _ _⟩, ⟨kX BK346⟩, ⟨bX HB⟩⟩
 case round => (
 clear H'
 try clear c1
 try clear c2
 try clear p2
 try clear q2
 try clear hx2
 try clear hf2
 try clear c3
 try clear p3
 try clear q3
 try clear hx3
 try clear hf3
 try clear c4
 try clear c4b0
 try clear c4b1
 try clear c5
 try clear c5b0
 try clear c5b1
 try clear p6
 try clear c7
 try clear c18
 try clear c18b0
 try clear c20
 try clear c20b0
 try clear c21
 try clear c21b0
 try clear c22
 try clear c22b0
 try clear c23
 try clear c23b0
 try clear c24
 try clear c24b0
 try clear c25
 try clear c25b0
 try clear c26
 try clear c26b0
 try clear c27
 try clear c27b0
 try clear p28
 try clear q28
 try clear hx28
 try clear hf28
 try clear c29
 try clear c29b0
 try clear p30
 try clear q30
 try clear hx30
 try clear hf30
 try clear c32
 try clear p35
 try clear q35
 try clear hx35
 try clear p36
 try clear q36
 try clear hx36
 try clear c42
 try clear c48
 try clear c48b0
 try clear c50
 try clear c50b0
 try clear c51
 try clear c51b0
 try clear c53
 try clear c53b0
 try clear c54
 try clear c54b0
 try clear c55
 try clear c55b0
 try clear c56
 try clear c56b0
 try clear c57
 try clear c57b0
 try clear hcz19_0
 try clear hcz19_1
 try clear hcz33_0
 try clear hcz33_1
 try clear hcz33_2
 try clear hcz37_0
 try clear hcz37_1
 try clear hcz37_2
 try clear hcz43_0
 try clear hcz43_1
 try clear hcz43_2
 try clear hcz47_0
 try clear hcz47_1
 try clear hcz47_2
 try clear hcz49_0
 try clear hcz49_1
 try clear hcz52_0
 try clear hcz52_1
 try clear hcz58_0
 try clear hcz58_1
 try clear hcz61_0
 try clear hcz61_1
 try clear hcz8_0
 try clear hcz8_1
 try clear hfz19_0
 try clear hfz19_1
 try clear hfz33_0
 try clear hfz33_1
 try clear hfz33_2
 try clear hfz37_0
 try clear hfz37_1
 try clear hfz37_2
 try clear hfz43_0
 try clear hfz43_1
 try clear hfz43_2
 try clear hfz47_0
 try clear hfz47_1
 try clear hfz47_2
 try clear hfz49_0
 try clear hfz49_1
 try clear hfz52_0
 try clear hfz52_1
 try clear hfz58_0
 try clear hfz58_1
 try clear hfz61_0
 try clear hfz61_1
 try clear hfz8_0
 try clear hfz8_1
 try clear hx28_0
 try clear hx30_0
 try clear hx357_0
 try clear hx357_1
 try clear hx357_2
 try clear hx359_0
 try clear hx360_0
 try clear hx363_0
 try clear hx363_1
 try clear hx363_2
 try clear hx364_0
 try clear hx365_0
 try clear hx365_1
 try clear hx365_2
 try clear p2
 try clear p28
 try clear p3
 try clear p30
 try clear p35
 try clear p357
 try clear p359
 try clear p36
 try clear p360
 try clear p363
 try clear p364
 try clear p365
 try clear p6
 try clear q2
 try clear q28
 try clear q3
 try clear q30
 try clear q35
 try clear q357
 try clear q359
 try clear q36
 try clear q360
 try clear q363
 try clear q364
 try clear q365
 obtain ⟨x12_3, x13_3, rfl, HA, HK3, HO_4, HO_12, BK346, HB⟩ := hrel
 cases gk with
 | zero => exact absurd HA.out (by simp [impl_NegativeCycle.l3])
 | succ k3 => (
 have H := HA.out
 clear HA
 simp only [impl_NegativeCycle.l3] at H
 by_cases c62 : (x12_3.length : Int) = 0
 {
 rw [if_pos c62] at H
 have c62b0 : ((x12_3.length : Int) == 0) = true := beq_iff_eq.mpr c62
 have c62b1 : ((x12_3.length : Int) != 0) = false := bne_eq_false_iff_eq.mpr c62
 clear c62
 by_cases c63 : 0 ≤ x13_3
 rotate_left
 {
 rw [if_neg c63] at H
 exact absurd H (by simp)
 }
 rw [if_pos c63] at H
 have c63b0 : decide (0 ≤ x13_3) = true := decide_eq_true c63
 clear c63
 by_cases c64 : x13_3 < (x4_1.length : Int)
 rotate_left
 {
 rw [if_neg c64] at H
 exact absurd H (by simp)
 }
 rw [if_pos c64] at H
 have c64b0 : decide (x13_3 < (x4_1.length : Int)) = true := decide_eq_true c64
 clear c64
 by_cases c65 : x12_3.length < 17592186044416
 rotate_left
 {
 rw [if_neg c65] at H
 exact absurd H (by simp)
 }
 rw [if_pos c65] at H
 have LMc65 := mK c65
 clear c65
 obtain ⟨y367, hy367⟩ : ∃ y_ : List Int, y_ = (x12_3 ++ [rd x4_1 x13_3]) := ⟨_, rfl⟩
 replace H : (if 0 ≤ (rd x4_1 x13_3) then (if (rd x4_1 x13_3) < (l0_1.length : Int) then (impl_NegativeCycle.l3 k3 x4_1 x10_2 y367 ((rd_T70 l0_1 (rd x4_1 x13_3)).f0) a0_0 l0_1) else (none)) else (none)) = some r := by first | (rw [hy367]; with_reducible exact H) | (have H2_ := (Option.bind_some _ _).symm.trans H; rw [hy367]; with_reducible exact H2_) | (have H2_ := (Option.bind_some _ _).symm.trans H; with_reducible exact H2_) | with_reducible exact H | (rw [hy367]; exact H) | exact H
 have Ny367 := mK hy367
 clear hy367
 by_cases c66 : 0 ≤ (rd x4_1 x13_3)
 rotate_left
 {
 rw [if_neg c66] at H
 exact absurd H (by simp)
 }
 rw [if_pos c66] at H
 have c66b0 : decide (0 ≤ (rd x4_1 x13_3)) = true := decide_eq_true c66
 clear c66
 by_cases c67 : (rd x4_1 x13_3) < (l0_1.length : Int)
 rotate_left
 {
 rw [if_neg c67] at H
 exact absurd H (by simp)
 }
 rw [if_pos c67] at H
 have c67b0 : decide ((rd x4_1 x13_3) < (l0_1.length : Int)) = true := decide_eq_true c67
 clear c67
 have H' := mK H
 clear H
 obtain ⟨Ao68, co68, eo68⟩ := Kd.R_slice HO_12.out
 subst eo68
 obtain ⟨Ao69, co69, eo69⟩ := Kd.R_slice HO_4.out
 subst eo69
 have p366 : 0 ≤ (x13_3 : Int) := of_decide_eq_true oX
 have q366 : x13_3 < (x4_1.length : Int) := of_decide_eq_true oX
 obtain ⟨ad366, e366, hx366_0⟩ := Kd.at_int (Kd.R_reads' HO_4.out).2.2 x13_3 p366 q366
 cases e366
 replace p366 := eq_true p366
 replace q366 := eq_true q366
 try go_wp2_with (first | ((with_reducible refine gate_builtin (b := .append) (xs := #[.tmp 106, .tmp 111]) rfl ?_); at_builtin; refine Kd.R_append (Kd.int .i64) (w0 := w) w.heap.size rfl (.tmp 106) (.tmp 111) 26 3 (.int .i64 0) 8 rfl Try.underlying26 info3 rfl (by decide) (by omega) (.slice Ao68 x12_3.length co68) x12_3 (rd x4_1 x13_3) [.int .i64 (rd x4_1 x13_3)] (fun k_ => some k_ ≠ (.slice (some ad366) x4_1.length co69 : Value).ownBlock) (fun _ => False) rfl rfl ?aP (fun _ hk => hk.elim) ?aF ?aO ?aB ?aS ?aL ?_; (case aP => exact rfl); (case aB => exact (bX HB)); (case aF => exact (fun k_ hk => Kd.fresh' (Kd.R_lt (rX HO_4)) k_ hk)); (case aO => exact (rX HO_12)); (case aS => exact (below_size (bX HB))); (case aL => have := LMc65.out; omega); intro v368 w70 ho hb hg hat; rw [← Ny367.out] at ho; have n0_ := mK (Kd.R_after (ok := (fun _ => True)) (by (with_reducible repeat first|apply rA|apply rN|apply rD); exact Kd.R_mono HO_4.out (fun _ hk => ⟨trivial, hk⟩)) hg hat); have n1_ := mK (blk_grown (kX BK346) hg (Kd.R_ne HO_12.out BK346.out (by decide))); have n2_ := mK (hb); have n3_ := mK (ho); clear HO_4; clear BK346; clear HB; clear HO_12; have HO_4 := n0_; have BK346 := n1_; have HB := n2_; have HO369 := n3_; clear n0_ n1_ n2_ n3_; clear ho hb hg hat))
 have n0_ := mK (Kd.R_drew HO_4.out)
 have n1_ := mK (Kd.R_drew HO369.out)
 have n2_ := mK (blk_drew BK346.out)
 have n3_ := mK (below_drew1 HB.out)
 clear HO_4
 clear HO369
 clear BK346
 clear HB
 have HO_4 := n0_
 have HO369 := n1_
 have BK346 := n2_
 have HB := n3_
 clear n0_ n1_ n2_ n3_
 have p370 : 0 ≤ (x13_3 : Int) := of_decide_eq_true oX
 have q370 : x13_3 < (x4_1.length : Int) := of_decide_eq_true oX
 obtain ⟨ad370, e370, hx370_0⟩ := Kd.at_int (Kd.R_reads' HO_4.out).2.2 x13_3 p370 q370
 obtain rfl : ad366 = ad370 := (by injection e370)
 replace p370 := eq_true p370
 replace q370 := eq_true q370
 have p371 : 0 ≤ ((rd x4_1 x13_3) : Int) := of_decide_eq_true oX
 have q371 : (rd x4_1 x13_3) < (l0_1.length : Int) := of_decide_eq_true oX
 obtain ⟨ad371, e371, hx371_0, hx371_1, hx371_2⟩ := at_T70 HR0_1.out (rd x4_1 x13_3) p371 q371
 have hw371_2 := hx371_2
 have hw371_1 := hx371_1
 have hw371_0 := hx371_0
 obtain rfl : ad363 = ad371 := (by injection e371)
 replace hx371_0 := (HB.out.cell (World.block_lt_of_cell? w _ hx371_0)).trans hx371_0
 replace hx371_1 := (HB.out.cell (World.block_lt_of_cell? w _ hx371_1)).trans hx371_1
 replace hx371_2 := (HB.out.cell (World.block_lt_of_cell? w _ hx371_2)).trans hx371_2
 replace p371 := eq_true p371
 replace q371 := eq_true q371
 refine start_ (n := 10) (S := fun w' => w'.cell? ⟨gb346, 0, none⟩ = some (.int .i64 a0_0) ∧ w'.cell? ⟨gb346, 1, none⟩ = some (.slice (some ad363) l0_1.length c0_1) ∧ w'.cell? (ad366.add (x13_3).toNat) = some (.int .i64 (rd x4_1 x13_3)) ∧ w'.cell? (ad363.add (((rd x4_1 x13_3)).toNat * 3)) = some (.int .i64 ((rd_T70 l0_1 (rd x4_1 x13_3)).f0)) ∧ w'.cell? ⟨(ad363.add (((rd x4_1 x13_3)).toNat * 3)).block, (ad363.add (((rd x4_1 x13_3)).toNat * 3)).off + 1, none⟩ = some (.int .i64 ((rd_T70 l0_1 (rd x4_1 x13_3)).f1)) ∧ w'.cell? ⟨(ad363.add (((rd x4_1 x13_3)).toNat * 3)).block, (ad363.add (((rd x4_1 x13_3)).toNat * 3)).off + 2, none⟩ = some (.int .i64 ((rd_T70 l0_1 (rd x4_1 x13_3)).f2))) (ds := []) (bs 0 10) (by kernel_rfl) rfl (by kernel_rfl) ⟨(blk_cell BK346.out 0).trans rfl, (blk_cell BK346.out 1).trans rfl, hx370_0, ((HB.out.cell (World.block_lt_of_cell? w _ hw371_0)).trans hw371_0), ((HB.out.cell (World.block_lt_of_cell? w _ hw371_1)).trans hw371_1), ((HB.out.cell (World.block_lt_of_cell? w _ hw371_2)).trans hw371_2)⟩ (fun hHeld => ?_); refine with_tabW impl_NegativeCycle.tab26 impl_NegativeCycle.bits26 (fun HT_ HW_ => ?_)
 generalize w70.drew = w71 at HO_4 HO369 BK346 HB hx370_0 hx371_0 hx371_1 hx371_2 hHeld ⊢
 refine pL 0 97 (bs 1 10) HT_ ?_
 refine pL 2 99 #[true, false, true, false, false, false, false, false, false, false] HT_ ?_
 refine pL 3 100 #[true, false, true, true, false, false, false, false, false, false] HT_ ?_
 refine pL 4 101 #[true, false, true, true, true, false, false, false, false, false] HT_ ?_
 refine tL 1 98 (bs 5 10) HT_ HW_ hHeld ?_
 refine tL 5 102 (bs 6 10) HT_ HW_ hHeld ?_
 refine pL 6 103 (bs 7 10) HT_ ?_
 refine pL 7 104 (bs 8 10) HT_ ?_
 refine tL 8 105 (bs 9 10) HT_ HW_ hHeld ?_
 refine pL 9 13 (bs 10 10) HT_ ?_
 refine done_ (done_of HT_.out (by kernel_rfl)) ?_
 try go_wp2
 go_roundg k3
 case measure => have := HK1.out; have := HK2.out; have := HK3.out; omega
 case rel => exact ⟨(y367), ((rd_T70 l0_1 (rd x4_1 x13_3)).f0), (by first | rfl | (simp; done) | (simp [*]; done)), H', ⟨by have := HK1.out; have := HK2.out; have := HK3.out; omega⟩, ⟨by (with_reducible repeat first|apply rA|apply rN|apply rD); exact Kd.R_mono HO_4.out (fun _ hk => hk.2)⟩, ⟨rX HO369⟩, ⟨kX BK346⟩, ⟨bX HB⟩⟩
 }
 rw [if_neg c62] at H
 have c62b0 : ((x12_3.length : Int) == 0) = false := beq_eq_false_iff_ne.mpr c62
 have c62b1 : ((x12_3.length : Int) != 0) = true := bne_iff_ne.mpr c62
 have c62b2 : ¬ (x12_3 = []) := fun h_ => c62 (by rw [h_]; rfl)
 by_cases c72 : x13_3 = x10_2
 {
 rw [if_pos c72] at H
 have c72b0 : (x13_3 == x10_2) = true := beq_iff_eq.mpr c72
 have c72b1 : (x13_3 != x10_2) = false := bne_eq_false_iff_eq.mpr c72
 clear c72
 replace H := Option.bind_eq_some_iff.mp H
 obtain ⟨t372, A730, H⟩ := H
 replace H : (some t372) = some r := H
 have A73 := mK A730
 clear A730
 obtain rfl := Option.some.inj H
 obtain ⟨Ao74, co74, eo74⟩ := Kd.R_slice HO_12.out
 subst eo74
 go_wp2_with (first | ((with_reducible refine gate_callee (f := 78) rfl ?_); refine gsE (some 114) Try.func78 #[.slice Ao74 x12_3.length co74] ?_; (with_reducible refine (slices_Reverse_int_int.calls k3 (fun k_ => some k_ = (.slice Ao74 x12_3.length co74 : Value).ownBlock) (.slice Ao74 x12_3.length co74) x12_3 t372 w _ ?side1 ?side2 A73.out).mono ?_); (case side1 => repeat (first | (with_reducible first | exact HB.out | apply below_alloc | apply pw_below_drewN | apply below_drew1 | refine below_set ?_ GE346.out) | exact HB.out)); (case side2 => exact Kd.R_tight rfl HO_12.out); rintro e w75 ⟨rfl, hy0, hb, hkp⟩; refine ⟨_, rfl, ?_⟩; replace HO_4 := mK (Kd.R_mono (ok' := fun k_ => some k_ ≠ (.slice Ao74 x12_3.length co74 : Value).ownBlock) (Kd.R_keptB (HO_4.out) hkp (fun k_ hk_ hs_ => (hk_) hs_)) (fun k_ hk_ => hk_.1)); replace BK346 := mK (blk_kept (kX BK346) hkp (fun hs_ => (fun e_ => (Kd.R_ne HO_12.out BK346.out (by decide)) e_) hs_)); replace HO_12 := mK (Kd.R_reok rfl hy0 (fun k_ e_ => HO_12.out.1 k_ e_)); replace HB := mK (hb); (try clear hb); (try clear hkp); (try clear hy0)))
 go_ret
 exact ⟨_, by first | rfl | (simp [errW_none, errW_some] <;> rfl) | (simp [*, errW_none, errW_some] <;> rfl), ⟨by (with_reducible repeat first|apply rA|apply rN|apply rD); exact Kd.R_mono HO_12.out (fun _ hk => trivial), fun hn_ => absurd hn_ (rev_ne (by assumption) (by assumption))⟩, bX HB⟩
 }
 rw [if_neg c72] at H
 have c72b0 : (x13_3 == x10_2) = false := beq_eq_false_iff_ne.mpr c72
 have c72b1 : (x13_3 != x10_2) = true := bne_iff_ne.mpr c72
 by_cases c76 : 0 ≤ x13_3
 rotate_left
 {
 rw [if_neg c76] at H
 exact absurd H (by simp)
 }
 rw [if_pos c76] at H
 have c76b0 : decide (0 ≤ x13_3) = true := decide_eq_true c76
 clear c76
 by_cases c77 : x13_3 < (x4_1.length : Int)
 rotate_left
 {
 rw [if_neg c77] at H
 exact absurd H (by simp)
 }
 rw [if_pos c77] at H
 have c77b0 : decide (x13_3 < (x4_1.length : Int)) = true := decide_eq_true c77
 clear c77
 by_cases c78 : x12_3.length < 17592186044416
 rotate_left
 {
 rw [if_neg c78] at H
 exact absurd H (by simp)
 }
 rw [if_pos c78] at H
 have LMc78 := mK c78
 clear c78
 obtain ⟨y374, hy374⟩ : ∃ y_ : List Int, y_ = (x12_3 ++ [rd x4_1 x13_3]) := ⟨_, rfl⟩
 replace H : (if 0 ≤ (rd x4_1 x13_3) then (if (rd x4_1 x13_3) < (l0_1.length : Int) then (impl_NegativeCycle.l3 k3 x4_1 x10_2 y374 ((rd_T70 l0_1 (rd x4_1 x13_3)).f0) a0_0 l0_1) else (none)) else (none)) = some r := by first | (rw [hy374]; with_reducible exact H) | (have H2_ := (Option.bind_some _ _).symm.trans H; rw [hy374]; with_reducible exact H2_) | (have H2_ := (Option.bind_some _ _).symm.trans H; with_reducible exact H2_) | with_reducible exact H | (rw [hy374]; exact H) | exact H
 have Ny374 := mK hy374
 clear hy374
 by_cases c79 : 0 ≤ (rd x4_1 x13_3)
 rotate_left
 {
 rw [if_neg c79] at H
 exact absurd H (by simp)
 }
 rw [if_pos c79] at H
 have c79b0 : decide (0 ≤ (rd x4_1 x13_3)) = true := decide_eq_true c79
 clear c79
 by_cases c80 : (rd x4_1 x13_3) < (l0_1.length : Int)
 rotate_left
 {
 rw [if_neg c80] at H
 exact absurd H (by simp)
 }
 rw [if_pos c80] at H
 have c80b0 : decide ((rd x4_1 x13_3) < (l0_1.length : Int)) = true := decide_eq_true c80
 clear c80
 have H' := mK H
 clear H
 obtain ⟨Ao81, co81, eo81⟩ := Kd.R_slice HO_12.out
 subst eo81
 obtain ⟨Ao82, co82, eo82⟩ := Kd.R_slice HO_4.out
 subst eo82
 have p373 : 0 ≤ (x13_3 : Int) := of_decide_eq_true oX
 have q373 : x13_3 < (x4_1.length : Int) := of_decide_eq_true oX
 obtain ⟨ad373, e373, hx373_0⟩ := Kd.at_int (Kd.R_reads' HO_4.out).2.2 x13_3 p373 q373
 cases e373
 replace p373 := eq_true p373
 replace q373 := eq_true q373
 try go_wp2_with (first | ((with_reducible refine gate_builtin (b := .append) (xs := #[.tmp 106, .tmp 111]) rfl ?_); at_builtin; refine Kd.R_append (Kd.int .i64) (w0 := w) w.heap.size rfl (.tmp 106) (.tmp 111) 26 3 (.int .i64 0) 8 rfl Try.underlying26 info3 rfl (by decide) (by omega) (.slice Ao81 x12_3.length co81) x12_3 (rd x4_1 x13_3) [.int .i64 (rd x4_1 x13_3)] (fun k_ => some k_ ≠ (.slice (some ad373) x4_1.length co82 : Value).ownBlock) (fun _ => False) rfl rfl ?aP (fun _ hk => hk.elim) ?aF ?aO ?aB ?aS ?aL ?_; (case aP => exact rfl); (case aB => exact (bX HB)); (case aF => exact (fun k_ hk => Kd.fresh' (Kd.R_lt (rX HO_4)) k_ hk)); (case aO => exact (rX HO_12)); (case aS => exact (below_size (bX HB))); (case aL => have := LMc78.out; omega); intro v375 w83 ho hb hg hat; rw [← Ny374.out] at ho; have n0_ := mK (Kd.R_after (ok := (fun _ => True)) (by (with_reducible repeat first|apply rA|apply rN|apply rD); exact Kd.R_mono HO_4.out (fun _ hk => ⟨trivial, hk⟩)) hg hat); have n1_ := mK (blk_grown (kX BK346) hg (Kd.R_ne HO_12.out BK346.out (by decide))); have n2_ := mK (hb); have n3_ := mK (ho); clear HO_4; clear BK346; clear HB; clear HO_12; have HO_4 := n0_; have BK346 := n1_; have HB := n2_; have HO376 := n3_; clear n0_ n1_ n2_ n3_; clear ho hb hg hat))
 have n0_ := mK (Kd.R_drew HO_4.out)
 have n1_ := mK (Kd.R_drew HO376.out)
 have n2_ := mK (blk_drew BK346.out)
 have n3_ := mK (below_drew1 HB.out)
 clear HO_4
 clear HO376
 clear BK346
 clear HB
 have HO_4 := n0_
 have HO376 := n1_
 have BK346 := n2_
 have HB := n3_
 clear n0_ n1_ n2_ n3_
 have p377 : 0 ≤ (x13_3 : Int) := of_decide_eq_true oX
 have q377 : x13_3 < (x4_1.length : Int) := of_decide_eq_true oX
 obtain ⟨ad377, e377, hx377_0⟩ := Kd.at_int (Kd.R_reads' HO_4.out).2.2 x13_3 p377 q377
 obtain rfl : ad373 = ad377 := (by injection e377)
 replace p377 := eq_true p377
 replace q377 := eq_true q377
 have p378 : 0 ≤ ((rd x4_1 x13_3) : Int) := of_decide_eq_true oX
 have q378 : (rd x4_1 x13_3) < (l0_1.length : Int) := of_decide_eq_true oX
 obtain ⟨ad378, e378, hx378_0, hx378_1, hx378_2⟩ := at_T70 HR0_1.out (rd x4_1 x13_3) p378 q378
 have hw378_2 := hx378_2
 have hw378_1 := hx378_1
 have hw378_0 := hx378_0
 obtain rfl : ad363 = ad378 := (by injection e378)
 replace hx378_0 := (HB.out.cell (World.block_lt_of_cell? w _ hx378_0)).trans hx378_0
 replace hx378_1 := (HB.out.cell (World.block_lt_of_cell? w _ hx378_1)).trans hx378_1
 replace hx378_2 := (HB.out.cell (World.block_lt_of_cell? w _ hx378_2)).trans hx378_2
 replace p378 := eq_true p378
 replace q378 := eq_true q378
 refine start_ (n := 10) (S := fun w' => w'.cell? ⟨gb346, 0, none⟩ = some (.int .i64 a0_0) ∧ w'.cell? ⟨gb346, 1, none⟩ = some (.slice (some ad363) l0_1.length c0_1) ∧ w'.cell? (ad373.add (x13_3).toNat) = some (.int .i64 (rd x4_1 x13_3)) ∧ w'.cell? (ad363.add (((rd x4_1 x13_3)).toNat * 3)) = some (.int .i64 ((rd_T70 l0_1 (rd x4_1 x13_3)).f0)) ∧ w'.cell? ⟨(ad363.add (((rd x4_1 x13_3)).toNat * 3)).block, (ad363.add (((rd x4_1 x13_3)).toNat * 3)).off + 1, none⟩ = some (.int .i64 ((rd_T70 l0_1 (rd x4_1 x13_3)).f1)) ∧ w'.cell? ⟨(ad363.add (((rd x4_1 x13_3)).toNat * 3)).block, (ad363.add (((rd x4_1 x13_3)).toNat * 3)).off + 2, none⟩ = some (.int .i64 ((rd_T70 l0_1 (rd x4_1 x13_3)).f2))) (ds := []) (bs 0 10) (by kernel_rfl) rfl (by kernel_rfl) ⟨(blk_cell BK346.out 0).trans rfl, (blk_cell BK346.out 1).trans rfl, hx377_0, ((HB.out.cell (World.block_lt_of_cell? w _ hw378_0)).trans hw378_0), ((HB.out.cell (World.block_lt_of_cell? w _ hw378_1)).trans hw378_1), ((HB.out.cell (World.block_lt_of_cell? w _ hw378_2)).trans hw378_2)⟩ (fun hHeld => ?_); refine with_tabW impl_NegativeCycle.tab26 impl_NegativeCycle.bits26 (fun HT_ HW_ => ?_)
 generalize w83.drew = w84 at HO_4 HO376 BK346 HB hx377_0 hx378_0 hx378_1 hx378_2 hHeld ⊢
 refine pL 0 97 (bs 1 10) HT_ ?_
 refine pL 2 99 #[true, false, true, false, false, false, false, false, false, false] HT_ ?_
 refine pL 3 100 #[true, false, true, true, false, false, false, false, false, false] HT_ ?_
 refine pL 4 101 #[true, false, true, true, true, false, false, false, false, false] HT_ ?_
 refine tL 1 98 (bs 5 10) HT_ HW_ hHeld ?_
 refine tL 5 102 (bs 6 10) HT_ HW_ hHeld ?_
 refine pL 6 103 (bs 7 10) HT_ ?_
 refine pL 7 104 (bs 8 10) HT_ ?_
 refine tL 8 105 (bs 9 10) HT_ HW_ hHeld ?_
 refine pL 9 13 (bs 10 10) HT_ ?_
 refine done_ (done_of HT_.out (by kernel_rfl)) ?_
 try go_wp2
 go_roundg k3
 case measure => have := HK1.out; have := HK2.out; have := HK3.out; omega
 case rel => exact ⟨(y374), ((rd_T70 l0_1 (rd x4_1 x13_3)).f0), (by first | rfl | (simp; done) | (simp [*]; done)), H', ⟨by have := HK1.out; have := HK2.out; have := HK3.out; omega⟩, ⟨by (with_reducible repeat first|apply rA|apply rN|apply rD); exact Kd.R_mono HO_4.out (fun _ hk => hk.2)⟩, ⟨rX HO376⟩, ⟨kX BK346⟩, ⟨bX HB⟩⟩
 )
 )
 )
 )
 }
 rw [if_pos c18] at H
 have c18b0 : decide (x6_1 < a0_0) = true := decide_eq_true c18
 clear c18
 have H' := mK H
 clear H
 have hcz19_0 := q0 BK346
 have hcz19_1 := q1 BK346
 have hfz19_0 := fX BK346 0
 have hfz19_1 := fX BK346 1
 go_wp2
 go_loopg [5, 33] k1 (fun kq v5 v33 w' => ∃ (x3_2 : List Int) (x4_2 : List Int) (x5_2 : Int) (x33_2 : Int), v5 = .int .i64 x5_2 ∧ v33 = .int .i64 x33_2 ∧ Aside0 (impl_NegativeCycle.l1 kq x3_2 x4_2 x5_2 x6_1 l0_1 (l0_1.length : Int) x33_2 a0_0 l0_1 = some r) ∧ Aside0 (kq ≤ k1) ∧ Aside0 (Kd.R (Kd.int .i64) 3 w' w.heap.size (fun k_ => some k_ ≠ (v355 : Value).ownBlock) v349 x3_2) ∧ Aside0 (Kd.R (Kd.int .i64) 3 w' w.heap.size (fun k_ => some k_ ≠ (v349 : Value).ownBlock) v355 x4_2) ∧ Aside0 (w'.heap[gb346]? = some (.cells #[.int .i64 a0_0, (.slice A0_1 l0_1.length c0_1)] 33 (0, 0))) ∧ Aside0 (Below w.heap.size w w'))
 case atStart => exact ⟨(x3_1), (x4_1), ((-1)), (0), (by first | rfl | (simp; done) | (simp [*]; done)), (by first | rfl | (simp; done) | (simp [*]; done)), H', ⟨Nat.le_refl _⟩, ⟨rX HO_3⟩, ⟨rX HO_4⟩, ⟨kX BK346⟩, ⟨bX HB⟩⟩
 case round => (
 clear H'
 try clear c1
 try clear p2
 try clear c3
 try clear c4
 try clear c4b0
 try clear c4b1
 try clear c5
 try clear c5b0
 try clear c5b1
 try clear c7
 try clear c18
 try clear c18b0
 try clear hcz19_0
 try clear hcz19_1
 try clear hcz8_0
 try clear hcz8_1
 try clear hfz19_0
 try clear hfz19_1
 try clear hfz8_0
 try clear hfz8_1
 try clear p2
 obtain ⟨x3_2, x4_2, x5_2, x33_2, rfl, rfl, HA, HK2, HO_3, HO_4, BK346, HB⟩ := hrel
 cases gk with
 | zero => exact absurd HA.out (by simp [impl_NegativeCycle.l1])
 | succ k2 => (
 have H := HA.out
 clear HA
 simp only [impl_NegativeCycle.l1] at H
 by_cases c20 : x33_2 < (l0_1.length : Int)
 rotate_left
 {
 rw [if_neg c20] at H
 have c20b0 : decide (x33_2 < (l0_1.length : Int)) = false := decide_eq_false c20
 clear c20
 have H' := mK H
 clear H
 go_wp2
 go_roundg k2
 case measure => have := HK1.out; have := HK2.out; omega
 case rel => exact ⟨(x3_2), (x4_2), (x5_2), (wrap64 (x6_1 + 1)), (by first | rfl | (simp; done) | (simp [*]; done)), (by first | rfl | (simp; done) | (simp [*]; done)), H', ⟨by have := HK1.out; have := HK2.out; omega⟩, ⟨rX HO_3⟩, ⟨rX HO_4⟩, ⟨kX BK346⟩, ⟨bX HB⟩⟩
 }
 rw [if_pos c20] at H
 have c20b0 : decide (x33_2 < (l0_1.length : Int)) = true := decide_eq_true c20
 clear c20
 by_cases c21 : 0 ≤ x33_2
 rotate_left
 {
 rw [if_neg c21] at H
 exact absurd H (by simp)
 }
 rw [if_pos c21] at H
 have c21b0 : decide (0 ≤ x33_2) = true := decide_eq_true c21
 clear c21
 by_cases c22 : x33_2 < (l0_1.length : Int)
 rotate_left
 {
 rw [if_neg c22] at H
 exact absurd H (by simp)
 }
 rw [if_pos c22] at H
 have c22b0 : decide (x33_2 < (l0_1.length : Int)) = true := decide_eq_true c22
 clear c22
 by_cases c23 : 0 ≤ ((rd_T70 l0_1 x33_2).f0)
 rotate_left
 {
 rw [if_neg c23] at H
 exact absurd H (by simp)
 }
 rw [if_pos c23] at H
 have c23b0 : decide (0 ≤ ((rd_T70 l0_1 x33_2).f0)) = true := decide_eq_true c23
 clear c23
 by_cases c24 : ((rd_T70 l0_1 x33_2).f0) < (x3_2.length : Int)
 rotate_left
 {
 rw [if_neg c24] at H
 exact absurd H (by simp)
 }
 rw [if_pos c24] at H
 have c24b0 : decide (((rd_T70 l0_1 x33_2).f0) < (x3_2.length : Int)) = true := decide_eq_true c24
 clear c24
 by_cases c25 : 0 ≤ ((rd_T70 l0_1 x33_2).f1)
 rotate_left
 {
 rw [if_neg c25] at H
 exact absurd H (by simp)
 }
 rw [if_pos c25] at H
 have c25b0 : decide (0 ≤ ((rd_T70 l0_1 x33_2).f1)) = true := decide_eq_true c25
 clear c25
 by_cases c26 : ((rd_T70 l0_1 x33_2).f1) < (x3_2.length : Int)
 rotate_left
 {
 rw [if_neg c26] at H
 exact absurd H (by simp)
 }
 rw [if_pos c26] at H
 have c26b0 : decide (((rd_T70 l0_1 x33_2).f1) < (x3_2.length : Int)) = true := decide_eq_true c26
 clear c26
 by_cases c27 : (wrap64 ((rd x3_2 ((rd_T70 l0_1 x33_2).f0)) + ((rd_T70 l0_1 x33_2).f2))) < (rd x3_2 ((rd_T70 l0_1 x33_2).f1))
 rotate_left
 {
 rw [if_neg c27] at H
 have c27b0 : decide ((wrap64 ((rd x3_2 ((rd_T70 l0_1 x33_2).f0)) + ((rd_T70 l0_1 x33_2).f2))) < (rd x3_2 ((rd_T70 l0_1 x33_2).f1))) = false := decide_eq_false c27
 clear c27
 have H' := mK H
 clear H
 have p357 : 0 ≤ (x33_2 : Int) := of_decide_eq_true oX
 have q357 : x33_2 < (l0_1.length : Int) := of_decide_eq_true oX
 obtain ⟨ad357, e357, hx357_0, hx357_1, hx357_2⟩ := at_T70 HR0_1.out x33_2 p357 q357
 cases e357
 replace hx357_0 := (HB.out.cell (World.block_lt_of_cell? w _ hx357_0)).trans hx357_0
 replace hx357_1 := (HB.out.cell (World.block_lt_of_cell? w _ hx357_1)).trans hx357_1
 replace hx357_2 := (HB.out.cell (World.block_lt_of_cell? w _ hx357_2)).trans hx357_2
 replace p357 := eq_true p357
 replace q357 := eq_true q357
 try go_wp2_with (first | ((with_reducible refine gate_dst (N := 8) rfl ?_); refine bxE 8 #[.int .i64 0, .int .i64 0, .int .i64 0] 70 ?_; intro gb358 hg w41 hbox hb; replace HO_3 := mK (Kd.R_below (rX HO_3) hb); replace HO_4 := mK (Kd.R_below (rX HO_4) hb); have BK358 := mK hbox; have GW358 := mK (gX hg HB); have GE358 := mK (gX hg HB); replace HB := bB HB hb; have NB346_358 := mK (lX hg BK346); have NB358_346 := mK (mX hg BK346); replace BK346 := kB BK346 hb; clear hb hbox hg; have hnb42 := NB358_346.out; have hnc42 := NB346_358.out; have hcz43_0 := q0 BK358; have hcz43_1 := q1 BK358; have hcz43_2 := q2 BK358; have hfz43_0 := fX BK358 0; have hfz43_1 := fX BK358 1; have hfz43_2 := fX BK358 2))
 have n0_ : Aside0 (Kd.R (Kd.int .i64) 3 (((w41.setCell ⟨gb358, 0, none⟩ (.int .i64 ((rd_T70 l0_1 x33_2).f0))).setCell ⟨gb358, 1, none⟩ (.int .i64 ((rd_T70 l0_1 x33_2).f1))).setCell ⟨gb358, 2, none⟩ (.int .i64 ((rd_T70 l0_1 x33_2).f2))) w.heap.size (fun k_ => some k_ ≠ (v355 : Value).ownBlock) v349 x3_2) := ⟨rF3 HO_3 BK358⟩
 have n1_ : Aside0 (Kd.R (Kd.int .i64) 3 (((w41.setCell ⟨gb358, 0, none⟩ (.int .i64 ((rd_T70 l0_1 x33_2).f0))).setCell ⟨gb358, 1, none⟩ (.int .i64 ((rd_T70 l0_1 x33_2).f1))).setCell ⟨gb358, 2, none⟩ (.int .i64 ((rd_T70 l0_1 x33_2).f2))) w.heap.size (fun k_ => some k_ ≠ (v349 : Value).ownBlock) v355 x4_2) := ⟨rF3 HO_4 BK358⟩
 have n2_ : Aside0 ((((w41.setCell ⟨gb358, 0, none⟩ (.int .i64 ((rd_T70 l0_1 x33_2).f0))).setCell ⟨gb358, 1, none⟩ (.int .i64 ((rd_T70 l0_1 x33_2).f1))).setCell ⟨gb358, 2, none⟩ (.int .i64 ((rd_T70 l0_1 x33_2).f2))).heap[gb346]? = some (.cells #[.int .i64 a0_0, .slice (some ad357) l0_1.length c0_1] 33 (0, 0))) := ⟨kF BK346 NB346_358⟩
 have n3_ : Aside0 ((((w41.setCell ⟨gb358, 0, none⟩ (.int .i64 ((rd_T70 l0_1 x33_2).f0))).setCell ⟨gb358, 1, none⟩ (.int .i64 ((rd_T70 l0_1 x33_2).f1))).setCell ⟨gb358, 2, none⟩ (.int .i64 ((rd_T70 l0_1 x33_2).f2))).heap[gb358]? = some (.cells #[.int .i64 ((rd_T70 l0_1 x33_2).f0), .int .i64 ((rd_T70 l0_1 x33_2).f1), .int .i64 ((rd_T70 l0_1 x33_2).f2)] 70 (0, 0))) := ⟨kP3 BK358⟩
 have n4_ : Aside0 (Below w.heap.size w (((w41.setCell ⟨gb358, 0, none⟩ (.int .i64 ((rd_T70 l0_1 x33_2).f0))).setCell ⟨gb358, 1, none⟩ (.int .i64 ((rd_T70 l0_1 x33_2).f1))).setCell ⟨gb358, 2, none⟩ (.int .i64 ((rd_T70 l0_1 x33_2).f2)))) := ⟨bX HB⟩
 (try clear HO_3)
 (try clear HO_4)
 (try clear BK346)
 (try clear BK358)
 (try clear HB)
 generalize (((w41.setCell ⟨gb358, 0, none⟩ (.int .i64 ((rd_T70 l0_1 x33_2).f0))).setCell ⟨gb358, 1, none⟩ (.int .i64 ((rd_T70 l0_1 x33_2).f1))).setCell ⟨gb358, 2, none⟩ (.int .i64 ((rd_T70 l0_1 x33_2).f2))) = w44 at n0_ n1_ n2_ n3_ n4_ ⊢
 have HO_3 := n0_
 have HO_4 := n1_
 have BK346 := n2_
 have BK358 := n3_
 have HB := n4_
 clear n0_ n1_ n2_ n3_ n4_
 have n0_ := mK (Kd.R_drew HO_3.out)
 have n1_ := mK (Kd.R_drew HO_4.out)
 have n2_ := mK (blk_drew BK346.out)
 have n3_ := mK (blk_drew BK358.out)
 have n4_ := mK (below_drew1 HB.out)
 clear HO_3
 clear HO_4
 clear BK346
 clear BK358
 clear HB
 have HO_3 := n0_
 have HO_4 := n1_
 have BK346 := n2_
 have BK358 := n3_
 have HB := n4_
 clear n0_ n1_ n2_ n3_ n4_
 obtain ⟨Ao46, co46, eo46⟩ := Kd.R_slice HO_3.out
 (first | subst eo46 | (injection eo46 with f1_ f2_ f3_; have f4_ := f1_.symm; have f5_ := f3_.symm; clear f1_ f2_ f3_; subst f4_; subst f5_))
 have p359 : 0 ≤ (((rd_T70 l0_1 x33_2).f0) : Int) := of_decide_eq_true oX
 have q359 : ((rd_T70 l0_1 x33_2).f0) < (x3_2.length : Int) := of_decide_eq_true oX
 obtain ⟨ad359, e359, hx359_0⟩ := Kd.at_int (Kd.R_reads' HO_3.out).2.2 ((rd_T70 l0_1 x33_2).f0) p359 q359
 cases e359
 replace p359 := eq_true p359
 replace q359 := eq_true q359
 refine start_ (n := 9) (S := fun w' => w'.cell? ⟨gb358, 0, none⟩ = some (.int .i64 ((rd_T70 l0_1 x33_2).f0)) ∧ w'.cell? ⟨gb358, 1, none⟩ = some (.int .i64 ((rd_T70 l0_1 x33_2).f1)) ∧ w'.cell? ⟨gb358, 2, none⟩ = some (.int .i64 ((rd_T70 l0_1 x33_2).f2)) ∧ w'.cell? (ad359.add (((rd_T70 l0_1 x33_2).f0)).toNat) = some (.int .i64 (rd x3_2 ((rd_T70 l0_1 x33_2).f0)))) (ds := []) (bs 0 9) (by kernel_rfl) rfl (by kernel_rfl) ⟨(blk_cell BK358.out 0).trans rfl, (blk_cell BK358.out 1).trans rfl, (blk_cell BK358.out 2).trans rfl, hx359_0⟩ (fun hHeld => ?_); refine with_tabW impl_NegativeCycle.tab12 impl_NegativeCycle.bits12 (fun HT_ HW_ => ?_)
 generalize w44.drew = w45 at HO_3 HO_4 BK346 BK358 HB hx359_0 hHeld ⊢
 refine pL 0 38 (bs 1 9) HT_ ?_
 refine pL 1 39 (bs 2 9) HT_ ?_
 refine pL 5 43 #[true, true, false, false, false, true, false, false, false] HT_ ?_
 refine tL 2 40 #[true, true, true, false, false, true, false, false, false] HT_ HW_ hHeld ?_
 refine pL 3 41 #[true, true, true, true, false, true, false, false, false] HT_ ?_
 refine tL 4 42 (bs 6 9) HT_ HW_ hHeld ?_
 refine tL 6 44 (bs 7 9) HT_ HW_ hHeld ?_
 refine pL 7 45 (bs 8 9) HT_ ?_
 refine pL 8 9 (bs 9 9) HT_ ?_
 refine done_ (done_of HT_.out (by kernel_rfl)) ?_
 have hcz47_0 := q0 BK358
 have hcz47_1 := q1 BK358
 have hcz47_2 := q2 BK358
 have hfz47_0 := fX BK358 0
 have hfz47_1 := fX BK358 1
 have hfz47_2 := fX BK358 2
 have p360 : 0 ≤ (((rd_T70 l0_1 x33_2).f1) : Int) := of_decide_eq_true oX
 have q360 : ((rd_T70 l0_1 x33_2).f1) < (x3_2.length : Int) := of_decide_eq_true oX
 obtain ⟨ad360, e360, hx360_0⟩ := Kd.at_int (Kd.R_reads' HO_3.out).2.2 ((rd_T70 l0_1 x33_2).f1) p360 q360
 obtain rfl : ad359 = ad360 := (by injection e360)
 replace p360 := eq_true p360
 replace q360 := eq_true q360
 try go_wp2
 go_roundg k2
 case measure => have := HK1.out; have := HK2.out; omega
 case rel => exact ⟨(x3_2), (x4_2), (x5_2), (wrap64 (x33_2 + 1)), (by first | rfl | (simp; done) | (simp [*]; done)), (by first | rfl | (simp; done) | (simp [*]; done)), H', ⟨by have := HK1.out; have := HK2.out; omega⟩, ⟨rX HO_3⟩, ⟨rX HO_4⟩, ⟨kX BK346⟩, ⟨bX HB⟩⟩
 }
 rw [if_pos c27] at H
 have c27b0 : decide ((wrap64 ((rd x3_2 ((rd_T70 l0_1 x33_2).f0)) + ((rd_T70 l0_1 x33_2).f2))) < (rd x3_2 ((rd_T70 l0_1 x33_2).f1))) = true := decide_eq_true c27
 clear c27
 obtain ⟨y361, hy361⟩ : ∃ y_ : List Int, y_ = (x3_2.set (((rd_T70 l0_1 x33_2).f1) : Int).toNat (wrap64 ((rd x3_2 ((rd_T70 l0_1 x33_2).f0)) + ((rd_T70 l0_1 x33_2).f2)))) := ⟨_, rfl⟩
 replace H : (if ((rd_T70 l0_1 x33_2).f1) < (x4_2.length : Int) then (impl_NegativeCycle.l1 k2 y361 (x4_2.set (((rd_T70 l0_1 x33_2).f1) : Int).toNat x33_2) x33_2 x6_1 l0_1 (l0_1.length : Int) (wrap64 (x33_2 + 1)) a0_0 l0_1) else (none)) = some r := by first | (rw [hy361]; with_reducible exact H) | (have H2_ := (Option.bind_some _ _).symm.trans H; rw [hy361]; with_reducible exact H2_) | (have H2_ := (Option.bind_some _ _).symm.trans H; with_reducible exact H2_) | with_reducible exact H | (rw [hy361]; exact H) | exact H
 have Ny361 := mK hy361
 clear hy361
 by_cases c29 : ((rd_T70 l0_1 x33_2).f1) < (x4_2.length : Int)
 rotate_left
 {
 rw [if_neg c29] at H
 exact absurd H (by simp)
 }
 rw [if_pos c29] at H
 have c29b0 : decide (((rd_T70 l0_1 x33_2).f1) < (x4_2.length : Int)) = true := decide_eq_true c29
 clear c29
 obtain ⟨y362, hy362⟩ : ∃ y_ : List Int, y_ = (x4_2.set (((rd_T70 l0_1 x33_2).f1) : Int).toNat x33_2) := ⟨_, rfl⟩
 replace H : (impl_NegativeCycle.l1 k2 y361 y362 x33_2 x6_1 l0_1 (l0_1.length : Int) (wrap64 (x33_2 + 1)) a0_0 l0_1) = some r := by first | (rw [hy362]; with_reducible exact H) | (have H2_ := (Option.bind_some _ _).symm.trans H; rw [hy362]; with_reducible exact H2_) | (have H2_ := (Option.bind_some _ _).symm.trans H; with_reducible exact H2_) | with_reducible exact H | (rw [hy362]; exact H) | exact H
 have Ny362 := mK hy362
 clear hy362
 have H' := mK H
 clear H
 have p357 : 0 ≤ (x33_2 : Int) := of_decide_eq_true oX
 have q357 : x33_2 < (l0_1.length : Int) := of_decide_eq_true oX
 obtain ⟨ad357, e357, hx357_0, hx357_1, hx357_2⟩ := at_T70 HR0_1.out x33_2 p357 q357
 cases e357
 replace hx357_0 := (HB.out.cell (World.block_lt_of_cell? w _ hx357_0)).trans hx357_0
 replace hx357_1 := (HB.out.cell (World.block_lt_of_cell? w _ hx357_1)).trans hx357_1
 replace hx357_2 := (HB.out.cell (World.block_lt_of_cell? w _ hx357_2)).trans hx357_2
 replace p357 := eq_true p357
 replace q357 := eq_true q357
 try go_wp2_with (first | ((with_reducible refine gate_dst (N := 8) rfl ?_); refine bxE 8 #[.int .i64 0, .int .i64 0, .int .i64 0] 70 ?_; intro gb358 hg w31 hbox hb; replace HO_3 := mK (Kd.R_below (rX HO_3) hb); replace HO_4 := mK (Kd.R_below (rX HO_4) hb); have BK358 := mK hbox; have GW358 := mK (gX hg HB); have GE358 := mK (gX hg HB); replace HB := bB HB hb; have NB346_358 := mK (lX hg BK346); have NB358_346 := mK (mX hg BK346); replace BK346 := kB BK346 hb; clear hb hbox hg; have hnb32 := NB358_346.out; have hnc32 := NB346_358.out; have hcz33_0 := q0 BK358; have hcz33_1 := q1 BK358; have hcz33_2 := q2 BK358; have hfz33_0 := fX BK358 0; have hfz33_1 := fX BK358 1; have hfz33_2 := fX BK358 2))
 have n0_ : Aside0 (Kd.R (Kd.int .i64) 3 (((w31.setCell ⟨gb358, 0, none⟩ (.int .i64 ((rd_T70 l0_1 x33_2).f0))).setCell ⟨gb358, 1, none⟩ (.int .i64 ((rd_T70 l0_1 x33_2).f1))).setCell ⟨gb358, 2, none⟩ (.int .i64 ((rd_T70 l0_1 x33_2).f2))) w.heap.size (fun k_ => some k_ ≠ (v355 : Value).ownBlock) v349 x3_2) := ⟨rF3 HO_3 BK358⟩
 have n1_ : Aside0 (Kd.R (Kd.int .i64) 3 (((w31.setCell ⟨gb358, 0, none⟩ (.int .i64 ((rd_T70 l0_1 x33_2).f0))).setCell ⟨gb358, 1, none⟩ (.int .i64 ((rd_T70 l0_1 x33_2).f1))).setCell ⟨gb358, 2, none⟩ (.int .i64 ((rd_T70 l0_1 x33_2).f2))) w.heap.size (fun k_ => some k_ ≠ (v349 : Value).ownBlock) v355 x4_2) := ⟨rF3 HO_4 BK358⟩
 have n2_ : Aside0 ((((w31.setCell ⟨gb358, 0, none⟩ (.int .i64 ((rd_T70 l0_1 x33_2).f0))).setCell ⟨gb358, 1, none⟩ (.int .i64 ((rd_T70 l0_1 x33_2).f1))).setCell ⟨gb358, 2, none⟩ (.int .i64 ((rd_T70 l0_1 x33_2).f2))).heap[gb346]? = some (.cells #[.int .i64 a0_0, .slice (some ad357) l0_1.length c0_1] 33 (0, 0))) := ⟨kF BK346 NB346_358⟩
 have n3_ : Aside0 ((((w31.setCell ⟨gb358, 0, none⟩ (.int .i64 ((rd_T70 l0_1 x33_2).f0))).setCell ⟨gb358, 1, none⟩ (.int .i64 ((rd_T70 l0_1 x33_2).f1))).setCell ⟨gb358, 2, none⟩ (.int .i64 ((rd_T70 l0_1 x33_2).f2))).heap[gb358]? = some (.cells #[.int .i64 ((rd_T70 l0_1 x33_2).f0), .int .i64 ((rd_T70 l0_1 x33_2).f1), .int .i64 ((rd_T70 l0_1 x33_2).f2)] 70 (0, 0))) := ⟨kP3 BK358⟩
 have n4_ : Aside0 (Below w.heap.size w (((w31.setCell ⟨gb358, 0, none⟩ (.int .i64 ((rd_T70 l0_1 x33_2).f0))).setCell ⟨gb358, 1, none⟩ (.int .i64 ((rd_T70 l0_1 x33_2).f1))).setCell ⟨gb358, 2, none⟩ (.int .i64 ((rd_T70 l0_1 x33_2).f2)))) := ⟨bX HB⟩
 (try clear HO_3)
 (try clear HO_4)
 (try clear BK346)
 (try clear BK358)
 (try clear HB)
 generalize (((w31.setCell ⟨gb358, 0, none⟩ (.int .i64 ((rd_T70 l0_1 x33_2).f0))).setCell ⟨gb358, 1, none⟩ (.int .i64 ((rd_T70 l0_1 x33_2).f1))).setCell ⟨gb358, 2, none⟩ (.int .i64 ((rd_T70 l0_1 x33_2).f2))) = w34 at n0_ n1_ n2_ n3_ n4_ ⊢
 have HO_3 := n0_
 have HO_4 := n1_
 have BK346 := n2_
 have BK358 := n3_
 have HB := n4_
 clear n0_ n1_ n2_ n3_ n4_
 have n0_ := mK (Kd.R_drew HO_3.out)
 have n1_ := mK (Kd.R_drew HO_4.out)
 have n2_ := mK (blk_drew BK346.out)
 have n3_ := mK (blk_drew BK358.out)
 have n4_ := mK (below_drew1 HB.out)
 clear HO_3
 clear HO_4
 clear BK346
 clear BK358
 clear HB
 have HO_3 := n0_
 have HO_4 := n1_
 have BK346 := n2_
 have BK358 := n3_
 have HB := n4_
 clear n0_ n1_ n2_ n3_ n4_
 obtain ⟨Ao36, co36, eo36⟩ := Kd.R_slice HO_3.out
 (first | subst eo36 | (injection eo36 with f1_ f2_ f3_; have f4_ := f1_.symm; have f5_ := f3_.symm; clear f1_ f2_ f3_; subst f4_; subst f5_))
 have p359 : 0 ≤ (((rd_T70 l0_1 x33_2).f0) : Int) := of_decide_eq_true oX
 have q359 : ((rd_T70 l0_1 x33_2).f0) < (x3_2.length : Int) := of_decide_eq_true oX
 obtain ⟨ad359, e359, hx359_0⟩ := Kd.at_int (Kd.R_reads' HO_3.out).2.2 ((rd_T70 l0_1 x33_2).f0) p359 q359
 cases e359
 replace p359 := eq_true p359
 replace q359 := eq_true q359
 refine start_ (n := 9) (S := fun w' => w'.cell? ⟨gb358, 0, none⟩ = some (.int .i64 ((rd_T70 l0_1 x33_2).f0)) ∧ w'.cell? ⟨gb358, 1, none⟩ = some (.int .i64 ((rd_T70 l0_1 x33_2).f1)) ∧ w'.cell? ⟨gb358, 2, none⟩ = some (.int .i64 ((rd_T70 l0_1 x33_2).f2)) ∧ w'.cell? (ad359.add (((rd_T70 l0_1 x33_2).f0)).toNat) = some (.int .i64 (rd x3_2 ((rd_T70 l0_1 x33_2).f0)))) (ds := []) (bs 0 9) (by kernel_rfl) rfl (by kernel_rfl) ⟨(blk_cell BK358.out 0).trans rfl, (blk_cell BK358.out 1).trans rfl, (blk_cell BK358.out 2).trans rfl, hx359_0⟩ (fun hHeld => ?_); refine with_tabW impl_NegativeCycle.tab12 impl_NegativeCycle.bits12 (fun HT_ HW_ => ?_)
 generalize w34.drew = w35 at HO_3 HO_4 BK346 BK358 HB hx359_0 hHeld ⊢
 refine pL 0 38 (bs 1 9) HT_ ?_
 refine pL 1 39 (bs 2 9) HT_ ?_
 refine pL 5 43 #[true, true, false, false, false, true, false, false, false] HT_ ?_
 refine tL 2 40 #[true, true, true, false, false, true, false, false, false] HT_ HW_ hHeld ?_
 refine pL 3 41 #[true, true, true, true, false, true, false, false, false] HT_ ?_
 refine tL 4 42 (bs 6 9) HT_ HW_ hHeld ?_
 refine tL 6 44 (bs 7 9) HT_ HW_ hHeld ?_
 refine pL 7 45 (bs 8 9) HT_ ?_
 refine pL 8 9 (bs 9 9) HT_ ?_
 refine done_ (done_of HT_.out (by kernel_rfl)) ?_
 have hcz37_0 := q0 BK358
 have hcz37_1 := q1 BK358
 have hcz37_2 := q2 BK358
 have hfz37_0 := fX BK358 0
 have hfz37_1 := fX BK358 1
 have hfz37_2 := fX BK358 2
 have p360 : 0 ≤ (((rd_T70 l0_1 x33_2).f1) : Int) := of_decide_eq_true oX
 have q360 : ((rd_T70 l0_1 x33_2).f1) < (x3_2.length : Int) := of_decide_eq_true oX
 obtain ⟨ad360, e360, hx360_0⟩ := Kd.at_int (Kd.R_reads' HO_3.out).2.2 ((rd_T70 l0_1 x33_2).f1) p360 q360
 obtain rfl : ad359 = ad360 := (by injection e360)
 replace p360 := eq_true p360
 replace q360 := eq_true q360
 try go_wp2
 have n0_ := mK (Kd.R_drew HO_3.out)
 have n1_ := mK (Kd.R_drew HO_4.out)
 have n2_ := mK (blk_drew BK346.out)
 have n3_ := mK (blk_drew BK358.out)
 have n4_ := mK (below_drew1 HB.out)
 clear HO_3
 clear HO_4
 clear BK346
 clear BK358
 clear HB
 have HO_3 := n0_
 have HO_4 := n1_
 have BK346 := n2_
 have BK358 := n3_
 have HB := n4_
 clear n0_ n1_ n2_ n3_ n4_
 have p28 : 0 ≤ (((rd_T70 l0_1 x33_2).f1) : Int) := of_decide_eq_true oX
 have q28 : (((rd_T70 l0_1 x33_2).f1) : Int) < ((x3_2.length : Int) : Int) := of_decide_eq_true oX
 obtain ⟨go28, co28, eo28, gb28, gl28, cl28, HG28⟩ := Kd.R_form HO_3.out (by omega)
 (first | cases eo28 | (injection eo28 with ea_ en_ ec_; (first | subst ea_ | (injection ea_ with ea_; subst ea_)); subst ec_; clear en_))
 have GB28 := mK gb28
 have GG28 := mK HG28
 clear gb28 gl28 HG28
 (first | simp only [add_plain] at hx359_0 | skip)
 (first | simp only [add_plain] at hx360_0 | skip)
 obtain ⟨hx28_0, hf28_0⟩ := Kd.R_celln 0 HO_3.out (((rd_T70 l0_1 x33_2).f1) : Int) p28 q28
 replace p28 := eq_true p28
 replace q28 := eq_true q28
 have HP39 := Kd.R_putn HO_3.out (((rd_T70 l0_1 x33_2).f1) : Int) (wrap64 ((rd x3_2 ((rd_T70 l0_1 x33_2).f0)) + ((rd_T70 l0_1 x33_2).f2)))
 rw [← Ny361.out] at HP39
 have HQ39 := mK HP39
 clear HP39
 have p30 : 0 ≤ (((rd_T70 l0_1 x33_2).f1) : Int) := of_decide_eq_true oX
 have q30 : (((rd_T70 l0_1 x33_2).f1) : Int) < ((x4_2.length : Int) : Int) := of_decide_eq_true oX
 obtain ⟨go30, co30, eo30, gb30, gl30, cl30, HG30⟩ := Kd.R_form HO_4.out (by omega)
 (first | cases eo30 | (injection eo30 with ea_ en_ ec_; (first | subst ea_ | (injection ea_ with ea_; subst ea_)); subst ec_; clear en_))
 have GB30 := mK gb30
 have GG30 := mK HG30
 clear gb30 gl30 HG30
 obtain ⟨hx30_0, hf30_0⟩ := Kd.R_celln 0 (Kd.R_far (p := ⟨go28, (((rd_T70 l0_1 x33_2).f1) : Int).toNat, none⟩) (Kd.R_mono HO_4.out (fun k_ hk => (⟨hk, fun e_ => hk (by rw [e_]; rfl)⟩ : _ ∧ k_ ≠ go28))) (fun _ hk => hk.2) (.int .i64 (wrap64 ((rd x3_2 ((rd_T70 l0_1 x33_2).f0)) + ((rd_T70 l0_1 x33_2).f2))))) (((rd_T70 l0_1 x33_2).f1) : Int) p30 q30
 replace p30 := eq_true p30
 replace q30 := eq_true q30
 have HP40 := Kd.R_putn (Kd.R_far (p := ⟨go28, (((rd_T70 l0_1 x33_2).f1) : Int).toNat, none⟩) (Kd.R_mono HO_4.out (fun k_ hk => (⟨hk, fun e_ => hk (by rw [e_]; rfl)⟩ : _ ∧ k_ ≠ go28))) (fun _ hk => hk.2) (.int .i64 (wrap64 ((rd x3_2 ((rd_T70 l0_1 x33_2).f0)) + ((rd_T70 l0_1 x33_2).f2))))) (((rd_T70 l0_1 x33_2).f1) : Int) x33_2
 rw [← Ny362.out] at HP40
 have HQ40 := mK HP40
 clear HP40
 refine start_ (n := 14) (S := fun w' => w'.cell? ⟨gb358, 0, none⟩ = some (.int .i64 ((rd_T70 l0_1 x33_2).f0)) ∧ w'.cell? ⟨gb358, 1, none⟩ = some (.int .i64 ((rd_T70 l0_1 x33_2).f1)) ∧ w'.cell? ⟨gb358, 2, none⟩ = some (.int .i64 ((rd_T70 l0_1 x33_2).f2))) (ds := [12]) (bs 0 14) (by kernel_rfl) rfl (by kernel_rfl) ⟨(blk_cell BK358.out 0).trans rfl, (blk_cell BK358.out 1).trans rfl, (blk_cell BK358.out 2).trans rfl⟩ (fun hHeld => ?_); refine with_tabW impl_NegativeCycle.tab14 impl_NegativeCycle.bits14 (fun HT_ HW_ => ?_)
 first | generalize w35.drew = w38 at HO_3 HO_4 BK346 BK358 HB GG28 GG30 HQ39 HQ40 hf28_0 hf30_0 hx28_0 hx30_0 hx359_0 hx360_0 hHeld ⊢ | generalize w35.drew = w38 at HO_3 HO_4 BK346 BK358 HB GG28 GG30 HQ39 HQ40 hf28_0 hf30_0 hx28_0 hx30_0 hHeld ⊢
 refine pL 0 53 (bs 1 14) HT_ ?_
 refine pL 1 54 (bs 2 14) HT_ ?_
 refine pL 3 56 #[true, true, false, true, false, false, false, false, false, false, false, false, false, false] HT_ ?_
 refine pL 4 57 #[true, true, false, true, true, false, false, false, false, false, false, false, false, false] HT_ ?_
 refine pL 6 59 #[true, true, false, true, true, false, true, false, false, false, false, false, false, false] HT_ ?_
 refine pL 7 60 #[true, true, false, true, true, false, true, true, false, false, false, false, false, false] HT_ ?_
 refine pL 8 61 #[true, true, false, true, true, false, true, true, true, false, false, false, false, false] HT_ ?_
 refine tL 2 55 #[true, true, true, true, true, false, true, true, true, false, false, false, false, false] HT_ HW_ hHeld ?_
 refine pL 9 62 #[true, true, true, true, true, false, true, true, true, true, false, false, false, false] HT_ ?_
 refine tL 5 58 (bs 10 14) HT_ HW_ hHeld ?_
 refine one_ (i := 10) (N := none) (bs 11 14) rfl rfl (one_of HT_.out (by kernel_rfl)) (by decide) (fun K hK => ?_)
 refine skip_ (w1 := ?_) (by rfl) rfl ?_ ?_
 rotate_left
 {
 go_simp
 rfl
 }
 refine hK.out _ _ ⟨((cell_far ((by have h_ := Kd.R_ne HO_3.out BK358.out (by decide); intro e_; exact h_ (congrArg some e_))) _).trans (hHeld.1)), ((cell_far ((by have h_ := Kd.R_ne HO_3.out BK358.out (by decide); intro e_; exact h_ (congrArg some e_))) _).trans (hHeld.2.1)), ((cell_far ((by have h_ := Kd.R_ne HO_3.out BK358.out (by decide); intro e_; exact h_ (congrArg some e_))) _).trans (hHeld.2.2))⟩ (fun hHeld => ?_)
 clear hK K
 refine pL 11 63 (bs 12 14) HT_ ?_
 refine last_ (i := 12) (N := none) (bs 13 14) rfl rfl (one_of HT_.out (by kernel_rfl)) (by decide) (fun K hK => ?_)
 refine skip_ (w1 := ?_) (by rfl) rfl ?_ ?_
 rotate_left
 {
 go_simp
 rfl
 }
 refine hK.out _ _ ?_
 clear hK K
 refine pL 13 5 (bs 14 14) HT_ ?_
 refine done_ (done_of HT_.out (by kernel_rfl)) ?_
 try go_wp2
 go_roundg k2
 case measure => have := HK1.out; have := HK2.out; omega
 case rel => exact ⟨(y361), (y362), (x33_2), (wrap64 (x33_2 + 1)), (by first | rfl | (simp; done) | (simp [*]; done)), (by first | rfl | (simp; done) | (simp [*]; done)), H', ⟨by have := HK1.out; have := HK2.out; omega⟩, ⟨by (with_reducible repeat first|apply rA|apply rN|apply rD); exact Kd.R_mono (Kd.R_far (p := ⟨go30, (((rd_T70 l0_1 x33_2).f1) : Int).toNat, none⟩) (Kd.R_mono HQ39.out (fun k_ hk => (⟨hk, fun e_ => hk (by rw [e_]; rfl)⟩ : _ ∧ k_ ≠ go30))) (fun _ hk => hk.2) (.int .i64 x33_2)) (fun _ hk => hk.1)⟩, ⟨by (with_reducible repeat first|apply rA|apply rN|apply rD); exact Kd.R_mono HQ40.out (fun _ hk => hk.1)⟩, ⟨by (with_reducible repeat first|apply kN|apply kD|apply kA); refine blk_far ?_ (by have h_ := Kd.R_ne HO_4.out BK346.out (by decide); intro e_; exact h_ (by rw [e_]; rfl)) _; (with_reducible repeat first|apply kN|apply kD|apply kA); refine blk_far ?_ (by have h_ := Kd.R_ne HO_3.out BK346.out (by decide); intro e_; exact h_ (by rw [e_]; rfl)) _; (with_reducible repeat first|apply kN|apply kD|apply kA); exact BK346.out⟩, ⟨bX HB⟩⟩
 )
 )
 )
 )
theorem impl_NegativeCycle.calls (k : Nat) (a0_0 : Int) (A0_1 : Option Addr) (c0_1 : Nat) (l0_1 : List (S70)) (r : List Int) (w : World) (hr0_1 : Kd.C k70 w A0_1 l0_1.length l0_1) (hc0_1 : l0_1.length ≤ c0_1) (h : impl_NegativeCycle.f k a0_0 l0_1 = some r) :
    Calls Try.prog 38 #[.agg #[.int .i64 a0_0, .slice A0_1 l0_1.length c0_1]] w fun e w' => ∃ v0_ : Value, e = .returned (v0_) ∧ Kd.R (Kd.int .i64) 3 w' w.heap.size (fun _ => True) v0_ r ∧ Below w.heap.size w w' := (impl_NegativeCycle.calls_nil k a0_0 A0_1 c0_1 l0_1 r w hr0_1 hc0_1 h).mono fun e w' ⟨v_, he_, hr_, hb_⟩ => ⟨v_, he_, hr_.1, hb_⟩

end Go.Proofs.Ytbbblnmngjhadaa.QFnExactLatestTimes
