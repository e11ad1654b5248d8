-- Written by this session's program wip/tools/mk.py out of the translation; Lean checks it.
import Derived.Test.YtbbblnmngjhadaaQFnExactEarliestTimesx0
namespace Go.Proofs.Ytbbblnmngjhadaa.QFnExactEarliestTimes
open Go.RowKit Go.Proofs.YtbbblnmngjhadaaW.PrintWords Go.Proofs.YtbbblnmngjhadaaW.PrintLast Go.Proofs.YtbbblnmngjhadaaW.PrintMore
attribute [local go_sem] max2_int min2_int max_two min_two max_three min_three max_four min_four   -- for this text's walks alone
set_option linter.unusedVariables false
set_option linter.unusedSimpArgs false

/-! ### spec_l03Round: function 97 -/
def spec_l03Round.l0 : Nat → List Int → List Int → List Bool → Int → List (S70) → Int → Int → Option (Int × List Int × List Int × List Bool)
  | 0, _, _, _, _, _, _, _ => none
  | k + 1, x1, x2, x3, x9, x13, x14, x15 => if x15 < x14 then (if 0 ≤ x15 then (if x15 < (x13.length : Int) then (if 0 ≤ ((rd_T70 x13 x15).f0) then (if ((rd_T70 x13 x15).f0) < (x3.length : Int) then (if rdOf false x3 ((rd_T70 x13 x15).f0) = true then (if 0 ≤ ((rd_T70 x13 x15).f1) then (if ((rd_T70 x13 x15).f1) < (x3.length : Int) then (if (rdOf false x3 ((rd_T70 x13 x15).f1) = true) then (if ((rd_T70 x13 x15).f0) < (x1.length : Int) then (if ((rd_T70 x13 x15).f1) < (x1.length : Int) then (if (wrap64 ((rd x1 ((rd_T70 x13 x15).f0)) + ((rd_T70 x13 x15).f2))) < (rd x1 ((rd_T70 x13 x15).f1)) then (if ((rd_T70 x13 x15).f1) < (x2.length : Int) then (spec_l03Round.l0 k (x1.set (((rd_T70 x13 x15).f1) : Int).toNat (wrap64 ((rd x1 ((rd_T70 x13 x15).f0)) + ((rd_T70 x13 x15).f2)))) (x2.set (((rd_T70 x13 x15).f1) : Int).toNat x15) (x3.set (((rd_T70 x13 x15).f1) : Int).toNat true) x15 x13 x14 (wrap64 (x15 + 1))) else (none)) else (spec_l03Round.l0 k x1 x2 x3 x9 x13 x14 (wrap64 (x15 + 1)))) else (none)) else (none)) else (if ((rd_T70 x13 x15).f0) < (x1.length : Int) then (if ((rd_T70 x13 x15).f1) < (x1.length : Int) then (if ((rd_T70 x13 x15).f1) < (x2.length : Int) then (spec_l03Round.l0 k (x1.set (((rd_T70 x13 x15).f1) : Int).toNat (wrap64 ((rd x1 ((rd_T70 x13 x15).f0)) + ((rd_T70 x13 x15).f2)))) (x2.set (((rd_T70 x13 x15).f1) : Int).toNat x15) (x3.set (((rd_T70 x13 x15).f1) : Int).toNat true) x15 x13 x14 (wrap64 (x15 + 1))) else (none)) else (none)) else (none))) else (none)) else (none)) else (spec_l03Round.l0 k x1 x2 x3 x9 x13 x14 (wrap64 (x15 + 1)))) else (none)) else (none)) else (none)) else (none)) else (some (x9, x1, x2, x3))
def spec_l03Round.f (k : Nat) (a0_0 : Int) (l0_1 : List (S70)) (l1 : List Int) (l2 : List Int) (l3 : List Bool) : Option (Int × List Int × List Int × List Bool) := spec_l03Round.l0 k l1 l2 l3 (-1) l0_1 (l0_1.length : Int) 0
theorem spec_l03Round.mono_l : ∀ k, (∀ y0 y1 y2 y3 y4 y5 y6, LeO (spec_l03Round.l0 k y0 y1 y2 y3 y4 y5 y6) (spec_l03Round.l0 (k + 1) y0 y1 y2 y3 y4 y5 y6))
  | 0 => fun _ _ _ _ _ _ _ r h => by simp [spec_l03Round.l0] at h
  | k + 1 => by
    have ih0 := spec_l03Round.mono_l k
    · intro y0 y1 y2 y3 y4 y5 y6
      unfold spec_l03Round.l0
      repeat' first|(with_reducible first|exact ih0 _ _ _ _ _ _ _|exact lR _|exact lN _|refine lI ?_ ?_|refine lB ?_ (fun _ => ?_))|exact ih0 _ _ _ _ _ _ _|exact lN _|refine lI ?_ ?_|refine lB ?_ (fun _ => ?_)
theorem spec_l03Round.mono : ∀ a0 a1 a2 a3 a4 k, LeO (spec_l03Round.f k a0 a1 a2 a3 a4) (spec_l03Round.f (k + 1) a0 a1 a2 a3 a4) := by
  intro a0 a1 a2 a3 a4 k
  have ih0 := spec_l03Round.mono_l k
  unfold spec_l03Round.f
  repeat' first|(with_reducible first|exact ih0 _ _ _ _ _ _ _|exact lR _|exact lN _|refine lI ?_ ?_|refine lB ?_ (fun _ => ?_))|exact ih0 _ _ _ _ _ _ _|exact lN _|refine lI ?_ ?_|refine lB ?_ (fun _ => ?_)
def spec_l03Round.T5 : Bool × List (List Nat × List Nat) := (true, [([], []), ([], []), ([1], [1]), ([0, 2], [0, 2]), ([3], [3]), ([4], [4]), ([5], [5]), ([5], [5]), ([7, 5], [5, 7]), ([6, 8, 5], [5, 6, 8]), ([9, 5], [5, 9]), ([10, 5], [5, 10]), ([11, 5, 5], [5, 11]), ([12], [12]), ([12], [12]), ([14, 12], [12, 14]), ([13, 15, 12], [12, 13, 15]), ([16, 12], [12, 16]), ([12], [12]), ([18, 12], [12, 18]), ([17, 19, 12], [12, 17, 19]), ([12], [12]), ([12], [12]), ([22, 12], [12, 22]), ([21, 23, 12], [12, 21, 23]), ([24, 12], [12, 24]), ([20, 25, 12], [12, 20, 25]), ([12, 26, 5], [5, 12, 26]), ([5, 27], [5, 27])])
def spec_l03Round.B5 : List Nat := [0, 0, 2, 7, 15, 31, 63, 63, 191, 511, 1023, 2047, 4095, 8191, 8191, 24575, 65535, 131071, 8191, 270335, 1048575, 8191, 8191, 4202495, 14688255, 31465471, 67108863, 134217727, 268435455]
theorem spec_l03Round.tab5 : rtab .any (opsOf Try.f97 5) = spec_l03Round.T5 := by kernel_rfl
theorem spec_l03Round.bits5 : waitsOk spec_l03Round.T5.2 spec_l03Round.B5 = true := by kernel_rfl
def spec_l03Round.T6 : Bool × List (List Nat × List Nat) := (true, [([], []), ([], []), ([1], [1]), ([], []), ([], []), ([4], [4]), ([3, 5], [3, 5]), ([6], [6]), ([], []), ([8], [8]), ([7, 9], [7, 9]), ([0, 2, 0, 1, 2, 3, 4, 5, 6, 7, 8, 9, 10], [0, 2]), ([11, 10, 0, 1, 2, 3, 4, 5, 6, 7, 8, 9, 10], [10, 11])])
def spec_l03Round.B6 : List Nat := [0, 0, 2, 0, 0, 16, 56, 120, 0, 256, 1016, 2047, 4095]
theorem spec_l03Round.tab6 : rtab .any (opsOf Try.f97 6) = spec_l03Round.T6 := by kernel_rfl
theorem spec_l03Round.bits6 : waitsOk spec_l03Round.T6.2 spec_l03Round.B6 = true := by kernel_rfl
set_option maxHeartbeats 8000000 in
set_option maxRecDepth 100000 in
theorem spec_l03Round.calls (k : Nat) (a0_0 : Int) (A0_1 : Option Addr) (c0_1 : Nat) (l0_1 : List (S70)) (P1_ : Nat → Prop) (u9000_ : Value) (l1 : List Int) (P2_ : Nat → Prop) (u9001_ : Value) (l2 : List Int) (P3_ : Nat → Prop) (u9002_ : Value) (l3 : List Bool) (r1 : Int) (r2 : List Int) (r3 : List Int) (r4 : List Bool) (w0 w : World) (hB : Below w0.heap.size w0 w) (hr0_1 : ∀ W_, Kept w W_ (fun k_ => P1_ k_ ∨ P2_ k_ ∨ P3_ k_) → Kd.C k70 W_ A0_1 l0_1.length l0_1) (hc0_1 : l0_1.length ≤ c0_1) (ho1 : Kd.R (Kd.int .i64) 3 w w0.heap.size P1_ u9000_ l1) (hp1_2 : ∀ k_, P1_ k_ → ¬ P2_ k_) (ho2 : Kd.R (Kd.int .i64) 3 w w0.heap.size P2_ u9001_ l2) (hp2_1 : ∀ k_, P2_ k_ → ¬ P1_ k_) (ho3 : Kd.R Kd.bool 4 w w0.heap.size P3_ u9002_ l3) (h : spec_l03Round.f k a0_0 l0_1 l1 l2 l3 = some (r1, r2, r3, r4)) :
    Calls Try.prog 97 #[.agg #[.int .i64 a0_0, .slice A0_1 l0_1.length c0_1], u9000_, u9001_, u9002_] w fun e w' => e = .returned (.int .i64 r1) ∧ Kd.R (Kd.int .i64) 3 w' w0.heap.size (fun k_ => ((P1_ k_ ∨ P2_ k_ ∨ P3_ k_) ∨ w.heap.size ≤ k_)) u9000_ r2 ∧ Kd.R (Kd.int .i64) 3 w' w0.heap.size (fun k_ => ((P1_ k_ ∨ P2_ k_ ∨ P3_ k_) ∨ w.heap.size ≤ k_)) u9001_ r3 ∧ Kd.R Kd.bool 4 w' w0.heap.size (fun k_ => ((P1_ k_ ∨ P2_ k_ ∨ P3_ k_) ∨ w.heap.size ≤ k_)) u9002_ r4 ∧ Below w0.heap.size w0 w' ∧ Kept w w' (fun k_ => P1_ k_ ∨ P2_ k_ ∨ P3_ k_) := by
 have hu33 := Try.underlying33
 have hu70 := Try.underlying70
 have HR0_1 := mK hr0_1
 have HC0_1 := mK hc0_1
 clear hr0_1 hc0_1
 have HO1 := mK (show Kd.R (Kd.int .i64) 3 w w0.heap.size (fun k_ => ((P1_ k_ ∨ P2_ k_ ∨ P3_ k_) ∨ w.heap.size ≤ k_) ∧ some k_ ≠ (u9001_ : Value).ownBlock) u9000_ l1 from Kd.R_mono ho1 (fun k_ hk => ⟨(.inl (.inl hk)), fun e_ => hp1_2 k_ hk (ho2.1 k_ e_.symm)⟩))
 have HO2 := mK (show Kd.R (Kd.int .i64) 3 w w0.heap.size (fun k_ => ((P1_ k_ ∨ P2_ k_ ∨ P3_ k_) ∨ w.heap.size ≤ k_) ∧ some k_ ≠ (u9000_ : Value).ownBlock) u9001_ l2 from Kd.R_mono ho2 (fun k_ hk => ⟨(.inl (.inr (.inl hk))), fun e_ => hp2_1 k_ hk (ho1.1 k_ e_.symm)⟩))
 have HO3 := mK (show Kd.R Kd.bool 4 w w0.heap.size (fun k_ => ((P1_ k_ ∨ P2_ k_ ∨ P3_ k_) ∨ w.heap.size ≤ k_)) u9002_ l3 from Kd.R_mono ho3 (fun k_ hk => (.inl (.inr (.inr hk)))))
 have HK := mK (Kept.refl w (fun k_ => P1_ k_ ∨ P2_ k_ ∨ P3_ k_))
 have HW0 := mK hB.size
 have HB := mK hB
 clear hB
 have H : (spec_l03Round.l0 k l1 l2 l3 (-1) l0_1 (l0_1.length : Int) 0) = some (r1, r2, r3, r4) := h
 clear h
 have H' := mK H
 clear H
 go_enter Try.func97, Try.ntmps97
 go_wp2_with (first | ((with_reducible refine gate_dst (N := 4) rfl ?_); refine bxE 4 #[.int .i64 a0_0, .slice A0_1 l0_1.length c0_1] 33 ?_; intro gb144 hg w5 hbox hb; have n0_ := mK (Kd.R_below (rX HO1) hb); have n1_ := mK (Kd.R_below (rX HO2) hb); have n2_ := mK (Kd.R_below (rX HO3) hb); have n3_ := mK (Kept.below (S := (fun k_ => P1_ k_ ∨ P2_ k_ ∨ P3_ k_)) (tX HK) hb); have n4_ := bB HB hb; have n5_ := mK hbox; have n6_ := mK ((by rw [hg]; exact (by first | exact HK.out.1 | exact (show Kept w _ (fun k_ => P1_ k_ ∨ P2_ k_ ∨ P3_ k_) from tX HK).1) : w.heap.size ≤ gb144)); have n7_ := mK (gX hg HB); clear HO1; clear HO2; clear HO3; clear HK; clear HB; have HO1 := n0_; have HO2 := n1_; have HO3 := n2_; have HK := n3_; have HB := n4_; have BK144 := n5_; have GW144 := n6_; have GE144 := n7_; clear n0_ n1_ n2_ n3_ n4_ n5_ n6_ n7_; clear hb hbox hg; have hcz6_0 := q0 BK144; have hcz6_1 := q1 BK144; have hfz6_0 := fX BK144 0; have hfz6_1 := fX BK144 1))
 go_loopg [9, 15] k (fun kq v9 v15 w' => ∃ (x1_1 : List Int) (x2_1 : List Int) (x3_1 : List Bool) (x9_1 : Int) (x15_1 : Int), v9 = .int .i64 x9_1 ∧ v15 = .int .i64 x15_1 ∧ Aside0 (spec_l03Round.l0 kq x1_1 x2_1 x3_1 x9_1 l0_1 (l0_1.length : Int) x15_1 = some (r1, r2, r3, r4)) ∧ Aside0 (kq ≤ k) ∧ Aside0 (Kd.R (Kd.int .i64) 3 w' w0.heap.size (fun k_ => ((P1_ k_ ∨ P2_ k_ ∨ P3_ k_) ∨ w.heap.size ≤ k_) ∧ some k_ ≠ (u9001_ : Value).ownBlock) u9000_ x1_1) ∧ Aside0 (Kd.R (Kd.int .i64) 3 w' w0.heap.size (fun k_ => ((P1_ k_ ∨ P2_ k_ ∨ P3_ k_) ∨ w.heap.size ≤ k_) ∧ some k_ ≠ (u9000_ : Value).ownBlock) u9001_ x2_1) ∧ Aside0 (Kd.R Kd.bool 4 w' w0.heap.size (fun k_ => ((P1_ k_ ∨ P2_ k_ ∨ P3_ k_) ∨ w.heap.size ≤ k_)) u9002_ x3_1) ∧ Aside0 (w'.heap[gb144]? = some (.cells #[.int .i64 a0_0, (.slice A0_1 l0_1.length c0_1)] 33 (0, 0))) ∧ Aside0 (Kept w w' (fun k_ => P1_ k_ ∨ P2_ k_ ∨ P3_ k_)) ∧ Aside0 (Below w0.heap.size w0 w'))
 case atStart => exact ⟨(l1), (l2), (l3), ((-1)), (0), (by first | rfl | (simp; done) | (simp [*]; done)), (by first | rfl | (simp; done) | (simp [*]; done)), H', ⟨Nat.le_refl _⟩, ⟨rX HO1⟩, ⟨rX HO2⟩, ⟨rX HO3⟩, ⟨kX BK144⟩, ⟨tX HK⟩, ⟨bX HB⟩⟩
 case round => (
 clear H'
 try clear p1
 try clear p2
 try clear hcz6_0
 try clear hcz6_1
 try clear hfz6_0
 try clear hfz6_1
 obtain ⟨x1_1, x2_1, x3_1, x9_1, x15_1, rfl, rfl, HA, HK1, HO_1, HO_2, HO_3, BK144, HK, HB⟩ := hrel
 cases gk with
 | zero => exact absurd HA.out (by simp [spec_l03Round.l0])
 | succ k1 => (
 have H := HA.out
 clear HA
 simp only [spec_l03Round.l0] at H
 by_cases c7 : x15_1 < (l0_1.length : Int)
 rotate_left
 {
 rw [if_neg c7] at H
 have c7b0 : decide (x15_1 < (l0_1.length : Int)) = false := decide_eq_false c7
 clear c7
 simp only [Option.some.injEq, Prod.mk.injEq] at H
 obtain ⟨rfl, rfl, rfl, rfl⟩ := H
 go_wp2
 go_ret
 exact ⟨by first | rfl | (simp [errW_none, errW_some] <;> rfl) | (simp [*, errW_none, errW_some] <;> rfl), by (with_reducible repeat first|apply rA|apply rN|apply rD); exact Kd.R_mono HO_1.out (fun _ hk => hk.1), by (with_reducible repeat first|apply rA|apply rN|apply rD); exact Kd.R_mono HO_2.out (fun _ hk => hk.1), rX HO_3, bX HB, tX HK⟩
 }
 rw [if_pos c7] at H
 have c7b0 : decide (x15_1 < (l0_1.length : Int)) = true := decide_eq_true c7
 clear c7
 by_cases c8 : 0 ≤ x15_1
 rotate_left
 {
 rw [if_neg c8] at H
 exact absurd H (by simp)
 }
 rw [if_pos c8] at H
 have c8b0 : decide (0 ≤ x15_1) = true := decide_eq_true c8
 clear c8
 by_cases c9 : x15_1 < (l0_1.length : Int)
 rotate_left
 {
 rw [if_neg c9] at H
 exact absurd H (by simp)
 }
 rw [if_pos c9] at H
 have c9b0 : decide (x15_1 < (l0_1.length : Int)) = true := decide_eq_true c9
 clear c9
 by_cases c10 : 0 ≤ ((rd_T70 l0_1 x15_1).f0)
 rotate_left
 {
 rw [if_neg c10] at H
 exact absurd H (by simp)
 }
 rw [if_pos c10] at H
 have c10b0 : decide (0 ≤ ((rd_T70 l0_1 x15_1).f0)) = true := decide_eq_true c10
 clear c10
 by_cases c11 : ((rd_T70 l0_1 x15_1).f0) < (x3_1.length : Int)
 rotate_left
 {
 rw [if_neg c11] at H
 exact absurd H (by simp)
 }
 rw [if_pos c11] at H
 have c11b0 : decide (((rd_T70 l0_1 x15_1).f0) < (x3_1.length : Int)) = true := decide_eq_true c11
 clear c11
 obtain ⟨bq12, hbq12⟩ : ∃ b_ : Bool, b_ = (rdOf false x3_1 ((rd_T70 l0_1 x15_1).f0)) := ⟨_, rfl⟩
 replace H : (if bq12 = true then (if 0 ≤ ((rd_T70 l0_1 x15_1).f1) then (if ((rd_T70 l0_1 x15_1).f1) < (x3_1.length : Int) then (if (rdOf false x3_1 ((rd_T70 l0_1 x15_1).f1) = true) then (if ((rd_T70 l0_1 x15_1).f0) < (x1_1.length : Int) then (if ((rd_T70 l0_1 x15_1).f1) < (x1_1.length : Int) then (if (wrap64 ((rd x1_1 ((rd_T70 l0_1 x15_1).f0)) + ((rd_T70 l0_1 x15_1).f2))) < (rd x1_1 ((rd_T70 l0_1 x15_1).f1)) then (if ((rd_T70 l0_1 x15_1).f1) < (x2_1.length : Int) then (spec_l03Round.l0 k1 (x1_1.set (((rd_T70 l0_1 x15_1).f1) : Int).toNat (wrap64 ((rd x1_1 ((rd_T70 l0_1 x15_1).f0)) + ((rd_T70 l0_1 x15_1).f2)))) (x2_1.set (((rd_T70 l0_1 x15_1).f1) : Int).toNat x15_1) (x3_1.set (((rd_T70 l0_1 x15_1).f1) : Int).toNat true) x15_1 l0_1 (l0_1.length : Int) (wrap64 (x15_1 + 1))) else (none)) else (spec_l03Round.l0 k1 x1_1 x2_1 x3_1 x9_1 l0_1 (l0_1.length : Int) (wrap64 (x15_1 + 1)))) else (none)) else (none)) else (if ((rd_T70 l0_1 x15_1).f0) < (x1_1.length : Int) then (if ((rd_T70 l0_1 x15_1).f1) < (x1_1.length : Int) then (if ((rd_T70 l0_1 x15_1).f1) < (x2_1.length : Int) then (spec_l03Round.l0 k1 (x1_1.set (((rd_T70 l0_1 x15_1).f1) : Int).toNat (wrap64 ((rd x1_1 ((rd_T70 l0_1 x15_1).f0)) + ((rd_T70 l0_1 x15_1).f2)))) (x2_1.set (((rd_T70 l0_1 x15_1).f1) : Int).toNat x15_1) (x3_1.set (((rd_T70 l0_1 x15_1).f1) : Int).toNat true) x15_1 l0_1 (l0_1.length : Int) (wrap64 (x15_1 + 1))) else (none)) else (none)) else (none))) else (none)) else (none)) else (spec_l03Round.l0 k1 x1_1 x2_1 x3_1 x9_1 l0_1 (l0_1.length : Int) (wrap64 (x15_1 + 1)))) = some (r1, r2, r3, r4) := by rw [← hbq12] at H; exact H
 have Nbq12 := mK hbq12
 clear hbq12
 by_cases c13 : bq12 = true
 rotate_left
 {
 replace c13 := Bool.eq_false_iff.mpr c13
 subst c13
 rw [if_neg (show ¬ (false = true) by decide)] at H
 have H' := mK H
 clear H
 have p145 : 0 ≤ (x15_1 : Int) := of_decide_eq_true oX
 have q145 : x15_1 < (l0_1.length : Int) := of_decide_eq_true oX
 obtain ⟨ad145, e145, hx145_0, hx145_1, hx145_2⟩ := at_T70 (Kd.C_kept_now HR0_1.out HK.out) x15_1 p145 q145
 cases e145
 replace p145 := eq_true p145
 replace q145 := eq_true q145
 try go_wp2_with (first | ((with_reducible refine gate_dst (N := 11) rfl ?_); refine bxE 11 #[.int .i64 0, .int .i64 0, .int .i64 0] 70 ?_; intro gb146 hg w70 hbox hb; have n0_ := mK (Kd.R_below (rX HO_1) hb); have n1_ := mK (Kd.R_below (rX HO_2) hb); have n2_ := mK (Kd.R_below (rX HO_3) hb); have n3_ := kB BK144 hb; have n4_ := mK (Kept.below (S := (fun k_ => P1_ k_ ∨ P2_ k_ ∨ P3_ k_)) (tX HK) hb); have n5_ := bB HB hb; have n6_ := mK hbox; have n7_ := mK ((by rw [hg]; exact (by first | exact HK.out.1 | exact (show Kept w _ (fun k_ => P1_ k_ ∨ P2_ k_ ∨ P3_ k_) from tX HK).1) : w.heap.size ≤ gb146)); have n8_ := mK (gX hg HB); have n9_ := mK (lX hg BK144); have n10_ := mK (mX hg BK144); clear HO_1; clear HO_2; clear HO_3; clear BK144; clear HK; clear HB; have HO_1 := n0_; have HO_2 := n1_; have HO_3 := n2_; have BK144 := n3_; have HK := n4_; have HB := n5_; have BK146 := n6_; have GW146 := n7_; have GE146 := n8_; have NB144_146 := n9_; have NB146_144 := n10_; clear n0_ n1_ n2_ n3_ n4_ n5_ n6_ n7_ n8_ n9_ n10_; clear hb hbox hg; have hnb71 := NB146_144.out; have hnc71 := NB144_146.out; have hcz72_0 := q0 BK146; have hcz72_1 := q1 BK146; have hcz72_2 := q2 BK146; have hfz72_0 := fX BK146 0; have hfz72_1 := fX BK146 1; have hfz72_2 := fX BK146 2))
 have n0_ : Aside0 (Kd.R (Kd.int .i64) 3 (((w70.setCell ⟨gb146, 0, none⟩ (.int .i64 ((rd_T70 l0_1 x15_1).f0))).setCell ⟨gb146, 1, none⟩ (.int .i64 ((rd_T70 l0_1 x15_1).f1))).setCell ⟨gb146, 2, none⟩ (.int .i64 ((rd_T70 l0_1 x15_1).f2))) w0.heap.size (fun k_ => ((P1_ k_ ∨ P2_ k_ ∨ P3_ k_) ∨ w.heap.size ≤ k_) ∧ some k_ ≠ (u9001_ : Value).ownBlock) u9000_ x1_1) := ⟨rF3 HO_1 BK146⟩
 have n1_ : Aside0 (Kd.R (Kd.int .i64) 3 (((w70.setCell ⟨gb146, 0, none⟩ (.int .i64 ((rd_T70 l0_1 x15_1).f0))).setCell ⟨gb146, 1, none⟩ (.int .i64 ((rd_T70 l0_1 x15_1).f1))).setCell ⟨gb146, 2, none⟩ (.int .i64 ((rd_T70 l0_1 x15_1).f2))) w0.heap.size (fun k_ => ((P1_ k_ ∨ P2_ k_ ∨ P3_ k_) ∨ w.heap.size ≤ k_) ∧ some k_ ≠ (u9000_ : Value).ownBlock) u9001_ x2_1) := ⟨rF3 HO_2 BK146⟩
 have n2_ : Aside0 (Kd.R Kd.bool 4 (((w70.setCell ⟨gb146, 0, none⟩ (.int .i64 ((rd_T70 l0_1 x15_1).f0))).setCell ⟨gb146, 1, none⟩ (.int .i64 ((rd_T70 l0_1 x15_1).f1))).setCell ⟨gb146, 2, none⟩ (.int .i64 ((rd_T70 l0_1 x15_1).f2))) w0.heap.size (fun k_ => ((P1_ k_ ∨ P2_ k_ ∨ P3_ k_) ∨ w.heap.size ≤ k_)) u9002_ x3_1) := ⟨rF3 HO_3 BK146⟩
 have n3_ : Aside0 ((((w70.setCell ⟨gb146, 0, none⟩ (.int .i64 ((rd_T70 l0_1 x15_1).f0))).setCell ⟨gb146, 1, none⟩ (.int .i64 ((rd_T70 l0_1 x15_1).f1))).setCell ⟨gb146, 2, none⟩ (.int .i64 ((rd_T70 l0_1 x15_1).f2))).heap[gb144]? = some (.cells #[.int .i64 a0_0, .slice (some ad145) l0_1.length c0_1] 33 (0, 0))) := ⟨kF BK144 NB144_146⟩
 have n4_ : Aside0 ((((w70.setCell ⟨gb146, 0, none⟩ (.int .i64 ((rd_T70 l0_1 x15_1).f0))).setCell ⟨gb146, 1, none⟩ (.int .i64 ((rd_T70 l0_1 x15_1).f1))).setCell ⟨gb146, 2, none⟩ (.int .i64 ((rd_T70 l0_1 x15_1).f2))).heap[gb146]? = some (.cells #[.int .i64 ((rd_T70 l0_1 x15_1).f0), .int .i64 ((rd_T70 l0_1 x15_1).f1), .int .i64 ((rd_T70 l0_1 x15_1).f2)] 70 (0, 0))) := ⟨kP3 BK146⟩
 have n5_ : Aside0 (Kept w (((w70.setCell ⟨gb146, 0, none⟩ (.int .i64 ((rd_T70 l0_1 x15_1).f0))).setCell ⟨gb146, 1, none⟩ (.int .i64 ((rd_T70 l0_1 x15_1).f1))).setCell ⟨gb146, 2, none⟩ (.int .i64 ((rd_T70 l0_1 x15_1).f2))) (fun k_ => P1_ k_ ∨ P2_ k_ ∨ P3_ k_)) := ⟨tX HK⟩
 have n6_ : Aside0 (Below w0.heap.size w0 (((w70.setCell ⟨gb146, 0, none⟩ (.int .i64 ((rd_T70 l0_1 x15_1).f0))).setCell ⟨gb146, 1, none⟩ (.int .i64 ((rd_T70 l0_1 x15_1).f1))).setCell ⟨gb146, 2, none⟩ (.int .i64 ((rd_T70 l0_1 x15_1).f2)))) := ⟨bX HB⟩
 (try clear HO_1)
 (try clear HO_2)
 (try clear HO_3)
 (try clear BK144)
 (try clear BK146)
 (try clear HK)
 (try clear HB)
 generalize (((w70.setCell ⟨gb146, 0, none⟩ (.int .i64 ((rd_T70 l0_1 x15_1).f0))).setCell ⟨gb146, 1, none⟩ (.int .i64 ((rd_T70 l0_1 x15_1).f1))).setCell ⟨gb146, 2, none⟩ (.int .i64 ((rd_T70 l0_1 x15_1).f2))) = w73 at n0_ n1_ n2_ n3_ n4_ n5_ n6_ ⊢
 have HO_1 := n0_
 have HO_2 := n1_
 have HO_3 := n2_
 have BK144 := n3_
 have BK146 := n4_
 have HK := n5_
 have HB := n6_
 clear n0_ n1_ n2_ n3_ n4_ n5_ n6_
 have n0_ := mK (Kd.R_drew HO_1.out)
 have n1_ := mK (Kd.R_drew HO_2.out)
 have n2_ := mK (Kd.R_drew HO_3.out)
 have n3_ := mK (blk_drew BK144.out)
 have n4_ := mK (blk_drew BK146.out)
 have n5_ := mK (Kept.drew HK.out)
 have n6_ := mK (below_drew1 HB.out)
 clear HO_1
 clear HO_2
 clear HO_3
 clear BK144
 clear BK146
 clear HK
 clear HB
 have HO_1 := n0_
 have HO_2 := n1_
 have HO_3 := n2_
 have BK144 := n3_
 have BK146 := n4_
 have HK := n5_
 have HB := n6_
 clear n0_ n1_ n2_ n3_ n4_ n5_ n6_
 obtain ⟨Ao75, co75, eo75⟩ := Kd.R_slice HO_3.out
 (first | subst eo75 | (injection eo75 with f1_ f2_ f3_; have f4_ := f1_.symm; have f5_ := f3_.symm; clear f1_ f2_ f3_; subst f4_; subst f5_))
 have p147 : 0 ≤ (((rd_T70 l0_1 x15_1).f0) : Int) := of_decide_eq_true oX
 have q147 : ((rd_T70 l0_1 x15_1).f0) < (x3_1.length : Int) := of_decide_eq_true oX
 obtain ⟨ad147, e147, hx147_0⟩ := Kd.at_bool (Kd.R_reads' HO_3.out).2.2 ((rd_T70 l0_1 x15_1).f0) p147 q147
 (try rw [← Nbq12.out] at hx147_0)
 cases e147
 replace p147 := eq_true p147
 replace q147 := eq_true q147
 refine start_ (n := 29) (S := fun w' => w'.cell? ⟨gb146, 0, none⟩ = some (.int .i64 ((rd_T70 l0_1 x15_1).f0)) ∧ w'.cell? ⟨gb146, 1, none⟩ = some (.int .i64 ((rd_T70 l0_1 x15_1).f1)) ∧ w'.cell? ⟨gb146, 2, none⟩ = some (.int .i64 ((rd_T70 l0_1 x15_1).f2)) ∧ w'.cell? (ad147.add (((rd_T70 l0_1 x15_1).f0)).toNat) = some (.bool false)) (ds := []) (bs 0 29) (by kernel_rfl) rfl (by kernel_rfl) ⟨(blk_cell BK146.out 0).trans rfl, (blk_cell BK146.out 1).trans rfl, (blk_cell BK146.out 2).trans rfl, hx147_0⟩ (fun hHeld => ?_); refine with_tabW spec_l03Round.tab5 spec_l03Round.bits5 (fun HT_ HW_ => ?_)
 generalize w73.drew = w74 at HO_1 HO_2 HO_3 BK144 BK146 HK HB hx147_0 hHeld ⊢
 refine pL 0 20 (bs 1 29) HT_ ?_
 refine pL 1 21 (bs 2 29) HT_ ?_
 refine tL 2 22 (bs 3 29) HT_ HW_ hHeld ?_
 refine pL 3 23 (bs 4 29) HT_ ?_
 refine tL 4 24 (bs 5 29) HT_ HW_ hHeld ?_
 refine pL 5 25 (bs 6 29) HT_ ?_
 refine pD 6 26 (bs 7 29) HT_ ?_
 refine pD 7 27 (bs 8 29) HT_ ?_
 refine pD 8 28 (bs 9 29) HT_ ?_
 refine pD 9 29 (bs 10 29) HT_ ?_
 refine pD 10 30 (bs 11 29) HT_ ?_
 refine pD 11 31 (bs 12 29) HT_ ?_
 refine pD 12 32 (bs 13 29) HT_ ?_
 refine pD 13 33 (bs 14 29) HT_ ?_
 refine pD 14 34 (bs 15 29) HT_ ?_
 refine pD 15 35 (bs 16 29) HT_ ?_
 refine pD 16 36 (bs 17 29) HT_ ?_
 refine pD 17 37 (bs 18 29) HT_ ?_
 refine pD 18 38 (bs 19 29) HT_ ?_
 refine pD 19 39 (bs 20 29) HT_ ?_
 refine pD 20 40 (bs 21 29) HT_ ?_
 refine pD 21 41 (bs 22 29) HT_ ?_
 refine pD 22 42 (bs 23 29) HT_ ?_
 refine pD 23 43 (bs 24 29) HT_ ?_
 refine pD 24 44 (bs 25 29) HT_ ?_
 refine pD 25 45 (bs 26 29) HT_ ?_
 refine pD 26 46 (bs 27 29) HT_ ?_
 refine pD 27 47 (bs 28 29) HT_ ?_
 refine pL 28 48 (bs 29 29) HT_ ?_
 refine done_ (done_of HT_.out (by kernel_rfl)) ?_
 try go_wp2
 go_roundg k1
 case measure => have := HK1.out; omega
 case rel => exact ⟨(x1_1), (x2_1), (x3_1), (x9_1), (wrap64 (x15_1 + 1)), (by first | rfl | (simp; done) | (simp [*]; done)), (by first | rfl | (simp; done) | (simp [*]; done)), H', ⟨by have := HK1.out; omega⟩, ⟨rX HO_1⟩, ⟨rX HO_2⟩, ⟨rX HO_3⟩, ⟨kX BK144⟩, ⟨tX HK⟩, ⟨bX HB⟩⟩
 }
 subst c13
 rw [if_pos rfl] at H
 by_cases c14 : 0 ≤ ((rd_T70 l0_1 x15_1).f1)
 rotate_left
 {
 rw [if_neg c14] at H
 exact absurd H (by simp)
 }
 rw [if_pos c14] at H
 have c14b0 : decide (0 ≤ ((rd_T70 l0_1 x15_1).f1)) = true := decide_eq_true c14
 clear c14
 by_cases c15 : ((rd_T70 l0_1 x15_1).f1) < (x3_1.length : Int)
 rotate_left
 {
 rw [if_neg c15] at H
 exact absurd H (by simp)
 }
 rw [if_pos c15] at H
 have c15b0 : decide (((rd_T70 l0_1 x15_1).f1) < (x3_1.length : Int)) = true := decide_eq_true c15
 clear c15
 obtain ⟨bq16, hbq16⟩ : ∃ b_ : Bool, b_ = (rdOf false x3_1 ((rd_T70 l0_1 x15_1).f1)) := ⟨_, rfl⟩
 replace H : (if (bq16 = true) then (if ((rd_T70 l0_1 x15_1).f0) < (x1_1.length : Int) then (if ((rd_T70 l0_1 x15_1).f1) < (x1_1.length : Int) then (if (wrap64 ((rd x1_1 ((rd_T70 l0_1 x15_1).f0)) + ((rd_T70 l0_1 x15_1).f2))) < (rd x1_1 ((rd_T70 l0_1 x15_1).f1)) then (if ((rd_T70 l0_1 x15_1).f1) < (x2_1.length : Int) then (spec_l03Round.l0 k1 (x1_1.set (((rd_T70 l0_1 x15_1).f1) : Int).toNat (wrap64 ((rd x1_1 ((rd_T70 l0_1 x15_1).f0)) + ((rd_T70 l0_1 x15_1).f2)))) (x2_1.set (((rd_T70 l0_1 x15_1).f1) : Int).toNat x15_1) (x3_1.set (((rd_T70 l0_1 x15_1).f1) : Int).toNat true) x15_1 l0_1 (l0_1.length : Int) (wrap64 (x15_1 + 1))) else (none)) else (spec_l03Round.l0 k1 x1_1 x2_1 x3_1 x9_1 l0_1 (l0_1.length : Int) (wrap64 (x15_1 + 1)))) else (none)) else (none)) else (if ((rd_T70 l0_1 x15_1).f0) < (x1_1.length : Int) then (if ((rd_T70 l0_1 x15_1).f1) < (x1_1.length : Int) then (if ((rd_T70 l0_1 x15_1).f1) < (x2_1.length : Int) then (spec_l03Round.l0 k1 (x1_1.set (((rd_T70 l0_1 x15_1).f1) : Int).toNat (wrap64 ((rd x1_1 ((rd_T70 l0_1 x15_1).f0)) + ((rd_T70 l0_1 x15_1).f2)))) (x2_1.set (((rd_T70 l0_1 x15_1).f1) : Int).toNat x15_1) (x3_1.set (((rd_T70 l0_1 x15_1).f1) : Int).toNat true) x15_1 l0_1 (l0_1.length : Int) (wrap64 (x15_1 + 1))) else (none)) else (none)) else (none))) = some (r1, r2, r3, r4) := by rw [← hbq16] at H; exact H
 have Nbq16 := mK hbq16
 clear hbq16
 by_cases c17 : (bq16 = true)
 rotate_left
 {
 replace c17 := Bool.eq_false_iff.mpr c17
 subst c17
 rw [if_neg (show ¬ (false = true) by decide)] at H
 by_cases c48 : ((rd_T70 l0_1 x15_1).f0) < (x1_1.length : Int)
 rotate_left
 {
 rw [if_neg c48] at H
 exact absurd H (by simp)
 }
 rw [if_pos c48] at H
 have c48b0 : decide (((rd_T70 l0_1 x15_1).f0) < (x1_1.length : Int)) = true := decide_eq_true c48
 clear c48
 by_cases c49 : ((rd_T70 l0_1 x15_1).f1) < (x1_1.length : Int)
 rotate_left
 {
 rw [if_neg c49] at H
 exact absurd H (by simp)
 }
 rw [if_pos c49] at H
 have c49b0 : decide (((rd_T70 l0_1 x15_1).f1) < (x1_1.length : Int)) = true := decide_eq_true c49
 clear c49
 obtain ⟨y156, hy156⟩ : ∃ y_ : List Int, y_ = (x1_1.set (((rd_T70 l0_1 x15_1).f1) : Int).toNat (wrap64 ((rd x1_1 ((rd_T70 l0_1 x15_1).f0)) + ((rd_T70 l0_1 x15_1).f2)))) := ⟨_, rfl⟩
 replace H : (if ((rd_T70 l0_1 x15_1).f1) < (x2_1.length : Int) then (spec_l03Round.l0 k1 y156 (x2_1.set (((rd_T70 l0_1 x15_1).f1) : Int).toNat x15_1) (x3_1.set (((rd_T70 l0_1 x15_1).f1) : Int).toNat true) x15_1 l0_1 (l0_1.length : Int) (wrap64 (x15_1 + 1))) else (none)) = some (r1, r2, r3, r4) := by first | (rw [hy156]; with_reducible exact H) | (have H2_ := (Option.bind_some _ _).symm.trans H; rw [hy156]; with_reducible exact H2_) | (have H2_ := (Option.bind_some _ _).symm.trans H; with_reducible exact H2_) | with_reducible exact H | (rw [hy156]; exact H) | exact H
 have Ny156 := mK hy156
 clear hy156
 obtain ⟨y157, hy157⟩ : ∃ y_ : List Bool, y_ = (x3_1.set (((rd_T70 l0_1 x15_1).f1) : Int).toNat true) := ⟨_, rfl⟩
 replace H : (if ((rd_T70 l0_1 x15_1).f1) < (x2_1.length : Int) then (spec_l03Round.l0 k1 y156 (x2_1.set (((rd_T70 l0_1 x15_1).f1) : Int).toNat x15_1) y157 x15_1 l0_1 (l0_1.length : Int) (wrap64 (x15_1 + 1))) else (none)) = some (r1, r2, r3, r4) := by first | (rw [hy157]; with_reducible exact H) | (have H2_ := (Option.bind_some _ _).symm.trans H; rw [hy157]; with_reducible exact H2_) | (have H2_ := (Option.bind_some _ _).symm.trans H; with_reducible exact H2_) | with_reducible exact H | (rw [hy157]; exact H) | exact H
 have Ny157 := mK hy157
 clear hy157
 by_cases c52 : ((rd_T70 l0_1 x15_1).f1) < (x2_1.length : Int)
 rotate_left
 {
 rw [if_neg c52] at H
 exact absurd H (by simp)
 }
 rw [if_pos c52] at H
 have c52b0 : decide (((rd_T70 l0_1 x15_1).f1) < (x2_1.length : Int)) = true := decide_eq_true c52
 clear c52
 obtain ⟨y158, hy158⟩ : ∃ y_ : List Int, y_ = (x2_1.set (((rd_T70 l0_1 x15_1).f1) : Int).toNat x15_1) := ⟨_, rfl⟩
 replace H : (spec_l03Round.l0 k1 y156 y158 y157 x15_1 l0_1 (l0_1.length : Int) (wrap64 (x15_1 + 1))) = some (r1, r2, r3, r4) := by first | (rw [hy158]; with_reducible exact H) | (have H2_ := (Option.bind_some _ _).symm.trans H; rw [hy158]; with_reducible exact H2_) | (have H2_ := (Option.bind_some _ _).symm.trans H; with_reducible exact H2_) | with_reducible exact H | (rw [hy158]; exact H) | exact H
 have Ny158 := mK hy158
 clear hy158
 have H' := mK H
 clear H
 have p145 : 0 ≤ (x15_1 : Int) := of_decide_eq_true oX
 have q145 : x15_1 < (l0_1.length : Int) := of_decide_eq_true oX
 obtain ⟨ad145, e145, hx145_0, hx145_1, hx145_2⟩ := at_T70 (Kd.C_kept_now HR0_1.out HK.out) x15_1 p145 q145
 cases e145
 replace p145 := eq_true p145
 replace q145 := eq_true q145
 try go_wp2_with (first | ((with_reducible refine gate_dst (N := 11) rfl ?_); refine bxE 11 #[.int .i64 0, .int .i64 0, .int .i64 0] 70 ?_; intro gb146 hg w54 hbox hb; have n0_ := mK (Kd.R_below (rX HO_1) hb); have n1_ := mK (Kd.R_below (rX HO_2) hb); have n2_ := mK (Kd.R_below (rX HO_3) hb); have n3_ := kB BK144 hb; have n4_ := mK (Kept.below (S := (fun k_ => P1_ k_ ∨ P2_ k_ ∨ P3_ k_)) (tX HK) hb); have n5_ := bB HB hb; have n6_ := mK hbox; have n7_ := mK ((by rw [hg]; exact (by first | exact HK.out.1 | exact (show Kept w _ (fun k_ => P1_ k_ ∨ P2_ k_ ∨ P3_ k_) from tX HK).1) : w.heap.size ≤ gb146)); have n8_ := mK (gX hg HB); have n9_ := mK (lX hg BK144); have n10_ := mK (mX hg BK144); clear HO_1; clear HO_2; clear HO_3; clear BK144; clear HK; clear HB; have HO_1 := n0_; have HO_2 := n1_; have HO_3 := n2_; have BK144 := n3_; have HK := n4_; have HB := n5_; have BK146 := n6_; have GW146 := n7_; have GE146 := n8_; have NB144_146 := n9_; have NB146_144 := n10_; clear n0_ n1_ n2_ n3_ n4_ n5_ n6_ n7_ n8_ n9_ n10_; clear hb hbox hg; have hnb55 := NB146_144.out; have hnc55 := NB144_146.out; have hcz56_0 := q0 BK146; have hcz56_1 := q1 BK146; have hcz56_2 := q2 BK146; have hfz56_0 := fX BK146 0; have hfz56_1 := fX BK146 1; have hfz56_2 := fX BK146 2))
 have n0_ : Aside0 (Kd.R (Kd.int .i64) 3 (((w54.setCell ⟨gb146, 0, none⟩ (.int .i64 ((rd_T70 l0_1 x15_1).f0))).setCell ⟨gb146, 1, none⟩ (.int .i64 ((rd_T70 l0_1 x15_1).f1))).setCell ⟨gb146, 2, none⟩ (.int .i64 ((rd_T70 l0_1 x15_1).f2))) w0.heap.size (fun k_ => ((P1_ k_ ∨ P2_ k_ ∨ P3_ k_) ∨ w.heap.size ≤ k_) ∧ some k_ ≠ (u9001_ : Value).ownBlock) u9000_ x1_1) := ⟨rF3 HO_1 BK146⟩
 have n1_ : Aside0 (Kd.R (Kd.int .i64) 3 (((w54.setCell ⟨gb146, 0, none⟩ (.int .i64 ((rd_T70 l0_1 x15_1).f0))).setCell ⟨gb146, 1, none⟩ (.int .i64 ((rd_T70 l0_1 x15_1).f1))).setCell ⟨gb146, 2, none⟩ (.int .i64 ((rd_T70 l0_1 x15_1).f2))) w0.heap.size (fun k_ => ((P1_ k_ ∨ P2_ k_ ∨ P3_ k_) ∨ w.heap.size ≤ k_) ∧ some k_ ≠ (u9000_ : Value).ownBlock) u9001_ x2_1) := ⟨rF3 HO_2 BK146⟩
 have n2_ : Aside0 (Kd.R Kd.bool 4 (((w54.setCell ⟨gb146, 0, none⟩ (.int .i64 ((rd_T70 l0_1 x15_1).f0))).setCell ⟨gb146, 1, none⟩ (.int .i64 ((rd_T70 l0_1 x15_1).f1))).setCell ⟨gb146, 2, none⟩ (.int .i64 ((rd_T70 l0_1 x15_1).f2))) w0.heap.size (fun k_ => ((P1_ k_ ∨ P2_ k_ ∨ P3_ k_) ∨ w.heap.size ≤ k_)) u9002_ x3_1) := ⟨rF3 HO_3 BK146⟩
 have n3_ : Aside0 ((((w54.setCell ⟨gb146, 0, none⟩ (.int .i64 ((rd_T70 l0_1 x15_1).f0))).setCell ⟨gb146, 1, none⟩ (.int .i64 ((rd_T70 l0_1 x15_1).f1))).setCell ⟨gb146, 2, none⟩ (.int .i64 ((rd_T70 l0_1 x15_1).f2))).heap[gb144]? = some (.cells #[.int .i64 a0_0, .slice (some ad145) l0_1.length c0_1] 33 (0, 0))) := ⟨kF BK144 NB144_146⟩
 have n4_ : Aside0 ((((w54.setCell ⟨gb146, 0, none⟩ (.int .i64 ((rd_T70 l0_1 x15_1).f0))).setCell ⟨gb146, 1, none⟩ (.int .i64 ((rd_T70 l0_1 x15_1).f1))).setCell ⟨gb146, 2, none⟩ (.int .i64 ((rd_T70 l0_1 x15_1).f2))).heap[gb146]? = some (.cells #[.int .i64 ((rd_T70 l0_1 x15_1).f0), .int .i64 ((rd_T70 l0_1 x15_1).f1), .int .i64 ((rd_T70 l0_1 x15_1).f2)] 70 (0, 0))) := ⟨kP3 BK146⟩
 have n5_ : Aside0 (Kept w (((w54.setCell ⟨gb146, 0, none⟩ (.int .i64 ((rd_T70 l0_1 x15_1).f0))).setCell ⟨gb146, 1, none⟩ (.int .i64 ((rd_T70 l0_1 x15_1).f1))).setCell ⟨gb146, 2, none⟩ (.int .i64 ((rd_T70 l0_1 x15_1).f2))) (fun k_ => P1_ k_ ∨ P2_ k_ ∨ P3_ k_)) := ⟨tX HK⟩
 have n6_ : Aside0 (Below w0.heap.size w0 (((w54.setCell ⟨gb146, 0, none⟩ (.int .i64 ((rd_T70 l0_1 x15_1).f0))).setCell ⟨gb146, 1, none⟩ (.int .i64 ((rd_T70 l0_1 x15_1).f1))).setCell ⟨gb146, 2, none⟩ (.int .i64 ((rd_T70 l0_1 x15_1).f2)))) := ⟨bX HB⟩
 (try clear HO_1)
 (try clear HO_2)
 (try clear HO_3)
 (try clear BK144)
 (try clear BK146)
 (try clear HK)
 (try clear HB)
 generalize (((w54.setCell ⟨gb146, 0, none⟩ (.int .i64 ((rd_T70 l0_1 x15_1).f0))).setCell ⟨gb146, 1, none⟩ (.int .i64 ((rd_T70 l0_1 x15_1).f1))).setCell ⟨gb146, 2, none⟩ (.int .i64 ((rd_T70 l0_1 x15_1).f2))) = w57 at n0_ n1_ n2_ n3_ n4_ n5_ n6_ ⊢
 have HO_1 := n0_
 have HO_2 := n1_
 have HO_3 := n2_
 have BK144 := n3_
 have BK146 := n4_
 have HK := n5_
 have HB := n6_
 clear n0_ n1_ n2_ n3_ n4_ n5_ n6_
 have n0_ := mK (Kd.R_drew HO_1.out)
 have n1_ := mK (Kd.R_drew HO_2.out)
 have n2_ := mK (Kd.R_drew HO_3.out)
 have n3_ := mK (blk_drew BK144.out)
 have n4_ := mK (blk_drew BK146.out)
 have n5_ := mK (Kept.drew HK.out)
 have n6_ := mK (below_drew1 HB.out)
 clear HO_1
 clear HO_2
 clear HO_3
 clear BK144
 clear BK146
 clear HK
 clear HB
 have HO_1 := n0_
 have HO_2 := n1_
 have HO_3 := n2_
 have BK144 := n3_
 have BK146 := n4_
 have HK := n5_
 have HB := n6_
 clear n0_ n1_ n2_ n3_ n4_ n5_ n6_
 obtain ⟨Ao59, co59, eo59⟩ := Kd.R_slice HO_3.out
 (first | subst eo59 | (injection eo59 with f1_ f2_ f3_; have f4_ := f1_.symm; have f5_ := f3_.symm; clear f1_ f2_ f3_; subst f4_; subst f5_))
 have p147 : 0 ≤ (((rd_T70 l0_1 x15_1).f0) : Int) := of_decide_eq_true oX
 have q147 : ((rd_T70 l0_1 x15_1).f0) < (x3_1.length : Int) := of_decide_eq_true oX
 obtain ⟨ad147, e147, hx147_0⟩ := Kd.at_bool (Kd.R_reads' HO_3.out).2.2 ((rd_T70 l0_1 x15_1).f0) p147 q147
 (try rw [← Nbq12.out] at hx147_0)
 (try rw [← Nbq16.out] at hx147_0)
 cases e147
 replace p147 := eq_true p147
 replace q147 := eq_true q147
 have p148 : 0 ≤ (((rd_T70 l0_1 x15_1).f1) : Int) := of_decide_eq_true oX
 have q148 : ((rd_T70 l0_1 x15_1).f1) < (x3_1.length : Int) := of_decide_eq_true oX
 obtain ⟨ad148, e148, hx148_0⟩ := Kd.at_bool (Kd.R_reads' HO_3.out).2.2 ((rd_T70 l0_1 x15_1).f1) p148 q148
 (try rw [← Nbq12.out] at hx148_0)
 (try rw [← Nbq16.out] at hx148_0)
 obtain rfl : ad147 = ad148 := (by injection e148)
 replace p148 := eq_true p148
 replace q148 := eq_true q148
 refine start_ (n := 29) (S := fun w' => w'.cell? ⟨gb146, 0, none⟩ = some (.int .i64 ((rd_T70 l0_1 x15_1).f0)) ∧ w'.cell? ⟨gb146, 1, none⟩ = some (.int .i64 ((rd_T70 l0_1 x15_1).f1)) ∧ w'.cell? ⟨gb146, 2, none⟩ = some (.int .i64 ((rd_T70 l0_1 x15_1).f2)) ∧ w'.cell? (ad147.add (((rd_T70 l0_1 x15_1).f0)).toNat) = some (.bool true) ∧ w'.cell? (ad147.add (((rd_T70 l0_1 x15_1).f1)).toNat) = some (.bool false)) (ds := []) (bs 0 29) (by kernel_rfl) rfl (by kernel_rfl) ⟨(blk_cell BK146.out 0).trans rfl, (blk_cell BK146.out 1).trans rfl, (blk_cell BK146.out 2).trans rfl, hx147_0, hx148_0⟩ (fun hHeld => ?_); refine with_tabW spec_l03Round.tab5 spec_l03Round.bits5 (fun HT_ HW_ => ?_)
 generalize w57.drew = w58 at HO_1 HO_2 HO_3 BK144 BK146 HK HB hx147_0 hx148_0 hHeld ⊢
 refine pL 0 20 (bs 1 29) HT_ ?_
 refine pL 1 21 (bs 2 29) HT_ ?_
 refine tL 2 22 (bs 3 29) HT_ HW_ hHeld ?_
 refine pL 3 23 (bs 4 29) HT_ ?_
 refine tL 4 24 (bs 5 29) HT_ HW_ hHeld ?_
 refine pL 5 25 (bs 6 29) HT_ ?_
 refine pL 6 26 (bs 7 29) HT_ ?_
 refine pL 7 27 (bs 8 29) HT_ ?_
 refine tL 8 28 (bs 9 29) HT_ HW_ hHeld ?_
 refine pL 9 29 (bs 10 29) HT_ ?_
 refine tL 10 30 (bs 11 29) HT_ HW_ hHeld ?_
 refine pL 11 31 (bs 12 29) HT_ ?_
 refine pL 12 32 (bs 13 29) HT_ ?_
 refine pD 13 33 (bs 14 29) HT_ ?_
 refine pD 14 34 (bs 15 29) HT_ ?_
 refine pD 15 35 (bs 16 29) HT_ ?_
 refine pD 16 36 (bs 17 29) HT_ ?_
 refine pD 17 37 (bs 18 29) HT_ ?_
 refine pD 18 38 (bs 19 29) HT_ ?_
 refine pD 19 39 (bs 20 29) HT_ ?_
 refine pD 20 40 (bs 21 29) HT_ ?_
 refine pD 21 41 (bs 22 29) HT_ ?_
 refine pD 22 42 (bs 23 29) HT_ ?_
 refine pD 23 43 (bs 24 29) HT_ ?_
 refine pD 24 44 (bs 25 29) HT_ ?_
 refine pD 25 45 (bs 26 29) HT_ ?_
 refine pD 26 46 (bs 27 29) HT_ ?_
 refine pL 27 47 (bs 28 29) HT_ ?_
 refine pL 28 48 (bs 29 29) HT_ ?_
 refine done_ (done_of HT_.out (by kernel_rfl)) ?_
 try go_wp2
 have n0_ := mK (Kd.R_drew HO_1.out)
 have n1_ := mK (Kd.R_drew HO_2.out)
 have n2_ := mK (Kd.R_drew HO_3.out)
 have n3_ := mK (blk_drew BK144.out)
 have n4_ := mK (blk_drew BK146.out)
 have n5_ := mK (Kept.drew HK.out)
 have n6_ := mK (below_drew1 HB.out)
 clear HO_1
 clear HO_2
 clear HO_3
 clear BK144
 clear BK146
 clear HK
 clear HB
 have HO_1 := n0_
 have HO_2 := n1_
 have HO_3 := n2_
 have BK144 := n3_
 have BK146 := n4_
 have HK := n5_
 have HB := n6_
 clear n0_ n1_ n2_ n3_ n4_ n5_ n6_
 obtain ⟨Ao61, co61, eo61⟩ := Kd.R_slice HO_1.out
 (first | subst eo61 | (injection eo61 with f1_ f2_ f3_; have f4_ := f1_.symm; have f5_ := f3_.symm; clear f1_ f2_ f3_; subst f4_; subst f5_))
 have p155 : 0 ≤ (((rd_T70 l0_1 x15_1).f0) : Int) := of_decide_eq_true oX
 have q155 : ((rd_T70 l0_1 x15_1).f0) < (x1_1.length : Int) := of_decide_eq_true oX
 obtain ⟨ad155, e155, hx155_0⟩ := Kd.at_int (Kd.R_reads' HO_1.out).2.2 ((rd_T70 l0_1 x15_1).f0) p155 q155
 cases e155
 replace p155 := eq_true p155
 replace q155 := eq_true q155
 have p50 : 0 ≤ (((rd_T70 l0_1 x15_1).f1) : Int) := of_decide_eq_true oX
 have q50 : (((rd_T70 l0_1 x15_1).f1) : Int) < ((x1_1.length : Int) : Int) := of_decide_eq_true oX
 obtain ⟨go50, co50, eo50, gb50, gl50, cl50, HG50⟩ := Kd.R_form HO_1.out (by omega)
 (first | cases eo50 | (injection eo50 with ea_ en_ ec_; (first | subst ea_ | (injection ea_ with ea_; subst ea_)); subst ec_; clear en_))
 have GB50 := mK gb50
 have GG50 := mK HG50
 clear gb50 gl50 HG50
 have HMgo50 := mK (show ((P1_ go50 ∨ P2_ go50 ∨ P3_ go50) ∨ w.heap.size ≤ go50) from (HO_1.out.1 _ rfl).1)
 (first | simp only [add_plain] at hx155_0 | skip)
 obtain ⟨hx50_0, hf50_0⟩ := Kd.R_celln 0 HO_1.out (((rd_T70 l0_1 x15_1).f1) : Int) p50 q50
 replace p50 := eq_true p50
 replace q50 := eq_true q50
 have HP62 := Kd.R_putn HO_1.out (((rd_T70 l0_1 x15_1).f1) : Int) (wrap64 ((rd x1_1 ((rd_T70 l0_1 x15_1).f0)) + ((rd_T70 l0_1 x15_1).f2)))
 rw [← Ny156.out] at HP62
 have HQ62 := mK HP62
 clear HP62
 refine start_ (n := 13) (S := fun w' => w'.cell? ⟨gb146, 0, none⟩ = some (.int .i64 ((rd_T70 l0_1 x15_1).f0)) ∧ w'.cell? ⟨gb146, 1, none⟩ = some (.int .i64 ((rd_T70 l0_1 x15_1).f1)) ∧ w'.cell? ⟨gb146, 2, none⟩ = some (.int .i64 ((rd_T70 l0_1 x15_1).f2)) ∧ w'.cell? ⟨go50, (((rd_T70 l0_1 x15_1).f0)).toNat, none⟩ = some (.int .i64 (rd x1_1 ((rd_T70 l0_1 x15_1).f0)))) (ds := [12]) (bs 0 13) (by kernel_rfl) rfl (by kernel_rfl) ⟨(blk_cell BK146.out 0).trans rfl, (blk_cell BK146.out 1).trans rfl, (blk_cell BK146.out 2).trans rfl, hx155_0⟩ (fun hHeld => ?_); refine with_tabW spec_l03Round.tab6 spec_l03Round.bits6 (fun HT_ HW_ => ?_)
 generalize w58.drew = w60 at HO_1 HO_2 HO_3 BK144 BK146 HK HB GG50 HQ62 hf50_0 hx155_0 hx50_0 hHeld ⊢
 refine pL 0 49 (bs 1 13) HT_ ?_
 refine pL 1 50 (bs 2 13) HT_ ?_
 refine pL 3 52 #[true, true, false, true, false, false, false, false, false, false, false, false, false] HT_ ?_
 refine pL 4 53 #[true, true, false, true, true, false, false, false, false, false, false, false, false] HT_ ?_
 refine pL 8 57 #[true, true, false, true, true, false, false, false, true, false, false, false, false] HT_ ?_
 refine tL 2 51 #[true, true, true, true, true, false, false, false, true, false, false, false, false] HT_ HW_ hHeld ?_
 refine tL 5 54 #[true, true, true, true, true, true, false, false, true, false, false, false, false] HT_ HW_ hHeld ?_
 refine pL 6 55 #[true, true, true, true, true, true, true, false, true, false, false, false, false] HT_ ?_
 refine tL 7 56 (bs 9 13) HT_ HW_ hHeld ?_
 refine tL 9 58 (bs 10 13) HT_ HW_ hHeld ?_
 refine pL 10 59 (bs 11 13) HT_ ?_
 refine pL 11 60 (bs 12 13) HT_ ?_
 refine last_ (i := 12) (N := none) (bs 13 13) rfl rfl (one_of HT_.out (by kernel_rfl)) (by decide) (fun K hK => ?_)
 refine skip_ (w1 := ?_) (by rfl) rfl ?_ ?_
 rotate_left
 {
 go_simp
 rfl
 }
 refine hK.out _ _ ?_
 clear hK K
 refine done_ (done_of HT_.out (by kernel_rfl)) ?_
 have n0_ : Aside0 (Kd.R (Kd.int .i64) 3 (w60.setCell ⟨go50, (((rd_T70 l0_1 x15_1).f1) : Int).toNat, none⟩ (.int .i64 (wrap64 ((rd x1_1 ((rd_T70 l0_1 x15_1).f0)) + ((rd_T70 l0_1 x15_1).f2))))) w0.heap.size (fun k_ => ((P1_ k_ ∨ P2_ k_ ∨ P3_ k_) ∨ w.heap.size ≤ k_) ∧ some k_ ≠ (u9001_ : Value).ownBlock) (.slice (some ⟨go50, 0, none⟩) x1_1.length co61) y156) := ⟨by (with_reducible repeat first|apply rA|apply rN|apply rD); exact HQ62.out⟩
 have n1_ : Aside0 (Kd.R (Kd.int .i64) 3 (w60.setCell ⟨go50, (((rd_T70 l0_1 x15_1).f1) : Int).toNat, none⟩ (.int .i64 (wrap64 ((rd x1_1 ((rd_T70 l0_1 x15_1).f0)) + ((rd_T70 l0_1 x15_1).f2))))) w0.heap.size (fun k_ => ((P1_ k_ ∨ P2_ k_ ∨ P3_ k_) ∨ w.heap.size ≤ k_) ∧ some k_ ≠ (.slice (some ⟨go50, 0, none⟩) x1_1.length co61 : Value).ownBlock) u9001_ x2_1) := ⟨by (with_reducible repeat first|apply rA|apply rN|apply rD); exact Kd.R_mono (Kd.R_far (p := ⟨go50, (((rd_T70 l0_1 x15_1).f1) : Int).toNat, none⟩) (Kd.R_mono HO_2.out (fun k_ hk => (⟨hk, fun e_ => hk.2 (by rw [e_]; rfl)⟩ : _ ∧ k_ ≠ go50))) (fun _ hk => hk.2) (.int .i64 (wrap64 ((rd x1_1 ((rd_T70 l0_1 x15_1).f0)) + ((rd_T70 l0_1 x15_1).f2))))) (fun _ hk => ⟨hk.1.1, hk.1.2⟩)⟩
 have n2_ : Aside0 (Kd.R Kd.bool 4 (w60.setCell ⟨go50, (((rd_T70 l0_1 x15_1).f1) : Int).toNat, none⟩ (.int .i64 (wrap64 ((rd x1_1 ((rd_T70 l0_1 x15_1).f0)) + ((rd_T70 l0_1 x15_1).f2))))) w0.heap.size (fun k_ => ((P1_ k_ ∨ P2_ k_ ∨ P3_ k_) ∨ w.heap.size ≤ k_)) (.slice (some ad147) x3_1.length co59) x3_1) := ⟨by (with_reducible repeat first|apply rA|apply rN|apply rD); exact Kd.R_mono (Kd.R_far (p := ⟨go50, (((rd_T70 l0_1 x15_1).f1) : Int).toNat, none⟩) (Kd.R_types HO_3.out GG50.out (by decide)) (fun _ hk => hk.2) (.int .i64 (wrap64 ((rd x1_1 ((rd_T70 l0_1 x15_1).f0)) + ((rd_T70 l0_1 x15_1).f2))))) (fun _ hk => hk.1)⟩
 have n3_ : Aside0 ((w60.setCell ⟨go50, (((rd_T70 l0_1 x15_1).f1) : Int).toNat, none⟩ (.int .i64 (wrap64 ((rd x1_1 ((rd_T70 l0_1 x15_1).f0)) + ((rd_T70 l0_1 x15_1).f2))))).heap[gb144]? = some (.cells #[.int .i64 a0_0, .slice (some ad145) l0_1.length c0_1] 33 (0, 0))) := ⟨by (with_reducible repeat first|apply kN|apply kD|apply kA); refine blk_far ?_ (by have h_ := Kd.R_ne HO_1.out BK144.out (by decide); intro e_; exact h_ (by rw [e_]; rfl)) _; (with_reducible repeat first|apply kN|apply kD|apply kA); exact BK144.out⟩
 have n4_ : Aside0 ((w60.setCell ⟨go50, (((rd_T70 l0_1 x15_1).f1) : Int).toNat, none⟩ (.int .i64 (wrap64 ((rd x1_1 ((rd_T70 l0_1 x15_1).f0)) + ((rd_T70 l0_1 x15_1).f2))))).heap[gb146]? = some (.cells #[.int .i64 ((rd_T70 l0_1 x15_1).f0), .int .i64 ((rd_T70 l0_1 x15_1).f1), .int .i64 ((rd_T70 l0_1 x15_1).f2)] 70 (0, 0))) := ⟨by (with_reducible repeat first|apply kN|apply kD|apply kA); refine blk_far ?_ (by have h_ := Kd.R_ne HO_1.out BK146.out (by decide); intro e_; exact h_ (by rw [e_]; rfl)) _; (with_reducible repeat first|apply kN|apply kD|apply kA); exact BK146.out⟩
 have n5_ : Aside0 (Kept w (w60.setCell ⟨go50, (((rd_T70 l0_1 x15_1).f1) : Int).toNat, none⟩ (.int .i64 (wrap64 ((rd x1_1 ((rd_T70 l0_1 x15_1).f0)) + ((rd_T70 l0_1 x15_1).f2))))) (fun k_ => P1_ k_ ∨ P2_ k_ ∨ P3_ k_)) := ⟨by repeat (first | (with_reducible first | exact HK.out | apply Kept.alloc | apply Kept.drewN | apply Kept.drew | refine Kept.setCell ?_ HMgo50.out _ | refine Kept.setCell ?_ (.inr GW144.out) _ | refine Kept.setCell ?_ (.inr GW146.out) _) | exact HK.out)⟩
 have n6_ : Aside0 (Below w0.heap.size w0 (w60.setCell ⟨go50, (((rd_T70 l0_1 x15_1).f1) : Int).toNat, none⟩ (.int .i64 (wrap64 ((rd x1_1 ((rd_T70 l0_1 x15_1).f0)) + ((rd_T70 l0_1 x15_1).f2)))))) := ⟨bX HB⟩
 (try clear HO_1)
 (try clear HO_2)
 (try clear HO_3)
 (try clear BK144)
 (try clear BK146)
 (try clear HK)
 (try clear HB)
 generalize (w60.setCell ⟨go50, (((rd_T70 l0_1 x15_1).f1) : Int).toNat, none⟩ (.int .i64 (wrap64 ((rd x1_1 ((rd_T70 l0_1 x15_1).f0)) + ((rd_T70 l0_1 x15_1).f2))))) = w63 at n0_ n1_ n2_ n3_ n4_ n5_ n6_ ⊢
 have HO_1 := n0_
 have HO_2 := n1_
 have HO_3 := n2_
 have BK144 := n3_
 have BK146 := n4_
 have HK := n5_
 have HB := n6_
 clear n0_ n1_ n2_ n3_ n4_ n5_ n6_
 have hcz64_0 := q0 BK146
 have hcz64_1 := q1 BK146
 have hcz64_2 := q2 BK146
 have hfz64_0 := fX BK146 0
 have hfz64_1 := fX BK146 1
 have hfz64_2 := fX BK146 2
 have p51 : 0 ≤ (((rd_T70 l0_1 x15_1).f1) : Int) := of_decide_eq_true oX
 have q51 : (((rd_T70 l0_1 x15_1).f1) : Int) < ((x3_1.length : Int) : Int) := of_decide_eq_true oX
 obtain ⟨go51, co51, eo51, gb51, gl51, cl51, HG51⟩ := Kd.R_form HO_3.out (by omega)
 (first | cases eo51 | (injection eo51 with ea_ en_ ec_; (first | subst ea_ | (injection ea_ with ea_; subst ea_)); subst ec_; clear en_))
 have GB51 := mK gb51
 have GG51 := mK HG51
 clear gb51 gl51 HG51
 have HMgo51 := mK (show ((P1_ go51 ∨ P2_ go51 ∨ P3_ go51) ∨ w.heap.size ≤ go51) from (HO_3.out.1 _ rfl))
 (first | simp only [add_plain] at hx147_0 | skip)
 (first | simp only [add_plain] at hx148_0 | skip)
 obtain ⟨hx51_0, hf51_0⟩ := Kd.R_celln false HO_3.out (((rd_T70 l0_1 x15_1).f1) : Int) p51 q51
 replace p51 := eq_true p51
 replace q51 := eq_true q51
 obtain ⟨hy65_, hz65_⟩ := Kd.R_celln false HO_3.out (((rd_T70 l0_1 x15_1).f1) : Int) (of_decide_eq_true oX) (of_decide_eq_true oX)
 have HP65 := Kd.R_putg HO_3.out (((rd_T70 l0_1 x15_1).f1) : Int) true
 try go_wp2_with (first | ((with_reducible refine gate_store (t := 4) (p := 64) rfl ?_); refine store_event (t := 4) (p := 64) (v := ?vo_w66) (w1 := (w63.setCell ⟨go51, (((rd_T70 l0_1 x15_1).f1) : Int).toNat, none⟩ (.bool true))) ?hg ?ho ?hn ?hr ?_; (case ho => rfl); (case hg => rfl); (case hn => rfl); (case hr => go_simp <;> rfl); intro w66 hw; have hg : w63.grownBy w66 (some go51) := (by rw [hw]; exact HP65.2); have hp_ : Kd.R Kd.bool 4 w66 w0.heap.size (fun k_ => ((P1_ k_ ∨ P2_ k_ ∨ P3_ k_) ∨ w.heap.size ≤ k_)) (.slice (some ⟨go51, 0, none⟩) x3_1.length co59) y157 := (by rw [hw, Ny157.out]; exact HP65.1); clear HP65; have n0_ := mK (Kd.R_over' (v := (.slice (some ⟨go51, 0, none⟩) x3_1.length co59)) (rX HO_1) (Kd.R_typed HO_3.out) (by decide) hg); have n1_ := mK (Kd.R_over' (v := (.slice (some ⟨go51, 0, none⟩) x3_1.length co59)) (rX HO_2) (Kd.R_typed HO_3.out) (by decide) hg); have n2_ := mK (hp_); have n3_ := mK (blk_grown (kX BK144) hg (Kd.R_ne HO_3.out BK144.out (by decide))); have n4_ := mK (blk_grown (kX BK146) hg (Kd.R_ne HO_3.out BK146.out (by decide))); have n5_ := mK ((by rw [hw]; exact below_set (HB.out) GB51.out : Below w0.heap.size w0 w66)); have n6_ := mK (Kept.of_grown (S := (fun k_ => P1_ k_ ∨ P2_ k_ ∨ P3_ k_)) hg (tX HK) (fun k_ e_ => (HO_3.out.1 k_ e_))); clear HO_1; clear HO_2; clear HO_3; clear BK144; clear BK146; clear HB; clear HK; have HO_1 := n0_; have HO_2 := n1_; have HO_3 := n2_; have BK144 := n3_; have BK146 := n4_; have HB := n5_; have HK := n6_; clear n0_ n1_ n2_ n3_ n4_ n5_ n6_; clear hg hw hp_; have hcz67_0 := q0 BK146; have hcz67_1 := q1 BK146; have hcz67_2 := q2 BK146; have hfz67_0 := fX BK146 0; have hfz67_1 := fX BK146 1; have hfz67_2 := fX BK146 2; have p53 : 0 ≤ (((rd_T70 l0_1 x15_1).f1) : Int) := of_decide_eq_true oX; have q53 : (((rd_T70 l0_1 x15_1).f1) : Int) < ((x2_1.length : Int) : Int) := of_decide_eq_true oX; obtain ⟨go53, co53, eo53, gb53, gl53, cl53, HG53⟩ := Kd.R_form HO_2.out (by omega); (first | cases eo53 | (injection eo53 with ea_ en_ ec_; (first | subst ea_ | (injection ea_ with ea_; subst ea_)); subst ec_; clear en_)); have GB53 := mK gb53; have GG53 := mK HG53; clear gb53 gl53 HG53; have HMgo53 := mK (show ((P1_ go53 ∨ P2_ go53 ∨ P3_ go53) ∨ w.heap.size ≤ go53) from (HO_2.out.1 _ rfl).1); obtain ⟨hx53_0, hf53_0⟩ := Kd.R_celln 0 HO_2.out (((rd_T70 l0_1 x15_1).f1) : Int) p53 q53; replace p53 := eq_true p53; replace q53 := eq_true q53; obtain ⟨hy68_, hz68_⟩ := Kd.R_celln 0 HO_2.out (((rd_T70 l0_1 x15_1).f1) : Int) (of_decide_eq_true oX) (of_decide_eq_true oX); have HP68 := Kd.R_putg HO_2.out (((rd_T70 l0_1 x15_1).f1) : Int) x15_1) | ((with_reducible refine gate_store (t := 3) (p := 69) rfl ?_); refine store_event (t := 3) (p := 69) (v := ?vo_w69) (w1 := (w66.setCell ⟨go53, (((rd_T70 l0_1 x15_1).f1) : Int).toNat, none⟩ (.int .i64 x15_1))) ?hg ?ho ?hn ?hr ?_; (case ho => rfl); (case hg => rfl); (case hn => rfl); (case hr => go_simp <;> rfl); intro w69 hw; have hg : w66.grownBy w69 (some go53) := (by rw [hw]; exact HP68.2); have hp_ : Kd.R (Kd.int .i64) 3 w69 w0.heap.size (fun k_ => ((P1_ k_ ∨ P2_ k_ ∨ P3_ k_) ∨ w.heap.size ≤ k_) ∧ some k_ ≠ (.slice (some ⟨go50, 0, none⟩) x1_1.length co61 : Value).ownBlock) (.slice (some ⟨go53, 0, none⟩) x2_1.length co53) y158 := (by rw [hw, Ny158.out]; exact HP68.1); clear HP68; have n0_ := mK (Kd.R_after (v := (.slice (some ⟨go53, 0, none⟩) x2_1.length co53)) (v1 := (.slice (some ⟨go53, 0, none⟩) x2_1.length co53)) (ok := (fun k_ => ((P1_ k_ ∨ P2_ k_ ∨ P3_ k_) ∨ w.heap.size ≤ k_))) (rX HO_1) hg (.inl rfl)); have n1_ := mK (hp_); have n2_ := mK (Kd.R_over' (v := (.slice (some ⟨go53, 0, none⟩) x2_1.length co53)) (rX HO_3) (Kd.R_typed HO_2.out) (by decide) hg); have n3_ := mK (blk_grown (kX BK144) hg (Kd.R_ne HO_2.out BK144.out (by decide))); have n4_ := mK (blk_grown (kX BK146) hg (Kd.R_ne HO_2.out BK146.out (by decide))); have n5_ := mK ((by rw [hw]; exact below_set (HB.out) GB53.out : Below w0.heap.size w0 w69)); have n6_ := mK (Kept.of_grown (S := (fun k_ => P1_ k_ ∨ P2_ k_ ∨ P3_ k_)) hg (tX HK) (fun k_ e_ => (HO_2.out.1 k_ e_).1)); clear HO_1; clear HO_2; clear HO_3; clear BK144; clear BK146; clear HB; clear HK; have HO_1 := n0_; have HO_2 := n1_; have HO_3 := n2_; have BK144 := n3_; have BK146 := n4_; have HB := n5_; have HK := n6_; clear n0_ n1_ n2_ n3_ n4_ n5_ n6_; clear hg hw hp_))
 go_roundg k1
 case measure => have := HK1.out; omega
 case rel => exact ⟨(y156), (y158), (y157), (x15_1), (wrap64 (x15_1 + 1)), (by first | rfl | (simp; done) | (simp [*]; done)), (by first | rfl | (simp; done) | (simp [*]; done)), H', ⟨by have := HK1.out; omega⟩, ⟨rX HO_1⟩, ⟨rX HO_2⟩, ⟨rX HO_3⟩, ⟨kX BK144⟩, ⟨tX HK⟩, ⟨bX HB⟩⟩
 }
 subst c17
 rw [if_pos rfl] at H
 by_cases c18 : ((rd_T70 l0_1 x15_1).f0) < (x1_1.length : Int)
 rotate_left
 {
 rw [if_neg c18] at H
 exact absurd H (by simp)
 }
 rw [if_pos c18] at H
 have c18b0 : decide (((rd_T70 l0_1 x15_1).f0) < (x1_1.length : Int)) = true := decide_eq_true c18
 clear c18
 by_cases c19 : ((rd_T70 l0_1 x15_1).f1) < (x1_1.length : Int)
 rotate_left
 {
 rw [if_neg c19] at H
 exact absurd H (by simp)
 }
 rw [if_pos c19] at H
 have c19b0 : decide (((rd_T70 l0_1 x15_1).f1) < (x1_1.length : Int)) = true := decide_eq_true c19
 clear c19
 by_cases c20 : (wrap64 ((rd x1_1 ((rd_T70 l0_1 x15_1).f0)) + ((rd_T70 l0_1 x15_1).f2))) < (rd x1_1 ((rd_T70 l0_1 x15_1).f1))
 rotate_left
 {
 rw [if_neg c20] at H
 have c20b0 : decide ((wrap64 ((rd x1_1 ((rd_T70 l0_1 x15_1).f0)) + ((rd_T70 l0_1 x15_1).f2))) < (rd x1_1 ((rd_T70 l0_1 x15_1).f1))) = false := decide_eq_false c20
 clear c20
 have H' := mK H
 clear H
 have p145 : 0 ≤ (x15_1 : Int) := of_decide_eq_true oX
 have q145 : x15_1 < (l0_1.length : Int) := of_decide_eq_true oX
 obtain ⟨ad145, e145, hx145_0, hx145_1, hx145_2⟩ := at_T70 (Kd.C_kept_now HR0_1.out HK.out) x15_1 p145 q145
 cases e145
 replace p145 := eq_true p145
 replace q145 := eq_true q145
 try go_wp2_with (first | ((with_reducible refine gate_dst (N := 11) rfl ?_); refine bxE 11 #[.int .i64 0, .int .i64 0, .int .i64 0] 70 ?_; intro gb146 hg w41 hbox hb; have n0_ := mK (Kd.R_below (rX HO_1) hb); have n1_ := mK (Kd.R_below (rX HO_2) hb); have n2_ := mK (Kd.R_below (rX HO_3) hb); have n3_ := kB BK144 hb; have n4_ := mK (Kept.below (S := (fun k_ => P1_ k_ ∨ P2_ k_ ∨ P3_ k_)) (tX HK) hb); have n5_ := bB HB hb; have n6_ := mK hbox; have n7_ := mK ((by rw [hg]; exact (by first | exact HK.out.1 | exact (show Kept w _ (fun k_ => P1_ k_ ∨ P2_ k_ ∨ P3_ k_) from tX HK).1) : w.heap.size ≤ gb146)); have n8_ := mK (gX hg HB); have n9_ := mK (lX hg BK144); have n10_ := mK (mX hg BK144); clear HO_1; clear HO_2; clear HO_3; clear BK144; clear HK; clear HB; have HO_1 := n0_; have HO_2 := n1_; have HO_3 := n2_; have BK144 := n3_; have HK := n4_; have HB := n5_; have BK146 := n6_; have GW146 := n7_; have GE146 := n8_; have NB144_146 := n9_; have NB146_144 := n10_; clear n0_ n1_ n2_ n3_ n4_ n5_ n6_ n7_ n8_ n9_ n10_; clear hb hbox hg; have hnb42 := NB146_144.out; have hnc42 := NB144_146.out; have hcz43_0 := q0 BK146; have hcz43_1 := q1 BK146; have hcz43_2 := q2 BK146; have hfz43_0 := fX BK146 0; have hfz43_1 := fX BK146 1; have hfz43_2 := fX BK146 2))
 have n0_ : Aside0 (Kd.R (Kd.int .i64) 3 (((w41.setCell ⟨gb146, 0, none⟩ (.int .i64 ((rd_T70 l0_1 x15_1).f0))).setCell ⟨gb146, 1, none⟩ (.int .i64 ((rd_T70 l0_1 x15_1).f1))).setCell ⟨gb146, 2, none⟩ (.int .i64 ((rd_T70 l0_1 x15_1).f2))) w0.heap.size (fun k_ => ((P1_ k_ ∨ P2_ k_ ∨ P3_ k_) ∨ w.heap.size ≤ k_) ∧ some k_ ≠ (u9001_ : Value).ownBlock) u9000_ x1_1) := ⟨rF3 HO_1 BK146⟩
 have n1_ : Aside0 (Kd.R (Kd.int .i64) 3 (((w41.setCell ⟨gb146, 0, none⟩ (.int .i64 ((rd_T70 l0_1 x15_1).f0))).setCell ⟨gb146, 1, none⟩ (.int .i64 ((rd_T70 l0_1 x15_1).f1))).setCell ⟨gb146, 2, none⟩ (.int .i64 ((rd_T70 l0_1 x15_1).f2))) w0.heap.size (fun k_ => ((P1_ k_ ∨ P2_ k_ ∨ P3_ k_) ∨ w.heap.size ≤ k_) ∧ some k_ ≠ (u9000_ : Value).ownBlock) u9001_ x2_1) := ⟨rF3 HO_2 BK146⟩
 have n2_ : Aside0 (Kd.R Kd.bool 4 (((w41.setCell ⟨gb146, 0, none⟩ (.int .i64 ((rd_T70 l0_1 x15_1).f0))).setCell ⟨gb146, 1, none⟩ (.int .i64 ((rd_T70 l0_1 x15_1).f1))).setCell ⟨gb146, 2, none⟩ (.int .i64 ((rd_T70 l0_1 x15_1).f2))) w0.heap.size (fun k_ => ((P1_ k_ ∨ P2_ k_ ∨ P3_ k_) ∨ w.heap.size ≤ k_)) u9002_ x3_1) := ⟨rF3 HO_3 BK146⟩
 have n3_ : Aside0 ((((w41.setCell ⟨gb146, 0, none⟩ (.int .i64 ((rd_T70 l0_1 x15_1).f0))).setCell ⟨gb146, 1, none⟩ (.int .i64 ((rd_T70 l0_1 x15_1).f1))).setCell ⟨gb146, 2, none⟩ (.int .i64 ((rd_T70 l0_1 x15_1).f2))).heap[gb144]? = some (.cells #[.int .i64 a0_0, .slice (some ad145) l0_1.length c0_1] 33 (0, 0))) := ⟨kF BK144 NB144_146⟩
 have n4_ : Aside0 ((((w41.setCell ⟨gb146, 0, none⟩ (.int .i64 ((rd_T70 l0_1 x15_1).f0))).setCell ⟨gb146, 1, none⟩ (.int .i64 ((rd_T70 l0_1 x15_1).f1))).setCell ⟨gb146, 2, none⟩ (.int .i64 ((rd_T70 l0_1 x15_1).f2))).heap[gb146]? = some (.cells #[.int .i64 ((rd_T70 l0_1 x15_1).f0), .int .i64 ((rd_T70 l0_1 x15_1).f1), .int .i64 ((rd_T70 l0_1 x15_1).f2)] 70 (0, 0))) := ⟨kP3 BK146⟩
 have n5_ : Aside0 (Kept w (((w41.setCell ⟨gb146, 0, none⟩ (.int .i64 ((rd_T70 l0_1 x15_1).f0))).setCell ⟨gb146, 1, none⟩ (.int .i64 ((rd_T70 l0_1 x15_1).f1))).setCell ⟨gb146, 2, none⟩ (.int .i64 ((rd_T70 l0_1 x15_1).f2))) (fun k_ => P1_ k_ ∨ P2_ k_ ∨ P3_ k_)) := ⟨tX HK⟩
 have n6_ : Aside0 (Below w0.heap.size w0 (((w41.setCell ⟨gb146, 0, none⟩ (.int .i64 ((rd_T70 l0_1 x15_1).f0))).setCell ⟨gb146, 1, none⟩ (.int .i64 ((rd_T70 l0_1 x15_1).f1))).setCell ⟨gb146, 2, none⟩ (.int .i64 ((rd_T70 l0_1 x15_1).f2)))) := ⟨bX HB⟩
 (try clear HO_1)
 (try clear HO_2)
 (try clear HO_3)
 (try clear BK144)
 (try clear BK146)
 (try clear HK)
 (try clear HB)
 generalize (((w41.setCell ⟨gb146, 0, none⟩ (.int .i64 ((rd_T70 l0_1 x15_1).f0))).setCell ⟨gb146, 1, none⟩ (.int .i64 ((rd_T70 l0_1 x15_1).f1))).setCell ⟨gb146, 2, none⟩ (.int .i64 ((rd_T70 l0_1 x15_1).f2))) = w44 at n0_ n1_ n2_ n3_ n4_ n5_ n6_ ⊢
 have HO_1 := n0_
 have HO_2 := n1_
 have HO_3 := n2_
 have BK144 := n3_
 have BK146 := n4_
 have HK := n5_
 have HB := n6_
 clear n0_ n1_ n2_ n3_ n4_ n5_ n6_
 have n0_ := mK (Kd.R_drew HO_1.out)
 have n1_ := mK (Kd.R_drew HO_2.out)
 have n2_ := mK (Kd.R_drew HO_3.out)
 have n3_ := mK (blk_drew BK144.out)
 have n4_ := mK (blk_drew BK146.out)
 have n5_ := mK (Kept.drew HK.out)
 have n6_ := mK (below_drew1 HB.out)
 clear HO_1
 clear HO_2
 clear HO_3
 clear BK144
 clear BK146
 clear HK
 clear HB
 have HO_1 := n0_
 have HO_2 := n1_
 have HO_3 := n2_
 have BK144 := n3_
 have BK146 := n4_
 have HK := n5_
 have HB := n6_
 clear n0_ n1_ n2_ n3_ n4_ n5_ n6_
 obtain ⟨Ao46, co46, eo46⟩ := Kd.R_slice HO_3.out
 (first | subst eo46 | (injection eo46 with f1_ f2_ f3_; have f4_ := f1_.symm; have f5_ := f3_.symm; clear f1_ f2_ f3_; subst f4_; subst f5_))
 have p147 : 0 ≤ (((rd_T70 l0_1 x15_1).f0) : Int) := of_decide_eq_true oX
 have q147 : ((rd_T70 l0_1 x15_1).f0) < (x3_1.length : Int) := of_decide_eq_true oX
 obtain ⟨ad147, e147, hx147_0⟩ := Kd.at_bool (Kd.R_reads' HO_3.out).2.2 ((rd_T70 l0_1 x15_1).f0) p147 q147
 (try rw [← Nbq12.out] at hx147_0)
 (try rw [← Nbq16.out] at hx147_0)
 cases e147
 replace p147 := eq_true p147
 replace q147 := eq_true q147
 have p148 : 0 ≤ (((rd_T70 l0_1 x15_1).f1) : Int) := of_decide_eq_true oX
 have q148 : ((rd_T70 l0_1 x15_1).f1) < (x3_1.length : Int) := of_decide_eq_true oX
 obtain ⟨ad148, e148, hx148_0⟩ := Kd.at_bool (Kd.R_reads' HO_3.out).2.2 ((rd_T70 l0_1 x15_1).f1) p148 q148
 (try rw [← Nbq12.out] at hx148_0)
 (try rw [← Nbq16.out] at hx148_0)
 obtain rfl : ad147 = ad148 := (by injection e148)
 replace p148 := eq_true p148
 replace q148 := eq_true q148
 obtain ⟨Ao47, co47, eo47⟩ := Kd.R_slice HO_1.out
 (first | subst eo47 | (injection eo47 with f1_ f2_ f3_; have f4_ := f1_.symm; have f5_ := f3_.symm; clear f1_ f2_ f3_; subst f4_; subst f5_))
 have p149 : 0 ≤ (((rd_T70 l0_1 x15_1).f0) : Int) := of_decide_eq_true oX
 have q149 : ((rd_T70 l0_1 x15_1).f0) < (x1_1.length : Int) := of_decide_eq_true oX
 obtain ⟨ad149, e149, hx149_0⟩ := Kd.at_int (Kd.R_reads' HO_1.out).2.2 ((rd_T70 l0_1 x15_1).f0) p149 q149
 cases e149
 replace p149 := eq_true p149
 replace q149 := eq_true q149
 have p150 : 0 ≤ (((rd_T70 l0_1 x15_1).f1) : Int) := of_decide_eq_true oX
 have q150 : ((rd_T70 l0_1 x15_1).f1) < (x1_1.length : Int) := of_decide_eq_true oX
 obtain ⟨ad150, e150, hx150_0⟩ := Kd.at_int (Kd.R_reads' HO_1.out).2.2 ((rd_T70 l0_1 x15_1).f1) p150 q150
 obtain rfl : ad149 = ad150 := (by injection e150)
 replace p150 := eq_true p150
 replace q150 := eq_true q150
 refine start_ (n := 29) (S := fun w' => w'.cell? ⟨gb146, 0, none⟩ = some (.int .i64 ((rd_T70 l0_1 x15_1).f0)) ∧ w'.cell? ⟨gb146, 1, none⟩ = some (.int .i64 ((rd_T70 l0_1 x15_1).f1)) ∧ w'.cell? ⟨gb146, 2, none⟩ = some (.int .i64 ((rd_T70 l0_1 x15_1).f2)) ∧ w'.cell? (ad147.add (((rd_T70 l0_1 x15_1).f0)).toNat) = some (.bool true) ∧ w'.cell? (ad147.add (((rd_T70 l0_1 x15_1).f1)).toNat) = some (.bool true) ∧ w'.cell? (ad149.add (((rd_T70 l0_1 x15_1).f0)).toNat) = some (.int .i64 (rd x1_1 ((rd_T70 l0_1 x15_1).f0))) ∧ w'.cell? (ad149.add (((rd_T70 l0_1 x15_1).f1)).toNat) = some (.int .i64 (rd x1_1 ((rd_T70 l0_1 x15_1).f1)))) (ds := []) (bs 0 29) (by kernel_rfl) rfl (by kernel_rfl) ⟨(blk_cell BK146.out 0).trans rfl, (blk_cell BK146.out 1).trans rfl, (blk_cell BK146.out 2).trans rfl, hx147_0, hx148_0, hx149_0, hx150_0⟩ (fun hHeld => ?_); refine with_tabW spec_l03Round.tab5 spec_l03Round.bits5 (fun HT_ HW_ => ?_)
 generalize w44.drew = w45 at HO_1 HO_2 HO_3 BK144 BK146 HK HB hx147_0 hx148_0 hx149_0 hx150_0 hHeld ⊢
 refine pL 0 20 (bs 1 29) HT_ ?_
 refine pL 1 21 (bs 2 29) HT_ ?_
 refine tL 2 22 (bs 3 29) HT_ HW_ hHeld ?_
 refine pL 3 23 (bs 4 29) HT_ ?_
 refine tL 4 24 (bs 5 29) HT_ HW_ hHeld ?_
 refine pL 5 25 (bs 6 29) HT_ ?_
 refine pL 6 26 (bs 7 29) HT_ ?_
 refine pL 7 27 (bs 8 29) HT_ ?_
 refine tL 8 28 (bs 9 29) HT_ HW_ hHeld ?_
 refine pL 9 29 (bs 10 29) HT_ ?_
 refine tL 10 30 (bs 11 29) HT_ HW_ hHeld ?_
 refine pL 11 31 (bs 12 29) HT_ ?_
 refine pL 12 32 (bs 13 29) HT_ ?_
 refine pL 13 33 (bs 14 29) HT_ ?_
 refine pL 14 34 (bs 15 29) HT_ ?_
 refine pL 18 38 #[true, true, true, true, true, true, true, true, true, true, true, true, true, true, true, false, false, false, true, false, false, false, false, false, false, false, false, false, false] HT_ ?_
 refine pL 21 41 #[true, true, true, true, true, true, true, true, true, true, true, true, true, true, true, false, false, false, true, false, false, true, false, false, false, false, false, false, false] HT_ ?_
 refine pL 22 42 #[true, true, true, true, true, true, true, true, true, true, true, true, true, true, true, false, false, false, true, false, false, true, true, false, false, false, false, false, false] HT_ ?_
 refine tL 15 35 #[true, true, true, true, true, true, true, true, true, true, true, true, true, true, true, true, false, false, true, false, false, true, true, false, false, false, false, false, false] HT_ HW_ hHeld ?_
 refine pL 16 36 #[true, true, true, true, true, true, true, true, true, true, true, true, true, true, true, true, true, false, true, false, false, true, true, false, false, false, false, false, false] HT_ ?_
 refine tL 17 37 #[true, true, true, true, true, true, true, true, true, true, true, true, true, true, true, true, true, true, true, false, false, true, true, false, false, false, false, false, false] HT_ HW_ hHeld ?_
 refine tL 19 39 #[true, true, true, true, true, true, true, true, true, true, true, true, true, true, true, true, true, true, true, true, false, true, true, false, false, false, false, false, false] HT_ HW_ hHeld ?_
 refine pL 20 40 (bs 23 29) HT_ ?_
 refine tL 23 43 (bs 24 29) HT_ HW_ hHeld ?_
 refine pL 24 44 (bs 25 29) HT_ ?_
 refine tL 25 45 (bs 26 29) HT_ HW_ hHeld ?_
 refine pL 26 46 (bs 27 29) HT_ ?_
 refine pL 27 47 (bs 28 29) HT_ ?_
 refine pL 28 48 (bs 29 29) HT_ ?_
 refine done_ (done_of HT_.out (by kernel_rfl)) ?_
 try go_wp2
 go_roundg k1
 case measure => have := HK1.out; omega
 case rel => exact ⟨(x1_1), (x2_1), (x3_1), (x9_1), (wrap64 (x15_1 + 1)), (by first | rfl | (simp; done) | (simp [*]; done)), (by first | rfl | (simp; done) | (simp [*]; done)), H', ⟨by have := HK1.out; omega⟩, ⟨rX HO_1⟩, ⟨rX HO_2⟩, ⟨rX HO_3⟩, ⟨kX BK144⟩, ⟨tX HK⟩, ⟨bX HB⟩⟩
 }
 rw [if_pos c20] at H
 have c20b0 : decide ((wrap64 ((rd x1_1 ((rd_T70 l0_1 x15_1).f0)) + ((rd_T70 l0_1 x15_1).f2))) < (rd x1_1 ((rd_T70 l0_1 x15_1).f1))) = true := decide_eq_true c20
 clear c20
 obtain ⟨y152, hy152⟩ : ∃ y_ : List Int, y_ = (x1_1.set (((rd_T70 l0_1 x15_1).f1) : Int).toNat (wrap64 ((rd x1_1 ((rd_T70 l0_1 x15_1).f0)) + ((rd_T70 l0_1 x15_1).f2)))) := ⟨_, rfl⟩
 replace H : (if ((rd_T70 l0_1 x15_1).f1) < (x2_1.length : Int) then (spec_l03Round.l0 k1 y152 (x2_1.set (((rd_T70 l0_1 x15_1).f1) : Int).toNat x15_1) (x3_1.set (((rd_T70 l0_1 x15_1).f1) : Int).toNat true) x15_1 l0_1 (l0_1.length : Int) (wrap64 (x15_1 + 1))) else (none)) = some (r1, r2, r3, r4) := by first | (rw [hy152]; with_reducible exact H) | (have H2_ := (Option.bind_some _ _).symm.trans H; rw [hy152]; with_reducible exact H2_) | (have H2_ := (Option.bind_some _ _).symm.trans H; with_reducible exact H2_) | with_reducible exact H | (rw [hy152]; exact H) | exact H
 have Ny152 := mK hy152
 clear hy152
 obtain ⟨y153, hy153⟩ : ∃ y_ : List Bool, y_ = (x3_1.set (((rd_T70 l0_1 x15_1).f1) : Int).toNat true) := ⟨_, rfl⟩
 replace H : (if ((rd_T70 l0_1 x15_1).f1) < (x2_1.length : Int) then (spec_l03Round.l0 k1 y152 (x2_1.set (((rd_T70 l0_1 x15_1).f1) : Int).toNat x15_1) y153 x15_1 l0_1 (l0_1.length : Int) (wrap64 (x15_1 + 1))) else (none)) = some (r1, r2, r3, r4) := by first | (rw [hy153]; with_reducible exact H) | (have H2_ := (Option.bind_some _ _).symm.trans H; rw [hy153]; with_reducible exact H2_) | (have H2_ := (Option.bind_some _ _).symm.trans H; with_reducible exact H2_) | with_reducible exact H | (rw [hy153]; exact H) | exact H
 have Ny153 := mK hy153
 clear hy153
 by_cases c23 : ((rd_T70 l0_1 x15_1).f1) < (x2_1.length : Int)
 rotate_left
 {
 rw [if_neg c23] at H
 exact absurd H (by simp)
 }
 rw [if_pos c23] at H
 have c23b0 : decide (((rd_T70 l0_1 x15_1).f1) < (x2_1.length : Int)) = true := decide_eq_true c23
 clear c23
 obtain ⟨y154, hy154⟩ : ∃ y_ : List Int, y_ = (x2_1.set (((rd_T70 l0_1 x15_1).f1) : Int).toNat x15_1) := ⟨_, rfl⟩
 replace H : (spec_l03Round.l0 k1 y152 y154 y153 x15_1 l0_1 (l0_1.length : Int) (wrap64 (x15_1 + 1))) = some (r1, r2, r3, r4) := by first | (rw [hy154]; with_reducible exact H) | (have H2_ := (Option.bind_some _ _).symm.trans H; rw [hy154]; with_reducible exact H2_) | (have H2_ := (Option.bind_some _ _).symm.trans H; with_reducible exact H2_) | with_reducible exact H | (rw [hy154]; exact H) | exact H
 have Ny154 := mK hy154
 clear hy154
 have H' := mK H
 clear H
 have p145 : 0 ≤ (x15_1 : Int) := of_decide_eq_true oX
 have q145 : x15_1 < (l0_1.length : Int) := of_decide_eq_true oX
 obtain ⟨ad145, e145, hx145_0, hx145_1, hx145_2⟩ := at_T70 (Kd.C_kept_now HR0_1.out HK.out) x15_1 p145 q145
 cases e145
 replace p145 := eq_true p145
 replace q145 := eq_true q145
 try go_wp2_with (first | ((with_reducible refine gate_dst (N := 11) rfl ?_); refine bxE 11 #[.int .i64 0, .int .i64 0, .int .i64 0] 70 ?_; intro gb146 hg w25 hbox hb; have n0_ := mK (Kd.R_below (rX HO_1) hb); have n1_ := mK (Kd.R_below (rX HO_2) hb); have n2_ := mK (Kd.R_below (rX HO_3) hb); have n3_ := kB BK144 hb; have n4_ := mK (Kept.below (S := (fun k_ => P1_ k_ ∨ P2_ k_ ∨ P3_ k_)) (tX HK) hb); have n5_ := bB HB hb; have n6_ := mK hbox; have n7_ := mK ((by rw [hg]; exact (by first | exact HK.out.1 | exact (show Kept w _ (fun k_ => P1_ k_ ∨ P2_ k_ ∨ P3_ k_) from tX HK).1) : w.heap.size ≤ gb146)); have n8_ := mK (gX hg HB); have n9_ := mK (lX hg BK144); have n10_ := mK (mX hg BK144); clear HO_1; clear HO_2; clear HO_3; clear BK144; clear HK; clear HB; have HO_1 := n0_; have HO_2 := n1_; have HO_3 := n2_; have BK144 := n3_; have HK := n4_; have HB := n5_; have BK146 := n6_; have GW146 := n7_; have GE146 := n8_; have NB144_146 := n9_; have NB146_144 := n10_; clear n0_ n1_ n2_ n3_ n4_ n5_ n6_ n7_ n8_ n9_ n10_; clear hb hbox hg; have hnb26 := NB146_144.out; have hnc26 := NB144_146.out; have hcz27_0 := q0 BK146; have hcz27_1 := q1 BK146; have hcz27_2 := q2 BK146; have hfz27_0 := fX BK146 0; have hfz27_1 := fX BK146 1; have hfz27_2 := fX BK146 2))
 have n0_ : Aside0 (Kd.R (Kd.int .i64) 3 (((w25.setCell ⟨gb146, 0, none⟩ (.int .i64 ((rd_T70 l0_1 x15_1).f0))).setCell ⟨gb146, 1, none⟩ (.int .i64 ((rd_T70 l0_1 x15_1).f1))).setCell ⟨gb146, 2, none⟩ (.int .i64 ((rd_T70 l0_1 x15_1).f2))) w0.heap.size (fun k_ => ((P1_ k_ ∨ P2_ k_ ∨ P3_ k_) ∨ w.heap.size ≤ k_) ∧ some k_ ≠ (u9001_ : Value).ownBlock) u9000_ x1_1) := ⟨rF3 HO_1 BK146⟩
 have n1_ : Aside0 (Kd.R (Kd.int .i64) 3 (((w25.setCell ⟨gb146, 0, none⟩ (.int .i64 ((rd_T70 l0_1 x15_1).f0))).setCell ⟨gb146, 1, none⟩ (.int .i64 ((rd_T70 l0_1 x15_1).f1))).setCell ⟨gb146, 2, none⟩ (.int .i64 ((rd_T70 l0_1 x15_1).f2))) w0.heap.size (fun k_ => ((P1_ k_ ∨ P2_ k_ ∨ P3_ k_) ∨ w.heap.size ≤ k_) ∧ some k_ ≠ (u9000_ : Value).ownBlock) u9001_ x2_1) := ⟨rF3 HO_2 BK146⟩
 have n2_ : Aside0 (Kd.R Kd.bool 4 (((w25.setCell ⟨gb146, 0, none⟩ (.int .i64 ((rd_T70 l0_1 x15_1).f0))).setCell ⟨gb146, 1, none⟩ (.int .i64 ((rd_T70 l0_1 x15_1).f1))).setCell ⟨gb146, 2, none⟩ (.int .i64 ((rd_T70 l0_1 x15_1).f2))) w0.heap.size (fun k_ => ((P1_ k_ ∨ P2_ k_ ∨ P3_ k_) ∨ w.heap.size ≤ k_)) u9002_ x3_1) := ⟨rF3 HO_3 BK146⟩
 have n3_ : Aside0 ((((w25.setCell ⟨gb146, 0, none⟩ (.int .i64 ((rd_T70 l0_1 x15_1).f0))).setCell ⟨gb146, 1, none⟩ (.int .i64 ((rd_T70 l0_1 x15_1).f1))).setCell ⟨gb146, 2, none⟩ (.int .i64 ((rd_T70 l0_1 x15_1).f2))).heap[gb144]? = some (.cells #[.int .i64 a0_0, .slice (some ad145) l0_1.length c0_1] 33 (0, 0))) := ⟨kF BK144 NB144_146⟩
 have n4_ : Aside0 ((((w25.setCell ⟨gb146, 0, none⟩ (.int .i64 ((rd_T70 l0_1 x15_1).f0))).setCell ⟨gb146, 1, none⟩ (.int .i64 ((rd_T70 l0_1 x15_1).f1))).setCell ⟨gb146, 2, none⟩ (.int .i64 ((rd_T70 l0_1 x15_1).f2))).heap[gb146]? = some (.cells #[.int .i64 ((rd_T70 l0_1 x15_1).f0), .int .i64 ((rd_T70 l0_1 x15_1).f1), .int .i64 ((rd_T70 l0_1 x15_1).f2)] 70 (0, 0))) := ⟨kP3 BK146⟩
 have n5_ : Aside0 (Kept w (((w25.setCell ⟨gb146, 0, none⟩ (.int .i64 ((rd_T70 l0_1 x15_1).f0))).setCell ⟨gb146, 1, none⟩ (.int .i64 ((rd_T70 l0_1 x15_1).f1))).setCell ⟨gb146, 2, none⟩ (.int .i64 ((rd_T70 l0_1 x15_1).f2))) (fun k_ => P1_ k_ ∨ P2_ k_ ∨ P3_ k_)) := ⟨tX HK⟩
 have n6_ : Aside0 (Below w0.heap.size w0 (((w25.setCell ⟨gb146, 0, none⟩ (.int .i64 ((rd_T70 l0_1 x15_1).f0))).setCell ⟨gb146, 1, none⟩ (.int .i64 ((rd_T70 l0_1 x15_1).f1))).setCell ⟨gb146, 2, none⟩ (.int .i64 ((rd_T70 l0_1 x15_1).f2)))) := ⟨bX HB⟩
 (try clear HO_1)
 (try clear HO_2)
 (try clear HO_3)
 (try clear BK144)
 (try clear BK146)
 (try clear HK)
 (try clear HB)
 generalize (((w25.setCell ⟨gb146, 0, none⟩ (.int .i64 ((rd_T70 l0_1 x15_1).f0))).setCell ⟨gb146, 1, none⟩ (.int .i64 ((rd_T70 l0_1 x15_1).f1))).setCell ⟨gb146, 2, none⟩ (.int .i64 ((rd_T70 l0_1 x15_1).f2))) = w28 at n0_ n1_ n2_ n3_ n4_ n5_ n6_ ⊢
 have HO_1 := n0_
 have HO_2 := n1_
 have HO_3 := n2_
 have BK144 := n3_
 have BK146 := n4_
 have HK := n5_
 have HB := n6_
 clear n0_ n1_ n2_ n3_ n4_ n5_ n6_
 have n0_ := mK (Kd.R_drew HO_1.out)
 have n1_ := mK (Kd.R_drew HO_2.out)
 have n2_ := mK (Kd.R_drew HO_3.out)
 have n3_ := mK (blk_drew BK144.out)
 have n4_ := mK (blk_drew BK146.out)
 have n5_ := mK (Kept.drew HK.out)
 have n6_ := mK (below_drew1 HB.out)
 clear HO_1
 clear HO_2
 clear HO_3
 clear BK144
 clear BK146
 clear HK
 clear HB
 have HO_1 := n0_
 have HO_2 := n1_
 have HO_3 := n2_
 have BK144 := n3_
 have BK146 := n4_
 have HK := n5_
 have HB := n6_
 clear n0_ n1_ n2_ n3_ n4_ n5_ n6_
 obtain ⟨Ao30, co30, eo30⟩ := Kd.R_slice HO_3.out
 (first | subst eo30 | (injection eo30 with f1_ f2_ f3_; have f4_ := f1_.symm; have f5_ := f3_.symm; clear f1_ f2_ f3_; subst f4_; subst f5_))
 have p147 : 0 ≤ (((rd_T70 l0_1 x15_1).f0) : Int) := of_decide_eq_true oX
 have q147 : ((rd_T70 l0_1 x15_1).f0) < (x3_1.length : Int) := of_decide_eq_true oX
 obtain ⟨ad147, e147, hx147_0⟩ := Kd.at_bool (Kd.R_reads' HO_3.out).2.2 ((rd_T70 l0_1 x15_1).f0) p147 q147
 (try rw [← Nbq12.out] at hx147_0)
 (try rw [← Nbq16.out] at hx147_0)
 cases e147
 replace p147 := eq_true p147
 replace q147 := eq_true q147
 have p148 : 0 ≤ (((rd_T70 l0_1 x15_1).f1) : Int) := of_decide_eq_true oX
 have q148 : ((rd_T70 l0_1 x15_1).f1) < (x3_1.length : Int) := of_decide_eq_true oX
 obtain ⟨ad148, e148, hx148_0⟩ := Kd.at_bool (Kd.R_reads' HO_3.out).2.2 ((rd_T70 l0_1 x15_1).f1) p148 q148
 (try rw [← Nbq12.out] at hx148_0)
 (try rw [← Nbq16.out] at hx148_0)
 obtain rfl : ad147 = ad148 := (by injection e148)
 replace p148 := eq_true p148
 replace q148 := eq_true q148
 obtain ⟨Ao31, co31, eo31⟩ := Kd.R_slice HO_1.out
 (first | subst eo31 | (injection eo31 with f1_ f2_ f3_; have f4_ := f1_.symm; have f5_ := f3_.symm; clear f1_ f2_ f3_; subst f4_; subst f5_))
 have p149 : 0 ≤ (((rd_T70 l0_1 x15_1).f0) : Int) := of_decide_eq_true oX
 have q149 : ((rd_T70 l0_1 x15_1).f0) < (x1_1.length : Int) := of_decide_eq_true oX
 obtain ⟨ad149, e149, hx149_0⟩ := Kd.at_int (Kd.R_reads' HO_1.out).2.2 ((rd_T70 l0_1 x15_1).f0) p149 q149
 cases e149
 replace p149 := eq_true p149
 replace q149 := eq_true q149
 have p150 : 0 ≤ (((rd_T70 l0_1 x15_1).f1) : Int) := of_decide_eq_true oX
 have q150 : ((rd_T70 l0_1 x15_1).f1) < (x1_1.length : Int) := of_decide_eq_true oX
 obtain ⟨ad150, e150, hx150_0⟩ := Kd.at_int (Kd.R_reads' HO_1.out).2.2 ((rd_T70 l0_1 x15_1).f1) p150 q150
 obtain rfl : ad149 = ad150 := (by injection e150)
 replace p150 := eq_true p150
 replace q150 := eq_true q150
 refine start_ (n := 29) (S := fun w' => w'.cell? ⟨gb146, 0, none⟩ = some (.int .i64 ((rd_T70 l0_1 x15_1).f0)) ∧ w'.cell? ⟨gb146, 1, none⟩ = some (.int .i64 ((rd_T70 l0_1 x15_1).f1)) ∧ w'.cell? ⟨gb146, 2, none⟩ = some (.int .i64 ((rd_T70 l0_1 x15_1).f2)) ∧ w'.cell? (ad147.add (((rd_T70 l0_1 x15_1).f0)).toNat) = some (.bool true) ∧ w'.cell? (ad147.add (((rd_T70 l0_1 x15_1).f1)).toNat) = some (.bool true) ∧ w'.cell? (ad149.add (((rd_T70 l0_1 x15_1).f0)).toNat) = some (.int .i64 (rd x1_1 ((rd_T70 l0_1 x15_1).f0))) ∧ w'.cell? (ad149.add (((rd_T70 l0_1 x15_1).f1)).toNat) = some (.int .i64 (rd x1_1 ((rd_T70 l0_1 x15_1).f1)))) (ds := []) (bs 0 29) (by kernel_rfl) rfl (by kernel_rfl) ⟨(blk_cell BK146.out 0).trans rfl, (blk_cell BK146.out 1).trans rfl, (blk_cell BK146.out 2).trans rfl, hx147_0, hx148_0, hx149_0, hx150_0⟩ (fun hHeld => ?_); refine with_tabW spec_l03Round.tab5 spec_l03Round.bits5 (fun HT_ HW_ => ?_)
 generalize w28.drew = w29 at HO_1 HO_2 HO_3 BK144 BK146 HK HB hx147_0 hx148_0 hx149_0 hx150_0 hHeld ⊢
 refine pL 0 20 (bs 1 29) HT_ ?_
 refine pL 1 21 (bs 2 29) HT_ ?_
 refine tL 2 22 (bs 3 29) HT_ HW_ hHeld ?_
 refine pL 3 23 (bs 4 29) HT_ ?_
 refine tL 4 24 (bs 5 29) HT_ HW_ hHeld ?_
 refine pL 5 25 (bs 6 29) HT_ ?_
 refine pL 6 26 (bs 7 29) HT_ ?_
 refine pL 7 27 (bs 8 29) HT_ ?_
 refine tL 8 28 (bs 9 29) HT_ HW_ hHeld ?_
 refine pL 9 29 (bs 10 29) HT_ ?_
 refine tL 10 30 (bs 11 29) HT_ HW_ hHeld ?_
 refine pL 11 31 (bs 12 29) HT_ ?_
 refine pL 12 32 (bs 13 29) HT_ ?_
 refine pL 13 33 (bs 14 29) HT_ ?_
 refine pL 14 34 (bs 15 29) HT_ ?_
 refine pL 18 38 #[true, true, true, true, true, true, true, true, true, true, true, true, true, true, true, false, false, false, true, false, false, false, false, false, false, false, false, false, false] HT_ ?_
 refine pL 21 41 #[true, true, true, true, true, true, true, true, true, true, true, true, true, true, true, false, false, false, true, false, false, true, false, false, false, false, false, false, false] HT_ ?_
 refine pL 22 42 #[true, true, true, true, true, true, true, true, true, true, true, true, true, true, true, false, false, false, true, false, false, true, true, false, false, false, false, false, false] HT_ ?_
 refine tL 15 35 #[true, true, true, true, true, true, true, true, true, true, true, true, true, true, true, true, false, false, true, false, false, true, true, false, false, false, false, false, false] HT_ HW_ hHeld ?_
 refine pL 16 36 #[true, true, true, true, true, true, true, true, true, true, true, true, true, true, true, true, true, false, true, false, false, true, true, false, false, false, false, false, false] HT_ ?_
 refine tL 17 37 #[true, true, true, true, true, true, true, true, true, true, true, true, true, true, true, true, true, true, true, false, false, true, true, false, false, false, false, false, false] HT_ HW_ hHeld ?_
 refine tL 19 39 #[true, true, true, true, true, true, true, true, true, true, true, true, true, true, true, true, true, true, true, true, false, true, true, false, false, false, false, false, false] HT_ HW_ hHeld ?_
 refine pL 20 40 (bs 23 29) HT_ ?_
 refine tL 23 43 (bs 24 29) HT_ HW_ hHeld ?_
 refine pL 24 44 (bs 25 29) HT_ ?_
 refine tL 25 45 (bs 26 29) HT_ HW_ hHeld ?_
 refine pL 26 46 (bs 27 29) HT_ ?_
 refine pL 27 47 (bs 28 29) HT_ ?_
 refine pL 28 48 (bs 29 29) HT_ ?_
 refine done_ (done_of HT_.out (by kernel_rfl)) ?_
 try go_wp2
 have n0_ := mK (Kd.R_drew HO_1.out)
 have n1_ := mK (Kd.R_drew HO_2.out)
 have n2_ := mK (Kd.R_drew HO_3.out)
 have n3_ := mK (blk_drew BK144.out)
 have n4_ := mK (blk_drew BK146.out)
 have n5_ := mK (Kept.drew HK.out)
 have n6_ := mK (below_drew1 HB.out)
 clear HO_1
 clear HO_2
 clear HO_3
 clear BK144
 clear BK146
 clear HK
 clear HB
 have HO_1 := n0_
 have HO_2 := n1_
 have HO_3 := n2_
 have BK144 := n3_
 have BK146 := n4_
 have HK := n5_
 have HB := n6_
 clear n0_ n1_ n2_ n3_ n4_ n5_ n6_
 have p151 : 0 ≤ (((rd_T70 l0_1 x15_1).f0) : Int) := of_decide_eq_true oX
 have q151 : ((rd_T70 l0_1 x15_1).f0) < (x1_1.length : Int) := of_decide_eq_true oX
 obtain ⟨ad151, e151, hx151_0⟩ := Kd.at_int (Kd.R_reads' HO_1.out).2.2 ((rd_T70 l0_1 x15_1).f0) p151 q151
 obtain rfl : ad149 = ad151 := (by injection e151)
 replace p151 := eq_true p151
 replace q151 := eq_true q151
 have p21 : 0 ≤ (((rd_T70 l0_1 x15_1).f1) : Int) := of_decide_eq_true oX
 have q21 : (((rd_T70 l0_1 x15_1).f1) : Int) < ((x1_1.length : Int) : Int) := of_decide_eq_true oX
 obtain ⟨go21, co21, eo21, gb21, gl21, cl21, HG21⟩ := Kd.R_form HO_1.out (by omega)
 (first | cases eo21 | (injection eo21 with ea_ en_ ec_; (first | subst ea_ | (injection ea_ with ea_; subst ea_)); subst ec_; clear en_))
 have GB21 := mK gb21
 have GG21 := mK HG21
 clear gb21 gl21 HG21
 have HMgo21 := mK (show ((P1_ go21 ∨ P2_ go21 ∨ P3_ go21) ∨ w.heap.size ≤ go21) from (HO_1.out.1 _ rfl).1)
 (first | simp only [add_plain] at hx149_0 | skip)
 (first | simp only [add_plain] at hx150_0 | skip)
 (first | simp only [add_plain] at hx151_0 | skip)
 obtain ⟨hx21_0, hf21_0⟩ := Kd.R_celln 0 HO_1.out (((rd_T70 l0_1 x15_1).f1) : Int) p21 q21
 replace p21 := eq_true p21
 replace q21 := eq_true q21
 have HP33 := Kd.R_putn HO_1.out (((rd_T70 l0_1 x15_1).f1) : Int) (wrap64 ((rd x1_1 ((rd_T70 l0_1 x15_1).f0)) + ((rd_T70 l0_1 x15_1).f2)))
 rw [← Ny152.out] at HP33
 have HQ33 := mK HP33
 clear HP33
 refine start_ (n := 13) (S := fun w' => w'.cell? ⟨gb146, 0, none⟩ = some (.int .i64 ((rd_T70 l0_1 x15_1).f0)) ∧ w'.cell? ⟨gb146, 1, none⟩ = some (.int .i64 ((rd_T70 l0_1 x15_1).f1)) ∧ w'.cell? ⟨gb146, 2, none⟩ = some (.int .i64 ((rd_T70 l0_1 x15_1).f2)) ∧ w'.cell? ⟨go21, (((rd_T70 l0_1 x15_1).f0)).toNat, none⟩ = some (.int .i64 (rd x1_1 ((rd_T70 l0_1 x15_1).f0)))) (ds := [12]) (bs 0 13) (by kernel_rfl) rfl (by kernel_rfl) ⟨(blk_cell BK146.out 0).trans rfl, (blk_cell BK146.out 1).trans rfl, (blk_cell BK146.out 2).trans rfl, hx151_0⟩ (fun hHeld => ?_); refine with_tabW spec_l03Round.tab6 spec_l03Round.bits6 (fun HT_ HW_ => ?_)
 first | generalize w29.drew = w32 at HO_1 HO_2 HO_3 BK144 BK146 HK HB GG21 HQ33 hf21_0 hx149_0 hx150_0 hx151_0 hx21_0 hHeld ⊢ | generalize w29.drew = w32 at HO_1 HO_2 HO_3 BK144 BK146 HK HB GG21 HQ33 hf21_0 hx151_0 hx21_0 hHeld ⊢
 refine pL 0 49 (bs 1 13) HT_ ?_
 refine pL 1 50 (bs 2 13) HT_ ?_
 refine pL 3 52 #[true, true, false, true, false, false, false, false, false, false, false, false, false] HT_ ?_
 refine pL 4 53 #[true, true, false, true, true, false, false, false, false, false, false, false, false] HT_ ?_
 refine pL 8 57 #[true, true, false, true, true, false, false, false, true, false, false, false, false] HT_ ?_
 refine tL 2 51 #[true, true, true, true, true, false, false, false, true, false, false, false, false] HT_ HW_ hHeld ?_
 refine tL 5 54 #[true, true, true, true, true, true, false, false, true, false, false, false, false] HT_ HW_ hHeld ?_
 refine pL 6 55 #[true, true, true, true, true, true, true, false, true, false, false, false, false] HT_ ?_
 refine tL 7 56 (bs 9 13) HT_ HW_ hHeld ?_
 refine tL 9 58 (bs 10 13) HT_ HW_ hHeld ?_
 refine pL 10 59 (bs 11 13) HT_ ?_
 refine pL 11 60 (bs 12 13) HT_ ?_
 refine last_ (i := 12) (N := none) (bs 13 13) rfl rfl (one_of HT_.out (by kernel_rfl)) (by decide) (fun K hK => ?_)
 refine skip_ (w1 := ?_) (by rfl) rfl ?_ ?_
 rotate_left
 {
 go_simp
 rfl
 }
 refine hK.out _ _ ?_
 clear hK K
 refine done_ (done_of HT_.out (by kernel_rfl)) ?_
 have n0_ : Aside0 (Kd.R (Kd.int .i64) 3 (w32.setCell ⟨go21, (((rd_T70 l0_1 x15_1).f1) : Int).toNat, none⟩ (.int .i64 (wrap64 ((rd x1_1 ((rd_T70 l0_1 x15_1).f0)) + ((rd_T70 l0_1 x15_1).f2))))) w0.heap.size (fun k_ => ((P1_ k_ ∨ P2_ k_ ∨ P3_ k_) ∨ w.heap.size ≤ k_) ∧ some k_ ≠ (u9001_ : Value).ownBlock) (.slice (some ⟨go21, 0, none⟩) x1_1.length co31) y152) := ⟨by (with_reducible repeat first|apply rA|apply rN|apply rD); exact HQ33.out⟩
 have n1_ : Aside0 (Kd.R (Kd.int .i64) 3 (w32.setCell ⟨go21, (((rd_T70 l0_1 x15_1).f1) : Int).toNat, none⟩ (.int .i64 (wrap64 ((rd x1_1 ((rd_T70 l0_1 x15_1).f0)) + ((rd_T70 l0_1 x15_1).f2))))) w0.heap.size (fun k_ => ((P1_ k_ ∨ P2_ k_ ∨ P3_ k_) ∨ w.heap.size ≤ k_) ∧ some k_ ≠ (.slice (some ⟨go21, 0, none⟩) x1_1.length co31 : Value).ownBlock) u9001_ x2_1) := ⟨by (with_reducible repeat first|apply rA|apply rN|apply rD); exact Kd.R_mono (Kd.R_far (p := ⟨go21, (((rd_T70 l0_1 x15_1).f1) : Int).toNat, none⟩) (Kd.R_mono HO_2.out (fun k_ hk => (⟨hk, fun e_ => hk.2 (by rw [e_]; rfl)⟩ : _ ∧ k_ ≠ go21))) (fun _ hk => hk.2) (.int .i64 (wrap64 ((rd x1_1 ((rd_T70 l0_1 x15_1).f0)) + ((rd_T70 l0_1 x15_1).f2))))) (fun _ hk => ⟨hk.1.1, hk.1.2⟩)⟩
 have n2_ : Aside0 (Kd.R Kd.bool 4 (w32.setCell ⟨go21, (((rd_T70 l0_1 x15_1).f1) : Int).toNat, none⟩ (.int .i64 (wrap64 ((rd x1_1 ((rd_T70 l0_1 x15_1).f0)) + ((rd_T70 l0_1 x15_1).f2))))) w0.heap.size (fun k_ => ((P1_ k_ ∨ P2_ k_ ∨ P3_ k_) ∨ w.heap.size ≤ k_)) (.slice (some ad147) x3_1.length co30) x3_1) := ⟨by (with_reducible repeat first|apply rA|apply rN|apply rD); exact Kd.R_mono (Kd.R_far (p := ⟨go21, (((rd_T70 l0_1 x15_1).f1) : Int).toNat, none⟩) (Kd.R_types HO_3.out GG21.out (by decide)) (fun _ hk => hk.2) (.int .i64 (wrap64 ((rd x1_1 ((rd_T70 l0_1 x15_1).f0)) + ((rd_T70 l0_1 x15_1).f2))))) (fun _ hk => hk.1)⟩
 have n3_ : Aside0 ((w32.setCell ⟨go21, (((rd_T70 l0_1 x15_1).f1) : Int).toNat, none⟩ (.int .i64 (wrap64 ((rd x1_1 ((rd_T70 l0_1 x15_1).f0)) + ((rd_T70 l0_1 x15_1).f2))))).heap[gb144]? = some (.cells #[.int .i64 a0_0, .slice (some ad145) l0_1.length c0_1] 33 (0, 0))) := ⟨by (with_reducible repeat first|apply kN|apply kD|apply kA); refine blk_far ?_ (by have h_ := Kd.R_ne HO_1.out BK144.out (by decide); intro e_; exact h_ (by rw [e_]; rfl)) _; (with_reducible repeat first|apply kN|apply kD|apply kA); exact BK144.out⟩
 have n4_ : Aside0 ((w32.setCell ⟨go21, (((rd_T70 l0_1 x15_1).f1) : Int).toNat, none⟩ (.int .i64 (wrap64 ((rd x1_1 ((rd_T70 l0_1 x15_1).f0)) + ((rd_T70 l0_1 x15_1).f2))))).heap[gb146]? = some (.cells #[.int .i64 ((rd_T70 l0_1 x15_1).f0), .int .i64 ((rd_T70 l0_1 x15_1).f1), .int .i64 ((rd_T70 l0_1 x15_1).f2)] 70 (0, 0))) := ⟨by (with_reducible repeat first|apply kN|apply kD|apply kA); refine blk_far ?_ (by have h_ := Kd.R_ne HO_1.out BK146.out (by decide); intro e_; exact h_ (by rw [e_]; rfl)) _; (with_reducible repeat first|apply kN|apply kD|apply kA); exact BK146.out⟩
 have n5_ : Aside0 (Kept w (w32.setCell ⟨go21, (((rd_T70 l0_1 x15_1).f1) : Int).toNat, none⟩ (.int .i64 (wrap64 ((rd x1_1 ((rd_T70 l0_1 x15_1).f0)) + ((rd_T70 l0_1 x15_1).f2))))) (fun k_ => P1_ k_ ∨ P2_ k_ ∨ P3_ k_)) := ⟨by repeat (first | (with_reducible first | exact HK.out | apply Kept.alloc | apply Kept.drewN | apply Kept.drew | refine Kept.setCell ?_ HMgo21.out _ | refine Kept.setCell ?_ (.inr GW144.out) _ | refine Kept.setCell ?_ (.inr GW146.out) _) | exact HK.out)⟩
 have n6_ : Aside0 (Below w0.heap.size w0 (w32.setCell ⟨go21, (((rd_T70 l0_1 x15_1).f1) : Int).toNat, none⟩ (.int .i64 (wrap64 ((rd x1_1 ((rd_T70 l0_1 x15_1).f0)) + ((rd_T70 l0_1 x15_1).f2)))))) := ⟨bX HB⟩
 (try clear HO_1)
 (try clear HO_2)
 (try clear HO_3)
 (try clear BK144)
 (try clear BK146)
 (try clear HK)
 (try clear HB)
 generalize (w32.setCell ⟨go21, (((rd_T70 l0_1 x15_1).f1) : Int).toNat, none⟩ (.int .i64 (wrap64 ((rd x1_1 ((rd_T70 l0_1 x15_1).f0)) + ((rd_T70 l0_1 x15_1).f2))))) = w34 at n0_ n1_ n2_ n3_ n4_ n5_ n6_ ⊢
 have HO_1 := n0_
 have HO_2 := n1_
 have HO_3 := n2_
 have BK144 := n3_
 have BK146 := n4_
 have HK := n5_
 have HB := n6_
 clear n0_ n1_ n2_ n3_ n4_ n5_ n6_
 have hcz35_0 := q0 BK146
 have hcz35_1 := q1 BK146
 have hcz35_2 := q2 BK146
 have hfz35_0 := fX BK146 0
 have hfz35_1 := fX BK146 1
 have hfz35_2 := fX BK146 2
 have p22 : 0 ≤ (((rd_T70 l0_1 x15_1).f1) : Int) := of_decide_eq_true oX
 have q22 : (((rd_T70 l0_1 x15_1).f1) : Int) < ((x3_1.length : Int) : Int) := of_decide_eq_true oX
 obtain ⟨go22, co22, eo22, gb22, gl22, cl22, HG22⟩ := Kd.R_form HO_3.out (by omega)
 (first | cases eo22 | (injection eo22 with ea_ en_ ec_; (first | subst ea_ | (injection ea_ with ea_; subst ea_)); subst ec_; clear en_))
 have GB22 := mK gb22
 have GG22 := mK HG22
 clear gb22 gl22 HG22
 have HMgo22 := mK (show ((P1_ go22 ∨ P2_ go22 ∨ P3_ go22) ∨ w.heap.size ≤ go22) from (HO_3.out.1 _ rfl))
 (first | simp only [add_plain] at hx147_0 | skip)
 (first | simp only [add_plain] at hx148_0 | skip)
 obtain ⟨hx22_0, hf22_0⟩ := Kd.R_celln false HO_3.out (((rd_T70 l0_1 x15_1).f1) : Int) p22 q22
 replace p22 := eq_true p22
 replace q22 := eq_true q22
 obtain ⟨hy36_, hz36_⟩ := Kd.R_celln false HO_3.out (((rd_T70 l0_1 x15_1).f1) : Int) (of_decide_eq_true oX) (of_decide_eq_true oX)
 have HP36 := Kd.R_putg HO_3.out (((rd_T70 l0_1 x15_1).f1) : Int) true
 try go_wp2_with (first | ((with_reducible refine gate_store (t := 4) (p := 64) rfl ?_); refine store_event (t := 4) (p := 64) (v := ?vo_w37) (w1 := (w34.setCell ⟨go22, (((rd_T70 l0_1 x15_1).f1) : Int).toNat, none⟩ (.bool true))) ?hg ?ho ?hn ?hr ?_; (case ho => rfl); (case hg => rfl); (case hn => rfl); (case hr => go_simp <;> rfl); intro w37 hw; have hg : w34.grownBy w37 (some go22) := (by rw [hw]; exact HP36.2); have hp_ : Kd.R Kd.bool 4 w37 w0.heap.size (fun k_ => ((P1_ k_ ∨ P2_ k_ ∨ P3_ k_) ∨ w.heap.size ≤ k_)) (.slice (some ⟨go22, 0, none⟩) x3_1.length co30) y153 := (by rw [hw, Ny153.out]; exact HP36.1); clear HP36; have n0_ := mK (Kd.R_over' (v := (.slice (some ⟨go22, 0, none⟩) x3_1.length co30)) (rX HO_1) (Kd.R_typed HO_3.out) (by decide) hg); have n1_ := mK (Kd.R_over' (v := (.slice (some ⟨go22, 0, none⟩) x3_1.length co30)) (rX HO_2) (Kd.R_typed HO_3.out) (by decide) hg); have n2_ := mK (hp_); have n3_ := mK (blk_grown (kX BK144) hg (Kd.R_ne HO_3.out BK144.out (by decide))); have n4_ := mK (blk_grown (kX BK146) hg (Kd.R_ne HO_3.out BK146.out (by decide))); have n5_ := mK ((by rw [hw]; exact below_set (HB.out) GB22.out : Below w0.heap.size w0 w37)); have n6_ := mK (Kept.of_grown (S := (fun k_ => P1_ k_ ∨ P2_ k_ ∨ P3_ k_)) hg (tX HK) (fun k_ e_ => (HO_3.out.1 k_ e_))); clear HO_1; clear HO_2; clear HO_3; clear BK144; clear BK146; clear HB; clear HK; have HO_1 := n0_; have HO_2 := n1_; have HO_3 := n2_; have BK144 := n3_; have BK146 := n4_; have HB := n5_; have HK := n6_; clear n0_ n1_ n2_ n3_ n4_ n5_ n6_; clear hg hw hp_; have hcz38_0 := q0 BK146; have hcz38_1 := q1 BK146; have hcz38_2 := q2 BK146; have hfz38_0 := fX BK146 0; have hfz38_1 := fX BK146 1; have hfz38_2 := fX BK146 2; have p24 : 0 ≤ (((rd_T70 l0_1 x15_1).f1) : Int) := of_decide_eq_true oX; have q24 : (((rd_T70 l0_1 x15_1).f1) : Int) < ((x2_1.length : Int) : Int) := of_decide_eq_true oX; obtain ⟨go24, co24, eo24, gb24, gl24, cl24, HG24⟩ := Kd.R_form HO_2.out (by omega); (first | cases eo24 | (injection eo24 with ea_ en_ ec_; (first | subst ea_ | (injection ea_ with ea_; subst ea_)); subst ec_; clear en_)); have GB24 := mK gb24; have GG24 := mK HG24; clear gb24 gl24 HG24; have HMgo24 := mK (show ((P1_ go24 ∨ P2_ go24 ∨ P3_ go24) ∨ w.heap.size ≤ go24) from (HO_2.out.1 _ rfl).1); obtain ⟨hx24_0, hf24_0⟩ := Kd.R_celln 0 HO_2.out (((rd_T70 l0_1 x15_1).f1) : Int) p24 q24; replace p24 := eq_true p24; replace q24 := eq_true q24; obtain ⟨hy39_, hz39_⟩ := Kd.R_celln 0 HO_2.out (((rd_T70 l0_1 x15_1).f1) : Int) (of_decide_eq_true oX) (of_decide_eq_true oX); have HP39 := Kd.R_putg HO_2.out (((rd_T70 l0_1 x15_1).f1) : Int) x15_1) | ((with_reducible refine gate_store (t := 3) (p := 69) rfl ?_); refine store_event (t := 3) (p := 69) (v := ?vo_w40) (w1 := (w37.setCell ⟨go24, (((rd_T70 l0_1 x15_1).f1) : Int).toNat, none⟩ (.int .i64 x15_1))) ?hg ?ho ?hn ?hr ?_; (case ho => rfl); (case hg => rfl); (case hn => rfl); (case hr => go_simp <;> rfl); intro w40 hw; have hg : w37.grownBy w40 (some go24) := (by rw [hw]; exact HP39.2); have hp_ : Kd.R (Kd.int .i64) 3 w40 w0.heap.size (fun k_ => ((P1_ k_ ∨ P2_ k_ ∨ P3_ k_) ∨ w.heap.size ≤ k_) ∧ some k_ ≠ (.slice (some ⟨go21, 0, none⟩) x1_1.length co31 : Value).ownBlock) (.slice (some ⟨go24, 0, none⟩) x2_1.length co24) y154 := (by rw [hw, Ny154.out]; exact HP39.1); clear HP39; have n0_ := mK (Kd.R_after (v := (.slice (some ⟨go24, 0, none⟩) x2_1.length co24)) (v1 := (.slice (some ⟨go24, 0, none⟩) x2_1.length co24)) (ok := (fun k_ => ((P1_ k_ ∨ P2_ k_ ∨ P3_ k_) ∨ w.heap.size ≤ k_))) (rX HO_1) hg (.inl rfl)); have n1_ := mK (hp_); have n2_ := mK (Kd.R_over' (v := (.slice (some ⟨go24, 0, none⟩) x2_1.length co24)) (rX HO_3) (Kd.R_typed HO_2.out) (by decide) hg); have n3_ := mK (blk_grown (kX BK144) hg (Kd.R_ne HO_2.out BK144.out (by decide))); have n4_ := mK (blk_grown (kX BK146) hg (Kd.R_ne HO_2.out BK146.out (by decide))); have n5_ := mK ((by rw [hw]; exact below_set (HB.out) GB24.out : Below w0.heap.size w0 w40)); have n6_ := mK (Kept.of_grown (S := (fun k_ => P1_ k_ ∨ P2_ k_ ∨ P3_ k_)) hg (tX HK) (fun k_ e_ => (HO_2.out.1 k_ e_).1)); clear HO_1; clear HO_2; clear HO_3; clear BK144; clear BK146; clear HB; clear HK; have HO_1 := n0_; have HO_2 := n1_; have HO_3 := n2_; have BK144 := n3_; have BK146 := n4_; have HB := n5_; have HK := n6_; clear n0_ n1_ n2_ n3_ n4_ n5_ n6_; clear hg hw hp_))
 go_roundg k1
 case measure => have := HK1.out; omega
 case rel => exact ⟨(y152), (y154), (y153), (x15_1), (wrap64 (x15_1 + 1)), (by first | rfl | (simp; done) | (simp [*]; done)), (by first | rfl | (simp; done) | (simp [*]; done)), H', ⟨by have := HK1.out; omega⟩, ⟨rX HO_1⟩, ⟨rX HO_2⟩, ⟨rX HO_3⟩, ⟨kX BK144⟩, ⟨tX HK⟩, ⟨bX HB⟩⟩
 )
 )

end Go.Proofs.Ytbbblnmngjhadaa.QFnExactEarliestTimes
