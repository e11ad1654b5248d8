-- Written by this session's program wip/tools/mk.py out of the translation; Lean checks it.
import Derived.Test.YtbbblnmngjhadaaQFnExactIsConsistentx0
namespace Go.Proofs.Ytbbblnmngjhadaa.QFnExactIsConsistent
open Go.RowKit Go.Proofs.YtbbblnmngjhadaaW.PrintWords Go.Proofs.YtbbblnmngjhadaaW.PrintLast Go.Proofs.YtbbblnmngjhadaaW.PrintMore
attribute [local go_sem] max2_int min2_int max_two min_two max_three min_three max_four min_four   -- for this text's walks alone
set_option linter.unusedVariables false
set_option linter.unusedSimpArgs false

/-! ### spec_l03Round: function 97 -/
def spec_l03Round.l0 : Nat → List Int → List Int → List Bool → Int → List (S70) → Int → Int → Option (Int × List Int × List Int × List Bool)
  | 0, _, _, _, _, _, _, _ => none
  | k + 1, x1, x2, x3, x9, x13, x14, x15 => if x15 < x14 then (if 0 ≤ x15 then (if x15 < (x13.length : Int) then (if 0 ≤ ((rd_T70 x13 x15).f0) then (if ((rd_T70 x13 x15).f0) < (x3.length : Int) then (if rdOf false x3 ((rd_T70 x13 x15).f0) = true then (if 0 ≤ ((rd_T70 x13 x15).f1) then (if ((rd_T70 x13 x15).f1) < (x3.length : Int) then (if (rdOf false x3 ((rd_T70 x13 x15).f1) = true) then (if ((rd_T70 x13 x15).f0) < (x1.length : Int) then (if ((rd_T70 x13 x15).f1) < (x1.length : Int) then (if (wrap64 ((rd x1 ((rd_T70 x13 x15).f0)) + ((rd_T70 x13 x15).f2))) < (rd x1 ((rd_T70 x13 x15).f1)) then (if ((rd_T70 x13 x15).f1) < (x2.length : Int) then (spec_l03Round.l0 k (x1.set (((rd_T70 x13 x15).f1) : Int).toNat (wrap64 ((rd x1 ((rd_T70 x13 x15).f0)) + ((rd_T70 x13 x15).f2)))) (x2.set (((rd_T70 x13 x15).f1) : Int).toNat x15) (x3.set (((rd_T70 x13 x15).f1) : Int).toNat true) x15 x13 x14 (wrap64 (x15 + 1))) else (none)) else (spec_l03Round.l0 k x1 x2 x3 x9 x13 x14 (wrap64 (x15 + 1)))) else (none)) else (none)) else (if ((rd_T70 x13 x15).f0) < (x1.length : Int) then (if ((rd_T70 x13 x15).f1) < (x1.length : Int) then (if ((rd_T70 x13 x15).f1) < (x2.length : Int) then (spec_l03Round.l0 k (x1.set (((rd_T70 x13 x15).f1) : Int).toNat (wrap64 ((rd x1 ((rd_T70 x13 x15).f0)) + ((rd_T70 x13 x15).f2)))) (x2.set (((rd_T70 x13 x15).f1) : Int).toNat x15) (x3.set (((rd_T70 x13 x15).f1) : Int).toNat true) x15 x13 x14 (wrap64 (x15 + 1))) else (none)) else (none)) else (none))) else (none)) else (none)) else (spec_l03Round.l0 k x1 x2 x3 x9 x13 x14 (wrap64 (x15 + 1)))) else (none)) else (none)) else (none)) else (none)) else (some (x9, x1, x2, x3))
def spec_l03Round.f (k : Nat) (a0_0 : Int) (l0_1 : List (S70)) (l1 : List Int) (l2 : List Int) (l3 : List Bool) : Option (Int × List Int × List Int × List Bool) := spec_l03Round.l0 k l1 l2 l3 (-1) l0_1 (l0_1.length : Int) 0
theorem spec_l03Round.mono_l : ∀ k, (∀ y0 y1 y2 y3 y4 y5 y6, LeO (spec_l03Round.l0 k y0 y1 y2 y3 y4 y5 y6) (spec_l03Round.l0 (k + 1) y0 y1 y2 y3 y4 y5 y6))
  | 0 => fun _ _ _ _ _ _ _ r h => by simp [spec_l03Round.l0] at h
  | k + 1 => by
    have ih0 := spec_l03Round.mono_l k
    · intro y0 y1 y2 y3 y4 y5 y6
      unfold spec_l03Round.l0
      repeat' first
      | (with_reducible exact ih0 _ _ _ _ _ _ _)
      | (with_reducible exact LeO.refl _)
      | (with_reducible exact LeO.none _)
      | (with_reducible refine LeO.ite ?_ ?_)
      | (with_reducible refine LeO.bind ?_ (fun _ => ?_))
      | exact ih0 _ _ _ _ _ _ _
      | exact LeO.none _
      | refine LeO.ite ?_ ?_
      | refine LeO.bind ?_ (fun _ => ?_)
theorem spec_l03Round.mono : ∀ a0 a1 a2 a3 a4 k, LeO (spec_l03Round.f k a0 a1 a2 a3 a4) (spec_l03Round.f (k + 1) a0 a1 a2 a3 a4) := by
  intro a0 a1 a2 a3 a4 k
  have ih0 := spec_l03Round.mono_l k
  unfold spec_l03Round.f
  repeat' first
      | (with_reducible exact ih0 _ _ _ _ _ _ _)
      | (with_reducible exact LeO.refl _)
      | (with_reducible exact LeO.none _)
      | (with_reducible refine LeO.ite ?_ ?_)
      | (with_reducible refine LeO.bind ?_ (fun _ => ?_))
      | exact ih0 _ _ _ _ _ _ _
      | exact LeO.none _
      | refine LeO.ite ?_ ?_
      | refine LeO.bind ?_ (fun _ => ?_)
def spec_l03Round.T5 : Bool × List (List Nat × List Nat) := (true, [([], []), ([], []), ([1], [1]), ([0, 2], [0, 2]), ([3], [3]), ([4], [4]), ([5], [5]), ([5], [5]), ([7, 5], [5, 7]), ([6, 8, 5], [5, 6, 8]), ([9, 5], [5, 9]), ([10, 5], [5, 10]), ([11, 5, 5], [5, 11]), ([12], [12]), ([12], [12]), ([14, 12], [12, 14]), ([13, 15, 12], [12, 13, 15]), ([16, 12], [12, 16]), ([12], [12]), ([18, 12], [12, 18]), ([17, 19, 12], [12, 17, 19]), ([12], [12]), ([12], [12]), ([22, 12], [12, 22]), ([21, 23, 12], [12, 21, 23]), ([24, 12], [12, 24]), ([20, 25, 12], [12, 20, 25]), ([12, 26, 5], [5, 12, 26]), ([5, 27], [5, 27])])
def spec_l03Round.B5 : List Nat := [0, 0, 2, 7, 15, 31, 63, 63, 191, 511, 1023, 2047, 4095, 8191, 8191, 24575, 65535, 131071, 8191, 270335, 1048575, 8191, 8191, 4202495, 14688255, 31465471, 67108863, 134217727, 268435455]
theorem spec_l03Round.tab5 : rtab .any (opsOf Try.f97 5) = spec_l03Round.T5 := by kernel_rfl
theorem spec_l03Round.bits5 : waitsOk spec_l03Round.T5.2 spec_l03Round.B5 = true := by kernel_rfl
def spec_l03Round.T6 : Bool × List (List Nat × List Nat) := (true, [([], []), ([], []), ([1], [1]), ([], []), ([], []), ([4], [4]), ([3, 5], [3, 5]), ([6], [6]), ([], []), ([8], [8]), ([7, 9], [7, 9]), ([0, 2, 0, 1, 2, 3, 4, 5, 6, 7, 8, 9, 10], [0, 2]), ([11, 10, 0, 1, 2, 3, 4, 5, 6, 7, 8, 9, 10], [10, 11])])
def spec_l03Round.B6 : List Nat := [0, 0, 2, 0, 0, 16, 56, 120, 0, 256, 1016, 2047, 4095]
theorem spec_l03Round.tab6 : rtab .any (opsOf Try.f97 6) = spec_l03Round.T6 := by kernel_rfl
theorem spec_l03Round.bits6 : waitsOk spec_l03Round.T6.2 spec_l03Round.B6 = true := by kernel_rfl
set_option maxHeartbeats 8000000 in
set_option maxRecDepth 100000 in
theorem spec_l03Round.calls (k : Nat) (a0_0 : Int) (A0_1 : Option Addr) (c0_1 : Nat) (l0_1 : List (S70)) (P1_ : Nat → Prop) (u9000_ : Value) (l1 : List Int) (P2_ : Nat → Prop) (u9001_ : Value) (l2 : List Int) (P3_ : Nat → Prop) (u9002_ : Value) (l3 : List Bool) (r1 : Int) (r2 : List Int) (r3 : List Int) (r4 : List Bool) (w0 w : World) (hB : Below w0.heap.size w0 w) (hr0_1 : ∀ W_, Kept w W_ (fun k_ => P1_ k_ ∨ P2_ k_ ∨ P3_ k_) → Kd.C k70 W_ A0_1 l0_1.length l0_1) (hc0_1 : l0_1.length ≤ c0_1) (ho1 : Kd.R (Kd.int .i64) 3 w w0.heap.size P1_ u9000_ l1) (hp1_2 : ∀ k_, P1_ k_ → ¬ P2_ k_) (ho2 : Kd.R (Kd.int .i64) 3 w w0.heap.size P2_ u9001_ l2) (hp2_1 : ∀ k_, P2_ k_ → ¬ P1_ k_) (ho3 : Kd.R Kd.bool 4 w w0.heap.size P3_ u9002_ l3) (h : spec_l03Round.f k a0_0 l0_1 l1 l2 l3 = some (r1, r2, r3, r4)) :
    Calls Try.prog 97 #[.agg #[.int .i64 a0_0, .slice A0_1 l0_1.length c0_1], u9000_, u9001_, u9002_] w fun e w' => e = .returned (.int .i64 r1) ∧ Kd.R (Kd.int .i64) 3 w' w0.heap.size (fun k_ => ((P1_ k_ ∨ P2_ k_ ∨ P3_ k_) ∨ w.heap.size ≤ k_)) u9000_ r2 ∧ Kd.R (Kd.int .i64) 3 w' w0.heap.size (fun k_ => ((P1_ k_ ∨ P2_ k_ ∨ P3_ k_) ∨ w.heap.size ≤ k_)) u9001_ r3 ∧ Kd.R Kd.bool 4 w' w0.heap.size (fun k_ => ((P1_ k_ ∨ P2_ k_ ∨ P3_ k_) ∨ w.heap.size ≤ k_)) u9002_ r4 ∧ Below w0.heap.size w0 w' ∧ Kept w w' (fun k_ => P1_ k_ ∨ P2_ k_ ∨ P3_ k_) := by
  have hu33 := Try.underlying33
  have hu70 := Try.underlying70
  have HR0_1 := mK hr0_1
  have HC0_1 := mK hc0_1
  clear hr0_1 hc0_1
  have HO1 := mK (show Kd.R (Kd.int .i64) 3 w w0.heap.size (fun k_ => ((P1_ k_ ∨ P2_ k_ ∨ P3_ k_) ∨ w.heap.size ≤ k_) ∧ some k_ ≠ (u9001_ : Value).ownBlock) u9000_ l1 from Kd.R_mono ho1 (fun k_ hk => ⟨(.inl (.inl hk)), fun e_ => hp1_2 k_ hk (ho2.1 k_ e_.symm)⟩))
  have HO2 := mK (show Kd.R (Kd.int .i64) 3 w w0.heap.size (fun k_ => ((P1_ k_ ∨ P2_ k_ ∨ P3_ k_) ∨ w.heap.size ≤ k_) ∧ some k_ ≠ (u9000_ : Value).ownBlock) u9001_ l2 from Kd.R_mono ho2 (fun k_ hk => ⟨(.inl (.inr (.inl hk))), fun e_ => hp2_1 k_ hk (ho1.1 k_ e_.symm)⟩))
  have HO3 := mK (show Kd.R Kd.bool 4 w w0.heap.size (fun k_ => ((P1_ k_ ∨ P2_ k_ ∨ P3_ k_) ∨ w.heap.size ≤ k_)) u9002_ l3 from Kd.R_mono ho3 (fun k_ hk => (.inl (.inr (.inr hk)))))
  have HK := mK (Kept.refl w (fun k_ => P1_ k_ ∨ P2_ k_ ∨ P3_ k_))
  have HW0 := mK hB.size
  have HB := mK hB
  clear hB
  have H : (spec_l03Round.l0 k l1 l2 l3 (-1) l0_1 (l0_1.length : Int) 0) = some (r1, r2, r3, r4) := h
  clear h
  have H' := mK H
  clear H
  go_enter Try.func97, Try.ntmps97
  go_wp2_with (first | ((with_reducible refine gate_dst (N := 4) rfl ?_); refine box_event ?hg (N := 4) ?hd (cs := #[.int .i64 a0_0, .slice A0_1 l0_1.length c0_1]) (t := 33) ?hr ?_; (case hd => rfl); (case hg => rfl); (case hr => first | (go_simp; done) | (go_simp; rfl)); intro gb118 hg w5 hbox hb; have n0_ := mK (Kd.R_below (by (with_reducible repeat (first | apply rA | apply rN | apply rD)); exact HO1.out) hb); have n1_ := mK (Kd.R_below (by (with_reducible repeat (first | apply rA | apply rN | apply rD)); exact HO2.out) hb); have n2_ := mK (Kd.R_below (by (with_reducible repeat (first | apply rA | apply rN | apply rD)); exact HO3.out) hb); have n3_ := mK (Kept.below (S := (fun k_ => P1_ k_ ∨ P2_ k_ ∨ P3_ k_)) (by repeat (first | (with_reducible first | exact HK.out | apply Kept.alloc | apply Kept.drewN | apply Kept.drew) | exact HK.out)) hb); have n4_ := mK (below_step (by repeat (first | (with_reducible first | exact HB.out | apply bA | apply bN | apply bD) | exact HB.out)) hb); have n5_ := mK (hbox); have n6_ := mK ((by rw [hg]; exact (by first | exact HK.out.1 | exact (show Kept w _ (fun k_ => P1_ k_ ∨ P2_ k_ ∨ P3_ k_) from by repeat (first | (with_reducible first | exact HK.out | apply Kept.alloc | apply Kept.drewN | apply Kept.drew) | exact HK.out)).1) : w.heap.size ≤ gb118)); have n7_ := mK ((by rw [hg]; exact (below_size (by repeat (first | (with_reducible first | exact HB.out | apply bA | apply bN | apply bD) | exact HB.out))) : w0.heap.size ≤ gb118)); clear HO1; clear HO2; clear HO3; clear HK; clear HB; have HO1 := n0_; have HO2 := n1_; have HO3 := n2_; have HK := n3_; have HB := n4_; have BK118 := n5_; have GW118 := n6_; have GE118 := n7_; clear n0_ n1_ n2_ n3_ n4_ n5_ n6_ n7_; clear hb hbox hg; have hcz6_0 : w5.cell? ⟨gb118, 0, none⟩ = some (.int .i64 a0_0) := (blk_cell BK118.out 0).trans rfl; have hcz6_1 : w5.cell? ⟨gb118, 1, none⟩ = some (.slice A0_1 l0_1.length c0_1) := (blk_cell BK118.out 1).trans rfl; have hfz6_0 := blk_frozen BK118.out 0; have hfz6_1 := blk_frozen BK118.out 1))
  go_loopg [9, 15] k (fun kq v9 v15 w' => ∃ (x1_1 : List Int) (x2_1 : List Int) (x3_1 : List Bool) (x9_1 : Int) (x15_1 : Int), v9 = .int .i64 x9_1 ∧ v15 = .int .i64 x15_1 ∧ Aside0 (spec_l03Round.l0 kq x1_1 x2_1 x3_1 x9_1 l0_1 (l0_1.length : Int) x15_1 = some (r1, r2, r3, r4)) ∧ Aside0 (kq ≤ k) ∧ Aside0 (Kd.R (Kd.int .i64) 3 w' w0.heap.size (fun k_ => ((P1_ k_ ∨ P2_ k_ ∨ P3_ k_) ∨ w.heap.size ≤ k_) ∧ some k_ ≠ (u9001_ : Value).ownBlock) u9000_ x1_1) ∧ Aside0 (Kd.R (Kd.int .i64) 3 w' w0.heap.size (fun k_ => ((P1_ k_ ∨ P2_ k_ ∨ P3_ k_) ∨ w.heap.size ≤ k_) ∧ some k_ ≠ (u9000_ : Value).ownBlock) u9001_ x2_1) ∧ Aside0 (Kd.R Kd.bool 4 w' w0.heap.size (fun k_ => ((P1_ k_ ∨ P2_ k_ ∨ P3_ k_) ∨ w.heap.size ≤ k_)) u9002_ x3_1) ∧ Aside0 (w'.heap[gb118]? = some (.cells #[.int .i64 a0_0, (.slice A0_1 l0_1.length c0_1)] 33 (0, 0))) ∧ Aside0 (Kept w w' (fun k_ => P1_ k_ ∨ P2_ k_ ∨ P3_ k_)) ∧ Aside0 (Below w0.heap.size w0 w'))
  case atStart => exact ⟨(l1), (l2), (l3), ((-1)), (0), (by first | rfl | (simp; done) | (simp [*]; done)), (by first | rfl | (simp; done) | (simp [*]; done)), H', ⟨Nat.le_refl _⟩, ⟨by (with_reducible repeat (first | apply rA | apply rN | apply rD)); exact HO1.out⟩, ⟨by (with_reducible repeat (first | apply rA | apply rN | apply rD)); exact HO2.out⟩, ⟨by (with_reducible repeat (first | apply rA | apply rN | apply rD)); exact HO3.out⟩, ⟨by (with_reducible repeat (first | refine kN ?_ _ | refine kD ?_ | refine kA ?_ _)); exact BK118.out⟩, ⟨by repeat (first | (with_reducible first | exact HK.out | apply Kept.alloc | apply Kept.drewN | apply Kept.drew | refine Kept.setCell ?_ (.inr GW118.out) _) | exact HK.out)⟩, ⟨by repeat (first | (with_reducible first | exact HB.out | apply bA | apply bN | apply bD | refine bS ?_ GE118.out) | exact HB.out)⟩⟩
  case round =>
   clear H'
   try clear p1
   try clear p2
   try clear hcz6_0
   try clear hcz6_1
   try clear hfz6_0
   try clear hfz6_1
   obtain ⟨x1_1, x2_1, x3_1, x9_1, x15_1, rfl, rfl, HA, HK1, HO_1, HO_2, HO_3, BK118, HK, HB⟩ := hrel
   cases gk with
   | zero => exact absurd HA.out (by simp [spec_l03Round.l0])
   | succ k1 =>
    have H := HA.out
    clear HA
    simp only [spec_l03Round.l0] at H
    by_cases c7 : x15_1 < (l0_1.length : Int)
    rotate_left
    · rw [if_neg c7] at H
      have c7b0 : decide (x15_1 < (l0_1.length : Int)) = false := decide_eq_false c7
      clear c7
      simp only [Option.some.injEq, Prod.mk.injEq] at H
      obtain ⟨rfl, rfl, rfl, rfl⟩ := H
      go_wp2
      go_ret
      exact ⟨by first | rfl | (simp [errW_none, errW_some] <;> rfl) | (simp [*, errW_none, errW_some] <;> rfl), by (with_reducible repeat (first | apply rA | apply rN | apply rD)); exact Kd.R_mono HO_1.out (fun _ hk => hk.1), by (with_reducible repeat (first | apply rA | apply rN | apply rD)); exact Kd.R_mono HO_2.out (fun _ hk => hk.1), by (with_reducible repeat (first | apply rA | apply rN | apply rD)); exact HO_3.out, by repeat (first | (with_reducible first | exact HB.out | apply bA | apply bN | apply bD | refine bS ?_ GE118.out) | exact HB.out), by repeat (first | (with_reducible first | exact HK.out | apply Kept.alloc | apply Kept.drewN | apply Kept.drew | refine Kept.setCell ?_ (.inr GW118.out) _) | exact HK.out)⟩
    rw [if_pos c7] at H
    have c7b0 : decide (x15_1 < (l0_1.length : Int)) = true := decide_eq_true c7
    clear c7
    by_cases c8 : 0 ≤ x15_1
    rotate_left
    · rw [if_neg c8] at H
      exact absurd H (by simp)
    rw [if_pos c8] at H
    have c8b0 : decide (0 ≤ x15_1) = true := decide_eq_true c8
    clear c8
    by_cases c9 : x15_1 < (l0_1.length : Int)
    rotate_left
    · rw [if_neg c9] at H
      exact absurd H (by simp)
    rw [if_pos c9] at H
    have c9b0 : decide (x15_1 < (l0_1.length : Int)) = true := decide_eq_true c9
    clear c9
    by_cases c10 : 0 ≤ ((rd_T70 l0_1 x15_1).f0)
    rotate_left
    · rw [if_neg c10] at H
      exact absurd H (by simp)
    rw [if_pos c10] at H
    have c10b0 : decide (0 ≤ ((rd_T70 l0_1 x15_1).f0)) = true := decide_eq_true c10
    clear c10
    by_cases c11 : ((rd_T70 l0_1 x15_1).f0) < (x3_1.length : Int)
    rotate_left
    · rw [if_neg c11] at H
      exact absurd H (by simp)
    rw [if_pos c11] at H
    have c11b0 : decide (((rd_T70 l0_1 x15_1).f0) < (x3_1.length : Int)) = true := decide_eq_true c11
    clear c11
    obtain ⟨bq12, hbq12⟩ : ∃ b_ : Bool, b_ = (rdOf false x3_1 ((rd_T70 l0_1 x15_1).f0)) := ⟨_, rfl⟩
    replace H : (if bq12 = true then (if 0 ≤ ((rd_T70 l0_1 x15_1).f1) then (if ((rd_T70 l0_1 x15_1).f1) < (x3_1.length : Int) then (if (rdOf false x3_1 ((rd_T70 l0_1 x15_1).f1) = true) then (if ((rd_T70 l0_1 x15_1).f0) < (x1_1.length : Int) then (if ((rd_T70 l0_1 x15_1).f1) < (x1_1.length : Int) then (if (wrap64 ((rd x1_1 ((rd_T70 l0_1 x15_1).f0)) + ((rd_T70 l0_1 x15_1).f2))) < (rd x1_1 ((rd_T70 l0_1 x15_1).f1)) then (if ((rd_T70 l0_1 x15_1).f1) < (x2_1.length : Int) then (spec_l03Round.l0 k1 (x1_1.set (((rd_T70 l0_1 x15_1).f1) : Int).toNat (wrap64 ((rd x1_1 ((rd_T70 l0_1 x15_1).f0)) + ((rd_T70 l0_1 x15_1).f2)))) (x2_1.set (((rd_T70 l0_1 x15_1).f1) : Int).toNat x15_1) (x3_1.set (((rd_T70 l0_1 x15_1).f1) : Int).toNat true) x15_1 l0_1 (l0_1.length : Int) (wrap64 (x15_1 + 1))) else (none)) else (spec_l03Round.l0 k1 x1_1 x2_1 x3_1 x9_1 l0_1 (l0_1.length : Int) (wrap64 (x15_1 + 1)))) else (none)) else (none)) else (if ((rd_T70 l0_1 x15_1).f0) < (x1_1.length : Int) then (if ((rd_T70 l0_1 x15_1).f1) < (x1_1.length : Int) then (if ((rd_T70 l0_1 x15_1).f1) < (x2_1.length : Int) then (spec_l03Round.l0 k1 (x1_1.set (((rd_T70 l0_1 x15_1).f1) : Int).toNat (wrap64 ((rd x1_1 ((rd_T70 l0_1 x15_1).f0)) + ((rd_T70 l0_1 x15_1).f2)))) (x2_1.set (((rd_T70 l0_1 x15_1).f1) : Int).toNat x15_1) (x3_1.set (((rd_T70 l0_1 x15_1).f1) : Int).toNat true) x15_1 l0_1 (l0_1.length : Int) (wrap64 (x15_1 + 1))) else (none)) else (none)) else (none))) else (none)) else (none)) else (spec_l03Round.l0 k1 x1_1 x2_1 x3_1 x9_1 l0_1 (l0_1.length : Int) (wrap64 (x15_1 + 1)))) = some (r1, r2, r3, r4) := by rw [← hbq12] at H; exact H
    have Nbq12 := mK hbq12
    clear hbq12
    by_cases c13 : bq12 = true
    rotate_left
    · replace c13 := Bool.eq_false_iff.mpr c13
      subst c13
      have H1 : (spec_l03Round.l0 k1 x1_1 x2_1 x3_1 x9_1 l0_1 (l0_1.length : Int) (wrap64 (x15_1 + 1))) = some (r1, r2, r3, r4) := by rw [if_neg (show ¬ (false = true) by decide)] at H; exact H
      clear H
      have H := H1
      clear H1
      have H' := mK H
      clear H
      have p119 : 0 ≤ (x15_1 : Int) := of_decide_eq_true (by first | (with_reducible assumption) | assumption)
      have q119 : x15_1 < (l0_1.length : Int) := of_decide_eq_true (by first | (with_reducible assumption) | assumption)
      obtain ⟨ad119, e119, hx119_0, hx119_1, hx119_2⟩ := at_T70 (Kd.C_kept_now HR0_1.out HK.out) x15_1 p119 q119
      cases e119
      replace p119 := eq_true p119
      replace q119 := eq_true q119
      try go_wp2_with (first | ((with_reducible refine gate_dst (N := 11) rfl ?_); refine box_event ?hg (N := 11) ?hd (cs := #[.int .i64 0, .int .i64 0, .int .i64 0]) (t := 70) ?hr ?_; (case hd => rfl); (case hg => rfl); (case hr => first | (go_simp; done) | (go_simp; rfl)); intro gb120 hg w70 hbox hb; have n0_ := mK (Kd.R_below (by (with_reducible repeat (first | apply rA | apply rN | apply rD)); exact HO_1.out) hb); have n1_ := mK (Kd.R_below (by (with_reducible repeat (first | apply rA | apply rN | apply rD)); exact HO_2.out) hb); have n2_ := mK (Kd.R_below (by (with_reducible repeat (first | apply rA | apply rN | apply rD)); exact HO_3.out) hb); have n3_ := mK (blk_below (by (with_reducible repeat (first | refine kN ?_ _ | refine kD ?_ | refine kA ?_ _)); exact BK118.out) hb); have n4_ := mK (Kept.below (S := (fun k_ => P1_ k_ ∨ P2_ k_ ∨ P3_ k_)) (by repeat (first | (with_reducible first | exact HK.out | apply Kept.alloc | apply Kept.drewN | apply Kept.drew | refine Kept.setCell ?_ (.inr GW118.out) _) | exact HK.out)) hb); have n5_ := mK (below_step (by repeat (first | (with_reducible first | exact HB.out | apply bA | apply bN | apply bD | refine bS ?_ GE118.out) | exact HB.out)) hb); have n6_ := mK (hbox); have n7_ := mK ((by rw [hg]; exact (by first | exact HK.out.1 | exact (show Kept w _ (fun k_ => P1_ k_ ∨ P2_ k_ ∨ P3_ k_) from by repeat (first | (with_reducible first | exact HK.out | apply Kept.alloc | apply Kept.drewN | apply Kept.drew | refine Kept.setCell ?_ (.inr GW118.out) _) | exact HK.out)).1) : w.heap.size ≤ gb120)); have n8_ := mK ((by rw [hg]; exact (below_size (by repeat (first | (with_reducible first | exact HB.out | apply bA | apply bN | apply bD | refine bS ?_ GE118.out) | exact HB.out))) : w0.heap.size ≤ gb120)); have n9_ := mK ((by rw [hg]; exact Nat.ne_of_lt (blk_lt (by (with_reducible repeat (first | refine kN ?_ _ | refine kD ?_ | refine kA ?_ _)); exact BK118.out)) : gb118 ≠ gb120)); have n10_ := mK ((by rw [hg]; exact Nat.ne_of_gt (blk_lt (by (with_reducible repeat (first | refine kN ?_ _ | refine kD ?_ | refine kA ?_ _)); exact BK118.out)) : gb120 ≠ gb118)); clear HO_1; clear HO_2; clear HO_3; clear BK118; clear HK; clear HB; have HO_1 := n0_; have HO_2 := n1_; have HO_3 := n2_; have BK118 := n3_; have HK := n4_; have HB := n5_; have BK120 := n6_; have GW120 := n7_; have GE120 := n8_; have NB118_120 := n9_; have NB120_118 := n10_; clear n0_ n1_ n2_ n3_ n4_ n5_ n6_ n7_ n8_ n9_ n10_; clear hb hbox hg; have hnb71 := NB120_118.out; have hnc71 := NB118_120.out; have hcz72_0 : w70.cell? ⟨gb120, 0, none⟩ = some (.int .i64 0) := (blk_cell BK120.out 0).trans rfl; have hcz72_1 : w70.cell? ⟨gb120, 1, none⟩ = some (.int .i64 0) := (blk_cell BK120.out 1).trans rfl; have hcz72_2 : w70.cell? ⟨gb120, 2, none⟩ = some (.int .i64 0) := (blk_cell BK120.out 2).trans rfl; have hfz72_0 := blk_frozen BK120.out 0; have hfz72_1 := blk_frozen BK120.out 1; have hfz72_2 := blk_frozen BK120.out 2))
      have n0_ : Aside0 (Kd.R (Kd.int .i64) 3 (((w70.setCell ⟨gb120, 0, none⟩ (.int .i64 ((rd_T70 l0_1 x15_1).f0))).setCell ⟨gb120, 1, none⟩ (.int .i64 ((rd_T70 l0_1 x15_1).f1))).setCell ⟨gb120, 2, none⟩ (.int .i64 ((rd_T70 l0_1 x15_1).f2))) w0.heap.size (fun k_ => ((P1_ k_ ∨ P2_ k_ ∨ P3_ k_) ∨ w.heap.size ≤ k_) ∧ some k_ ≠ (u9001_ : Value).ownBlock) u9000_ x1_1) := ⟨by (with_reducible repeat (first | apply rA | apply rN | apply rD)); exact Kd.R_mono (Kd.R_far (p := ⟨gb120, 2, none⟩) (Kd.R_far (p := ⟨gb120, 1, none⟩) (Kd.R_far (p := ⟨gb120, 0, none⟩) (Kd.R_types HO_1.out BK120.out (by decide)) (fun _ hk => hk.2) (.int .i64 ((rd_T70 l0_1 x15_1).f0))) (fun _ hk => hk.2) (.int .i64 ((rd_T70 l0_1 x15_1).f1))) (fun _ hk => hk.2) (.int .i64 ((rd_T70 l0_1 x15_1).f2))) (fun _ hk => ⟨hk.1.1, hk.1.2⟩)⟩
      have n1_ : Aside0 (Kd.R (Kd.int .i64) 3 (((w70.setCell ⟨gb120, 0, none⟩ (.int .i64 ((rd_T70 l0_1 x15_1).f0))).setCell ⟨gb120, 1, none⟩ (.int .i64 ((rd_T70 l0_1 x15_1).f1))).setCell ⟨gb120, 2, none⟩ (.int .i64 ((rd_T70 l0_1 x15_1).f2))) w0.heap.size (fun k_ => ((P1_ k_ ∨ P2_ k_ ∨ P3_ k_) ∨ w.heap.size ≤ k_) ∧ some k_ ≠ (u9000_ : Value).ownBlock) u9001_ x2_1) := ⟨by (with_reducible repeat (first | apply rA | apply rN | apply rD)); exact Kd.R_mono (Kd.R_far (p := ⟨gb120, 2, none⟩) (Kd.R_far (p := ⟨gb120, 1, none⟩) (Kd.R_far (p := ⟨gb120, 0, none⟩) (Kd.R_types HO_2.out BK120.out (by decide)) (fun _ hk => hk.2) (.int .i64 ((rd_T70 l0_1 x15_1).f0))) (fun _ hk => hk.2) (.int .i64 ((rd_T70 l0_1 x15_1).f1))) (fun _ hk => hk.2) (.int .i64 ((rd_T70 l0_1 x15_1).f2))) (fun _ hk => ⟨hk.1.1, hk.1.2⟩)⟩
      have n2_ : Aside0 (Kd.R Kd.bool 4 (((w70.setCell ⟨gb120, 0, none⟩ (.int .i64 ((rd_T70 l0_1 x15_1).f0))).setCell ⟨gb120, 1, none⟩ (.int .i64 ((rd_T70 l0_1 x15_1).f1))).setCell ⟨gb120, 2, none⟩ (.int .i64 ((rd_T70 l0_1 x15_1).f2))) w0.heap.size (fun k_ => ((P1_ k_ ∨ P2_ k_ ∨ P3_ k_) ∨ w.heap.size ≤ k_)) u9002_ x3_1) := ⟨by (with_reducible repeat (first | apply rA | apply rN | apply rD)); exact Kd.R_mono (Kd.R_far (p := ⟨gb120, 2, none⟩) (Kd.R_far (p := ⟨gb120, 1, none⟩) (Kd.R_far (p := ⟨gb120, 0, none⟩) (Kd.R_types HO_3.out BK120.out (by decide)) (fun _ hk => hk.2) (.int .i64 ((rd_T70 l0_1 x15_1).f0))) (fun _ hk => hk.2) (.int .i64 ((rd_T70 l0_1 x15_1).f1))) (fun _ hk => hk.2) (.int .i64 ((rd_T70 l0_1 x15_1).f2))) (fun _ hk => hk.1)⟩
      have n3_ : Aside0 ((((w70.setCell ⟨gb120, 0, none⟩ (.int .i64 ((rd_T70 l0_1 x15_1).f0))).setCell ⟨gb120, 1, none⟩ (.int .i64 ((rd_T70 l0_1 x15_1).f1))).setCell ⟨gb120, 2, none⟩ (.int .i64 ((rd_T70 l0_1 x15_1).f2))).heap[gb118]? = some (.cells #[.int .i64 a0_0, .slice (some ad119) l0_1.length c0_1] 33 (0, 0))) := ⟨by (with_reducible repeat (first | refine kN ?_ _ | refine kD ?_ | refine kA ?_ _)); refine blk_far ?_ NB118_120.out _; (with_reducible repeat (first | refine kN ?_ _ | refine kD ?_ | refine kA ?_ _)); refine blk_far ?_ NB118_120.out _; (with_reducible repeat (first | refine kN ?_ _ | refine kD ?_ | refine kA ?_ _)); refine blk_far ?_ NB118_120.out _; (with_reducible repeat (first | refine kN ?_ _ | refine kD ?_ | refine kA ?_ _)); exact BK118.out⟩
      have n4_ : Aside0 ((((w70.setCell ⟨gb120, 0, none⟩ (.int .i64 ((rd_T70 l0_1 x15_1).f0))).setCell ⟨gb120, 1, none⟩ (.int .i64 ((rd_T70 l0_1 x15_1).f1))).setCell ⟨gb120, 2, none⟩ (.int .i64 ((rd_T70 l0_1 x15_1).f2))).heap[gb120]? = some (.cells #[.int .i64 ((rd_T70 l0_1 x15_1).f0), .int .i64 ((rd_T70 l0_1 x15_1).f1), .int .i64 ((rd_T70 l0_1 x15_1).f2)] 70 (0, 0))) := ⟨by (with_reducible repeat (first | refine kN ?_ _ | refine kD ?_ | refine kA ?_ _)); refine blk_put (cs := #[.int .i64 ((rd_T70 l0_1 x15_1).f0), .int .i64 ((rd_T70 l0_1 x15_1).f1), .int .i64 0]) ?_ 2 _ rfl; (with_reducible repeat (first | refine kN ?_ _ | refine kD ?_ | refine kA ?_ _)); refine blk_put (cs := #[.int .i64 ((rd_T70 l0_1 x15_1).f0), .int .i64 0, .int .i64 0]) ?_ 1 _ rfl; (with_reducible repeat (first | refine kN ?_ _ | refine kD ?_ | refine kA ?_ _)); refine blk_put (cs := #[.int .i64 0, .int .i64 0, .int .i64 0]) ?_ 0 _ rfl; (with_reducible repeat (first | refine kN ?_ _ | refine kD ?_ | refine kA ?_ _)); exact BK120.out⟩
      have n5_ : Aside0 (Kept w (((w70.setCell ⟨gb120, 0, none⟩ (.int .i64 ((rd_T70 l0_1 x15_1).f0))).setCell ⟨gb120, 1, none⟩ (.int .i64 ((rd_T70 l0_1 x15_1).f1))).setCell ⟨gb120, 2, none⟩ (.int .i64 ((rd_T70 l0_1 x15_1).f2))) (fun k_ => P1_ k_ ∨ P2_ k_ ∨ P3_ k_)) := ⟨by repeat (first | (with_reducible first | exact HK.out | apply Kept.alloc | apply Kept.drewN | apply Kept.drew | refine Kept.setCell ?_ (.inr GW118.out) _ | refine Kept.setCell ?_ (.inr GW120.out) _) | exact HK.out)⟩
      have n6_ : Aside0 (Below w0.heap.size w0 (((w70.setCell ⟨gb120, 0, none⟩ (.int .i64 ((rd_T70 l0_1 x15_1).f0))).setCell ⟨gb120, 1, none⟩ (.int .i64 ((rd_T70 l0_1 x15_1).f1))).setCell ⟨gb120, 2, none⟩ (.int .i64 ((rd_T70 l0_1 x15_1).f2)))) := ⟨by repeat (first | (with_reducible first | exact HB.out | apply bA | apply bN | apply bD | refine bS ?_ GE118.out | refine bS ?_ GE120.out) | exact HB.out)⟩
      (try clear HO_1)
      (try clear HO_2)
      (try clear HO_3)
      (try clear BK118)
      (try clear BK120)
      (try clear HK)
      (try clear HB)
      generalize (((w70.setCell ⟨gb120, 0, none⟩ (.int .i64 ((rd_T70 l0_1 x15_1).f0))).setCell ⟨gb120, 1, none⟩ (.int .i64 ((rd_T70 l0_1 x15_1).f1))).setCell ⟨gb120, 2, none⟩ (.int .i64 ((rd_T70 l0_1 x15_1).f2))) = w73 at n0_ n1_ n2_ n3_ n4_ n5_ n6_ ⊢
      have HO_1 := n0_
      have HO_2 := n1_
      have HO_3 := n2_
      have BK118 := n3_
      have BK120 := n4_
      have HK := n5_
      have HB := n6_
      clear n0_ n1_ n2_ n3_ n4_ n5_ n6_
      have n0_ := mK (Kd.R_drew HO_1.out)
      have n1_ := mK (Kd.R_drew HO_2.out)
      have n2_ := mK (Kd.R_drew HO_3.out)
      have n3_ := mK (blk_drew BK118.out)
      have n4_ := mK (blk_drew BK120.out)
      have n5_ := mK (Kept.drew HK.out)
      have n6_ := mK (below_drew1 HB.out)
      clear HO_1
      clear HO_2
      clear HO_3
      clear BK118
      clear BK120
      clear HK
      clear HB
      have HO_1 := n0_
      have HO_2 := n1_
      have HO_3 := n2_
      have BK118 := n3_
      have BK120 := n4_
      have HK := n5_
      have HB := n6_
      clear n0_ n1_ n2_ n3_ n4_ n5_ n6_
      obtain ⟨Ao75, co75, eo75⟩ := Kd.R_slice HO_3.out
      (first | subst eo75 | (injection eo75 with f1_ f2_ f3_; have f4_ := f1_.symm; have f5_ := f3_.symm; clear f1_ f2_ f3_; subst f4_; subst f5_))
      have p121 : 0 ≤ (((rd_T70 l0_1 x15_1).f0) : Int) := of_decide_eq_true (by first | (with_reducible assumption) | assumption)
      have q121 : ((rd_T70 l0_1 x15_1).f0) < (x3_1.length : Int) := of_decide_eq_true (by first | (with_reducible assumption) | assumption)
      obtain ⟨ad121, e121, hx121_0⟩ := Kd.at_bool (Kd.R_reads' HO_3.out).2.2 ((rd_T70 l0_1 x15_1).f0) p121 q121
      (try rw [← Nbq12.out] at hx121_0)
      cases e121
      replace p121 := eq_true p121
      replace q121 := eq_true q121
      refine start_ (n := 29) (S := fun w' => w'.cell? ⟨gb120, 0, none⟩ = some (.int .i64 ((rd_T70 l0_1 x15_1).f0)) ∧ w'.cell? ⟨gb120, 1, none⟩ = some (.int .i64 ((rd_T70 l0_1 x15_1).f1)) ∧ w'.cell? ⟨gb120, 2, none⟩ = some (.int .i64 ((rd_T70 l0_1 x15_1).f2)) ∧ w'.cell? (ad121.add (((rd_T70 l0_1 x15_1).f0)).toNat) = some (.bool false)) (ds := []) #[false, false, false, false, false, false, false, false, false, false, false, false, false, false, false, false, false, false, false, false, false, false, false, false, false, false, false, false, false] (by kernel_rfl) rfl rfl ⟨(blk_cell BK120.out 0).trans rfl, (blk_cell BK120.out 1).trans rfl, (blk_cell BK120.out 2).trans rfl, hx121_0⟩ (fun hHeld => ?_); refine with_tabW spec_l03Round.tab5 spec_l03Round.bits5 (fun HT_ HW_ => ?_)
      generalize w73.drew = w74 at HO_1 HO_2 HO_3 BK118 BK120 HK HB hx121_0 hHeld ⊢
      refine pure_ (i := 0) (N := some 20) (v := ?_) (a' := ?_) #[true, false, false, false, false, false, false, false, false, false, false, false, false, false, false, false, false, false, false, false, false, false, false, false, false, false, false, false, false] rfl rfl (any_of HT_.out (by kernel_rfl)) (fun _ _ _ h => h) (Or.inl ⟨by rfl, ?_⟩) ?_ ?_
      rotate_left
      · intro w'
        go_simp
        with_reducible rfl
      rotate_left
      · simp only [Act.put, sT, sZ, sU, i64_w, i32_w]
        rfl
      refine pure_ (i := 1) (N := some 21) (v := ?_) (a' := ?_) #[true, true, false, false, false, false, false, false, false, false, false, false, false, false, false, false, false, false, false, false, false, false, false, false, false, false, false, false, false] rfl rfl (any_of HT_.out (by kernel_rfl)) (fun _ _ _ h => h) (Or.inl ⟨by rfl, ?_⟩) ?_ ?_
      rotate_left
      · intro w'
        go_simp
        with_reducible rfl
      rotate_left
      · simp only [Act.put, sT, sZ, sU, i64_w, i32_w]
        rfl
      refine take_ (i := 2) (N := some 22) (v := ?_) (a' := ?_) #[true, true, true, false, false, false, false, false, false, false, false, false, false, false, false, false, false, false, false, false, false, false, false, false, false, false, false, false, false] rfl rfl (take_ofW HT_.out HW_.out (by kernel_rfl)) (fun _ _ _ h => h) (Or.inl ⟨by rfl, ?_⟩) hHeld ?_ ?_
      rotate_left
      · rintro w' ⟨s0, s1, s2, s3⟩
        go_simp
        with_reducible rfl
      rotate_left
      · simp only [Act.put, sT, sZ, sU, i64_w, i32_w]
        rfl
      refine pure_ (i := 3) (N := some 23) (v := ?_) (a' := ?_) #[true, true, true, true, false, false, false, false, false, false, false, false, false, false, false, false, false, false, false, false, false, false, false, false, false, false, false, false, false] rfl rfl (any_of HT_.out (by kernel_rfl)) (fun _ _ _ h => h) (Or.inl ⟨by rfl, ?_⟩) ?_ ?_
      rotate_left
      · intro w'
        go_simp
        with_reducible rfl
      rotate_left
      · simp only [Act.put, sT, sZ, sU, i64_w, i32_w]
        rfl
      refine take_ (i := 4) (N := some 24) (v := ?_) (a' := ?_) #[true, true, true, true, true, false, false, false, false, false, false, false, false, false, false, false, false, false, false, false, false, false, false, false, false, false, false, false, false] rfl rfl (take_ofW HT_.out HW_.out (by kernel_rfl)) (fun _ _ _ h => h) (Or.inl ⟨by rfl, ?_⟩) hHeld ?_ ?_
      rotate_left
      · rintro w' ⟨s0, s1, s2, s3⟩
        go_simp
        with_reducible rfl
      rotate_left
      · simp only [Act.put, sT, sZ, sU, i64_w, i32_w]
        rfl
      refine pure_ (i := 5) (N := some 25) (v := ?_) (a' := ?_) #[true, true, true, true, true, true, false, false, false, false, false, false, false, false, false, false, false, false, false, false, false, false, false, false, false, false, false, false, false] rfl rfl (any_of HT_.out (by kernel_rfl)) (fun _ _ _ h => h) (Or.inl ⟨by rfl, ?_⟩) ?_ ?_
      rotate_left
      · intro w'
        go_simp
        with_reducible rfl
      rotate_left
      · simp only [Act.put, sT, sZ, sU, i64_w, i32_w]
        rfl
      refine pure_ (i := 6) (N := some 26) (v := undef) (a' := ?_) #[true, true, true, true, true, true, true, false, false, false, false, false, false, false, false, false, false, false, false, false, false, false, false, false, false, false, false, false, false] rfl rfl (any_of HT_.out (by kernel_rfl)) (fun _ _ _ h => h) (Or.inr ⟨by rfl, rfl⟩) ?_ ?_
      rotate_left
      · simp only [Act.put, sT, sZ, sU, i64_w, i32_w]
        rfl
      refine pure_ (i := 7) (N := some 27) (v := undef) (a' := ?_) #[true, true, true, true, true, true, true, true, false, false, false, false, false, false, false, false, false, false, false, false, false, false, false, false, false, false, false, false, false] rfl rfl (any_of HT_.out (by kernel_rfl)) (fun _ _ _ h => h) (Or.inr ⟨by rfl, rfl⟩) ?_ ?_
      rotate_left
      · simp only [Act.put, sT, sZ, sU, i64_w, i32_w]
        rfl
      refine pure_ (i := 8) (N := some 28) (v := undef) (a' := ?_) #[true, true, true, true, true, true, true, true, true, false, false, false, false, false, false, false, false, false, false, false, false, false, false, false, false, false, false, false, false] rfl rfl (any_of HT_.out (by kernel_rfl)) (fun _ _ _ h => h) (Or.inr ⟨by rfl, rfl⟩) ?_ ?_
      rotate_left
      · simp only [Act.put, sT, sZ, sU, i64_w, i32_w]
        rfl
      refine pure_ (i := 9) (N := some 29) (v := undef) (a' := ?_) #[true, true, true, true, true, true, true, true, true, true, false, false, false, false, false, false, false, false, false, false, false, false, false, false, false, false, false, false, false] rfl rfl (any_of HT_.out (by kernel_rfl)) (fun _ _ _ h => h) (Or.inr ⟨by rfl, rfl⟩) ?_ ?_
      rotate_left
      · simp only [Act.put, sT, sZ, sU, i64_w, i32_w]
        rfl
      refine pure_ (i := 10) (N := some 30) (v := undef) (a' := ?_) #[true, true, true, true, true, true, true, true, true, true, true, false, false, false, false, false, false, false, false, false, false, false, false, false, false, false, false, false, false] rfl rfl (any_of HT_.out (by kernel_rfl)) (fun _ _ _ h => h) (Or.inr ⟨by rfl, rfl⟩) ?_ ?_
      rotate_left
      · simp only [Act.put, sT, sZ, sU, i64_w, i32_w]
        rfl
      refine pure_ (i := 11) (N := some 31) (v := undef) (a' := ?_) #[true, true, true, true, true, true, true, true, true, true, true, true, false, false, false, false, false, false, false, false, false, false, false, false, false, false, false, false, false] rfl rfl (any_of HT_.out (by kernel_rfl)) (fun _ _ _ h => h) (Or.inr ⟨by rfl, rfl⟩) ?_ ?_
      rotate_left
      · simp only [Act.put, sT, sZ, sU, i64_w, i32_w]
        rfl
      refine pure_ (i := 12) (N := some 32) (v := undef) (a' := ?_) #[true, true, true, true, true, true, true, true, true, true, true, true, true, false, false, false, false, false, false, false, false, false, false, false, false, false, false, false, false] rfl rfl (any_of HT_.out (by kernel_rfl)) (fun _ _ _ h => h) (Or.inr ⟨by rfl, rfl⟩) ?_ ?_
      rotate_left
      · simp only [Act.put, sT, sZ, sU, i64_w, i32_w]
        rfl
      refine pure_ (i := 13) (N := some 33) (v := undef) (a' := ?_) #[true, true, true, true, true, true, true, true, true, true, true, true, true, true, false, false, false, false, false, false, false, false, false, false, false, false, false, false, false] rfl rfl (any_of HT_.out (by kernel_rfl)) (fun _ _ _ h => h) (Or.inr ⟨by rfl, rfl⟩) ?_ ?_
      rotate_left
      · simp only [Act.put, sT, sZ, sU, i64_w, i32_w]
        rfl
      refine pure_ (i := 14) (N := some 34) (v := undef) (a' := ?_) #[true, true, true, true, true, true, true, true, true, true, true, true, true, true, true, false, false, false, false, false, false, false, false, false, false, false, false, false, false] rfl rfl (any_of HT_.out (by kernel_rfl)) (fun _ _ _ h => h) (Or.inr ⟨by rfl, rfl⟩) ?_ ?_
      rotate_left
      · simp only [Act.put, sT, sZ, sU, i64_w, i32_w]
        rfl
      refine pure_ (i := 15) (N := some 35) (v := undef) (a' := ?_) #[true, true, true, true, true, true, true, true, true, true, true, true, true, true, true, true, false, false, false, false, false, false, false, false, false, false, false, false, false] rfl rfl (any_of HT_.out (by kernel_rfl)) (fun _ _ _ h => h) (Or.inr ⟨by rfl, rfl⟩) ?_ ?_
      rotate_left
      · simp only [Act.put, sT, sZ, sU, i64_w, i32_w]
        rfl
      refine pure_ (i := 16) (N := some 36) (v := undef) (a' := ?_) #[true, true, true, true, true, true, true, true, true, true, true, true, true, true, true, true, true, false, false, false, false, false, false, false, false, false, false, false, false] rfl rfl (any_of HT_.out (by kernel_rfl)) (fun _ _ _ h => h) (Or.inr ⟨by rfl, rfl⟩) ?_ ?_
      rotate_left
      · simp only [Act.put, sT, sZ, sU, i64_w, i32_w]
        rfl
      refine pure_ (i := 17) (N := some 37) (v := undef) (a' := ?_) #[true, true, true, true, true, true, true, true, true, true, true, true, true, true, true, true, true, true, false, false, false, false, false, false, false, false, false, false, false] rfl rfl (any_of HT_.out (by kernel_rfl)) (fun _ _ _ h => h) (Or.inr ⟨by rfl, rfl⟩) ?_ ?_
      rotate_left
      · simp only [Act.put, sT, sZ, sU, i64_w, i32_w]
        rfl
      refine pure_ (i := 18) (N := some 38) (v := undef) (a' := ?_) #[true, true, true, true, true, true, true, true, true, true, true, true, true, true, true, true, true, true, true, false, false, false, false, false, false, false, false, false, false] rfl rfl (any_of HT_.out (by kernel_rfl)) (fun _ _ _ h => h) (Or.inr ⟨by rfl, rfl⟩) ?_ ?_
      rotate_left
      · simp only [Act.put, sT, sZ, sU, i64_w, i32_w]
        rfl
      refine pure_ (i := 19) (N := some 39) (v := undef) (a' := ?_) #[true, true, true, true, true, true, true, true, true, true, true, true, true, true, true, true, true, true, true, true, false, false, false, false, false, false, false, false, false] rfl rfl (any_of HT_.out (by kernel_rfl)) (fun _ _ _ h => h) (Or.inr ⟨by rfl, rfl⟩) ?_ ?_
      rotate_left
      · simp only [Act.put, sT, sZ, sU, i64_w, i32_w]
        rfl
      refine pure_ (i := 20) (N := some 40) (v := undef) (a' := ?_) #[true, true, true, true, true, true, true, true, true, true, true, true, true, true, true, true, true, true, true, true, true, false, false, false, false, false, false, false, false] rfl rfl (any_of HT_.out (by kernel_rfl)) (fun _ _ _ h => h) (Or.inr ⟨by rfl, rfl⟩) ?_ ?_
      rotate_left
      · simp only [Act.put, sT, sZ, sU, i64_w, i32_w]
        rfl
      refine pure_ (i := 21) (N := some 41) (v := undef) (a' := ?_) #[true, true, true, true, true, true, true, true, true, true, true, true, true, true, true, true, true, true, true, true, true, true, false, false, false, false, false, false, false] rfl rfl (any_of HT_.out (by kernel_rfl)) (fun _ _ _ h => h) (Or.inr ⟨by rfl, rfl⟩) ?_ ?_
      rotate_left
      · simp only [Act.put, sT, sZ, sU, i64_w, i32_w]
        rfl
      refine pure_ (i := 22) (N := some 42) (v := undef) (a' := ?_) #[true, true, true, true, true, true, true, true, true, true, true, true, true, true, true, true, true, true, true, true, true, true, true, false, false, false, false, false, false] rfl rfl (any_of HT_.out (by kernel_rfl)) (fun _ _ _ h => h) (Or.inr ⟨by rfl, rfl⟩) ?_ ?_
      rotate_left
      · simp only [Act.put, sT, sZ, sU, i64_w, i32_w]
        rfl
      refine pure_ (i := 23) (N := some 43) (v := undef) (a' := ?_) #[true, true, true, true, true, true, true, true, true, true, true, true, true, true, true, true, true, true, true, true, true, true, true, true, false, false, false, false, false] rfl rfl (any_of HT_.out (by kernel_rfl)) (fun _ _ _ h => h) (Or.inr ⟨by rfl, rfl⟩) ?_ ?_
      rotate_left
      · simp only [Act.put, sT, sZ, sU, i64_w, i32_w]
        rfl
      refine pure_ (i := 24) (N := some 44) (v := undef) (a' := ?_) #[true, true, true, true, true, true, true, true, true, true, true, true, true, true, true, true, true, true, true, true, true, true, true, true, true, false, false, false, false] rfl rfl (any_of HT_.out (by kernel_rfl)) (fun _ _ _ h => h) (Or.inr ⟨by rfl, rfl⟩) ?_ ?_
      rotate_left
      · simp only [Act.put, sT, sZ, sU, i64_w, i32_w]
        rfl
      refine pure_ (i := 25) (N := some 45) (v := undef) (a' := ?_) #[true, true, true, true, true, true, true, true, true, true, true, true, true, true, true, true, true, true, true, true, true, true, true, true, true, true, false, false, false] rfl rfl (any_of HT_.out (by kernel_rfl)) (fun _ _ _ h => h) (Or.inr ⟨by rfl, rfl⟩) ?_ ?_
      rotate_left
      · simp only [Act.put, sT, sZ, sU, i64_w, i32_w]
        rfl
      refine pure_ (i := 26) (N := some 46) (v := undef) (a' := ?_) #[true, true, true, true, true, true, true, true, true, true, true, true, true, true, true, true, true, true, true, true, true, true, true, true, true, true, true, false, false] rfl rfl (any_of HT_.out (by kernel_rfl)) (fun _ _ _ h => h) (Or.inr ⟨by rfl, rfl⟩) ?_ ?_
      rotate_left
      · simp only [Act.put, sT, sZ, sU, i64_w, i32_w]
        rfl
      refine pure_ (i := 27) (N := some 47) (v := undef) (a' := ?_) #[true, true, true, true, true, true, true, true, true, true, true, true, true, true, true, true, true, true, true, true, true, true, true, true, true, true, true, true, false] rfl rfl (any_of HT_.out (by kernel_rfl)) (fun _ _ _ h => h) (Or.inr ⟨by rfl, rfl⟩) ?_ ?_
      rotate_left
      · simp only [Act.put, sT, sZ, sU, i64_w, i32_w]
        rfl
      refine pure_ (i := 28) (N := some 48) (v := ?_) (a' := ?_) #[true, true, true, true, true, true, true, true, true, true, true, true, true, true, true, true, true, true, true, true, true, true, true, true, true, true, true, true, true] rfl rfl (any_of HT_.out (by kernel_rfl)) (fun _ _ _ h => h) (Or.inl ⟨by rfl, ?_⟩) ?_ ?_
      rotate_left
      · intro w'
        go_simp
        with_reducible rfl
      rotate_left
      · simp only [Act.put, sT, sZ, sU, i64_w, i32_w]
        rfl
      refine done_ (done_of HT_.out (by kernel_rfl)) ?_
      try go_wp2
      go_roundg k1
      case measure => have := HK1.out; omega
      case rel => exact ⟨(x1_1), (x2_1), (x3_1), (x9_1), (wrap64 (x15_1 + 1)), (by first | rfl | (simp; done) | (simp [*]; done)), (by first | rfl | (simp; done) | (simp [*]; done)), H', ⟨by have := HK1.out; omega⟩, ⟨by (with_reducible repeat (first | apply rA | apply rN | apply rD)); exact HO_1.out⟩, ⟨by (with_reducible repeat (first | apply rA | apply rN | apply rD)); exact HO_2.out⟩, ⟨by (with_reducible repeat (first | apply rA | apply rN | apply rD)); exact HO_3.out⟩, ⟨by (with_reducible repeat (first | refine kN ?_ _ | refine kD ?_ | refine kA ?_ _)); exact BK118.out⟩, ⟨by repeat (first | (with_reducible first | exact HK.out | apply Kept.alloc | apply Kept.drewN | apply Kept.drew | refine Kept.setCell ?_ (.inr GW118.out) _ | refine Kept.setCell ?_ (.inr GW120.out) _) | exact HK.out)⟩, ⟨by repeat (first | (with_reducible first | exact HB.out | apply bA | apply bN | apply bD | refine bS ?_ GE118.out | refine bS ?_ GE120.out) | exact HB.out)⟩⟩
    subst c13
    have H1 : (if 0 ≤ ((rd_T70 l0_1 x15_1).f1) then (if ((rd_T70 l0_1 x15_1).f1) < (x3_1.length : Int) then (if (rdOf false x3_1 ((rd_T70 l0_1 x15_1).f1) = true) then (if ((rd_T70 l0_1 x15_1).f0) < (x1_1.length : Int) then (if ((rd_T70 l0_1 x15_1).f1) < (x1_1.length : Int) then (if (wrap64 ((rd x1_1 ((rd_T70 l0_1 x15_1).f0)) + ((rd_T70 l0_1 x15_1).f2))) < (rd x1_1 ((rd_T70 l0_1 x15_1).f1)) then (if ((rd_T70 l0_1 x15_1).f1) < (x2_1.length : Int) then (spec_l03Round.l0 k1 (x1_1.set (((rd_T70 l0_1 x15_1).f1) : Int).toNat (wrap64 ((rd x1_1 ((rd_T70 l0_1 x15_1).f0)) + ((rd_T70 l0_1 x15_1).f2)))) (x2_1.set (((rd_T70 l0_1 x15_1).f1) : Int).toNat x15_1) (x3_1.set (((rd_T70 l0_1 x15_1).f1) : Int).toNat true) x15_1 l0_1 (l0_1.length : Int) (wrap64 (x15_1 + 1))) else (none)) else (spec_l03Round.l0 k1 x1_1 x2_1 x3_1 x9_1 l0_1 (l0_1.length : Int) (wrap64 (x15_1 + 1)))) else (none)) else (none)) else (if ((rd_T70 l0_1 x15_1).f0) < (x1_1.length : Int) then (if ((rd_T70 l0_1 x15_1).f1) < (x1_1.length : Int) then (if ((rd_T70 l0_1 x15_1).f1) < (x2_1.length : Int) then (spec_l03Round.l0 k1 (x1_1.set (((rd_T70 l0_1 x15_1).f1) : Int).toNat (wrap64 ((rd x1_1 ((rd_T70 l0_1 x15_1).f0)) + ((rd_T70 l0_1 x15_1).f2)))) (x2_1.set (((rd_T70 l0_1 x15_1).f1) : Int).toNat x15_1) (x3_1.set (((rd_T70 l0_1 x15_1).f1) : Int).toNat true) x15_1 l0_1 (l0_1.length : Int) (wrap64 (x15_1 + 1))) else (none)) else (none)) else (none))) else (none)) else (none)) = some (r1, r2, r3, r4) := by rw [if_pos rfl] at H; exact H
    clear H
    have H := H1
    clear H1
    by_cases c14 : 0 ≤ ((rd_T70 l0_1 x15_1).f1)
    rotate_left
    · rw [if_neg c14] at H
      exact absurd H (by simp)
    rw [if_pos c14] at H
    have c14b0 : decide (0 ≤ ((rd_T70 l0_1 x15_1).f1)) = true := decide_eq_true c14
    clear c14
    by_cases c15 : ((rd_T70 l0_1 x15_1).f1) < (x3_1.length : Int)
    rotate_left
    · rw [if_neg c15] at H
      exact absurd H (by simp)
    rw [if_pos c15] at H
    have c15b0 : decide (((rd_T70 l0_1 x15_1).f1) < (x3_1.length : Int)) = true := decide_eq_true c15
    clear c15
    obtain ⟨bq16, hbq16⟩ : ∃ b_ : Bool, b_ = (rdOf false x3_1 ((rd_T70 l0_1 x15_1).f1)) := ⟨_, rfl⟩
    replace H : (if (bq16 = true) then (if ((rd_T70 l0_1 x15_1).f0) < (x1_1.length : Int) then (if ((rd_T70 l0_1 x15_1).f1) < (x1_1.length : Int) then (if (wrap64 ((rd x1_1 ((rd_T70 l0_1 x15_1).f0)) + ((rd_T70 l0_1 x15_1).f2))) < (rd x1_1 ((rd_T70 l0_1 x15_1).f1)) then (if ((rd_T70 l0_1 x15_1).f1) < (x2_1.length : Int) then (spec_l03Round.l0 k1 (x1_1.set (((rd_T70 l0_1 x15_1).f1) : Int).toNat (wrap64 ((rd x1_1 ((rd_T70 l0_1 x15_1).f0)) + ((rd_T70 l0_1 x15_1).f2)))) (x2_1.set (((rd_T70 l0_1 x15_1).f1) : Int).toNat x15_1) (x3_1.set (((rd_T70 l0_1 x15_1).f1) : Int).toNat true) x15_1 l0_1 (l0_1.length : Int) (wrap64 (x15_1 + 1))) else (none)) else (spec_l03Round.l0 k1 x1_1 x2_1 x3_1 x9_1 l0_1 (l0_1.length : Int) (wrap64 (x15_1 + 1)))) else (none)) else (none)) else (if ((rd_T70 l0_1 x15_1).f0) < (x1_1.length : Int) then (if ((rd_T70 l0_1 x15_1).f1) < (x1_1.length : Int) then (if ((rd_T70 l0_1 x15_1).f1) < (x2_1.length : Int) then (spec_l03Round.l0 k1 (x1_1.set (((rd_T70 l0_1 x15_1).f1) : Int).toNat (wrap64 ((rd x1_1 ((rd_T70 l0_1 x15_1).f0)) + ((rd_T70 l0_1 x15_1).f2)))) (x2_1.set (((rd_T70 l0_1 x15_1).f1) : Int).toNat x15_1) (x3_1.set (((rd_T70 l0_1 x15_1).f1) : Int).toNat true) x15_1 l0_1 (l0_1.length : Int) (wrap64 (x15_1 + 1))) else (none)) else (none)) else (none))) = some (r1, r2, r3, r4) := by rw [← hbq16] at H; exact H
    have Nbq16 := mK hbq16
    clear hbq16
    by_cases c17 : (bq16 = true)
    rotate_left
    · replace c17 := Bool.eq_false_iff.mpr c17
      subst c17
      have H1 : (if ((rd_T70 l0_1 x15_1).f0) < (x1_1.length : Int) then (if ((rd_T70 l0_1 x15_1).f1) < (x1_1.length : Int) then (if ((rd_T70 l0_1 x15_1).f1) < (x2_1.length : Int) then (spec_l03Round.l0 k1 (x1_1.set (((rd_T70 l0_1 x15_1).f1) : Int).toNat (wrap64 ((rd x1_1 ((rd_T70 l0_1 x15_1).f0)) + ((rd_T70 l0_1 x15_1).f2)))) (x2_1.set (((rd_T70 l0_1 x15_1).f1) : Int).toNat x15_1) (x3_1.set (((rd_T70 l0_1 x15_1).f1) : Int).toNat true) x15_1 l0_1 (l0_1.length : Int) (wrap64 (x15_1 + 1))) else (none)) else (none)) else (none)) = some (r1, r2, r3, r4) := by rw [if_neg (show ¬ (false = true) by decide)] at H; exact H
      clear H
      have H := H1
      clear H1
      by_cases c48 : ((rd_T70 l0_1 x15_1).f0) < (x1_1.length : Int)
      rotate_left
      · rw [if_neg c48] at H
        exact absurd H (by simp)
      rw [if_pos c48] at H
      have c48b0 : decide (((rd_T70 l0_1 x15_1).f0) < (x1_1.length : Int)) = true := decide_eq_true c48
      clear c48
      by_cases c49 : ((rd_T70 l0_1 x15_1).f1) < (x1_1.length : Int)
      rotate_left
      · rw [if_neg c49] at H
        exact absurd H (by simp)
      rw [if_pos c49] at H
      have c49b0 : decide (((rd_T70 l0_1 x15_1).f1) < (x1_1.length : Int)) = true := decide_eq_true c49
      clear c49
      obtain ⟨y130, hy130⟩ : ∃ y_ : List Int, y_ = (x1_1.set (((rd_T70 l0_1 x15_1).f1) : Int).toNat (wrap64 ((rd x1_1 ((rd_T70 l0_1 x15_1).f0)) + ((rd_T70 l0_1 x15_1).f2)))) := ⟨_, rfl⟩
      replace H : (if ((rd_T70 l0_1 x15_1).f1) < (x2_1.length : Int) then (spec_l03Round.l0 k1 y130 (x2_1.set (((rd_T70 l0_1 x15_1).f1) : Int).toNat x15_1) (x3_1.set (((rd_T70 l0_1 x15_1).f1) : Int).toNat true) x15_1 l0_1 (l0_1.length : Int) (wrap64 (x15_1 + 1))) else (none)) = some (r1, r2, r3, r4) := by first | (rw [hy130]; with_reducible exact H) | (have H2_ := (Option.bind_some _ _).symm.trans H; rw [hy130]; with_reducible exact H2_) | (have H2_ := (Option.bind_some _ _).symm.trans H; with_reducible exact H2_) | with_reducible exact H | (rw [hy130]; exact H) | exact H
      have Ny130 := mK hy130
      clear hy130
      obtain ⟨y131, hy131⟩ : ∃ y_ : List Bool, y_ = (x3_1.set (((rd_T70 l0_1 x15_1).f1) : Int).toNat true) := ⟨_, rfl⟩
      replace H : (if ((rd_T70 l0_1 x15_1).f1) < (x2_1.length : Int) then (spec_l03Round.l0 k1 y130 (x2_1.set (((rd_T70 l0_1 x15_1).f1) : Int).toNat x15_1) y131 x15_1 l0_1 (l0_1.length : Int) (wrap64 (x15_1 + 1))) else (none)) = some (r1, r2, r3, r4) := by first | (rw [hy131]; with_reducible exact H) | (have H2_ := (Option.bind_some _ _).symm.trans H; rw [hy131]; with_reducible exact H2_) | (have H2_ := (Option.bind_some _ _).symm.trans H; with_reducible exact H2_) | with_reducible exact H | (rw [hy131]; exact H) | exact H
      have Ny131 := mK hy131
      clear hy131
      by_cases c52 : ((rd_T70 l0_1 x15_1).f1) < (x2_1.length : Int)
      rotate_left
      · rw [if_neg c52] at H
        exact absurd H (by simp)
      rw [if_pos c52] at H
      have c52b0 : decide (((rd_T70 l0_1 x15_1).f1) < (x2_1.length : Int)) = true := decide_eq_true c52
      clear c52
      obtain ⟨y132, hy132⟩ : ∃ y_ : List Int, y_ = (x2_1.set (((rd_T70 l0_1 x15_1).f1) : Int).toNat x15_1) := ⟨_, rfl⟩
      replace H : (spec_l03Round.l0 k1 y130 y132 y131 x15_1 l0_1 (l0_1.length : Int) (wrap64 (x15_1 + 1))) = some (r1, r2, r3, r4) := by first | (rw [hy132]; with_reducible exact H) | (have H2_ := (Option.bind_some _ _).symm.trans H; rw [hy132]; with_reducible exact H2_) | (have H2_ := (Option.bind_some _ _).symm.trans H; with_reducible exact H2_) | with_reducible exact H | (rw [hy132]; exact H) | exact H
      have Ny132 := mK hy132
      clear hy132
      have H' := mK H
      clear H
      have p119 : 0 ≤ (x15_1 : Int) := of_decide_eq_true (by first | (with_reducible assumption) | assumption)
      have q119 : x15_1 < (l0_1.length : Int) := of_decide_eq_true (by first | (with_reducible assumption) | assumption)
      obtain ⟨ad119, e119, hx119_0, hx119_1, hx119_2⟩ := at_T70 (Kd.C_kept_now HR0_1.out HK.out) x15_1 p119 q119
      cases e119
      replace p119 := eq_true p119
      replace q119 := eq_true q119
      try go_wp2_with (first | ((with_reducible refine gate_dst (N := 11) rfl ?_); refine box_event ?hg (N := 11) ?hd (cs := #[.int .i64 0, .int .i64 0, .int .i64 0]) (t := 70) ?hr ?_; (case hd => rfl); (case hg => rfl); (case hr => first | (go_simp; done) | (go_simp; rfl)); intro gb120 hg w54 hbox hb; have n0_ := mK (Kd.R_below (by (with_reducible repeat (first | apply rA | apply rN | apply rD)); exact HO_1.out) hb); have n1_ := mK (Kd.R_below (by (with_reducible repeat (first | apply rA | apply rN | apply rD)); exact HO_2.out) hb); have n2_ := mK (Kd.R_below (by (with_reducible repeat (first | apply rA | apply rN | apply rD)); exact HO_3.out) hb); have n3_ := mK (blk_below (by (with_reducible repeat (first | refine kN ?_ _ | refine kD ?_ | refine kA ?_ _)); exact BK118.out) hb); have n4_ := mK (Kept.below (S := (fun k_ => P1_ k_ ∨ P2_ k_ ∨ P3_ k_)) (by repeat (first | (with_reducible first | exact HK.out | apply Kept.alloc | apply Kept.drewN | apply Kept.drew | refine Kept.setCell ?_ (.inr GW118.out) _) | exact HK.out)) hb); have n5_ := mK (below_step (by repeat (first | (with_reducible first | exact HB.out | apply bA | apply bN | apply bD | refine bS ?_ GE118.out) | exact HB.out)) hb); have n6_ := mK (hbox); have n7_ := mK ((by rw [hg]; exact (by first | exact HK.out.1 | exact (show Kept w _ (fun k_ => P1_ k_ ∨ P2_ k_ ∨ P3_ k_) from by repeat (first | (with_reducible first | exact HK.out | apply Kept.alloc | apply Kept.drewN | apply Kept.drew | refine Kept.setCell ?_ (.inr GW118.out) _) | exact HK.out)).1) : w.heap.size ≤ gb120)); have n8_ := mK ((by rw [hg]; exact (below_size (by repeat (first | (with_reducible first | exact HB.out | apply bA | apply bN | apply bD | refine bS ?_ GE118.out) | exact HB.out))) : w0.heap.size ≤ gb120)); have n9_ := mK ((by rw [hg]; exact Nat.ne_of_lt (blk_lt (by (with_reducible repeat (first | refine kN ?_ _ | refine kD ?_ | refine kA ?_ _)); exact BK118.out)) : gb118 ≠ gb120)); have n10_ := mK ((by rw [hg]; exact Nat.ne_of_gt (blk_lt (by (with_reducible repeat (first | refine kN ?_ _ | refine kD ?_ | refine kA ?_ _)); exact BK118.out)) : gb120 ≠ gb118)); clear HO_1; clear HO_2; clear HO_3; clear BK118; clear HK; clear HB; have HO_1 := n0_; have HO_2 := n1_; have HO_3 := n2_; have BK118 := n3_; have HK := n4_; have HB := n5_; have BK120 := n6_; have GW120 := n7_; have GE120 := n8_; have NB118_120 := n9_; have NB120_118 := n10_; clear n0_ n1_ n2_ n3_ n4_ n5_ n6_ n7_ n8_ n9_ n10_; clear hb hbox hg; have hnb55 := NB120_118.out; have hnc55 := NB118_120.out; have hcz56_0 : w54.cell? ⟨gb120, 0, none⟩ = some (.int .i64 0) := (blk_cell BK120.out 0).trans rfl; have hcz56_1 : w54.cell? ⟨gb120, 1, none⟩ = some (.int .i64 0) := (blk_cell BK120.out 1).trans rfl; have hcz56_2 : w54.cell? ⟨gb120, 2, none⟩ = some (.int .i64 0) := (blk_cell BK120.out 2).trans rfl; have hfz56_0 := blk_frozen BK120.out 0; have hfz56_1 := blk_frozen BK120.out 1; have hfz56_2 := blk_frozen BK120.out 2))
      have n0_ : Aside0 (Kd.R (Kd.int .i64) 3 (((w54.setCell ⟨gb120, 0, none⟩ (.int .i64 ((rd_T70 l0_1 x15_1).f0))).setCell ⟨gb120, 1, none⟩ (.int .i64 ((rd_T70 l0_1 x15_1).f1))).setCell ⟨gb120, 2, none⟩ (.int .i64 ((rd_T70 l0_1 x15_1).f2))) w0.heap.size (fun k_ => ((P1_ k_ ∨ P2_ k_ ∨ P3_ k_) ∨ w.heap.size ≤ k_) ∧ some k_ ≠ (u9001_ : Value).ownBlock) u9000_ x1_1) := ⟨by (with_reducible repeat (first | apply rA | apply rN | apply rD)); exact Kd.R_mono (Kd.R_far (p := ⟨gb120, 2, none⟩) (Kd.R_far (p := ⟨gb120, 1, none⟩) (Kd.R_far (p := ⟨gb120, 0, none⟩) (Kd.R_types HO_1.out BK120.out (by decide)) (fun _ hk => hk.2) (.int .i64 ((rd_T70 l0_1 x15_1).f0))) (fun _ hk => hk.2) (.int .i64 ((rd_T70 l0_1 x15_1).f1))) (fun _ hk => hk.2) (.int .i64 ((rd_T70 l0_1 x15_1).f2))) (fun _ hk => ⟨hk.1.1, hk.1.2⟩)⟩
      have n1_ : Aside0 (Kd.R (Kd.int .i64) 3 (((w54.setCell ⟨gb120, 0, none⟩ (.int .i64 ((rd_T70 l0_1 x15_1).f0))).setCell ⟨gb120, 1, none⟩ (.int .i64 ((rd_T70 l0_1 x15_1).f1))).setCell ⟨gb120, 2, none⟩ (.int .i64 ((rd_T70 l0_1 x15_1).f2))) w0.heap.size (fun k_ => ((P1_ k_ ∨ P2_ k_ ∨ P3_ k_) ∨ w.heap.size ≤ k_) ∧ some k_ ≠ (u9000_ : Value).ownBlock) u9001_ x2_1) := ⟨by (with_reducible repeat (first | apply rA | apply rN | apply rD)); exact Kd.R_mono (Kd.R_far (p := ⟨gb120, 2, none⟩) (Kd.R_far (p := ⟨gb120, 1, none⟩) (Kd.R_far (p := ⟨gb120, 0, none⟩) (Kd.R_types HO_2.out BK120.out (by decide)) (fun _ hk => hk.2) (.int .i64 ((rd_T70 l0_1 x15_1).f0))) (fun _ hk => hk.2) (.int .i64 ((rd_T70 l0_1 x15_1).f1))) (fun _ hk => hk.2) (.int .i64 ((rd_T70 l0_1 x15_1).f2))) (fun _ hk => ⟨hk.1.1, hk.1.2⟩)⟩
      have n2_ : Aside0 (Kd.R Kd.bool 4 (((w54.setCell ⟨gb120, 0, none⟩ (.int .i64 ((rd_T70 l0_1 x15_1).f0))).setCell ⟨gb120, 1, none⟩ (.int .i64 ((rd_T70 l0_1 x15_1).f1))).setCell ⟨gb120, 2, none⟩ (.int .i64 ((rd_T70 l0_1 x15_1).f2))) w0.heap.size (fun k_ => ((P1_ k_ ∨ P2_ k_ ∨ P3_ k_) ∨ w.heap.size ≤ k_)) u9002_ x3_1) := ⟨by (with_reducible repeat (first | apply rA | apply rN | apply rD)); exact Kd.R_mono (Kd.R_far (p := ⟨gb120, 2, none⟩) (Kd.R_far (p := ⟨gb120, 1, none⟩) (Kd.R_far (p := ⟨gb120, 0, none⟩) (Kd.R_types HO_3.out BK120.out (by decide)) (fun _ hk => hk.2) (.int .i64 ((rd_T70 l0_1 x15_1).f0))) (fun _ hk => hk.2) (.int .i64 ((rd_T70 l0_1 x15_1).f1))) (fun _ hk => hk.2) (.int .i64 ((rd_T70 l0_1 x15_1).f2))) (fun _ hk => hk.1)⟩
      have n3_ : Aside0 ((((w54.setCell ⟨gb120, 0, none⟩ (.int .i64 ((rd_T70 l0_1 x15_1).f0))).setCell ⟨gb120, 1, none⟩ (.int .i64 ((rd_T70 l0_1 x15_1).f1))).setCell ⟨gb120, 2, none⟩ (.int .i64 ((rd_T70 l0_1 x15_1).f2))).heap[gb118]? = some (.cells #[.int .i64 a0_0, .slice (some ad119) l0_1.length c0_1] 33 (0, 0))) := ⟨by (with_reducible repeat (first | refine kN ?_ _ | refine kD ?_ | refine kA ?_ _)); refine blk_far ?_ NB118_120.out _; (with_reducible repeat (first | refine kN ?_ _ | refine kD ?_ | refine kA ?_ _)); refine blk_far ?_ NB118_120.out _; (with_reducible repeat (first | refine kN ?_ _ | refine kD ?_ | refine kA ?_ _)); refine blk_far ?_ NB118_120.out _; (with_reducible repeat (first | refine kN ?_ _ | refine kD ?_ | refine kA ?_ _)); exact BK118.out⟩
      have n4_ : Aside0 ((((w54.setCell ⟨gb120, 0, none⟩ (.int .i64 ((rd_T70 l0_1 x15_1).f0))).setCell ⟨gb120, 1, none⟩ (.int .i64 ((rd_T70 l0_1 x15_1).f1))).setCell ⟨gb120, 2, none⟩ (.int .i64 ((rd_T70 l0_1 x15_1).f2))).heap[gb120]? = some (.cells #[.int .i64 ((rd_T70 l0_1 x15_1).f0), .int .i64 ((rd_T70 l0_1 x15_1).f1), .int .i64 ((rd_T70 l0_1 x15_1).f2)] 70 (0, 0))) := ⟨by (with_reducible repeat (first | refine kN ?_ _ | refine kD ?_ | refine kA ?_ _)); refine blk_put (cs := #[.int .i64 ((rd_T70 l0_1 x15_1).f0), .int .i64 ((rd_T70 l0_1 x15_1).f1), .int .i64 0]) ?_ 2 _ rfl; (with_reducible repeat (first | refine kN ?_ _ | refine kD ?_ | refine kA ?_ _)); refine blk_put (cs := #[.int .i64 ((rd_T70 l0_1 x15_1).f0), .int .i64 0, .int .i64 0]) ?_ 1 _ rfl; (with_reducible repeat (first | refine kN ?_ _ | refine kD ?_ | refine kA ?_ _)); refine blk_put (cs := #[.int .i64 0, .int .i64 0, .int .i64 0]) ?_ 0 _ rfl; (with_reducible repeat (first | refine kN ?_ _ | refine kD ?_ | refine kA ?_ _)); exact BK120.out⟩
      have n5_ : Aside0 (Kept w (((w54.setCell ⟨gb120, 0, none⟩ (.int .i64 ((rd_T70 l0_1 x15_1).f0))).setCell ⟨gb120, 1, none⟩ (.int .i64 ((rd_T70 l0_1 x15_1).f1))).setCell ⟨gb120, 2, none⟩ (.int .i64 ((rd_T70 l0_1 x15_1).f2))) (fun k_ => P1_ k_ ∨ P2_ k_ ∨ P3_ k_)) := ⟨by repeat (first | (with_reducible first | exact HK.out | apply Kept.alloc | apply Kept.drewN | apply Kept.drew | refine Kept.setCell ?_ (.inr GW118.out) _ | refine Kept.setCell ?_ (.inr GW120.out) _) | exact HK.out)⟩
      have n6_ : Aside0 (Below w0.heap.size w0 (((w54.setCell ⟨gb120, 0, none⟩ (.int .i64 ((rd_T70 l0_1 x15_1).f0))).setCell ⟨gb120, 1, none⟩ (.int .i64 ((rd_T70 l0_1 x15_1).f1))).setCell ⟨gb120, 2, none⟩ (.int .i64 ((rd_T70 l0_1 x15_1).f2)))) := ⟨by repeat (first | (with_reducible first | exact HB.out | apply bA | apply bN | apply bD | refine bS ?_ GE118.out | refine bS ?_ GE120.out) | exact HB.out)⟩
      (try clear HO_1)
      (try clear HO_2)
      (try clear HO_3)
      (try clear BK118)
      (try clear BK120)
      (try clear HK)
      (try clear HB)
      generalize (((w54.setCell ⟨gb120, 0, none⟩ (.int .i64 ((rd_T70 l0_1 x15_1).f0))).setCell ⟨gb120, 1, none⟩ (.int .i64 ((rd_T70 l0_1 x15_1).f1))).setCell ⟨gb120, 2, none⟩ (.int .i64 ((rd_T70 l0_1 x15_1).f2))) = w57 at n0_ n1_ n2_ n3_ n4_ n5_ n6_ ⊢
      have HO_1 := n0_
      have HO_2 := n1_
      have HO_3 := n2_
      have BK118 := n3_
      have BK120 := n4_
      have HK := n5_
      have HB := n6_
      clear n0_ n1_ n2_ n3_ n4_ n5_ n6_
      have n0_ := mK (Kd.R_drew HO_1.out)
      have n1_ := mK (Kd.R_drew HO_2.out)
      have n2_ := mK (Kd.R_drew HO_3.out)
      have n3_ := mK (blk_drew BK118.out)
      have n4_ := mK (blk_drew BK120.out)
      have n5_ := mK (Kept.drew HK.out)
      have n6_ := mK (below_drew1 HB.out)
      clear HO_1
      clear HO_2
      clear HO_3
      clear BK118
      clear BK120
      clear HK
      clear HB
      have HO_1 := n0_
      have HO_2 := n1_
      have HO_3 := n2_
      have BK118 := n3_
      have BK120 := n4_
      have HK := n5_
      have HB := n6_
      clear n0_ n1_ n2_ n3_ n4_ n5_ n6_
      obtain ⟨Ao59, co59, eo59⟩ := Kd.R_slice HO_3.out
      (first | subst eo59 | (injection eo59 with f1_ f2_ f3_; have f4_ := f1_.symm; have f5_ := f3_.symm; clear f1_ f2_ f3_; subst f4_; subst f5_))
      have p121 : 0 ≤ (((rd_T70 l0_1 x15_1).f0) : Int) := of_decide_eq_true (by first | (with_reducible assumption) | assumption)
      have q121 : ((rd_T70 l0_1 x15_1).f0) < (x3_1.length : Int) := of_decide_eq_true (by first | (with_reducible assumption) | assumption)
      obtain ⟨ad121, e121, hx121_0⟩ := Kd.at_bool (Kd.R_reads' HO_3.out).2.2 ((rd_T70 l0_1 x15_1).f0) p121 q121
      (try rw [← Nbq12.out] at hx121_0)
      (try rw [← Nbq16.out] at hx121_0)
      cases e121
      replace p121 := eq_true p121
      replace q121 := eq_true q121
      have p122 : 0 ≤ (((rd_T70 l0_1 x15_1).f1) : Int) := of_decide_eq_true (by first | (with_reducible assumption) | assumption)
      have q122 : ((rd_T70 l0_1 x15_1).f1) < (x3_1.length : Int) := of_decide_eq_true (by first | (with_reducible assumption) | assumption)
      obtain ⟨ad122, e122, hx122_0⟩ := Kd.at_bool (Kd.R_reads' HO_3.out).2.2 ((rd_T70 l0_1 x15_1).f1) p122 q122
      (try rw [← Nbq12.out] at hx122_0)
      (try rw [← Nbq16.out] at hx122_0)
      obtain rfl : ad121 = ad122 := (by injection e122)
      replace p122 := eq_true p122
      replace q122 := eq_true q122
      refine start_ (n := 29) (S := fun w' => w'.cell? ⟨gb120, 0, none⟩ = some (.int .i64 ((rd_T70 l0_1 x15_1).f0)) ∧ w'.cell? ⟨gb120, 1, none⟩ = some (.int .i64 ((rd_T70 l0_1 x15_1).f1)) ∧ w'.cell? ⟨gb120, 2, none⟩ = some (.int .i64 ((rd_T70 l0_1 x15_1).f2)) ∧ w'.cell? (ad121.add (((rd_T70 l0_1 x15_1).f0)).toNat) = some (.bool true) ∧ w'.cell? (ad121.add (((rd_T70 l0_1 x15_1).f1)).toNat) = some (.bool false)) (ds := []) #[false, false, false, false, false, false, false, false, false, false, false, false, false, false, false, false, false, false, false, false, false, false, false, false, false, false, false, false, false] (by kernel_rfl) rfl rfl ⟨(blk_cell BK120.out 0).trans rfl, (blk_cell BK120.out 1).trans rfl, (blk_cell BK120.out 2).trans rfl, hx121_0, hx122_0⟩ (fun hHeld => ?_); refine with_tabW spec_l03Round.tab5 spec_l03Round.bits5 (fun HT_ HW_ => ?_)
      generalize w57.drew = w58 at HO_1 HO_2 HO_3 BK118 BK120 HK HB hx121_0 hx122_0 hHeld ⊢
      refine pure_ (i := 0) (N := some 20) (v := ?_) (a' := ?_) #[true, false, false, false, false, false, false, false, false, false, false, false, false, false, false, false, false, false, false, false, false, false, false, false, false, false, false, false, false] rfl rfl (any_of HT_.out (by kernel_rfl)) (fun _ _ _ h => h) (Or.inl ⟨by rfl, ?_⟩) ?_ ?_
      rotate_left
      · intro w'
        go_simp
        with_reducible rfl
      rotate_left
      · simp only [Act.put, sT, sZ, sU, i64_w, i32_w]
        rfl
      refine pure_ (i := 1) (N := some 21) (v := ?_) (a' := ?_) #[true, true, false, false, false, false, false, false, false, false, false, false, false, false, false, false, false, false, false, false, false, false, false, false, false, false, false, false, false] rfl rfl (any_of HT_.out (by kernel_rfl)) (fun _ _ _ h => h) (Or.inl ⟨by rfl, ?_⟩) ?_ ?_
      rotate_left
      · intro w'
        go_simp
        with_reducible rfl
      rotate_left
      · simp only [Act.put, sT, sZ, sU, i64_w, i32_w]
        rfl
      refine take_ (i := 2) (N := some 22) (v := ?_) (a' := ?_) #[true, true, true, false, false, false, false, false, false, false, false, false, false, false, false, false, false, false, false, false, false, false, false, false, false, false, false, false, false] rfl rfl (take_ofW HT_.out HW_.out (by kernel_rfl)) (fun _ _ _ h => h) (Or.inl ⟨by rfl, ?_⟩) hHeld ?_ ?_
      rotate_left
      · rintro w' ⟨s0, s1, s2, s3, s4⟩
        go_simp
        with_reducible rfl
      rotate_left
      · simp only [Act.put, sT, sZ, sU, i64_w, i32_w]
        rfl
      refine pure_ (i := 3) (N := some 23) (v := ?_) (a' := ?_) #[true, true, true, true, false, false, false, false, false, false, false, false, false, false, false, false, false, false, false, false, false, false, false, false, false, false, false, false, false] rfl rfl (any_of HT_.out (by kernel_rfl)) (fun _ _ _ h => h) (Or.inl ⟨by rfl, ?_⟩) ?_ ?_
      rotate_left
      · intro w'
        go_simp
        with_reducible rfl
      rotate_left
      · simp only [Act.put, sT, sZ, sU, i64_w, i32_w]
        rfl
      refine take_ (i := 4) (N := some 24) (v := ?_) (a' := ?_) #[true, true, true, true, true, false, false, false, false, false, false, false, false, false, false, false, false, false, false, false, false, false, false, false, false, false, false, false, false] rfl rfl (take_ofW HT_.out HW_.out (by kernel_rfl)) (fun _ _ _ h => h) (Or.inl ⟨by rfl, ?_⟩) hHeld ?_ ?_
      rotate_left
      · rintro w' ⟨s0, s1, s2, s3, s4⟩
        go_simp
        with_reducible rfl
      rotate_left
      · simp only [Act.put, sT, sZ, sU, i64_w, i32_w]
        rfl
      refine pure_ (i := 5) (N := some 25) (v := ?_) (a' := ?_) #[true, true, true, true, true, true, false, false, false, false, false, false, false, false, false, false, false, false, false, false, false, false, false, false, false, false, false, false, false] rfl rfl (any_of HT_.out (by kernel_rfl)) (fun _ _ _ h => h) (Or.inl ⟨by rfl, ?_⟩) ?_ ?_
      rotate_left
      · intro w'
        go_simp
        with_reducible rfl
      rotate_left
      · simp only [Act.put, sT, sZ, sU, i64_w, i32_w]
        rfl
      refine pure_ (i := 6) (N := some 26) (v := ?_) (a' := ?_) #[true, true, true, true, true, true, true, false, false, false, false, false, false, false, false, false, false, false, false, false, false, false, false, false, false, false, false, false, false] rfl rfl (any_of HT_.out (by kernel_rfl)) (fun _ _ _ h => h) (Or.inl ⟨by rfl, ?_⟩) ?_ ?_
      rotate_left
      · intro w'
        go_simp
        with_reducible rfl
      rotate_left
      · simp only [Act.put, sT, sZ, sU, i64_w, i32_w]
        rfl
      refine pure_ (i := 7) (N := some 27) (v := ?_) (a' := ?_) #[true, true, true, true, true, true, true, true, false, false, false, false, false, false, false, false, false, false, false, false, false, false, false, false, false, false, false, false, false] rfl rfl (any_of HT_.out (by kernel_rfl)) (fun _ _ _ h => h) (Or.inl ⟨by rfl, ?_⟩) ?_ ?_
      rotate_left
      · intro w'
        go_simp
        with_reducible rfl
      rotate_left
      · simp only [Act.put, sT, sZ, sU, i64_w, i32_w]
        rfl
      refine take_ (i := 8) (N := some 28) (v := ?_) (a' := ?_) #[true, true, true, true, true, true, true, true, true, false, false, false, false, false, false, false, false, false, false, false, false, false, false, false, false, false, false, false, false] rfl rfl (take_ofW HT_.out HW_.out (by kernel_rfl)) (fun _ _ _ h => h) (Or.inl ⟨by rfl, ?_⟩) hHeld ?_ ?_
      rotate_left
      · rintro w' ⟨s0, s1, s2, s3, s4⟩
        go_simp
        with_reducible rfl
      rotate_left
      · simp only [Act.put, sT, sZ, sU, i64_w, i32_w]
        rfl
      refine pure_ (i := 9) (N := some 29) (v := ?_) (a' := ?_) #[true, true, true, true, true, true, true, true, true, true, false, false, false, false, false, false, false, false, false, false, false, false, false, false, false, false, false, false, false] rfl rfl (any_of HT_.out (by kernel_rfl)) (fun _ _ _ h => h) (Or.inl ⟨by rfl, ?_⟩) ?_ ?_
      rotate_left
      · intro w'
        go_simp
        with_reducible rfl
      rotate_left
      · simp only [Act.put, sT, sZ, sU, i64_w, i32_w]
        rfl
      refine take_ (i := 10) (N := some 30) (v := ?_) (a' := ?_) #[true, true, true, true, true, true, true, true, true, true, true, false, false, false, false, false, false, false, false, false, false, false, false, false, false, false, false, false, false] rfl rfl (take_ofW HT_.out HW_.out (by kernel_rfl)) (fun _ _ _ h => h) (Or.inl ⟨by rfl, ?_⟩) hHeld ?_ ?_
      rotate_left
      · rintro w' ⟨s0, s1, s2, s3, s4⟩
        go_simp
        with_reducible rfl
      rotate_left
      · simp only [Act.put, sT, sZ, sU, i64_w, i32_w]
        rfl
      refine pure_ (i := 11) (N := some 31) (v := ?_) (a' := ?_) #[true, true, true, true, true, true, true, true, true, true, true, true, false, false, false, false, false, false, false, false, false, false, false, false, false, false, false, false, false] rfl rfl (any_of HT_.out (by kernel_rfl)) (fun _ _ _ h => h) (Or.inl ⟨by rfl, ?_⟩) ?_ ?_
      rotate_left
      · intro w'
        go_simp
        with_reducible rfl
      rotate_left
      · simp only [Act.put, sT, sZ, sU, i64_w, i32_w]
        rfl
      refine pure_ (i := 12) (N := some 32) (v := ?_) (a' := ?_) #[true, true, true, true, true, true, true, true, true, true, true, true, true, false, false, false, false, false, false, false, false, false, false, false, false, false, false, false, false] rfl rfl (any_of HT_.out (by kernel_rfl)) (fun _ _ _ h => h) (Or.inl ⟨by rfl, ?_⟩) ?_ ?_
      rotate_left
      · intro w'
        go_simp
        with_reducible rfl
      rotate_left
      · simp only [Act.put, sT, sZ, sU, i64_w, i32_w]
        rfl
      refine pure_ (i := 13) (N := some 33) (v := undef) (a' := ?_) #[true, true, true, true, true, true, true, true, true, true, true, true, true, true, false, false, false, false, false, false, false, false, false, false, false, false, false, false, false] rfl rfl (any_of HT_.out (by kernel_rfl)) (fun _ _ _ h => h) (Or.inr ⟨by rfl, rfl⟩) ?_ ?_
      rotate_left
      · simp only [Act.put, sT, sZ, sU, i64_w, i32_w]
        rfl
      refine pure_ (i := 14) (N := some 34) (v := undef) (a' := ?_) #[true, true, true, true, true, true, true, true, true, true, true, true, true, true, true, false, false, false, false, false, false, false, false, false, false, false, false, false, false] rfl rfl (any_of HT_.out (by kernel_rfl)) (fun _ _ _ h => h) (Or.inr ⟨by rfl, rfl⟩) ?_ ?_
      rotate_left
      · simp only [Act.put, sT, sZ, sU, i64_w, i32_w]
        rfl
      refine pure_ (i := 15) (N := some 35) (v := undef) (a' := ?_) #[true, true, true, true, true, true, true, true, true, true, true, true, true, true, true, true, false, false, false, false, false, false, false, false, false, false, false, false, false] rfl rfl (any_of HT_.out (by kernel_rfl)) (fun _ _ _ h => h) (Or.inr ⟨by rfl, rfl⟩) ?_ ?_
      rotate_left
      · simp only [Act.put, sT, sZ, sU, i64_w, i32_w]
        rfl
      refine pure_ (i := 16) (N := some 36) (v := undef) (a' := ?_) #[true, true, true, true, true, true, true, true, true, true, true, true, true, true, true, true, true, false, false, false, false, false, false, false, false, false, false, false, false] rfl rfl (any_of HT_.out (by kernel_rfl)) (fun _ _ _ h => h) (Or.inr ⟨by rfl, rfl⟩) ?_ ?_
      rotate_left
      · simp only [Act.put, sT, sZ, sU, i64_w, i32_w]
        rfl
      refine pure_ (i := 17) (N := some 37) (v := undef) (a' := ?_) #[true, true, true, true, true, true, true, true, true, true, true, true, true, true, true, true, true, true, false, false, false, false, false, false, false, false, false, false, false] rfl rfl (any_of HT_.out (by kernel_rfl)) (fun _ _ _ h => h) (Or.inr ⟨by rfl, rfl⟩) ?_ ?_
      rotate_left
      · simp only [Act.put, sT, sZ, sU, i64_w, i32_w]
        rfl
      refine pure_ (i := 18) (N := some 38) (v := undef) (a' := ?_) #[true, true, true, true, true, true, true, true, true, true, true, true, true, true, true, true, true, true, true, false, false, false, false, false, false, false, false, false, false] rfl rfl (any_of HT_.out (by kernel_rfl)) (fun _ _ _ h => h) (Or.inr ⟨by rfl, rfl⟩) ?_ ?_
      rotate_left
      · simp only [Act.put, sT, sZ, sU, i64_w, i32_w]
        rfl
      refine pure_ (i := 19) (N := some 39) (v := undef) (a' := ?_) #[true, true, true, true, true, true, true, true, true, true, true, true, true, true, true, true, true, true, true, true, false, false, false, false, false, false, false, false, false] rfl rfl (any_of HT_.out (by kernel_rfl)) (fun _ _ _ h => h) (Or.inr ⟨by rfl, rfl⟩) ?_ ?_
      rotate_left
      · simp only [Act.put, sT, sZ, sU, i64_w, i32_w]
        rfl
      refine pure_ (i := 20) (N := some 40) (v := undef) (a' := ?_) #[true, true, true, true, true, true, true, true, true, true, true, true, true, true, true, true, true, true, true, true, true, false, false, false, false, false, false, false, false] rfl rfl (any_of HT_.out (by kernel_rfl)) (fun _ _ _ h => h) (Or.inr ⟨by rfl, rfl⟩) ?_ ?_
      rotate_left
      · simp only [Act.put, sT, sZ, sU, i64_w, i32_w]
        rfl
      refine pure_ (i := 21) (N := some 41) (v := undef) (a' := ?_) #[true, true, true, true, true, true, true, true, true, true, true, true, true, true, true, true, true, true, true, true, true, true, false, false, false, false, false, false, false] rfl rfl (any_of HT_.out (by kernel_rfl)) (fun _ _ _ h => h) (Or.inr ⟨by rfl, rfl⟩) ?_ ?_
      rotate_left
      · simp only [Act.put, sT, sZ, sU, i64_w, i32_w]
        rfl
      refine pure_ (i := 22) (N := some 42) (v := undef) (a' := ?_) #[true, true, true, true, true, true, true, true, true, true, true, true, true, true, true, true, true, true, true, true, true, true, true, false, false, false, false, false, false] rfl rfl (any_of HT_.out (by kernel_rfl)) (fun _ _ _ h => h) (Or.inr ⟨by rfl, rfl⟩) ?_ ?_
      rotate_left
      · simp only [Act.put, sT, sZ, sU, i64_w, i32_w]
        rfl
      refine pure_ (i := 23) (N := some 43) (v := undef) (a' := ?_) #[true, true, true, true, true, true, true, true, true, true, true, true, true, true, true, true, true, true, true, true, true, true, true, true, false, false, false, false, false] rfl rfl (any_of HT_.out (by kernel_rfl)) (fun _ _ _ h => h) (Or.inr ⟨by rfl, rfl⟩) ?_ ?_
      rotate_left
      · simp only [Act.put, sT, sZ, sU, i64_w, i32_w]
        rfl
      refine pure_ (i := 24) (N := some 44) (v := undef) (a' := ?_) #[true, true, true, true, true, true, true, true, true, true, true, true, true, true, true, true, true, true, true, true, true, true, true, true, true, false, false, false, false] rfl rfl (any_of HT_.out (by kernel_rfl)) (fun _ _ _ h => h) (Or.inr ⟨by rfl, rfl⟩) ?_ ?_
      rotate_left
      · simp only [Act.put, sT, sZ, sU, i64_w, i32_w]
        rfl
      refine pure_ (i := 25) (N := some 45) (v := undef) (a' := ?_) #[true, true, true, true, true, true, true, true, true, true, true, true, true, true, true, true, true, true, true, true, true, true, true, true, true, true, false, false, false] rfl rfl (any_of HT_.out (by kernel_rfl)) (fun _ _ _ h => h) (Or.inr ⟨by rfl, rfl⟩) ?_ ?_
      rotate_left
      · simp only [Act.put, sT, sZ, sU, i64_w, i32_w]
        rfl
      refine pure_ (i := 26) (N := some 46) (v := undef) (a' := ?_) #[true, true, true, true, true, true, true, true, true, true, true, true, true, true, true, true, true, true, true, true, true, true, true, true, true, true, true, false, false] rfl rfl (any_of HT_.out (by kernel_rfl)) (fun _ _ _ h => h) (Or.inr ⟨by rfl, rfl⟩) ?_ ?_
      rotate_left
      · simp only [Act.put, sT, sZ, sU, i64_w, i32_w]
        rfl
      refine pure_ (i := 27) (N := some 47) (v := ?_) (a' := ?_) #[true, true, true, true, true, true, true, true, true, true, true, true, true, true, true, true, true, true, true, true, true, true, true, true, true, true, true, true, false] rfl rfl (any_of HT_.out (by kernel_rfl)) (fun _ _ _ h => h) (Or.inl ⟨by rfl, ?_⟩) ?_ ?_
      rotate_left
      · intro w'
        go_simp
        with_reducible rfl
      rotate_left
      · simp only [Act.put, sT, sZ, sU, i64_w, i32_w]
        rfl
      refine pure_ (i := 28) (N := some 48) (v := ?_) (a' := ?_) #[true, true, true, true, true, true, true, true, true, true, true, true, true, true, true, true, true, true, true, true, true, true, true, true, true, true, true, true, true] rfl rfl (any_of HT_.out (by kernel_rfl)) (fun _ _ _ h => h) (Or.inl ⟨by rfl, ?_⟩) ?_ ?_
      rotate_left
      · intro w'
        go_simp
        with_reducible rfl
      rotate_left
      · simp only [Act.put, sT, sZ, sU, i64_w, i32_w]
        rfl
      refine done_ (done_of HT_.out (by kernel_rfl)) ?_
      try go_wp2
      have n0_ := mK (Kd.R_drew HO_1.out)
      have n1_ := mK (Kd.R_drew HO_2.out)
      have n2_ := mK (Kd.R_drew HO_3.out)
      have n3_ := mK (blk_drew BK118.out)
      have n4_ := mK (blk_drew BK120.out)
      have n5_ := mK (Kept.drew HK.out)
      have n6_ := mK (below_drew1 HB.out)
      clear HO_1
      clear HO_2
      clear HO_3
      clear BK118
      clear BK120
      clear HK
      clear HB
      have HO_1 := n0_
      have HO_2 := n1_
      have HO_3 := n2_
      have BK118 := n3_
      have BK120 := n4_
      have HK := n5_
      have HB := n6_
      clear n0_ n1_ n2_ n3_ n4_ n5_ n6_
      obtain ⟨Ao61, co61, eo61⟩ := Kd.R_slice HO_1.out
      (first | subst eo61 | (injection eo61 with f1_ f2_ f3_; have f4_ := f1_.symm; have f5_ := f3_.symm; clear f1_ f2_ f3_; subst f4_; subst f5_))
      have p129 : 0 ≤ (((rd_T70 l0_1 x15_1).f0) : Int) := of_decide_eq_true (by first | (with_reducible assumption) | assumption)
      have q129 : ((rd_T70 l0_1 x15_1).f0) < (x1_1.length : Int) := of_decide_eq_true (by first | (with_reducible assumption) | assumption)
      obtain ⟨ad129, e129, hx129_0⟩ := Kd.at_int (Kd.R_reads' HO_1.out).2.2 ((rd_T70 l0_1 x15_1).f0) p129 q129
      cases e129
      replace p129 := eq_true p129
      replace q129 := eq_true q129
      have p50 : 0 ≤ (((rd_T70 l0_1 x15_1).f1) : Int) := of_decide_eq_true (by first | (with_reducible assumption) | assumption)
      have q50 : (((rd_T70 l0_1 x15_1).f1) : Int) < ((x1_1.length : Int) : Int) := of_decide_eq_true (by first | (with_reducible assumption) | assumption)
      obtain ⟨go50, co50, eo50, gb50, gl50, cl50, HG50⟩ := Kd.R_form HO_1.out (by omega)
      (first | cases eo50 | (injection eo50 with ea_ en_ ec_; (first | subst ea_ | (injection ea_ with ea_; subst ea_)); subst ec_; clear en_))
      have GB50 := mK gb50
      have GG50 := mK HG50
      clear gb50 gl50 HG50
      have HMgo50 := mK (show ((P1_ go50 ∨ P2_ go50 ∨ P3_ go50) ∨ w.heap.size ≤ go50) from (HO_1.out.1 _ rfl).1)
      (first | simp only [add_plain] at hx129_0 | skip)
      obtain ⟨hx50_0, hf50_0⟩ := Kd.R_celln 0 HO_1.out (((rd_T70 l0_1 x15_1).f1) : Int) p50 q50
      replace p50 := eq_true p50
      replace q50 := eq_true q50
      have HP62 := Kd.R_putn HO_1.out (((rd_T70 l0_1 x15_1).f1) : Int) (wrap64 ((rd x1_1 ((rd_T70 l0_1 x15_1).f0)) + ((rd_T70 l0_1 x15_1).f2)))
      rw [← Ny130.out] at HP62
      have HQ62 := mK HP62
      clear HP62
      refine start_ (n := 13) (S := fun w' => w'.cell? ⟨gb120, 0, none⟩ = some (.int .i64 ((rd_T70 l0_1 x15_1).f0)) ∧ w'.cell? ⟨gb120, 1, none⟩ = some (.int .i64 ((rd_T70 l0_1 x15_1).f1)) ∧ w'.cell? ⟨gb120, 2, none⟩ = some (.int .i64 ((rd_T70 l0_1 x15_1).f2)) ∧ w'.cell? ⟨go50, (((rd_T70 l0_1 x15_1).f0)).toNat, none⟩ = some (.int .i64 (rd x1_1 ((rd_T70 l0_1 x15_1).f0)))) (ds := [12]) #[false, false, false, false, false, false, false, false, false, false, false, false, false] (by kernel_rfl) rfl rfl ⟨(blk_cell BK120.out 0).trans rfl, (blk_cell BK120.out 1).trans rfl, (blk_cell BK120.out 2).trans rfl, hx129_0⟩ (fun hHeld => ?_); refine with_tabW spec_l03Round.tab6 spec_l03Round.bits6 (fun HT_ HW_ => ?_)
      generalize w58.drew = w60 at HO_1 HO_2 HO_3 BK118 BK120 HK HB GG50 HQ62 hf50_0 hx129_0 hx50_0 hHeld ⊢
      refine pure_ (i := 0) (N := some 49) (v := ?_) (a' := ?_) #[true, false, false, false, false, false, false, false, false, false, false, false, false] rfl rfl (any_of HT_.out (by kernel_rfl)) (fun _ _ _ h => h) (Or.inl ⟨by rfl, ?_⟩) ?_ ?_
      rotate_left
      · intro w'
        go_simp
        with_reducible rfl
      rotate_left
      · simp only [Act.put, sT, sZ, sU, i64_w, i32_w]
        rfl
      refine pure_ (i := 1) (N := some 50) (v := ?_) (a' := ?_) #[true, true, false, false, false, false, false, false, false, false, false, false, false] rfl rfl (any_of HT_.out (by kernel_rfl)) (fun _ _ _ h => h) (Or.inl ⟨by rfl, ?_⟩) ?_ ?_
      rotate_left
      · intro w'
        go_simp
        with_reducible rfl
      rotate_left
      · simp only [Act.put, sT, sZ, sU, i64_w, i32_w]
        rfl
      refine pure_ (i := 3) (N := some 52) (v := ?_) (a' := ?_) #[true, true, false, true, false, false, false, false, false, false, false, false, false] rfl rfl (any_of HT_.out (by kernel_rfl)) (fun _ _ _ h => h) (Or.inl ⟨by rfl, ?_⟩) ?_ ?_
      rotate_left
      · intro w'
        go_simp
        with_reducible rfl
      rotate_left
      · simp only [Act.put, sT, sZ, sU, i64_w, i32_w]
        rfl
      refine pure_ (i := 4) (N := some 53) (v := ?_) (a' := ?_) #[true, true, false, true, true, false, false, false, false, false, false, false, false] rfl rfl (any_of HT_.out (by kernel_rfl)) (fun _ _ _ h => h) (Or.inl ⟨by rfl, ?_⟩) ?_ ?_
      rotate_left
      · intro w'
        go_simp
        with_reducible rfl
      rotate_left
      · simp only [Act.put, sT, sZ, sU, i64_w, i32_w]
        rfl
      refine pure_ (i := 8) (N := some 57) (v := ?_) (a' := ?_) #[true, true, false, true, true, false, false, false, true, false, false, false, false] rfl rfl (any_of HT_.out (by kernel_rfl)) (fun _ _ _ h => h) (Or.inl ⟨by rfl, ?_⟩) ?_ ?_
      rotate_left
      · intro w'
        go_simp
        with_reducible rfl
      rotate_left
      · simp only [Act.put, sT, sZ, sU, i64_w, i32_w]
        rfl
      refine take_ (i := 2) (N := some 51) (v := ?_) (a' := ?_) #[true, true, true, true, true, false, false, false, true, false, false, false, false] rfl rfl (take_ofW HT_.out HW_.out (by kernel_rfl)) (fun _ _ _ h => h) (Or.inl ⟨by rfl, ?_⟩) hHeld ?_ ?_
      rotate_left
      · rintro w' ⟨s0, s1, s2, s3⟩
        go_simp
        with_reducible rfl
      rotate_left
      · simp only [Act.put, sT, sZ, sU, i64_w, i32_w]
        rfl
      refine take_ (i := 5) (N := some 54) (v := ?_) (a' := ?_) #[true, true, true, true, true, true, false, false, true, false, false, false, false] rfl rfl (take_ofW HT_.out HW_.out (by kernel_rfl)) (fun _ _ _ h => h) (Or.inl ⟨by rfl, ?_⟩) hHeld ?_ ?_
      rotate_left
      · rintro w' ⟨s0, s1, s2, s3⟩
        go_simp
        with_reducible rfl
      rotate_left
      · simp only [Act.put, sT, sZ, sU, i64_w, i32_w]
        rfl
      refine pure_ (i := 6) (N := some 55) (v := ?_) (a' := ?_) #[true, true, true, true, true, true, true, false, true, false, false, false, false] rfl rfl (any_of HT_.out (by kernel_rfl)) (fun _ _ _ h => h) (Or.inl ⟨by rfl, ?_⟩) ?_ ?_
      rotate_left
      · intro w'
        go_simp
        with_reducible rfl
      rotate_left
      · simp only [Act.put, sT, sZ, sU, i64_w, i32_w]
        rfl
      refine take_ (i := 7) (N := some 56) (v := ?_) (a' := ?_) #[true, true, true, true, true, true, true, true, true, false, false, false, false] rfl rfl (take_ofW HT_.out HW_.out (by kernel_rfl)) (fun _ _ _ h => h) (Or.inl ⟨by rfl, ?_⟩) hHeld ?_ ?_
      rotate_left
      · rintro w' ⟨s0, s1, s2, s3⟩
        go_simp
        with_reducible rfl
      rotate_left
      · simp only [Act.put, sT, sZ, sU, i64_w, i32_w]
        rfl
      refine take_ (i := 9) (N := some 58) (v := ?_) (a' := ?_) #[true, true, true, true, true, true, true, true, true, true, false, false, false] rfl rfl (take_ofW HT_.out HW_.out (by kernel_rfl)) (fun _ _ _ h => h) (Or.inl ⟨by rfl, ?_⟩) hHeld ?_ ?_
      rotate_left
      · rintro w' ⟨s0, s1, s2, s3⟩
        go_simp
        with_reducible rfl
      rotate_left
      · simp only [Act.put, sT, sZ, sU, i64_w, i32_w]
        rfl
      refine pure_ (i := 10) (N := some 59) (v := ?_) (a' := ?_) #[true, true, true, true, true, true, true, true, true, true, true, false, false] rfl rfl (any_of HT_.out (by kernel_rfl)) (fun _ _ _ h => h) (Or.inl ⟨by rfl, ?_⟩) ?_ ?_
      rotate_left
      · intro w'
        go_simp
        with_reducible rfl
      rotate_left
      · simp only [Act.put, sT, sZ, sU, i64_w, i32_w]
        rfl
      refine pure_ (i := 11) (N := some 60) (v := ?_) (a' := ?_) #[true, true, true, true, true, true, true, true, true, true, true, true, false] rfl rfl (any_of HT_.out (by kernel_rfl)) (fun _ _ _ h => h) (Or.inl ⟨by rfl, ?_⟩) ?_ ?_
      rotate_left
      · intro w'
        go_simp
        with_reducible rfl
      rotate_left
      · simp only [Act.put, sT, sZ, sU, i64_w, i32_w]
        rfl
      refine last_ (i := 12) (N := none) #[true, true, true, true, true, true, true, true, true, true, true, true, true] rfl rfl (one_of HT_.out (by kernel_rfl)) (by decide) (fun K hK => ?_)
      refine skip_ (w1 := ?_) (by rfl) rfl ?_ ?_
      rotate_left
      · go_simp
        rfl
      refine hK.out _ _ ?_
      clear hK K
      refine done_ (done_of HT_.out (by kernel_rfl)) ?_
      have n0_ : Aside0 (Kd.R (Kd.int .i64) 3 (w60.setCell ⟨go50, (((rd_T70 l0_1 x15_1).f1) : Int).toNat, none⟩ (.int .i64 (wrap64 ((rd x1_1 ((rd_T70 l0_1 x15_1).f0)) + ((rd_T70 l0_1 x15_1).f2))))) w0.heap.size (fun k_ => ((P1_ k_ ∨ P2_ k_ ∨ P3_ k_) ∨ w.heap.size ≤ k_) ∧ some k_ ≠ (u9001_ : Value).ownBlock) (.slice (some ⟨go50, 0, none⟩) x1_1.length co61) y130) := ⟨by (with_reducible repeat (first | apply rA | apply rN | apply rD)); exact HQ62.out⟩
      have n1_ : Aside0 (Kd.R (Kd.int .i64) 3 (w60.setCell ⟨go50, (((rd_T70 l0_1 x15_1).f1) : Int).toNat, none⟩ (.int .i64 (wrap64 ((rd x1_1 ((rd_T70 l0_1 x15_1).f0)) + ((rd_T70 l0_1 x15_1).f2))))) w0.heap.size (fun k_ => ((P1_ k_ ∨ P2_ k_ ∨ P3_ k_) ∨ w.heap.size ≤ k_) ∧ some k_ ≠ (.slice (some ⟨go50, 0, none⟩) x1_1.length co61 : Value).ownBlock) u9001_ x2_1) := ⟨by (with_reducible repeat (first | apply rA | apply rN | apply rD)); exact Kd.R_mono (Kd.R_far (p := ⟨go50, (((rd_T70 l0_1 x15_1).f1) : Int).toNat, none⟩) (Kd.R_mono HO_2.out (fun k_ hk => (⟨hk, fun e_ => hk.2 (by rw [e_]; rfl)⟩ : _ ∧ k_ ≠ go50))) (fun _ hk => hk.2) (.int .i64 (wrap64 ((rd x1_1 ((rd_T70 l0_1 x15_1).f0)) + ((rd_T70 l0_1 x15_1).f2))))) (fun _ hk => ⟨hk.1.1, hk.1.2⟩)⟩
      have n2_ : Aside0 (Kd.R Kd.bool 4 (w60.setCell ⟨go50, (((rd_T70 l0_1 x15_1).f1) : Int).toNat, none⟩ (.int .i64 (wrap64 ((rd x1_1 ((rd_T70 l0_1 x15_1).f0)) + ((rd_T70 l0_1 x15_1).f2))))) w0.heap.size (fun k_ => ((P1_ k_ ∨ P2_ k_ ∨ P3_ k_) ∨ w.heap.size ≤ k_)) (.slice (some ad121) x3_1.length co59) x3_1) := ⟨by (with_reducible repeat (first | apply rA | apply rN | apply rD)); exact Kd.R_mono (Kd.R_far (p := ⟨go50, (((rd_T70 l0_1 x15_1).f1) : Int).toNat, none⟩) (Kd.R_types HO_3.out GG50.out (by decide)) (fun _ hk => hk.2) (.int .i64 (wrap64 ((rd x1_1 ((rd_T70 l0_1 x15_1).f0)) + ((rd_T70 l0_1 x15_1).f2))))) (fun _ hk => hk.1)⟩
      have n3_ : Aside0 ((w60.setCell ⟨go50, (((rd_T70 l0_1 x15_1).f1) : Int).toNat, none⟩ (.int .i64 (wrap64 ((rd x1_1 ((rd_T70 l0_1 x15_1).f0)) + ((rd_T70 l0_1 x15_1).f2))))).heap[gb118]? = some (.cells #[.int .i64 a0_0, .slice (some ad119) l0_1.length c0_1] 33 (0, 0))) := ⟨by (with_reducible repeat (first | refine kN ?_ _ | refine kD ?_ | refine kA ?_ _)); refine blk_far ?_ (by have h_ := Kd.R_ne HO_1.out BK118.out (by decide); intro e_; exact h_ (by rw [e_]; rfl)) _; (with_reducible repeat (first | refine kN ?_ _ | refine kD ?_ | refine kA ?_ _)); exact BK118.out⟩
      have n4_ : Aside0 ((w60.setCell ⟨go50, (((rd_T70 l0_1 x15_1).f1) : Int).toNat, none⟩ (.int .i64 (wrap64 ((rd x1_1 ((rd_T70 l0_1 x15_1).f0)) + ((rd_T70 l0_1 x15_1).f2))))).heap[gb120]? = some (.cells #[.int .i64 ((rd_T70 l0_1 x15_1).f0), .int .i64 ((rd_T70 l0_1 x15_1).f1), .int .i64 ((rd_T70 l0_1 x15_1).f2)] 70 (0, 0))) := ⟨by (with_reducible repeat (first | refine kN ?_ _ | refine kD ?_ | refine kA ?_ _)); refine blk_far ?_ (by have h_ := Kd.R_ne HO_1.out BK120.out (by decide); intro e_; exact h_ (by rw [e_]; rfl)) _; (with_reducible repeat (first | refine kN ?_ _ | refine kD ?_ | refine kA ?_ _)); exact BK120.out⟩
      have n5_ : Aside0 (Kept w (w60.setCell ⟨go50, (((rd_T70 l0_1 x15_1).f1) : Int).toNat, none⟩ (.int .i64 (wrap64 ((rd x1_1 ((rd_T70 l0_1 x15_1).f0)) + ((rd_T70 l0_1 x15_1).f2))))) (fun k_ => P1_ k_ ∨ P2_ k_ ∨ P3_ k_)) := ⟨by repeat (first | (with_reducible first | exact HK.out | apply Kept.alloc | apply Kept.drewN | apply Kept.drew | refine Kept.setCell ?_ HMgo50.out _ | refine Kept.setCell ?_ (.inr GW118.out) _ | refine Kept.setCell ?_ (.inr GW120.out) _) | exact HK.out)⟩
      have n6_ : Aside0 (Below w0.heap.size w0 (w60.setCell ⟨go50, (((rd_T70 l0_1 x15_1).f1) : Int).toNat, none⟩ (.int .i64 (wrap64 ((rd x1_1 ((rd_T70 l0_1 x15_1).f0)) + ((rd_T70 l0_1 x15_1).f2)))))) := ⟨by repeat (first | (with_reducible first | exact HB.out | apply bA | apply bN | apply bD | refine bS ?_ GB50.out | refine bS ?_ GE118.out | refine bS ?_ GE120.out) | exact HB.out)⟩
      (try clear HO_1)
      (try clear HO_2)
      (try clear HO_3)
      (try clear BK118)
      (try clear BK120)
      (try clear HK)
      (try clear HB)
      generalize (w60.setCell ⟨go50, (((rd_T70 l0_1 x15_1).f1) : Int).toNat, none⟩ (.int .i64 (wrap64 ((rd x1_1 ((rd_T70 l0_1 x15_1).f0)) + ((rd_T70 l0_1 x15_1).f2))))) = w63 at n0_ n1_ n2_ n3_ n4_ n5_ n6_ ⊢
      have HO_1 := n0_
      have HO_2 := n1_
      have HO_3 := n2_
      have BK118 := n3_
      have BK120 := n4_
      have HK := n5_
      have HB := n6_
      clear n0_ n1_ n2_ n3_ n4_ n5_ n6_
      have hcz64_0 : w63.cell? ⟨gb120, 0, none⟩ = some (.int .i64 ((rd_T70 l0_1 x15_1).f0)) := (blk_cell BK120.out 0).trans rfl
      have hcz64_1 : w63.cell? ⟨gb120, 1, none⟩ = some (.int .i64 ((rd_T70 l0_1 x15_1).f1)) := (blk_cell BK120.out 1).trans rfl
      have hcz64_2 : w63.cell? ⟨gb120, 2, none⟩ = some (.int .i64 ((rd_T70 l0_1 x15_1).f2)) := (blk_cell BK120.out 2).trans rfl
      have hfz64_0 := blk_frozen BK120.out 0
      have hfz64_1 := blk_frozen BK120.out 1
      have hfz64_2 := blk_frozen BK120.out 2
      have p51 : 0 ≤ (((rd_T70 l0_1 x15_1).f1) : Int) := of_decide_eq_true (by first | (with_reducible assumption) | assumption)
      have q51 : (((rd_T70 l0_1 x15_1).f1) : Int) < ((x3_1.length : Int) : Int) := of_decide_eq_true (by first | (with_reducible assumption) | assumption)
      obtain ⟨go51, co51, eo51, gb51, gl51, cl51, HG51⟩ := Kd.R_form HO_3.out (by omega)
      (first | cases eo51 | (injection eo51 with ea_ en_ ec_; (first | subst ea_ | (injection ea_ with ea_; subst ea_)); subst ec_; clear en_))
      have GB51 := mK gb51
      have GG51 := mK HG51
      clear gb51 gl51 HG51
      have HMgo51 := mK (show ((P1_ go51 ∨ P2_ go51 ∨ P3_ go51) ∨ w.heap.size ≤ go51) from (HO_3.out.1 _ rfl))
      (first | simp only [add_plain] at hx121_0 | skip)
      (first | simp only [add_plain] at hx122_0 | skip)
      obtain ⟨hx51_0, hf51_0⟩ := Kd.R_celln false HO_3.out (((rd_T70 l0_1 x15_1).f1) : Int) p51 q51
      replace p51 := eq_true p51
      replace q51 := eq_true q51
      obtain ⟨hy65_, hz65_⟩ := Kd.R_celln false HO_3.out (((rd_T70 l0_1 x15_1).f1) : Int) (of_decide_eq_true (by first | (with_reducible assumption) | assumption)) (of_decide_eq_true (by first | (with_reducible assumption) | assumption))
      have HP65 := Kd.R_putg HO_3.out (((rd_T70 l0_1 x15_1).f1) : Int) true
      try go_wp2_with (first | ((with_reducible refine gate_store (t := 4) (p := 64) rfl ?_); refine store_event (t := 4) (p := 64) (v := ?vo_w66) (w1 := (w63.setCell ⟨go51, (((rd_T70 l0_1 x15_1).f1) : Int).toNat, none⟩ (.bool true))) ?hg ?ho ?hn ?hr ?_; (case ho => rfl); (case hg => rfl); (case hn => rfl); (case hr => first | (go_simp; done) | (go_simp; rfl)); intro w66 hw; have hg : w63.grownBy w66 (some go51) := (by rw [hw]; exact HP65.2); have hp_ : Kd.R Kd.bool 4 w66 w0.heap.size (fun k_ => ((P1_ k_ ∨ P2_ k_ ∨ P3_ k_) ∨ w.heap.size ≤ k_)) (.slice (some ⟨go51, 0, none⟩) x3_1.length co59) y131 := (by rw [hw, Ny131.out]; exact HP65.1); clear HP65; have n0_ := mK (Kd.R_over' (v := (.slice (some ⟨go51, 0, none⟩) x3_1.length co59)) (by (with_reducible repeat (first | apply rA | apply rN | apply rD)); exact HO_1.out) (Kd.R_typed HO_3.out) (by decide) hg); have n1_ := mK (Kd.R_over' (v := (.slice (some ⟨go51, 0, none⟩) x3_1.length co59)) (by (with_reducible repeat (first | apply rA | apply rN | apply rD)); exact HO_2.out) (Kd.R_typed HO_3.out) (by decide) hg); have n2_ := mK (hp_); have n3_ := mK (blk_grown (by (with_reducible repeat (first | refine kN ?_ _ | refine kD ?_ | refine kA ?_ _)); exact BK118.out) hg (Kd.R_ne HO_3.out BK118.out (by decide))); have n4_ := mK (blk_grown (by (with_reducible repeat (first | refine kN ?_ _ | refine kD ?_ | refine kA ?_ _)); exact BK120.out) hg (Kd.R_ne HO_3.out BK120.out (by decide))); have n5_ := mK ((by rw [hw]; exact below_set (HB.out) GB51.out : Below w0.heap.size w0 w66)); have n6_ := mK (Kept.of_grown (S := (fun k_ => P1_ k_ ∨ P2_ k_ ∨ P3_ k_)) hg (by repeat (first | (with_reducible first | exact HK.out | apply Kept.alloc | apply Kept.drewN | apply Kept.drew | refine Kept.setCell ?_ (.inr GW118.out) _ | refine Kept.setCell ?_ (.inr GW120.out) _) | exact HK.out)) (fun k_ e_ => (HO_3.out.1 k_ e_))); clear HO_1; clear HO_2; clear HO_3; clear BK118; clear BK120; clear HB; clear HK; have HO_1 := n0_; have HO_2 := n1_; have HO_3 := n2_; have BK118 := n3_; have BK120 := n4_; have HB := n5_; have HK := n6_; clear n0_ n1_ n2_ n3_ n4_ n5_ n6_; clear hg hw hp_; have hcz67_0 : w66.cell? ⟨gb120, 0, none⟩ = some (.int .i64 ((rd_T70 l0_1 x15_1).f0)) := (blk_cell BK120.out 0).trans rfl; have hcz67_1 : w66.cell? ⟨gb120, 1, none⟩ = some (.int .i64 ((rd_T70 l0_1 x15_1).f1)) := (blk_cell BK120.out 1).trans rfl; have hcz67_2 : w66.cell? ⟨gb120, 2, none⟩ = some (.int .i64 ((rd_T70 l0_1 x15_1).f2)) := (blk_cell BK120.out 2).trans rfl; have hfz67_0 := blk_frozen BK120.out 0; have hfz67_1 := blk_frozen BK120.out 1; have hfz67_2 := blk_frozen BK120.out 2; have p53 : 0 ≤ (((rd_T70 l0_1 x15_1).f1) : Int) := of_decide_eq_true (by first | (with_reducible assumption) | assumption); have q53 : (((rd_T70 l0_1 x15_1).f1) : Int) < ((x2_1.length : Int) : Int) := of_decide_eq_true (by first | (with_reducible assumption) | assumption); obtain ⟨go53, co53, eo53, gb53, gl53, cl53, HG53⟩ := Kd.R_form HO_2.out (by omega); (first | cases eo53 | (injection eo53 with ea_ en_ ec_; (first | subst ea_ | (injection ea_ with ea_; subst ea_)); subst ec_; clear en_)); have GB53 := mK gb53; have GG53 := mK HG53; clear gb53 gl53 HG53; have HMgo53 := mK (show ((P1_ go53 ∨ P2_ go53 ∨ P3_ go53) ∨ w.heap.size ≤ go53) from (HO_2.out.1 _ rfl).1); obtain ⟨hx53_0, hf53_0⟩ := Kd.R_celln 0 HO_2.out (((rd_T70 l0_1 x15_1).f1) : Int) p53 q53; replace p53 := eq_true p53; replace q53 := eq_true q53; obtain ⟨hy68_, hz68_⟩ := Kd.R_celln 0 HO_2.out (((rd_T70 l0_1 x15_1).f1) : Int) (of_decide_eq_true (by first | (with_reducible assumption) | assumption)) (of_decide_eq_true (by first | (with_reducible assumption) | assumption)); have HP68 := Kd.R_putg HO_2.out (((rd_T70 l0_1 x15_1).f1) : Int) x15_1) | ((with_reducible refine gate_store (t := 3) (p := 69) rfl ?_); refine store_event (t := 3) (p := 69) (v := ?vo_w69) (w1 := (w66.setCell ⟨go53, (((rd_T70 l0_1 x15_1).f1) : Int).toNat, none⟩ (.int .i64 x15_1))) ?hg ?ho ?hn ?hr ?_; (case ho => rfl); (case hg => rfl); (case hn => rfl); (case hr => first | (go_simp; done) | (go_simp; rfl)); intro w69 hw; have hg : w66.grownBy w69 (some go53) := (by rw [hw]; exact HP68.2); have hp_ : Kd.R (Kd.int .i64) 3 w69 w0.heap.size (fun k_ => ((P1_ k_ ∨ P2_ k_ ∨ P3_ k_) ∨ w.heap.size ≤ k_) ∧ some k_ ≠ (.slice (some ⟨go50, 0, none⟩) x1_1.length co61 : Value).ownBlock) (.slice (some ⟨go53, 0, none⟩) x2_1.length co53) y132 := (by rw [hw, Ny132.out]; exact HP68.1); clear HP68; have n0_ := mK (Kd.R_after (v := (.slice (some ⟨go53, 0, none⟩) x2_1.length co53)) (v1 := (.slice (some ⟨go53, 0, none⟩) x2_1.length co53)) (ok := (fun k_ => ((P1_ k_ ∨ P2_ k_ ∨ P3_ k_) ∨ w.heap.size ≤ k_))) (by (with_reducible repeat (first | apply rA | apply rN | apply rD)); exact HO_1.out) hg (.inl rfl)); have n1_ := mK (hp_); have n2_ := mK (Kd.R_over' (v := (.slice (some ⟨go53, 0, none⟩) x2_1.length co53)) (by (with_reducible repeat (first | apply rA | apply rN | apply rD)); exact HO_3.out) (Kd.R_typed HO_2.out) (by decide) hg); have n3_ := mK (blk_grown (by (with_reducible repeat (first | refine kN ?_ _ | refine kD ?_ | refine kA ?_ _)); exact BK118.out) hg (Kd.R_ne HO_2.out BK118.out (by decide))); have n4_ := mK (blk_grown (by (with_reducible repeat (first | refine kN ?_ _ | refine kD ?_ | refine kA ?_ _)); exact BK120.out) hg (Kd.R_ne HO_2.out BK120.out (by decide))); have n5_ := mK ((by rw [hw]; exact below_set (HB.out) GB53.out : Below w0.heap.size w0 w69)); have n6_ := mK (Kept.of_grown (S := (fun k_ => P1_ k_ ∨ P2_ k_ ∨ P3_ k_)) hg (by repeat (first | (with_reducible first | exact HK.out | apply Kept.alloc | apply Kept.drewN | apply Kept.drew | refine Kept.setCell ?_ (.inr GW118.out) _ | refine Kept.setCell ?_ (.inr GW120.out) _) | exact HK.out)) (fun k_ e_ => (HO_2.out.1 k_ e_).1)); clear HO_1; clear HO_2; clear HO_3; clear BK118; clear BK120; clear HB; clear HK; have HO_1 := n0_; have HO_2 := n1_; have HO_3 := n2_; have BK118 := n3_; have BK120 := n4_; have HB := n5_; have HK := n6_; clear n0_ n1_ n2_ n3_ n4_ n5_ n6_; clear hg hw hp_))
      go_roundg k1
      case measure => have := HK1.out; omega
      case rel => exact ⟨(y130), (y132), (y131), (x15_1), (wrap64 (x15_1 + 1)), (by first | rfl | (simp; done) | (simp [*]; done)), (by first | rfl | (simp; done) | (simp [*]; done)), H', ⟨by have := HK1.out; omega⟩, ⟨by (with_reducible repeat (first | apply rA | apply rN | apply rD)); exact HO_1.out⟩, ⟨by (with_reducible repeat (first | apply rA | apply rN | apply rD)); exact HO_2.out⟩, ⟨by (with_reducible repeat (first | apply rA | apply rN | apply rD)); exact HO_3.out⟩, ⟨by (with_reducible repeat (first | refine kN ?_ _ | refine kD ?_ | refine kA ?_ _)); exact BK118.out⟩, ⟨by repeat (first | (with_reducible first | exact HK.out | apply Kept.alloc | apply Kept.drewN | apply Kept.drew | refine Kept.setCell ?_ (.inr GW118.out) _ | refine Kept.setCell ?_ (.inr GW120.out) _) | exact HK.out)⟩, ⟨by repeat (first | (with_reducible first | exact HB.out | apply bA | apply bN | apply bD | refine bS ?_ GE118.out | refine bS ?_ GE120.out) | exact HB.out)⟩⟩
    subst c17
    have H1 : (if ((rd_T70 l0_1 x15_1).f0) < (x1_1.length : Int) then (if ((rd_T70 l0_1 x15_1).f1) < (x1_1.length : Int) then (if (wrap64 ((rd x1_1 ((rd_T70 l0_1 x15_1).f0)) + ((rd_T70 l0_1 x15_1).f2))) < (rd x1_1 ((rd_T70 l0_1 x15_1).f1)) then (if ((rd_T70 l0_1 x15_1).f1) < (x2_1.length : Int) then (spec_l03Round.l0 k1 (x1_1.set (((rd_T70 l0_1 x15_1).f1) : Int).toNat (wrap64 ((rd x1_1 ((rd_T70 l0_1 x15_1).f0)) + ((rd_T70 l0_1 x15_1).f2)))) (x2_1.set (((rd_T70 l0_1 x15_1).f1) : Int).toNat x15_1) (x3_1.set (((rd_T70 l0_1 x15_1).f1) : Int).toNat true) x15_1 l0_1 (l0_1.length : Int) (wrap64 (x15_1 + 1))) else (none)) else (spec_l03Round.l0 k1 x1_1 x2_1 x3_1 x9_1 l0_1 (l0_1.length : Int) (wrap64 (x15_1 + 1)))) else (none)) else (none)) = some (r1, r2, r3, r4) := by rw [if_pos rfl] at H; exact H
    clear H
    have H := H1
    clear H1
    by_cases c18 : ((rd_T70 l0_1 x15_1).f0) < (x1_1.length : Int)
    rotate_left
    · rw [if_neg c18] at H
      exact absurd H (by simp)
    rw [if_pos c18] at H
    have c18b0 : decide (((rd_T70 l0_1 x15_1).f0) < (x1_1.length : Int)) = true := decide_eq_true c18
    clear c18
    by_cases c19 : ((rd_T70 l0_1 x15_1).f1) < (x1_1.length : Int)
    rotate_left
    · rw [if_neg c19] at H
      exact absurd H (by simp)
    rw [if_pos c19] at H
    have c19b0 : decide (((rd_T70 l0_1 x15_1).f1) < (x1_1.length : Int)) = true := decide_eq_true c19
    clear c19
    by_cases c20 : (wrap64 ((rd x1_1 ((rd_T70 l0_1 x15_1).f0)) + ((rd_T70 l0_1 x15_1).f2))) < (rd x1_1 ((rd_T70 l0_1 x15_1).f1))
    rotate_left
    · rw [if_neg c20] at H
      have c20b0 : decide ((wrap64 ((rd x1_1 ((rd_T70 l0_1 x15_1).f0)) + ((rd_T70 l0_1 x15_1).f2))) < (rd x1_1 ((rd_T70 l0_1 x15_1).f1))) = false := decide_eq_false c20
      clear c20
      have H' := mK H
      clear H
      have p119 : 0 ≤ (x15_1 : Int) := of_decide_eq_true (by first | (with_reducible assumption) | assumption)
      have q119 : x15_1 < (l0_1.length : Int) := of_decide_eq_true (by first | (with_reducible assumption) | assumption)
      obtain ⟨ad119, e119, hx119_0, hx119_1, hx119_2⟩ := at_T70 (Kd.C_kept_now HR0_1.out HK.out) x15_1 p119 q119
      cases e119
      replace p119 := eq_true p119
      replace q119 := eq_true q119
      try go_wp2_with (first | ((with_reducible refine gate_dst (N := 11) rfl ?_); refine box_event ?hg (N := 11) ?hd (cs := #[.int .i64 0, .int .i64 0, .int .i64 0]) (t := 70) ?hr ?_; (case hd => rfl); (case hg => rfl); (case hr => first | (go_simp; done) | (go_simp; rfl)); intro gb120 hg w41 hbox hb; have n0_ := mK (Kd.R_below (by (with_reducible repeat (first | apply rA | apply rN | apply rD)); exact HO_1.out) hb); have n1_ := mK (Kd.R_below (by (with_reducible repeat (first | apply rA | apply rN | apply rD)); exact HO_2.out) hb); have n2_ := mK (Kd.R_below (by (with_reducible repeat (first | apply rA | apply rN | apply rD)); exact HO_3.out) hb); have n3_ := mK (blk_below (by (with_reducible repeat (first | refine kN ?_ _ | refine kD ?_ | refine kA ?_ _)); exact BK118.out) hb); have n4_ := mK (Kept.below (S := (fun k_ => P1_ k_ ∨ P2_ k_ ∨ P3_ k_)) (by repeat (first | (with_reducible first | exact HK.out | apply Kept.alloc | apply Kept.drewN | apply Kept.drew | refine Kept.setCell ?_ (.inr GW118.out) _) | exact HK.out)) hb); have n5_ := mK (below_step (by repeat (first | (with_reducible first | exact HB.out | apply bA | apply bN | apply bD | refine bS ?_ GE118.out) | exact HB.out)) hb); have n6_ := mK (hbox); have n7_ := mK ((by rw [hg]; exact (by first | exact HK.out.1 | exact (show Kept w _ (fun k_ => P1_ k_ ∨ P2_ k_ ∨ P3_ k_) from by repeat (first | (with_reducible first | exact HK.out | apply Kept.alloc | apply Kept.drewN | apply Kept.drew | refine Kept.setCell ?_ (.inr GW118.out) _) | exact HK.out)).1) : w.heap.size ≤ gb120)); have n8_ := mK ((by rw [hg]; exact (below_size (by repeat (first | (with_reducible first | exact HB.out | apply bA | apply bN | apply bD | refine bS ?_ GE118.out) | exact HB.out))) : w0.heap.size ≤ gb120)); have n9_ := mK ((by rw [hg]; exact Nat.ne_of_lt (blk_lt (by (with_reducible repeat (first | refine kN ?_ _ | refine kD ?_ | refine kA ?_ _)); exact BK118.out)) : gb118 ≠ gb120)); have n10_ := mK ((by rw [hg]; exact Nat.ne_of_gt (blk_lt (by (with_reducible repeat (first | refine kN ?_ _ | refine kD ?_ | refine kA ?_ _)); exact BK118.out)) : gb120 ≠ gb118)); clear HO_1; clear HO_2; clear HO_3; clear BK118; clear HK; clear HB; have HO_1 := n0_; have HO_2 := n1_; have HO_3 := n2_; have BK118 := n3_; have HK := n4_; have HB := n5_; have BK120 := n6_; have GW120 := n7_; have GE120 := n8_; have NB118_120 := n9_; have NB120_118 := n10_; clear n0_ n1_ n2_ n3_ n4_ n5_ n6_ n7_ n8_ n9_ n10_; clear hb hbox hg; have hnb42 := NB120_118.out; have hnc42 := NB118_120.out; have hcz43_0 : w41.cell? ⟨gb120, 0, none⟩ = some (.int .i64 0) := (blk_cell BK120.out 0).trans rfl; have hcz43_1 : w41.cell? ⟨gb120, 1, none⟩ = some (.int .i64 0) := (blk_cell BK120.out 1).trans rfl; have hcz43_2 : w41.cell? ⟨gb120, 2, none⟩ = some (.int .i64 0) := (blk_cell BK120.out 2).trans rfl; have hfz43_0 := blk_frozen BK120.out 0; have hfz43_1 := blk_frozen BK120.out 1; have hfz43_2 := blk_frozen BK120.out 2))
      have n0_ : Aside0 (Kd.R (Kd.int .i64) 3 (((w41.setCell ⟨gb120, 0, none⟩ (.int .i64 ((rd_T70 l0_1 x15_1).f0))).setCell ⟨gb120, 1, none⟩ (.int .i64 ((rd_T70 l0_1 x15_1).f1))).setCell ⟨gb120, 2, none⟩ (.int .i64 ((rd_T70 l0_1 x15_1).f2))) w0.heap.size (fun k_ => ((P1_ k_ ∨ P2_ k_ ∨ P3_ k_) ∨ w.heap.size ≤ k_) ∧ some k_ ≠ (u9001_ : Value).ownBlock) u9000_ x1_1) := ⟨by (with_reducible repeat (first | apply rA | apply rN | apply rD)); exact Kd.R_mono (Kd.R_far (p := ⟨gb120, 2, none⟩) (Kd.R_far (p := ⟨gb120, 1, none⟩) (Kd.R_far (p := ⟨gb120, 0, none⟩) (Kd.R_types HO_1.out BK120.out (by decide)) (fun _ hk => hk.2) (.int .i64 ((rd_T70 l0_1 x15_1).f0))) (fun _ hk => hk.2) (.int .i64 ((rd_T70 l0_1 x15_1).f1))) (fun _ hk => hk.2) (.int .i64 ((rd_T70 l0_1 x15_1).f2))) (fun _ hk => ⟨hk.1.1, hk.1.2⟩)⟩
      have n1_ : Aside0 (Kd.R (Kd.int .i64) 3 (((w41.setCell ⟨gb120, 0, none⟩ (.int .i64 ((rd_T70 l0_1 x15_1).f0))).setCell ⟨gb120, 1, none⟩ (.int .i64 ((rd_T70 l0_1 x15_1).f1))).setCell ⟨gb120, 2, none⟩ (.int .i64 ((rd_T70 l0_1 x15_1).f2))) w0.heap.size (fun k_ => ((P1_ k_ ∨ P2_ k_ ∨ P3_ k_) ∨ w.heap.size ≤ k_) ∧ some k_ ≠ (u9000_ : Value).ownBlock) u9001_ x2_1) := ⟨by (with_reducible repeat (first | apply rA | apply rN | apply rD)); exact Kd.R_mono (Kd.R_far (p := ⟨gb120, 2, none⟩) (Kd.R_far (p := ⟨gb120, 1, none⟩) (Kd.R_far (p := ⟨gb120, 0, none⟩) (Kd.R_types HO_2.out BK120.out (by decide)) (fun _ hk => hk.2) (.int .i64 ((rd_T70 l0_1 x15_1).f0))) (fun _ hk => hk.2) (.int .i64 ((rd_T70 l0_1 x15_1).f1))) (fun _ hk => hk.2) (.int .i64 ((rd_T70 l0_1 x15_1).f2))) (fun _ hk => ⟨hk.1.1, hk.1.2⟩)⟩
      have n2_ : Aside0 (Kd.R Kd.bool 4 (((w41.setCell ⟨gb120, 0, none⟩ (.int .i64 ((rd_T70 l0_1 x15_1).f0))).setCell ⟨gb120, 1, none⟩ (.int .i64 ((rd_T70 l0_1 x15_1).f1))).setCell ⟨gb120, 2, none⟩ (.int .i64 ((rd_T70 l0_1 x15_1).f2))) w0.heap.size (fun k_ => ((P1_ k_ ∨ P2_ k_ ∨ P3_ k_) ∨ w.heap.size ≤ k_)) u9002_ x3_1) := ⟨by (with_reducible repeat (first | apply rA | apply rN | apply rD)); exact Kd.R_mono (Kd.R_far (p := ⟨gb120, 2, none⟩) (Kd.R_far (p := ⟨gb120, 1, none⟩) (Kd.R_far (p := ⟨gb120, 0, none⟩) (Kd.R_types HO_3.out BK120.out (by decide)) (fun _ hk => hk.2) (.int .i64 ((rd_T70 l0_1 x15_1).f0))) (fun _ hk => hk.2) (.int .i64 ((rd_T70 l0_1 x15_1).f1))) (fun _ hk => hk.2) (.int .i64 ((rd_T70 l0_1 x15_1).f2))) (fun _ hk => hk.1)⟩
      have n3_ : Aside0 ((((w41.setCell ⟨gb120, 0, none⟩ (.int .i64 ((rd_T70 l0_1 x15_1).f0))).setCell ⟨gb120, 1, none⟩ (.int .i64 ((rd_T70 l0_1 x15_1).f1))).setCell ⟨gb120, 2, none⟩ (.int .i64 ((rd_T70 l0_1 x15_1).f2))).heap[gb118]? = some (.cells #[.int .i64 a0_0, .slice (some ad119) l0_1.length c0_1] 33 (0, 0))) := ⟨by (with_reducible repeat (first | refine kN ?_ _ | refine kD ?_ | refine kA ?_ _)); refine blk_far ?_ NB118_120.out _; (with_reducible repeat (first | refine kN ?_ _ | refine kD ?_ | refine kA ?_ _)); refine blk_far ?_ NB118_120.out _; (with_reducible repeat (first | refine kN ?_ _ | refine kD ?_ | refine kA ?_ _)); refine blk_far ?_ NB118_120.out _; (with_reducible repeat (first | refine kN ?_ _ | refine kD ?_ | refine kA ?_ _)); exact BK118.out⟩
      have n4_ : Aside0 ((((w41.setCell ⟨gb120, 0, none⟩ (.int .i64 ((rd_T70 l0_1 x15_1).f0))).setCell ⟨gb120, 1, none⟩ (.int .i64 ((rd_T70 l0_1 x15_1).f1))).setCell ⟨gb120, 2, none⟩ (.int .i64 ((rd_T70 l0_1 x15_1).f2))).heap[gb120]? = some (.cells #[.int .i64 ((rd_T70 l0_1 x15_1).f0), .int .i64 ((rd_T70 l0_1 x15_1).f1), .int .i64 ((rd_T70 l0_1 x15_1).f2)] 70 (0, 0))) := ⟨by (with_reducible repeat (first | refine kN ?_ _ | refine kD ?_ | refine kA ?_ _)); refine blk_put (cs := #[.int .i64 ((rd_T70 l0_1 x15_1).f0), .int .i64 ((rd_T70 l0_1 x15_1).f1), .int .i64 0]) ?_ 2 _ rfl; (with_reducible repeat (first | refine kN ?_ _ | refine kD ?_ | refine kA ?_ _)); refine blk_put (cs := #[.int .i64 ((rd_T70 l0_1 x15_1).f0), .int .i64 0, .int .i64 0]) ?_ 1 _ rfl; (with_reducible repeat (first | refine kN ?_ _ | refine kD ?_ | refine kA ?_ _)); refine blk_put (cs := #[.int .i64 0, .int .i64 0, .int .i64 0]) ?_ 0 _ rfl; (with_reducible repeat (first | refine kN ?_ _ | refine kD ?_ | refine kA ?_ _)); exact BK120.out⟩
      have n5_ : Aside0 (Kept w (((w41.setCell ⟨gb120, 0, none⟩ (.int .i64 ((rd_T70 l0_1 x15_1).f0))).setCell ⟨gb120, 1, none⟩ (.int .i64 ((rd_T70 l0_1 x15_1).f1))).setCell ⟨gb120, 2, none⟩ (.int .i64 ((rd_T70 l0_1 x15_1).f2))) (fun k_ => P1_ k_ ∨ P2_ k_ ∨ P3_ k_)) := ⟨by repeat (first | (with_reducible first | exact HK.out | apply Kept.alloc | apply Kept.drewN | apply Kept.drew | refine Kept.setCell ?_ (.inr GW118.out) _ | refine Kept.setCell ?_ (.inr GW120.out) _) | exact HK.out)⟩
      have n6_ : Aside0 (Below w0.heap.size w0 (((w41.setCell ⟨gb120, 0, none⟩ (.int .i64 ((rd_T70 l0_1 x15_1).f0))).setCell ⟨gb120, 1, none⟩ (.int .i64 ((rd_T70 l0_1 x15_1).f1))).setCell ⟨gb120, 2, none⟩ (.int .i64 ((rd_T70 l0_1 x15_1).f2)))) := ⟨by repeat (first | (with_reducible first | exact HB.out | apply bA | apply bN | apply bD | refine bS ?_ GE118.out | refine bS ?_ GE120.out) | exact HB.out)⟩
      (try clear HO_1)
      (try clear HO_2)
      (try clear HO_3)
      (try clear BK118)
      (try clear BK120)
      (try clear HK)
      (try clear HB)
      generalize (((w41.setCell ⟨gb120, 0, none⟩ (.int .i64 ((rd_T70 l0_1 x15_1).f0))).setCell ⟨gb120, 1, none⟩ (.int .i64 ((rd_T70 l0_1 x15_1).f1))).setCell ⟨gb120, 2, none⟩ (.int .i64 ((rd_T70 l0_1 x15_1).f2))) = w44 at n0_ n1_ n2_ n3_ n4_ n5_ n6_ ⊢
      have HO_1 := n0_
      have HO_2 := n1_
      have HO_3 := n2_
      have BK118 := n3_
      have BK120 := n4_
      have HK := n5_
      have HB := n6_
      clear n0_ n1_ n2_ n3_ n4_ n5_ n6_
      have n0_ := mK (Kd.R_drew HO_1.out)
      have n1_ := mK (Kd.R_drew HO_2.out)
      have n2_ := mK (Kd.R_drew HO_3.out)
      have n3_ := mK (blk_drew BK118.out)
      have n4_ := mK (blk_drew BK120.out)
      have n5_ := mK (Kept.drew HK.out)
      have n6_ := mK (below_drew1 HB.out)
      clear HO_1
      clear HO_2
      clear HO_3
      clear BK118
      clear BK120
      clear HK
      clear HB
      have HO_1 := n0_
      have HO_2 := n1_
      have HO_3 := n2_
      have BK118 := n3_
      have BK120 := n4_
      have HK := n5_
      have HB := n6_
      clear n0_ n1_ n2_ n3_ n4_ n5_ n6_
      obtain ⟨Ao46, co46, eo46⟩ := Kd.R_slice HO_3.out
      (first | subst eo46 | (injection eo46 with f1_ f2_ f3_; have f4_ := f1_.symm; have f5_ := f3_.symm; clear f1_ f2_ f3_; subst f4_; subst f5_))
      have p121 : 0 ≤ (((rd_T70 l0_1 x15_1).f0) : Int) := of_decide_eq_true (by first | (with_reducible assumption) | assumption)
      have q121 : ((rd_T70 l0_1 x15_1).f0) < (x3_1.length : Int) := of_decide_eq_true (by first | (with_reducible assumption) | assumption)
      obtain ⟨ad121, e121, hx121_0⟩ := Kd.at_bool (Kd.R_reads' HO_3.out).2.2 ((rd_T70 l0_1 x15_1).f0) p121 q121
      (try rw [← Nbq12.out] at hx121_0)
      (try rw [← Nbq16.out] at hx121_0)
      cases e121
      replace p121 := eq_true p121
      replace q121 := eq_true q121
      have p122 : 0 ≤ (((rd_T70 l0_1 x15_1).f1) : Int) := of_decide_eq_true (by first | (with_reducible assumption) | assumption)
      have q122 : ((rd_T70 l0_1 x15_1).f1) < (x3_1.length : Int) := of_decide_eq_true (by first | (with_reducible assumption) | assumption)
      obtain ⟨ad122, e122, hx122_0⟩ := Kd.at_bool (Kd.R_reads' HO_3.out).2.2 ((rd_T70 l0_1 x15_1).f1) p122 q122
      (try rw [← Nbq12.out] at hx122_0)
      (try rw [← Nbq16.out] at hx122_0)
      obtain rfl : ad121 = ad122 := (by injection e122)
      replace p122 := eq_true p122
      replace q122 := eq_true q122
      obtain ⟨Ao47, co47, eo47⟩ := Kd.R_slice HO_1.out
      (first | subst eo47 | (injection eo47 with f1_ f2_ f3_; have f4_ := f1_.symm; have f5_ := f3_.symm; clear f1_ f2_ f3_; subst f4_; subst f5_))
      have p123 : 0 ≤ (((rd_T70 l0_1 x15_1).f0) : Int) := of_decide_eq_true (by first | (with_reducible assumption) | assumption)
      have q123 : ((rd_T70 l0_1 x15_1).f0) < (x1_1.length : Int) := of_decide_eq_true (by first | (with_reducible assumption) | assumption)
      obtain ⟨ad123, e123, hx123_0⟩ := Kd.at_int (Kd.R_reads' HO_1.out).2.2 ((rd_T70 l0_1 x15_1).f0) p123 q123
      cases e123
      replace p123 := eq_true p123
      replace q123 := eq_true q123
      have p124 : 0 ≤ (((rd_T70 l0_1 x15_1).f1) : Int) := of_decide_eq_true (by first | (with_reducible assumption) | assumption)
      have q124 : ((rd_T70 l0_1 x15_1).f1) < (x1_1.length : Int) := of_decide_eq_true (by first | (with_reducible assumption) | assumption)
      obtain ⟨ad124, e124, hx124_0⟩ := Kd.at_int (Kd.R_reads' HO_1.out).2.2 ((rd_T70 l0_1 x15_1).f1) p124 q124
      obtain rfl : ad123 = ad124 := (by injection e124)
      replace p124 := eq_true p124
      replace q124 := eq_true q124
      refine start_ (n := 29) (S := fun w' => w'.cell? ⟨gb120, 0, none⟩ = some (.int .i64 ((rd_T70 l0_1 x15_1).f0)) ∧ w'.cell? ⟨gb120, 1, none⟩ = some (.int .i64 ((rd_T70 l0_1 x15_1).f1)) ∧ w'.cell? ⟨gb120, 2, none⟩ = some (.int .i64 ((rd_T70 l0_1 x15_1).f2)) ∧ w'.cell? (ad121.add (((rd_T70 l0_1 x15_1).f0)).toNat) = some (.bool true) ∧ w'.cell? (ad121.add (((rd_T70 l0_1 x15_1).f1)).toNat) = some (.bool true) ∧ w'.cell? (ad123.add (((rd_T70 l0_1 x15_1).f0)).toNat) = some (.int .i64 (rd x1_1 ((rd_T70 l0_1 x15_1).f0))) ∧ w'.cell? (ad123.add (((rd_T70 l0_1 x15_1).f1)).toNat) = some (.int .i64 (rd x1_1 ((rd_T70 l0_1 x15_1).f1)))) (ds := []) #[false, false, false, false, false, false, false, false, false, false, false, false, false, false, false, false, false, false, false, false, false, false, false, false, false, false, false, false, false] (by kernel_rfl) rfl rfl ⟨(blk_cell BK120.out 0).trans rfl, (blk_cell BK120.out 1).trans rfl, (blk_cell BK120.out 2).trans rfl, hx121_0, hx122_0, hx123_0, hx124_0⟩ (fun hHeld => ?_); refine with_tabW spec_l03Round.tab5 spec_l03Round.bits5 (fun HT_ HW_ => ?_)
      generalize w44.drew = w45 at HO_1 HO_2 HO_3 BK118 BK120 HK HB hx121_0 hx122_0 hx123_0 hx124_0 hHeld ⊢
      refine pure_ (i := 0) (N := some 20) (v := ?_) (a' := ?_) #[true, false, false, false, false, false, false, false, false, false, false, false, false, false, false, false, false, false, false, false, false, false, false, false, false, false, false, false, false] rfl rfl (any_of HT_.out (by kernel_rfl)) (fun _ _ _ h => h) (Or.inl ⟨by rfl, ?_⟩) ?_ ?_
      rotate_left
      · intro w'
        go_simp
        with_reducible rfl
      rotate_left
      · simp only [Act.put, sT, sZ, sU, i64_w, i32_w]
        rfl
      refine pure_ (i := 1) (N := some 21) (v := ?_) (a' := ?_) #[true, true, false, false, false, false, false, false, false, false, false, false, false, false, false, false, false, false, false, false, false, false, false, false, false, false, false, false, false] rfl rfl (any_of HT_.out (by kernel_rfl)) (fun _ _ _ h => h) (Or.inl ⟨by rfl, ?_⟩) ?_ ?_
      rotate_left
      · intro w'
        go_simp
        with_reducible rfl
      rotate_left
      · simp only [Act.put, sT, sZ, sU, i64_w, i32_w]
        rfl
      refine take_ (i := 2) (N := some 22) (v := ?_) (a' := ?_) #[true, true, true, false, false, false, false, false, false, false, false, false, false, false, false, false, false, false, false, false, false, false, false, false, false, false, false, false, false] rfl rfl (take_ofW HT_.out HW_.out (by kernel_rfl)) (fun _ _ _ h => h) (Or.inl ⟨by rfl, ?_⟩) hHeld ?_ ?_
      rotate_left
      · rintro w' ⟨s0, s1, s2, s3, s4, s5, s6⟩
        go_simp
        with_reducible rfl
      rotate_left
      · simp only [Act.put, sT, sZ, sU, i64_w, i32_w]
        rfl
      refine pure_ (i := 3) (N := some 23) (v := ?_) (a' := ?_) #[true, true, true, true, false, false, false, false, false, false, false, false, false, false, false, false, false, false, false, false, false, false, false, false, false, false, false, false, false] rfl rfl (any_of HT_.out (by kernel_rfl)) (fun _ _ _ h => h) (Or.inl ⟨by rfl, ?_⟩) ?_ ?_
      rotate_left
      · intro w'
        go_simp
        with_reducible rfl
      rotate_left
      · simp only [Act.put, sT, sZ, sU, i64_w, i32_w]
        rfl
      refine take_ (i := 4) (N := some 24) (v := ?_) (a' := ?_) #[true, true, true, true, true, false, false, false, false, false, false, false, false, false, false, false, false, false, false, false, false, false, false, false, false, false, false, false, false] rfl rfl (take_ofW HT_.out HW_.out (by kernel_rfl)) (fun _ _ _ h => h) (Or.inl ⟨by rfl, ?_⟩) hHeld ?_ ?_
      rotate_left
      · rintro w' ⟨s0, s1, s2, s3, s4, s5, s6⟩
        go_simp
        with_reducible rfl
      rotate_left
      · simp only [Act.put, sT, sZ, sU, i64_w, i32_w]
        rfl
      refine pure_ (i := 5) (N := some 25) (v := ?_) (a' := ?_) #[true, true, true, true, true, true, false, false, false, false, false, false, false, false, false, false, false, false, false, false, false, false, false, false, false, false, false, false, false] rfl rfl (any_of HT_.out (by kernel_rfl)) (fun _ _ _ h => h) (Or.inl ⟨by rfl, ?_⟩) ?_ ?_
      rotate_left
      · intro w'
        go_simp
        with_reducible rfl
      rotate_left
      · simp only [Act.put, sT, sZ, sU, i64_w, i32_w]
        rfl
      refine pure_ (i := 6) (N := some 26) (v := ?_) (a' := ?_) #[true, true, true, true, true, true, true, false, false, false, false, false, false, false, false, false, false, false, false, false, false, false, false, false, false, false, false, false, false] rfl rfl (any_of HT_.out (by kernel_rfl)) (fun _ _ _ h => h) (Or.inl ⟨by rfl, ?_⟩) ?_ ?_
      rotate_left
      · intro w'
        go_simp
        with_reducible rfl
      rotate_left
      · simp only [Act.put, sT, sZ, sU, i64_w, i32_w]
        rfl
      refine pure_ (i := 7) (N := some 27) (v := ?_) (a' := ?_) #[true, true, true, true, true, true, true, true, false, false, false, false, false, false, false, false, false, false, false, false, false, false, false, false, false, false, false, false, false] rfl rfl (any_of HT_.out (by kernel_rfl)) (fun _ _ _ h => h) (Or.inl ⟨by rfl, ?_⟩) ?_ ?_
      rotate_left
      · intro w'
        go_simp
        with_reducible rfl
      rotate_left
      · simp only [Act.put, sT, sZ, sU, i64_w, i32_w]
        rfl
      refine take_ (i := 8) (N := some 28) (v := ?_) (a' := ?_) #[true, true, true, true, true, true, true, true, true, false, false, false, false, false, false, false, false, false, false, false, false, false, false, false, false, false, false, false, false] rfl rfl (take_ofW HT_.out HW_.out (by kernel_rfl)) (fun _ _ _ h => h) (Or.inl ⟨by rfl, ?_⟩) hHeld ?_ ?_
      rotate_left
      · rintro w' ⟨s0, s1, s2, s3, s4, s5, s6⟩
        go_simp
        with_reducible rfl
      rotate_left
      · simp only [Act.put, sT, sZ, sU, i64_w, i32_w]
        rfl
      refine pure_ (i := 9) (N := some 29) (v := ?_) (a' := ?_) #[true, true, true, true, true, true, true, true, true, true, false, false, false, false, false, false, false, false, false, false, false, false, false, false, false, false, false, false, false] rfl rfl (any_of HT_.out (by kernel_rfl)) (fun _ _ _ h => h) (Or.inl ⟨by rfl, ?_⟩) ?_ ?_
      rotate_left
      · intro w'
        go_simp
        with_reducible rfl
      rotate_left
      · simp only [Act.put, sT, sZ, sU, i64_w, i32_w]
        rfl
      refine take_ (i := 10) (N := some 30) (v := ?_) (a' := ?_) #[true, true, true, true, true, true, true, true, true, true, true, false, false, false, false, false, false, false, false, false, false, false, false, false, false, false, false, false, false] rfl rfl (take_ofW HT_.out HW_.out (by kernel_rfl)) (fun _ _ _ h => h) (Or.inl ⟨by rfl, ?_⟩) hHeld ?_ ?_
      rotate_left
      · rintro w' ⟨s0, s1, s2, s3, s4, s5, s6⟩
        go_simp
        with_reducible rfl
      rotate_left
      · simp only [Act.put, sT, sZ, sU, i64_w, i32_w]
        rfl
      refine pure_ (i := 11) (N := some 31) (v := ?_) (a' := ?_) #[true, true, true, true, true, true, true, true, true, true, true, true, false, false, false, false, false, false, false, false, false, false, false, false, false, false, false, false, false] rfl rfl (any_of HT_.out (by kernel_rfl)) (fun _ _ _ h => h) (Or.inl ⟨by rfl, ?_⟩) ?_ ?_
      rotate_left
      · intro w'
        go_simp
        with_reducible rfl
      rotate_left
      · simp only [Act.put, sT, sZ, sU, i64_w, i32_w]
        rfl
      refine pure_ (i := 12) (N := some 32) (v := ?_) (a' := ?_) #[true, true, true, true, true, true, true, true, true, true, true, true, true, false, false, false, false, false, false, false, false, false, false, false, false, false, false, false, false] rfl rfl (any_of HT_.out (by kernel_rfl)) (fun _ _ _ h => h) (Or.inl ⟨by rfl, ?_⟩) ?_ ?_
      rotate_left
      · intro w'
        go_simp
        with_reducible rfl
      rotate_left
      · simp only [Act.put, sT, sZ, sU, i64_w, i32_w]
        rfl
      refine pure_ (i := 13) (N := some 33) (v := ?_) (a' := ?_) #[true, true, true, true, true, true, true, true, true, true, true, true, true, true, false, false, false, false, false, false, false, false, false, false, false, false, false, false, false] rfl rfl (any_of HT_.out (by kernel_rfl)) (fun _ _ _ h => h) (Or.inl ⟨by rfl, ?_⟩) ?_ ?_
      rotate_left
      · intro w'
        go_simp
        with_reducible rfl
      rotate_left
      · simp only [Act.put, sT, sZ, sU, i64_w, i32_w]
        rfl
      refine pure_ (i := 14) (N := some 34) (v := ?_) (a' := ?_) #[true, true, true, true, true, true, true, true, true, true, true, true, true, true, true, false, false, false, false, false, false, false, false, false, false, false, false, false, false] rfl rfl (any_of HT_.out (by kernel_rfl)) (fun _ _ _ h => h) (Or.inl ⟨by rfl, ?_⟩) ?_ ?_
      rotate_left
      · intro w'
        go_simp
        with_reducible rfl
      rotate_left
      · simp only [Act.put, sT, sZ, sU, i64_w, i32_w]
        rfl
      refine pure_ (i := 18) (N := some 38) (v := ?_) (a' := ?_) #[true, true, true, true, true, true, true, true, true, true, true, true, true, true, true, false, false, false, true, false, false, false, false, false, false, false, false, false, false] rfl rfl (any_of HT_.out (by kernel_rfl)) (fun _ _ _ h => h) (Or.inl ⟨by rfl, ?_⟩) ?_ ?_
      rotate_left
      · intro w'
        go_simp
        with_reducible rfl
      rotate_left
      · simp only [Act.put, sT, sZ, sU, i64_w, i32_w]
        rfl
      refine pure_ (i := 21) (N := some 41) (v := ?_) (a' := ?_) #[true, true, true, true, true, true, true, true, true, true, true, true, true, true, true, false, false, false, true, false, false, true, false, false, false, false, false, false, false] rfl rfl (any_of HT_.out (by kernel_rfl)) (fun _ _ _ h => h) (Or.inl ⟨by rfl, ?_⟩) ?_ ?_
      rotate_left
      · intro w'
        go_simp
        with_reducible rfl
      rotate_left
      · simp only [Act.put, sT, sZ, sU, i64_w, i32_w]
        rfl
      refine pure_ (i := 22) (N := some 42) (v := ?_) (a' := ?_) #[true, true, true, true, true, true, true, true, true, true, true, true, true, true, true, false, false, false, true, false, false, true, true, false, false, false, false, false, false] rfl rfl (any_of HT_.out (by kernel_rfl)) (fun _ _ _ h => h) (Or.inl ⟨by rfl, ?_⟩) ?_ ?_
      rotate_left
      · intro w'
        go_simp
        with_reducible rfl
      rotate_left
      · simp only [Act.put, sT, sZ, sU, i64_w, i32_w]
        rfl
      refine take_ (i := 15) (N := some 35) (v := ?_) (a' := ?_) #[true, true, true, true, true, true, true, true, true, true, true, true, true, true, true, true, false, false, true, false, false, true, true, false, false, false, false, false, false] rfl rfl (take_ofW HT_.out HW_.out (by kernel_rfl)) (fun _ _ _ h => h) (Or.inl ⟨by rfl, ?_⟩) hHeld ?_ ?_
      rotate_left
      · rintro w' ⟨s0, s1, s2, s3, s4, s5, s6⟩
        go_simp
        with_reducible rfl
      rotate_left
      · simp only [Act.put, sT, sZ, sU, i64_w, i32_w]
        rfl
      refine pure_ (i := 16) (N := some 36) (v := ?_) (a' := ?_) #[true, true, true, true, true, true, true, true, true, true, true, true, true, true, true, true, true, false, true, false, false, true, true, false, false, false, false, false, false] rfl rfl (any_of HT_.out (by kernel_rfl)) (fun _ _ _ h => h) (Or.inl ⟨by rfl, ?_⟩) ?_ ?_
      rotate_left
      · intro w'
        go_simp
        with_reducible rfl
      rotate_left
      · simp only [Act.put, sT, sZ, sU, i64_w, i32_w]
        rfl
      refine take_ (i := 17) (N := some 37) (v := ?_) (a' := ?_) #[true, true, true, true, true, true, true, true, true, true, true, true, true, true, true, true, true, true, true, false, false, true, true, false, false, false, false, false, false] rfl rfl (take_ofW HT_.out HW_.out (by kernel_rfl)) (fun _ _ _ h => h) (Or.inl ⟨by rfl, ?_⟩) hHeld ?_ ?_
      rotate_left
      · rintro w' ⟨s0, s1, s2, s3, s4, s5, s6⟩
        go_simp
        with_reducible rfl
      rotate_left
      · simp only [Act.put, sT, sZ, sU, i64_w, i32_w]
        rfl
      refine take_ (i := 19) (N := some 39) (v := ?_) (a' := ?_) #[true, true, true, true, true, true, true, true, true, true, true, true, true, true, true, true, true, true, true, true, false, true, true, false, false, false, false, false, false] rfl rfl (take_ofW HT_.out HW_.out (by kernel_rfl)) (fun _ _ _ h => h) (Or.inl ⟨by rfl, ?_⟩) hHeld ?_ ?_
      rotate_left
      · rintro w' ⟨s0, s1, s2, s3, s4, s5, s6⟩
        go_simp
        with_reducible rfl
      rotate_left
      · simp only [Act.put, sT, sZ, sU, i64_w, i32_w]
        rfl
      refine pure_ (i := 20) (N := some 40) (v := ?_) (a' := ?_) #[true, true, true, true, true, true, true, true, true, true, true, true, true, true, true, true, true, true, true, true, true, true, true, false, false, false, false, false, false] rfl rfl (any_of HT_.out (by kernel_rfl)) (fun _ _ _ h => h) (Or.inl ⟨by rfl, ?_⟩) ?_ ?_
      rotate_left
      · intro w'
        go_simp
        with_reducible rfl
      rotate_left
      · simp only [Act.put, sT, sZ, sU, i64_w, i32_w]
        rfl
      refine take_ (i := 23) (N := some 43) (v := ?_) (a' := ?_) #[true, true, true, true, true, true, true, true, true, true, true, true, true, true, true, true, true, true, true, true, true, true, true, true, false, false, false, false, false] rfl rfl (take_ofW HT_.out HW_.out (by kernel_rfl)) (fun _ _ _ h => h) (Or.inl ⟨by rfl, ?_⟩) hHeld ?_ ?_
      rotate_left
      · rintro w' ⟨s0, s1, s2, s3, s4, s5, s6⟩
        go_simp
        with_reducible rfl
      rotate_left
      · simp only [Act.put, sT, sZ, sU, i64_w, i32_w]
        rfl
      refine pure_ (i := 24) (N := some 44) (v := ?_) (a' := ?_) #[true, true, true, true, true, true, true, true, true, true, true, true, true, true, true, true, true, true, true, true, true, true, true, true, true, false, false, false, false] rfl rfl (any_of HT_.out (by kernel_rfl)) (fun _ _ _ h => h) (Or.inl ⟨by rfl, ?_⟩) ?_ ?_
      rotate_left
      · intro w'
        go_simp
        with_reducible rfl
      rotate_left
      · simp only [Act.put, sT, sZ, sU, i64_w, i32_w]
        rfl
      refine take_ (i := 25) (N := some 45) (v := ?_) (a' := ?_) #[true, true, true, true, true, true, true, true, true, true, true, true, true, true, true, true, true, true, true, true, true, true, true, true, true, true, false, false, false] rfl rfl (take_ofW HT_.out HW_.out (by kernel_rfl)) (fun _ _ _ h => h) (Or.inl ⟨by rfl, ?_⟩) hHeld ?_ ?_
      rotate_left
      · rintro w' ⟨s0, s1, s2, s3, s4, s5, s6⟩
        go_simp
        with_reducible rfl
      rotate_left
      · simp only [Act.put, sT, sZ, sU, i64_w, i32_w]
        rfl
      refine pure_ (i := 26) (N := some 46) (v := ?_) (a' := ?_) #[true, true, true, true, true, true, true, true, true, true, true, true, true, true, true, true, true, true, true, true, true, true, true, true, true, true, true, false, false] rfl rfl (any_of HT_.out (by kernel_rfl)) (fun _ _ _ h => h) (Or.inl ⟨by rfl, ?_⟩) ?_ ?_
      rotate_left
      · intro w'
        go_simp
        with_reducible rfl
      rotate_left
      · simp only [Act.put, sT, sZ, sU, i64_w, i32_w]
        rfl
      refine pure_ (i := 27) (N := some 47) (v := ?_) (a' := ?_) #[true, true, true, true, true, true, true, true, true, true, true, true, true, true, true, true, true, true, true, true, true, true, true, true, true, true, true, true, false] rfl rfl (any_of HT_.out (by kernel_rfl)) (fun _ _ _ h => h) (Or.inl ⟨by rfl, ?_⟩) ?_ ?_
      rotate_left
      · intro w'
        go_simp
        with_reducible rfl
      rotate_left
      · simp only [Act.put, sT, sZ, sU, i64_w, i32_w]
        rfl
      refine pure_ (i := 28) (N := some 48) (v := ?_) (a' := ?_) #[true, true, true, true, true, true, true, true, true, true, true, true, true, true, true, true, true, true, true, true, true, true, true, true, true, true, true, true, true] rfl rfl (any_of HT_.out (by kernel_rfl)) (fun _ _ _ h => h) (Or.inl ⟨by rfl, ?_⟩) ?_ ?_
      rotate_left
      · intro w'
        go_simp
        with_reducible rfl
      rotate_left
      · simp only [Act.put, sT, sZ, sU, i64_w, i32_w]
        rfl
      refine done_ (done_of HT_.out (by kernel_rfl)) ?_
      try go_wp2
      go_roundg k1
      case measure => have := HK1.out; omega
      case rel => exact ⟨(x1_1), (x2_1), (x3_1), (x9_1), (wrap64 (x15_1 + 1)), (by first | rfl | (simp; done) | (simp [*]; done)), (by first | rfl | (simp; done) | (simp [*]; done)), H', ⟨by have := HK1.out; omega⟩, ⟨by (with_reducible repeat (first | apply rA | apply rN | apply rD)); exact HO_1.out⟩, ⟨by (with_reducible repeat (first | apply rA | apply rN | apply rD)); exact HO_2.out⟩, ⟨by (with_reducible repeat (first | apply rA | apply rN | apply rD)); exact HO_3.out⟩, ⟨by (with_reducible repeat (first | refine kN ?_ _ | refine kD ?_ | refine kA ?_ _)); exact BK118.out⟩, ⟨by repeat (first | (with_reducible first | exact HK.out | apply Kept.alloc | apply Kept.drewN | apply Kept.drew | refine Kept.setCell ?_ (.inr GW118.out) _ | refine Kept.setCell ?_ (.inr GW120.out) _) | exact HK.out)⟩, ⟨by repeat (first | (with_reducible first | exact HB.out | apply bA | apply bN | apply bD | refine bS ?_ GE118.out | refine bS ?_ GE120.out) | exact HB.out)⟩⟩
    rw [if_pos c20] at H
    have c20b0 : decide ((wrap64 ((rd x1_1 ((rd_T70 l0_1 x15_1).f0)) + ((rd_T70 l0_1 x15_1).f2))) < (rd x1_1 ((rd_T70 l0_1 x15_1).f1))) = true := decide_eq_true c20
    clear c20
    obtain ⟨y126, hy126⟩ : ∃ y_ : List Int, y_ = (x1_1.set (((rd_T70 l0_1 x15_1).f1) : Int).toNat (wrap64 ((rd x1_1 ((rd_T70 l0_1 x15_1).f0)) + ((rd_T70 l0_1 x15_1).f2)))) := ⟨_, rfl⟩
    replace H : (if ((rd_T70 l0_1 x15_1).f1) < (x2_1.length : Int) then (spec_l03Round.l0 k1 y126 (x2_1.set (((rd_T70 l0_1 x15_1).f1) : Int).toNat x15_1) (x3_1.set (((rd_T70 l0_1 x15_1).f1) : Int).toNat true) x15_1 l0_1 (l0_1.length : Int) (wrap64 (x15_1 + 1))) else (none)) = some (r1, r2, r3, r4) := by first | (rw [hy126]; with_reducible exact H) | (have H2_ := (Option.bind_some _ _).symm.trans H; rw [hy126]; with_reducible exact H2_) | (have H2_ := (Option.bind_some _ _).symm.trans H; with_reducible exact H2_) | with_reducible exact H | (rw [hy126]; exact H) | exact H
    have Ny126 := mK hy126
    clear hy126
    obtain ⟨y127, hy127⟩ : ∃ y_ : List Bool, y_ = (x3_1.set (((rd_T70 l0_1 x15_1).f1) : Int).toNat true) := ⟨_, rfl⟩
    replace H : (if ((rd_T70 l0_1 x15_1).f1) < (x2_1.length : Int) then (spec_l03Round.l0 k1 y126 (x2_1.set (((rd_T70 l0_1 x15_1).f1) : Int).toNat x15_1) y127 x15_1 l0_1 (l0_1.length : Int) (wrap64 (x15_1 + 1))) else (none)) = some (r1, r2, r3, r4) := by first | (rw [hy127]; with_reducible exact H) | (have H2_ := (Option.bind_some _ _).symm.trans H; rw [hy127]; with_reducible exact H2_) | (have H2_ := (Option.bind_some _ _).symm.trans H; with_reducible exact H2_) | with_reducible exact H | (rw [hy127]; exact H) | exact H
    have Ny127 := mK hy127
    clear hy127
    by_cases c23 : ((rd_T70 l0_1 x15_1).f1) < (x2_1.length : Int)
    rotate_left
    · rw [if_neg c23] at H
      exact absurd H (by simp)
    rw [if_pos c23] at H
    have c23b0 : decide (((rd_T70 l0_1 x15_1).f1) < (x2_1.length : Int)) = true := decide_eq_true c23
    clear c23
    obtain ⟨y128, hy128⟩ : ∃ y_ : List Int, y_ = (x2_1.set (((rd_T70 l0_1 x15_1).f1) : Int).toNat x15_1) := ⟨_, rfl⟩
    replace H : (spec_l03Round.l0 k1 y126 y128 y127 x15_1 l0_1 (l0_1.length : Int) (wrap64 (x15_1 + 1))) = some (r1, r2, r3, r4) := by first | (rw [hy128]; with_reducible exact H) | (have H2_ := (Option.bind_some _ _).symm.trans H; rw [hy128]; with_reducible exact H2_) | (have H2_ := (Option.bind_some _ _).symm.trans H; with_reducible exact H2_) | with_reducible exact H | (rw [hy128]; exact H) | exact H
    have Ny128 := mK hy128
    clear hy128
    have H' := mK H
    clear H
    have p119 : 0 ≤ (x15_1 : Int) := of_decide_eq_true (by first | (with_reducible assumption) | assumption)
    have q119 : x15_1 < (l0_1.length : Int) := of_decide_eq_true (by first | (with_reducible assumption) | assumption)
    obtain ⟨ad119, e119, hx119_0, hx119_1, hx119_2⟩ := at_T70 (Kd.C_kept_now HR0_1.out HK.out) x15_1 p119 q119
    cases e119
    replace p119 := eq_true p119
    replace q119 := eq_true q119
    try go_wp2_with (first | ((with_reducible refine gate_dst (N := 11) rfl ?_); refine box_event ?hg (N := 11) ?hd (cs := #[.int .i64 0, .int .i64 0, .int .i64 0]) (t := 70) ?hr ?_; (case hd => rfl); (case hg => rfl); (case hr => first | (go_simp; done) | (go_simp; rfl)); intro gb120 hg w25 hbox hb; have n0_ := mK (Kd.R_below (by (with_reducible repeat (first | apply rA | apply rN | apply rD)); exact HO_1.out) hb); have n1_ := mK (Kd.R_below (by (with_reducible repeat (first | apply rA | apply rN | apply rD)); exact HO_2.out) hb); have n2_ := mK (Kd.R_below (by (with_reducible repeat (first | apply rA | apply rN | apply rD)); exact HO_3.out) hb); have n3_ := mK (blk_below (by (with_reducible repeat (first | refine kN ?_ _ | refine kD ?_ | refine kA ?_ _)); exact BK118.out) hb); have n4_ := mK (Kept.below (S := (fun k_ => P1_ k_ ∨ P2_ k_ ∨ P3_ k_)) (by repeat (first | (with_reducible first | exact HK.out | apply Kept.alloc | apply Kept.drewN | apply Kept.drew | refine Kept.setCell ?_ (.inr GW118.out) _) | exact HK.out)) hb); have n5_ := mK (below_step (by repeat (first | (with_reducible first | exact HB.out | apply bA | apply bN | apply bD | refine bS ?_ GE118.out) | exact HB.out)) hb); have n6_ := mK (hbox); have n7_ := mK ((by rw [hg]; exact (by first | exact HK.out.1 | exact (show Kept w _ (fun k_ => P1_ k_ ∨ P2_ k_ ∨ P3_ k_) from by repeat (first | (with_reducible first | exact HK.out | apply Kept.alloc | apply Kept.drewN | apply Kept.drew | refine Kept.setCell ?_ (.inr GW118.out) _) | exact HK.out)).1) : w.heap.size ≤ gb120)); have n8_ := mK ((by rw [hg]; exact (below_size (by repeat (first | (with_reducible first | exact HB.out | apply bA | apply bN | apply bD | refine bS ?_ GE118.out) | exact HB.out))) : w0.heap.size ≤ gb120)); have n9_ := mK ((by rw [hg]; exact Nat.ne_of_lt (blk_lt (by (with_reducible repeat (first | refine kN ?_ _ | refine kD ?_ | refine kA ?_ _)); exact BK118.out)) : gb118 ≠ gb120)); have n10_ := mK ((by rw [hg]; exact Nat.ne_of_gt (blk_lt (by (with_reducible repeat (first | refine kN ?_ _ | refine kD ?_ | refine kA ?_ _)); exact BK118.out)) : gb120 ≠ gb118)); clear HO_1; clear HO_2; clear HO_3; clear BK118; clear HK; clear HB; have HO_1 := n0_; have HO_2 := n1_; have HO_3 := n2_; have BK118 := n3_; have HK := n4_; have HB := n5_; have BK120 := n6_; have GW120 := n7_; have GE120 := n8_; have NB118_120 := n9_; have NB120_118 := n10_; clear n0_ n1_ n2_ n3_ n4_ n5_ n6_ n7_ n8_ n9_ n10_; clear hb hbox hg; have hnb26 := NB120_118.out; have hnc26 := NB118_120.out; have hcz27_0 : w25.cell? ⟨gb120, 0, none⟩ = some (.int .i64 0) := (blk_cell BK120.out 0).trans rfl; have hcz27_1 : w25.cell? ⟨gb120, 1, none⟩ = some (.int .i64 0) := (blk_cell BK120.out 1).trans rfl; have hcz27_2 : w25.cell? ⟨gb120, 2, none⟩ = some (.int .i64 0) := (blk_cell BK120.out 2).trans rfl; have hfz27_0 := blk_frozen BK120.out 0; have hfz27_1 := blk_frozen BK120.out 1; have hfz27_2 := blk_frozen BK120.out 2))
    have n0_ : Aside0 (Kd.R (Kd.int .i64) 3 (((w25.setCell ⟨gb120, 0, none⟩ (.int .i64 ((rd_T70 l0_1 x15_1).f0))).setCell ⟨gb120, 1, none⟩ (.int .i64 ((rd_T70 l0_1 x15_1).f1))).setCell ⟨gb120, 2, none⟩ (.int .i64 ((rd_T70 l0_1 x15_1).f2))) w0.heap.size (fun k_ => ((P1_ k_ ∨ P2_ k_ ∨ P3_ k_) ∨ w.heap.size ≤ k_) ∧ some k_ ≠ (u9001_ : Value).ownBlock) u9000_ x1_1) := ⟨by (with_reducible repeat (first | apply rA | apply rN | apply rD)); exact Kd.R_mono (Kd.R_far (p := ⟨gb120, 2, none⟩) (Kd.R_far (p := ⟨gb120, 1, none⟩) (Kd.R_far (p := ⟨gb120, 0, none⟩) (Kd.R_types HO_1.out BK120.out (by decide)) (fun _ hk => hk.2) (.int .i64 ((rd_T70 l0_1 x15_1).f0))) (fun _ hk => hk.2) (.int .i64 ((rd_T70 l0_1 x15_1).f1))) (fun _ hk => hk.2) (.int .i64 ((rd_T70 l0_1 x15_1).f2))) (fun _ hk => ⟨hk.1.1, hk.1.2⟩)⟩
    have n1_ : Aside0 (Kd.R (Kd.int .i64) 3 (((w25.setCell ⟨gb120, 0, none⟩ (.int .i64 ((rd_T70 l0_1 x15_1).f0))).setCell ⟨gb120, 1, none⟩ (.int .i64 ((rd_T70 l0_1 x15_1).f1))).setCell ⟨gb120, 2, none⟩ (.int .i64 ((rd_T70 l0_1 x15_1).f2))) w0.heap.size (fun k_ => ((P1_ k_ ∨ P2_ k_ ∨ P3_ k_) ∨ w.heap.size ≤ k_) ∧ some k_ ≠ (u9000_ : Value).ownBlock) u9001_ x2_1) := ⟨by (with_reducible repeat (first | apply rA | apply rN | apply rD)); exact Kd.R_mono (Kd.R_far (p := ⟨gb120, 2, none⟩) (Kd.R_far (p := ⟨gb120, 1, none⟩) (Kd.R_far (p := ⟨gb120, 0, none⟩) (Kd.R_types HO_2.out BK120.out (by decide)) (fun _ hk => hk.2) (.int .i64 ((rd_T70 l0_1 x15_1).f0))) (fun _ hk => hk.2) (.int .i64 ((rd_T70 l0_1 x15_1).f1))) (fun _ hk => hk.2) (.int .i64 ((rd_T70 l0_1 x15_1).f2))) (fun _ hk => ⟨hk.1.1, hk.1.2⟩)⟩
    have n2_ : Aside0 (Kd.R Kd.bool 4 (((w25.setCell ⟨gb120, 0, none⟩ (.int .i64 ((rd_T70 l0_1 x15_1).f0))).setCell ⟨gb120, 1, none⟩ (.int .i64 ((rd_T70 l0_1 x15_1).f1))).setCell ⟨gb120, 2, none⟩ (.int .i64 ((rd_T70 l0_1 x15_1).f2))) w0.heap.size (fun k_ => ((P1_ k_ ∨ P2_ k_ ∨ P3_ k_) ∨ w.heap.size ≤ k_)) u9002_ x3_1) := ⟨by (with_reducible repeat (first | apply rA | apply rN | apply rD)); exact Kd.R_mono (Kd.R_far (p := ⟨gb120, 2, none⟩) (Kd.R_far (p := ⟨gb120, 1, none⟩) (Kd.R_far (p := ⟨gb120, 0, none⟩) (Kd.R_types HO_3.out BK120.out (by decide)) (fun _ hk => hk.2) (.int .i64 ((rd_T70 l0_1 x15_1).f0))) (fun _ hk => hk.2) (.int .i64 ((rd_T70 l0_1 x15_1).f1))) (fun _ hk => hk.2) (.int .i64 ((rd_T70 l0_1 x15_1).f2))) (fun _ hk => hk.1)⟩
    have n3_ : Aside0 ((((w25.setCell ⟨gb120, 0, none⟩ (.int .i64 ((rd_T70 l0_1 x15_1).f0))).setCell ⟨gb120, 1, none⟩ (.int .i64 ((rd_T70 l0_1 x15_1).f1))).setCell ⟨gb120, 2, none⟩ (.int .i64 ((rd_T70 l0_1 x15_1).f2))).heap[gb118]? = some (.cells #[.int .i64 a0_0, .slice (some ad119) l0_1.length c0_1] 33 (0, 0))) := ⟨by (with_reducible repeat (first | refine kN ?_ _ | refine kD ?_ | refine kA ?_ _)); refine blk_far ?_ NB118_120.out _; (with_reducible repeat (first | refine kN ?_ _ | refine kD ?_ | refine kA ?_ _)); refine blk_far ?_ NB118_120.out _; (with_reducible repeat (first | refine kN ?_ _ | refine kD ?_ | refine kA ?_ _)); refine blk_far ?_ NB118_120.out _; (with_reducible repeat (first | refine kN ?_ _ | refine kD ?_ | refine kA ?_ _)); exact BK118.out⟩
    have n4_ : Aside0 ((((w25.setCell ⟨gb120, 0, none⟩ (.int .i64 ((rd_T70 l0_1 x15_1).f0))).setCell ⟨gb120, 1, none⟩ (.int .i64 ((rd_T70 l0_1 x15_1).f1))).setCell ⟨gb120, 2, none⟩ (.int .i64 ((rd_T70 l0_1 x15_1).f2))).heap[gb120]? = some (.cells #[.int .i64 ((rd_T70 l0_1 x15_1).f0), .int .i64 ((rd_T70 l0_1 x15_1).f1), .int .i64 ((rd_T70 l0_1 x15_1).f2)] 70 (0, 0))) := ⟨by (with_reducible repeat (first | refine kN ?_ _ | refine kD ?_ | refine kA ?_ _)); refine blk_put (cs := #[.int .i64 ((rd_T70 l0_1 x15_1).f0), .int .i64 ((rd_T70 l0_1 x15_1).f1), .int .i64 0]) ?_ 2 _ rfl; (with_reducible repeat (first | refine kN ?_ _ | refine kD ?_ | refine kA ?_ _)); refine blk_put (cs := #[.int .i64 ((rd_T70 l0_1 x15_1).f0), .int .i64 0, .int .i64 0]) ?_ 1 _ rfl; (with_reducible repeat (first | refine kN ?_ _ | refine kD ?_ | refine kA ?_ _)); refine blk_put (cs := #[.int .i64 0, .int .i64 0, .int .i64 0]) ?_ 0 _ rfl; (with_reducible repeat (first | refine kN ?_ _ | refine kD ?_ | refine kA ?_ _)); exact BK120.out⟩
    have n5_ : Aside0 (Kept w (((w25.setCell ⟨gb120, 0, none⟩ (.int .i64 ((rd_T70 l0_1 x15_1).f0))).setCell ⟨gb120, 1, none⟩ (.int .i64 ((rd_T70 l0_1 x15_1).f1))).setCell ⟨gb120, 2, none⟩ (.int .i64 ((rd_T70 l0_1 x15_1).f2))) (fun k_ => P1_ k_ ∨ P2_ k_ ∨ P3_ k_)) := ⟨by repeat (first | (with_reducible first | exact HK.out | apply Kept.alloc | apply Kept.drewN | apply Kept.drew | refine Kept.setCell ?_ (.inr GW118.out) _ | refine Kept.setCell ?_ (.inr GW120.out) _) | exact HK.out)⟩
    have n6_ : Aside0 (Below w0.heap.size w0 (((w25.setCell ⟨gb120, 0, none⟩ (.int .i64 ((rd_T70 l0_1 x15_1).f0))).setCell ⟨gb120, 1, none⟩ (.int .i64 ((rd_T70 l0_1 x15_1).f1))).setCell ⟨gb120, 2, none⟩ (.int .i64 ((rd_T70 l0_1 x15_1).f2)))) := ⟨by repeat (first | (with_reducible first | exact HB.out | apply bA | apply bN | apply bD | refine bS ?_ GE118.out | refine bS ?_ GE120.out) | exact HB.out)⟩
    (try clear HO_1)
    (try clear HO_2)
    (try clear HO_3)
    (try clear BK118)
    (try clear BK120)
    (try clear HK)
    (try clear HB)
    generalize (((w25.setCell ⟨gb120, 0, none⟩ (.int .i64 ((rd_T70 l0_1 x15_1).f0))).setCell ⟨gb120, 1, none⟩ (.int .i64 ((rd_T70 l0_1 x15_1).f1))).setCell ⟨gb120, 2, none⟩ (.int .i64 ((rd_T70 l0_1 x15_1).f2))) = w28 at n0_ n1_ n2_ n3_ n4_ n5_ n6_ ⊢
    have HO_1 := n0_
    have HO_2 := n1_
    have HO_3 := n2_
    have BK118 := n3_
    have BK120 := n4_
    have HK := n5_
    have HB := n6_
    clear n0_ n1_ n2_ n3_ n4_ n5_ n6_
    have n0_ := mK (Kd.R_drew HO_1.out)
    have n1_ := mK (Kd.R_drew HO_2.out)
    have n2_ := mK (Kd.R_drew HO_3.out)
    have n3_ := mK (blk_drew BK118.out)
    have n4_ := mK (blk_drew BK120.out)
    have n5_ := mK (Kept.drew HK.out)
    have n6_ := mK (below_drew1 HB.out)
    clear HO_1
    clear HO_2
    clear HO_3
    clear BK118
    clear BK120
    clear HK
    clear HB
    have HO_1 := n0_
    have HO_2 := n1_
    have HO_3 := n2_
    have BK118 := n3_
    have BK120 := n4_
    have HK := n5_
    have HB := n6_
    clear n0_ n1_ n2_ n3_ n4_ n5_ n6_
    obtain ⟨Ao30, co30, eo30⟩ := Kd.R_slice HO_3.out
    (first | subst eo30 | (injection eo30 with f1_ f2_ f3_; have f4_ := f1_.symm; have f5_ := f3_.symm; clear f1_ f2_ f3_; subst f4_; subst f5_))
    have p121 : 0 ≤ (((rd_T70 l0_1 x15_1).f0) : Int) := of_decide_eq_true (by first | (with_reducible assumption) | assumption)
    have q121 : ((rd_T70 l0_1 x15_1).f0) < (x3_1.length : Int) := of_decide_eq_true (by first | (with_reducible assumption) | assumption)
    obtain ⟨ad121, e121, hx121_0⟩ := Kd.at_bool (Kd.R_reads' HO_3.out).2.2 ((rd_T70 l0_1 x15_1).f0) p121 q121
    (try rw [← Nbq12.out] at hx121_0)
    (try rw [← Nbq16.out] at hx121_0)
    cases e121
    replace p121 := eq_true p121
    replace q121 := eq_true q121
    have p122 : 0 ≤ (((rd_T70 l0_1 x15_1).f1) : Int) := of_decide_eq_true (by first | (with_reducible assumption) | assumption)
    have q122 : ((rd_T70 l0_1 x15_1).f1) < (x3_1.length : Int) := of_decide_eq_true (by first | (with_reducible assumption) | assumption)
    obtain ⟨ad122, e122, hx122_0⟩ := Kd.at_bool (Kd.R_reads' HO_3.out).2.2 ((rd_T70 l0_1 x15_1).f1) p122 q122
    (try rw [← Nbq12.out] at hx122_0)
    (try rw [← Nbq16.out] at hx122_0)
    obtain rfl : ad121 = ad122 := (by injection e122)
    replace p122 := eq_true p122
    replace q122 := eq_true q122
    obtain ⟨Ao31, co31, eo31⟩ := Kd.R_slice HO_1.out
    (first | subst eo31 | (injection eo31 with f1_ f2_ f3_; have f4_ := f1_.symm; have f5_ := f3_.symm; clear f1_ f2_ f3_; subst f4_; subst f5_))
    have p123 : 0 ≤ (((rd_T70 l0_1 x15_1).f0) : Int) := of_decide_eq_true (by first | (with_reducible assumption) | assumption)
    have q123 : ((rd_T70 l0_1 x15_1).f0) < (x1_1.length : Int) := of_decide_eq_true (by first | (with_reducible assumption) | assumption)
    obtain ⟨ad123, e123, hx123_0⟩ := Kd.at_int (Kd.R_reads' HO_1.out).2.2 ((rd_T70 l0_1 x15_1).f0) p123 q123
    cases e123
    replace p123 := eq_true p123
    replace q123 := eq_true q123
    have p124 : 0 ≤ (((rd_T70 l0_1 x15_1).f1) : Int) := of_decide_eq_true (by first | (with_reducible assumption) | assumption)
    have q124 : ((rd_T70 l0_1 x15_1).f1) < (x1_1.length : Int) := of_decide_eq_true (by first | (with_reducible assumption) | assumption)
    obtain ⟨ad124, e124, hx124_0⟩ := Kd.at_int (Kd.R_reads' HO_1.out).2.2 ((rd_T70 l0_1 x15_1).f1) p124 q124
    obtain rfl : ad123 = ad124 := (by injection e124)
    replace p124 := eq_true p124
    replace q124 := eq_true q124
    refine start_ (n := 29) (S := fun w' => w'.cell? ⟨gb120, 0, none⟩ = some (.int .i64 ((rd_T70 l0_1 x15_1).f0)) ∧ w'.cell? ⟨gb120, 1, none⟩ = some (.int .i64 ((rd_T70 l0_1 x15_1).f1)) ∧ w'.cell? ⟨gb120, 2, none⟩ = some (.int .i64 ((rd_T70 l0_1 x15_1).f2)) ∧ w'.cell? (ad121.add (((rd_T70 l0_1 x15_1).f0)).toNat) = some (.bool true) ∧ w'.cell? (ad121.add (((rd_T70 l0_1 x15_1).f1)).toNat) = some (.bool true) ∧ w'.cell? (ad123.add (((rd_T70 l0_1 x15_1).f0)).toNat) = some (.int .i64 (rd x1_1 ((rd_T70 l0_1 x15_1).f0))) ∧ w'.cell? (ad123.add (((rd_T70 l0_1 x15_1).f1)).toNat) = some (.int .i64 (rd x1_1 ((rd_T70 l0_1 x15_1).f1)))) (ds := []) #[false, false, false, false, false, false, false, false, false, false, false, false, false, false, false, false, false, false, false, false, false, false, false, false, false, false, false, false, false] (by kernel_rfl) rfl rfl ⟨(blk_cell BK120.out 0).trans rfl, (blk_cell BK120.out 1).trans rfl, (blk_cell BK120.out 2).trans rfl, hx121_0, hx122_0, hx123_0, hx124_0⟩ (fun hHeld => ?_); refine with_tabW spec_l03Round.tab5 spec_l03Round.bits5 (fun HT_ HW_ => ?_)
    generalize w28.drew = w29 at HO_1 HO_2 HO_3 BK118 BK120 HK HB hx121_0 hx122_0 hx123_0 hx124_0 hHeld ⊢
    refine pure_ (i := 0) (N := some 20) (v := ?_) (a' := ?_) #[true, false, false, false, false, false, false, false, false, false, false, false, false, false, false, false, false, false, false, false, false, false, false, false, false, false, false, false, false] rfl rfl (any_of HT_.out (by kernel_rfl)) (fun _ _ _ h => h) (Or.inl ⟨by rfl, ?_⟩) ?_ ?_
    rotate_left
    · intro w'
      go_simp
      with_reducible rfl
    rotate_left
    · simp only [Act.put, sT, sZ, sU, i64_w, i32_w]
      rfl
    refine pure_ (i := 1) (N := some 21) (v := ?_) (a' := ?_) #[true, true, false, false, false, false, false, false, false, false, false, false, false, false, false, false, false, false, false, false, false, false, false, false, false, false, false, false, false] rfl rfl (any_of HT_.out (by kernel_rfl)) (fun _ _ _ h => h) (Or.inl ⟨by rfl, ?_⟩) ?_ ?_
    rotate_left
    · intro w'
      go_simp
      with_reducible rfl
    rotate_left
    · simp only [Act.put, sT, sZ, sU, i64_w, i32_w]
      rfl
    refine take_ (i := 2) (N := some 22) (v := ?_) (a' := ?_) #[true, true, true, false, false, false, false, false, false, false, false, false, false, false, false, false, false, false, false, false, false, false, false, false, false, false, false, false, false] rfl rfl (take_ofW HT_.out HW_.out (by kernel_rfl)) (fun _ _ _ h => h) (Or.inl ⟨by rfl, ?_⟩) hHeld ?_ ?_
    rotate_left
    · rintro w' ⟨s0, s1, s2, s3, s4, s5, s6⟩
      go_simp
      with_reducible rfl
    rotate_left
    · simp only [Act.put, sT, sZ, sU, i64_w, i32_w]
      rfl
    refine pure_ (i := 3) (N := some 23) (v := ?_) (a' := ?_) #[true, true, true, true, false, false, false, false, false, false, false, false, false, false, false, false, false, false, false, false, false, false, false, false, false, false, false, false, false] rfl rfl (any_of HT_.out (by kernel_rfl)) (fun _ _ _ h => h) (Or.inl ⟨by rfl, ?_⟩) ?_ ?_
    rotate_left
    · intro w'
      go_simp
      with_reducible rfl
    rotate_left
    · simp only [Act.put, sT, sZ, sU, i64_w, i32_w]
      rfl
    refine take_ (i := 4) (N := some 24) (v := ?_) (a' := ?_) #[true, true, true, true, true, false, false, false, false, false, false, false, false, false, false, false, false, false, false, false, false, false, false, false, false, false, false, false, false] rfl rfl (take_ofW HT_.out HW_.out (by kernel_rfl)) (fun _ _ _ h => h) (Or.inl ⟨by rfl, ?_⟩) hHeld ?_ ?_
    rotate_left
    · rintro w' ⟨s0, s1, s2, s3, s4, s5, s6⟩
      go_simp
      with_reducible rfl
    rotate_left
    · simp only [Act.put, sT, sZ, sU, i64_w, i32_w]
      rfl
    refine pure_ (i := 5) (N := some 25) (v := ?_) (a' := ?_) #[true, true, true, true, true, true, false, false, false, false, false, false, false, false, false, false, false, false, false, false, false, false, false, false, false, false, false, false, false] rfl rfl (any_of HT_.out (by kernel_rfl)) (fun _ _ _ h => h) (Or.inl ⟨by rfl, ?_⟩) ?_ ?_
    rotate_left
    · intro w'
      go_simp
      with_reducible rfl
    rotate_left
    · simp only [Act.put, sT, sZ, sU, i64_w, i32_w]
      rfl
    refine pure_ (i := 6) (N := some 26) (v := ?_) (a' := ?_) #[true, true, true, true, true, true, true, false, false, false, false, false, false, false, false, false, false, false, false, false, false, false, false, false, false, false, false, false, false] rfl rfl (any_of HT_.out (by kernel_rfl)) (fun _ _ _ h => h) (Or.inl ⟨by rfl, ?_⟩) ?_ ?_
    rotate_left
    · intro w'
      go_simp
      with_reducible rfl
    rotate_left
    · simp only [Act.put, sT, sZ, sU, i64_w, i32_w]
      rfl
    refine pure_ (i := 7) (N := some 27) (v := ?_) (a' := ?_) #[true, true, true, true, true, true, true, true, false, false, false, false, false, false, false, false, false, false, false, false, false, false, false, false, false, false, false, false, false] rfl rfl (any_of HT_.out (by kernel_rfl)) (fun _ _ _ h => h) (Or.inl ⟨by rfl, ?_⟩) ?_ ?_
    rotate_left
    · intro w'
      go_simp
      with_reducible rfl
    rotate_left
    · simp only [Act.put, sT, sZ, sU, i64_w, i32_w]
      rfl
    refine take_ (i := 8) (N := some 28) (v := ?_) (a' := ?_) #[true, true, true, true, true, true, true, true, true, false, false, false, false, false, false, false, false, false, false, false, false, false, false, false, false, false, false, false, false] rfl rfl (take_ofW HT_.out HW_.out (by kernel_rfl)) (fun _ _ _ h => h) (Or.inl ⟨by rfl, ?_⟩) hHeld ?_ ?_
    rotate_left
    · rintro w' ⟨s0, s1, s2, s3, s4, s5, s6⟩
      go_simp
      with_reducible rfl
    rotate_left
    · simp only [Act.put, sT, sZ, sU, i64_w, i32_w]
      rfl
    refine pure_ (i := 9) (N := some 29) (v := ?_) (a' := ?_) #[true, true, true, true, true, true, true, true, true, true, false, false, false, false, false, false, false, false, false, false, false, false, false, false, false, false, false, false, false] rfl rfl (any_of HT_.out (by kernel_rfl)) (fun _ _ _ h => h) (Or.inl ⟨by rfl, ?_⟩) ?_ ?_
    rotate_left
    · intro w'
      go_simp
      with_reducible rfl
    rotate_left
    · simp only [Act.put, sT, sZ, sU, i64_w, i32_w]
      rfl
    refine take_ (i := 10) (N := some 30) (v := ?_) (a' := ?_) #[true, true, true, true, true, true, true, true, true, true, true, false, false, false, false, false, false, false, false, false, false, false, false, false, false, false, false, false, false] rfl rfl (take_ofW HT_.out HW_.out (by kernel_rfl)) (fun _ _ _ h => h) (Or.inl ⟨by rfl, ?_⟩) hHeld ?_ ?_
    rotate_left
    · rintro w' ⟨s0, s1, s2, s3, s4, s5, s6⟩
      go_simp
      with_reducible rfl
    rotate_left
    · simp only [Act.put, sT, sZ, sU, i64_w, i32_w]
      rfl
    refine pure_ (i := 11) (N := some 31) (v := ?_) (a' := ?_) #[true, true, true, true, true, true, true, true, true, true, true, true, false, false, false, false, false, false, false, false, false, false, false, false, false, false, false, false, false] rfl rfl (any_of HT_.out (by kernel_rfl)) (fun _ _ _ h => h) (Or.inl ⟨by rfl, ?_⟩) ?_ ?_
    rotate_left
    · intro w'
      go_simp
      with_reducible rfl
    rotate_left
    · simp only [Act.put, sT, sZ, sU, i64_w, i32_w]
      rfl
    refine pure_ (i := 12) (N := some 32) (v := ?_) (a' := ?_) #[true, true, true, true, true, true, true, true, true, true, true, true, true, false, false, false, false, false, false, false, false, false, false, false, false, false, false, false, false] rfl rfl (any_of HT_.out (by kernel_rfl)) (fun _ _ _ h => h) (Or.inl ⟨by rfl, ?_⟩) ?_ ?_
    rotate_left
    · intro w'
      go_simp
      with_reducible rfl
    rotate_left
    · simp only [Act.put, sT, sZ, sU, i64_w, i32_w]
      rfl
    refine pure_ (i := 13) (N := some 33) (v := ?_) (a' := ?_) #[true, true, true, true, true, true, true, true, true, true, true, true, true, true, false, false, false, false, false, false, false, false, false, false, false, false, false, false, false] rfl rfl (any_of HT_.out (by kernel_rfl)) (fun _ _ _ h => h) (Or.inl ⟨by rfl, ?_⟩) ?_ ?_
    rotate_left
    · intro w'
      go_simp
      with_reducible rfl
    rotate_left
    · simp only [Act.put, sT, sZ, sU, i64_w, i32_w]
      rfl
    refine pure_ (i := 14) (N := some 34) (v := ?_) (a' := ?_) #[true, true, true, true, true, true, true, true, true, true, true, true, true, true, true, false, false, false, false, false, false, false, false, false, false, false, false, false, false] rfl rfl (any_of HT_.out (by kernel_rfl)) (fun _ _ _ h => h) (Or.inl ⟨by rfl, ?_⟩) ?_ ?_
    rotate_left
    · intro w'
      go_simp
      with_reducible rfl
    rotate_left
    · simp only [Act.put, sT, sZ, sU, i64_w, i32_w]
      rfl
    refine pure_ (i := 18) (N := some 38) (v := ?_) (a' := ?_) #[true, true, true, true, true, true, true, true, true, true, true, true, true, true, true, false, false, false, true, false, false, false, false, false, false, false, false, false, false] rfl rfl (any_of HT_.out (by kernel_rfl)) (fun _ _ _ h => h) (Or.inl ⟨by rfl, ?_⟩) ?_ ?_
    rotate_left
    · intro w'
      go_simp
      with_reducible rfl
    rotate_left
    · simp only [Act.put, sT, sZ, sU, i64_w, i32_w]
      rfl
    refine pure_ (i := 21) (N := some 41) (v := ?_) (a' := ?_) #[true, true, true, true, true, true, true, true, true, true, true, true, true, true, true, false, false, false, true, false, false, true, false, false, false, false, false, false, false] rfl rfl (any_of HT_.out (by kernel_rfl)) (fun _ _ _ h => h) (Or.inl ⟨by rfl, ?_⟩) ?_ ?_
    rotate_left
    · intro w'
      go_simp
      with_reducible rfl
    rotate_left
    · simp only [Act.put, sT, sZ, sU, i64_w, i32_w]
      rfl
    refine pure_ (i := 22) (N := some 42) (v := ?_) (a' := ?_) #[true, true, true, true, true, true, true, true, true, true, true, true, true, true, true, false, false, false, true, false, false, true, true, false, false, false, false, false, false] rfl rfl (any_of HT_.out (by kernel_rfl)) (fun _ _ _ h => h) (Or.inl ⟨by rfl, ?_⟩) ?_ ?_
    rotate_left
    · intro w'
      go_simp
      with_reducible rfl
    rotate_left
    · simp only [Act.put, sT, sZ, sU, i64_w, i32_w]
      rfl
    refine take_ (i := 15) (N := some 35) (v := ?_) (a' := ?_) #[true, true, true, true, true, true, true, true, true, true, true, true, true, true, true, true, false, false, true, false, false, true, true, false, false, false, false, false, false] rfl rfl (take_ofW HT_.out HW_.out (by kernel_rfl)) (fun _ _ _ h => h) (Or.inl ⟨by rfl, ?_⟩) hHeld ?_ ?_
    rotate_left
    · rintro w' ⟨s0, s1, s2, s3, s4, s5, s6⟩
      go_simp
      with_reducible rfl
    rotate_left
    · simp only [Act.put, sT, sZ, sU, i64_w, i32_w]
      rfl
    refine pure_ (i := 16) (N := some 36) (v := ?_) (a' := ?_) #[true, true, true, true, true, true, true, true, true, true, true, true, true, true, true, true, true, false, true, false, false, true, true, false, false, false, false, false, false] rfl rfl (any_of HT_.out (by kernel_rfl)) (fun _ _ _ h => h) (Or.inl ⟨by rfl, ?_⟩) ?_ ?_
    rotate_left
    · intro w'
      go_simp
      with_reducible rfl
    rotate_left
    · simp only [Act.put, sT, sZ, sU, i64_w, i32_w]
      rfl
    refine take_ (i := 17) (N := some 37) (v := ?_) (a' := ?_) #[true, true, true, true, true, true, true, true, true, true, true, true, true, true, true, true, true, true, true, false, false, true, true, false, false, false, false, false, false] rfl rfl (take_ofW HT_.out HW_.out (by kernel_rfl)) (fun _ _ _ h => h) (Or.inl ⟨by rfl, ?_⟩) hHeld ?_ ?_
    rotate_left
    · rintro w' ⟨s0, s1, s2, s3, s4, s5, s6⟩
      go_simp
      with_reducible rfl
    rotate_left
    · simp only [Act.put, sT, sZ, sU, i64_w, i32_w]
      rfl
    refine take_ (i := 19) (N := some 39) (v := ?_) (a' := ?_) #[true, true, true, true, true, true, true, true, true, true, true, true, true, true, true, true, true, true, true, true, false, true, true, false, false, false, false, false, false] rfl rfl (take_ofW HT_.out HW_.out (by kernel_rfl)) (fun _ _ _ h => h) (Or.inl ⟨by rfl, ?_⟩) hHeld ?_ ?_
    rotate_left
    · rintro w' ⟨s0, s1, s2, s3, s4, s5, s6⟩
      go_simp
      with_reducible rfl
    rotate_left
    · simp only [Act.put, sT, sZ, sU, i64_w, i32_w]
      rfl
    refine pure_ (i := 20) (N := some 40) (v := ?_) (a' := ?_) #[true, true, true, true, true, true, true, true, true, true, true, true, true, true, true, true, true, true, true, true, true, true, true, false, false, false, false, false, false] rfl rfl (any_of HT_.out (by kernel_rfl)) (fun _ _ _ h => h) (Or.inl ⟨by rfl, ?_⟩) ?_ ?_
    rotate_left
    · intro w'
      go_simp
      with_reducible rfl
    rotate_left
    · simp only [Act.put, sT, sZ, sU, i64_w, i32_w]
      rfl
    refine take_ (i := 23) (N := some 43) (v := ?_) (a' := ?_) #[true, true, true, true, true, true, true, true, true, true, true, true, true, true, true, true, true, true, true, true, true, true, true, true, false, false, false, false, false] rfl rfl (take_ofW HT_.out HW_.out (by kernel_rfl)) (fun _ _ _ h => h) (Or.inl ⟨by rfl, ?_⟩) hHeld ?_ ?_
    rotate_left
    · rintro w' ⟨s0, s1, s2, s3, s4, s5, s6⟩
      go_simp
      with_reducible rfl
    rotate_left
    · simp only [Act.put, sT, sZ, sU, i64_w, i32_w]
      rfl
    refine pure_ (i := 24) (N := some 44) (v := ?_) (a' := ?_) #[true, true, true, true, true, true, true, true, true, true, true, true, true, true, true, true, true, true, true, true, true, true, true, true, true, false, false, false, false] rfl rfl (any_of HT_.out (by kernel_rfl)) (fun _ _ _ h => h) (Or.inl ⟨by rfl, ?_⟩) ?_ ?_
    rotate_left
    · intro w'
      go_simp
      with_reducible rfl
    rotate_left
    · simp only [Act.put, sT, sZ, sU, i64_w, i32_w]
      rfl
    refine take_ (i := 25) (N := some 45) (v := ?_) (a' := ?_) #[true, true, true, true, true, true, true, true, true, true, true, true, true, true, true, true, true, true, true, true, true, true, true, true, true, true, false, false, false] rfl rfl (take_ofW HT_.out HW_.out (by kernel_rfl)) (fun _ _ _ h => h) (Or.inl ⟨by rfl, ?_⟩) hHeld ?_ ?_
    rotate_left
    · rintro w' ⟨s0, s1, s2, s3, s4, s5, s6⟩
      go_simp
      with_reducible rfl
    rotate_left
    · simp only [Act.put, sT, sZ, sU, i64_w, i32_w]
      rfl
    refine pure_ (i := 26) (N := some 46) (v := ?_) (a' := ?_) #[true, true, true, true, true, true, true, true, true, true, true, true, true, true, true, true, true, true, true, true, true, true, true, true, true, true, true, false, false] rfl rfl (any_of HT_.out (by kernel_rfl)) (fun _ _ _ h => h) (Or.inl ⟨by rfl, ?_⟩) ?_ ?_
    rotate_left
    · intro w'
      go_simp
      with_reducible rfl
    rotate_left
    · simp only [Act.put, sT, sZ, sU, i64_w, i32_w]
      rfl
    refine pure_ (i := 27) (N := some 47) (v := ?_) (a' := ?_) #[true, true, true, true, true, true, true, true, true, true, true, true, true, true, true, true, true, true, true, true, true, true, true, true, true, true, true, true, false] rfl rfl (any_of HT_.out (by kernel_rfl)) (fun _ _ _ h => h) (Or.inl ⟨by rfl, ?_⟩) ?_ ?_
    rotate_left
    · intro w'
      go_simp
      with_reducible rfl
    rotate_left
    · simp only [Act.put, sT, sZ, sU, i64_w, i32_w]
      rfl
    refine pure_ (i := 28) (N := some 48) (v := ?_) (a' := ?_) #[true, true, true, true, true, true, true, true, true, true, true, true, true, true, true, true, true, true, true, true, true, true, true, true, true, true, true, true, true] rfl rfl (any_of HT_.out (by kernel_rfl)) (fun _ _ _ h => h) (Or.inl ⟨by rfl, ?_⟩) ?_ ?_
    rotate_left
    · intro w'
      go_simp
      with_reducible rfl
    rotate_left
    · simp only [Act.put, sT, sZ, sU, i64_w, i32_w]
      rfl
    refine done_ (done_of HT_.out (by kernel_rfl)) ?_
    try go_wp2
    have n0_ := mK (Kd.R_drew HO_1.out)
    have n1_ := mK (Kd.R_drew HO_2.out)
    have n2_ := mK (Kd.R_drew HO_3.out)
    have n3_ := mK (blk_drew BK118.out)
    have n4_ := mK (blk_drew BK120.out)
    have n5_ := mK (Kept.drew HK.out)
    have n6_ := mK (below_drew1 HB.out)
    clear HO_1
    clear HO_2
    clear HO_3
    clear BK118
    clear BK120
    clear HK
    clear HB
    have HO_1 := n0_
    have HO_2 := n1_
    have HO_3 := n2_
    have BK118 := n3_
    have BK120 := n4_
    have HK := n5_
    have HB := n6_
    clear n0_ n1_ n2_ n3_ n4_ n5_ n6_
    have p125 : 0 ≤ (((rd_T70 l0_1 x15_1).f0) : Int) := of_decide_eq_true (by first | (with_reducible assumption) | assumption)
    have q125 : ((rd_T70 l0_1 x15_1).f0) < (x1_1.length : Int) := of_decide_eq_true (by first | (with_reducible assumption) | assumption)
    obtain ⟨ad125, e125, hx125_0⟩ := Kd.at_int (Kd.R_reads' HO_1.out).2.2 ((rd_T70 l0_1 x15_1).f0) p125 q125
    obtain rfl : ad123 = ad125 := (by injection e125)
    replace p125 := eq_true p125
    replace q125 := eq_true q125
    have p21 : 0 ≤ (((rd_T70 l0_1 x15_1).f1) : Int) := of_decide_eq_true (by first | (with_reducible assumption) | assumption)
    have q21 : (((rd_T70 l0_1 x15_1).f1) : Int) < ((x1_1.length : Int) : Int) := of_decide_eq_true (by first | (with_reducible assumption) | assumption)
    obtain ⟨go21, co21, eo21, gb21, gl21, cl21, HG21⟩ := Kd.R_form HO_1.out (by omega)
    (first | cases eo21 | (injection eo21 with ea_ en_ ec_; (first | subst ea_ | (injection ea_ with ea_; subst ea_)); subst ec_; clear en_))
    have GB21 := mK gb21
    have GG21 := mK HG21
    clear gb21 gl21 HG21
    have HMgo21 := mK (show ((P1_ go21 ∨ P2_ go21 ∨ P3_ go21) ∨ w.heap.size ≤ go21) from (HO_1.out.1 _ rfl).1)
    (first | simp only [add_plain] at hx123_0 | skip)
    (first | simp only [add_plain] at hx124_0 | skip)
    (first | simp only [add_plain] at hx125_0 | skip)
    obtain ⟨hx21_0, hf21_0⟩ := Kd.R_celln 0 HO_1.out (((rd_T70 l0_1 x15_1).f1) : Int) p21 q21
    replace p21 := eq_true p21
    replace q21 := eq_true q21
    have HP33 := Kd.R_putn HO_1.out (((rd_T70 l0_1 x15_1).f1) : Int) (wrap64 ((rd x1_1 ((rd_T70 l0_1 x15_1).f0)) + ((rd_T70 l0_1 x15_1).f2)))
    rw [← Ny126.out] at HP33
    have HQ33 := mK HP33
    clear HP33
    refine start_ (n := 13) (S := fun w' => w'.cell? ⟨gb120, 0, none⟩ = some (.int .i64 ((rd_T70 l0_1 x15_1).f0)) ∧ w'.cell? ⟨gb120, 1, none⟩ = some (.int .i64 ((rd_T70 l0_1 x15_1).f1)) ∧ w'.cell? ⟨gb120, 2, none⟩ = some (.int .i64 ((rd_T70 l0_1 x15_1).f2)) ∧ w'.cell? ⟨go21, (((rd_T70 l0_1 x15_1).f0)).toNat, none⟩ = some (.int .i64 (rd x1_1 ((rd_T70 l0_1 x15_1).f0)))) (ds := [12]) #[false, false, false, false, false, false, false, false, false, false, false, false, false] (by kernel_rfl) rfl rfl ⟨(blk_cell BK120.out 0).trans rfl, (blk_cell BK120.out 1).trans rfl, (blk_cell BK120.out 2).trans rfl, hx125_0⟩ (fun hHeld => ?_); refine with_tabW spec_l03Round.tab6 spec_l03Round.bits6 (fun HT_ HW_ => ?_)
    first | generalize w29.drew = w32 at HO_1 HO_2 HO_3 BK118 BK120 HK HB GG21 HQ33 hf21_0 hx123_0 hx124_0 hx125_0 hx21_0 hHeld ⊢ | generalize w29.drew = w32 at HO_1 HO_2 HO_3 BK118 BK120 HK HB GG21 HQ33 hf21_0 hx125_0 hx21_0 hHeld ⊢
    refine pure_ (i := 0) (N := some 49) (v := ?_) (a' := ?_) #[true, false, false, false, false, false, false, false, false, false, false, false, false] rfl rfl (any_of HT_.out (by kernel_rfl)) (fun _ _ _ h => h) (Or.inl ⟨by rfl, ?_⟩) ?_ ?_
    rotate_left
    · intro w'
      go_simp
      with_reducible rfl
    rotate_left
    · simp only [Act.put, sT, sZ, sU, i64_w, i32_w]
      rfl
    refine pure_ (i := 1) (N := some 50) (v := ?_) (a' := ?_) #[true, true, false, false, false, false, false, false, false, false, false, false, false] rfl rfl (any_of HT_.out (by kernel_rfl)) (fun _ _ _ h => h) (Or.inl ⟨by rfl, ?_⟩) ?_ ?_
    rotate_left
    · intro w'
      go_simp
      with_reducible rfl
    rotate_left
    · simp only [Act.put, sT, sZ, sU, i64_w, i32_w]
      rfl
    refine pure_ (i := 3) (N := some 52) (v := ?_) (a' := ?_) #[true, true, false, true, false, false, false, false, false, false, false, false, false] rfl rfl (any_of HT_.out (by kernel_rfl)) (fun _ _ _ h => h) (Or.inl ⟨by rfl, ?_⟩) ?_ ?_
    rotate_left
    · intro w'
      go_simp
      with_reducible rfl
    rotate_left
    · simp only [Act.put, sT, sZ, sU, i64_w, i32_w]
      rfl
    refine pure_ (i := 4) (N := some 53) (v := ?_) (a' := ?_) #[true, true, false, true, true, false, false, false, false, false, false, false, false] rfl rfl (any_of HT_.out (by kernel_rfl)) (fun _ _ _ h => h) (Or.inl ⟨by rfl, ?_⟩) ?_ ?_
    rotate_left
    · intro w'
      go_simp
      with_reducible rfl
    rotate_left
    · simp only [Act.put, sT, sZ, sU, i64_w, i32_w]
      rfl
    refine pure_ (i := 8) (N := some 57) (v := ?_) (a' := ?_) #[true, true, false, true, true, false, false, false, true, false, false, false, false] rfl rfl (any_of HT_.out (by kernel_rfl)) (fun _ _ _ h => h) (Or.inl ⟨by rfl, ?_⟩) ?_ ?_
    rotate_left
    · intro w'
      go_simp
      with_reducible rfl
    rotate_left
    · simp only [Act.put, sT, sZ, sU, i64_w, i32_w]
      rfl
    refine take_ (i := 2) (N := some 51) (v := ?_) (a' := ?_) #[true, true, true, true, true, false, false, false, true, false, false, false, false] rfl rfl (take_ofW HT_.out HW_.out (by kernel_rfl)) (fun _ _ _ h => h) (Or.inl ⟨by rfl, ?_⟩) hHeld ?_ ?_
    rotate_left
    · rintro w' ⟨s0, s1, s2, s3⟩
      go_simp
      with_reducible rfl
    rotate_left
    · simp only [Act.put, sT, sZ, sU, i64_w, i32_w]
      rfl
    refine take_ (i := 5) (N := some 54) (v := ?_) (a' := ?_) #[true, true, true, true, true, true, false, false, true, false, false, false, false] rfl rfl (take_ofW HT_.out HW_.out (by kernel_rfl)) (fun _ _ _ h => h) (Or.inl ⟨by rfl, ?_⟩) hHeld ?_ ?_
    rotate_left
    · rintro w' ⟨s0, s1, s2, s3⟩
      go_simp
      with_reducible rfl
    rotate_left
    · simp only [Act.put, sT, sZ, sU, i64_w, i32_w]
      rfl
    refine pure_ (i := 6) (N := some 55) (v := ?_) (a' := ?_) #[true, true, true, true, true, true, true, false, true, false, false, false, false] rfl rfl (any_of HT_.out (by kernel_rfl)) (fun _ _ _ h => h) (Or.inl ⟨by rfl, ?_⟩) ?_ ?_
    rotate_left
    · intro w'
      go_simp
      with_reducible rfl
    rotate_left
    · simp only [Act.put, sT, sZ, sU, i64_w, i32_w]
      rfl
    refine take_ (i := 7) (N := some 56) (v := ?_) (a' := ?_) #[true, true, true, true, true, true, true, true, true, false, false, false, false] rfl rfl (take_ofW HT_.out HW_.out (by kernel_rfl)) (fun _ _ _ h => h) (Or.inl ⟨by rfl, ?_⟩) hHeld ?_ ?_
    rotate_left
    · rintro w' ⟨s0, s1, s2, s3⟩
      go_simp
      with_reducible rfl
    rotate_left
    · simp only [Act.put, sT, sZ, sU, i64_w, i32_w]
      rfl
    refine take_ (i := 9) (N := some 58) (v := ?_) (a' := ?_) #[true, true, true, true, true, true, true, true, true, true, false, false, false] rfl rfl (take_ofW HT_.out HW_.out (by kernel_rfl)) (fun _ _ _ h => h) (Or.inl ⟨by rfl, ?_⟩) hHeld ?_ ?_
    rotate_left
    · rintro w' ⟨s0, s1, s2, s3⟩
      go_simp
      with_reducible rfl
    rotate_left
    · simp only [Act.put, sT, sZ, sU, i64_w, i32_w]
      rfl
    refine pure_ (i := 10) (N := some 59) (v := ?_) (a' := ?_) #[true, true, true, true, true, true, true, true, true, true, true, false, false] rfl rfl (any_of HT_.out (by kernel_rfl)) (fun _ _ _ h => h) (Or.inl ⟨by rfl, ?_⟩) ?_ ?_
    rotate_left
    · intro w'
      go_simp
      with_reducible rfl
    rotate_left
    · simp only [Act.put, sT, sZ, sU, i64_w, i32_w]
      rfl
    refine pure_ (i := 11) (N := some 60) (v := ?_) (a' := ?_) #[true, true, true, true, true, true, true, true, true, true, true, true, false] rfl rfl (any_of HT_.out (by kernel_rfl)) (fun _ _ _ h => h) (Or.inl ⟨by rfl, ?_⟩) ?_ ?_
    rotate_left
    · intro w'
      go_simp
      with_reducible rfl
    rotate_left
    · simp only [Act.put, sT, sZ, sU, i64_w, i32_w]
      rfl
    refine last_ (i := 12) (N := none) #[true, true, true, true, true, true, true, true, true, true, true, true, true] rfl rfl (one_of HT_.out (by kernel_rfl)) (by decide) (fun K hK => ?_)
    refine skip_ (w1 := ?_) (by rfl) rfl ?_ ?_
    rotate_left
    · go_simp
      rfl
    refine hK.out _ _ ?_
    clear hK K
    refine done_ (done_of HT_.out (by kernel_rfl)) ?_
    have n0_ : Aside0 (Kd.R (Kd.int .i64) 3 (w32.setCell ⟨go21, (((rd_T70 l0_1 x15_1).f1) : Int).toNat, none⟩ (.int .i64 (wrap64 ((rd x1_1 ((rd_T70 l0_1 x15_1).f0)) + ((rd_T70 l0_1 x15_1).f2))))) w0.heap.size (fun k_ => ((P1_ k_ ∨ P2_ k_ ∨ P3_ k_) ∨ w.heap.size ≤ k_) ∧ some k_ ≠ (u9001_ : Value).ownBlock) (.slice (some ⟨go21, 0, none⟩) x1_1.length co31) y126) := ⟨by (with_reducible repeat (first | apply rA | apply rN | apply rD)); exact HQ33.out⟩
    have n1_ : Aside0 (Kd.R (Kd.int .i64) 3 (w32.setCell ⟨go21, (((rd_T70 l0_1 x15_1).f1) : Int).toNat, none⟩ (.int .i64 (wrap64 ((rd x1_1 ((rd_T70 l0_1 x15_1).f0)) + ((rd_T70 l0_1 x15_1).f2))))) w0.heap.size (fun k_ => ((P1_ k_ ∨ P2_ k_ ∨ P3_ k_) ∨ w.heap.size ≤ k_) ∧ some k_ ≠ (.slice (some ⟨go21, 0, none⟩) x1_1.length co31 : Value).ownBlock) u9001_ x2_1) := ⟨by (with_reducible repeat (first | apply rA | apply rN | apply rD)); exact Kd.R_mono (Kd.R_far (p := ⟨go21, (((rd_T70 l0_1 x15_1).f1) : Int).toNat, none⟩) (Kd.R_mono HO_2.out (fun k_ hk => (⟨hk, fun e_ => hk.2 (by rw [e_]; rfl)⟩ : _ ∧ k_ ≠ go21))) (fun _ hk => hk.2) (.int .i64 (wrap64 ((rd x1_1 ((rd_T70 l0_1 x15_1).f0)) + ((rd_T70 l0_1 x15_1).f2))))) (fun _ hk => ⟨hk.1.1, hk.1.2⟩)⟩
    have n2_ : Aside0 (Kd.R Kd.bool 4 (w32.setCell ⟨go21, (((rd_T70 l0_1 x15_1).f1) : Int).toNat, none⟩ (.int .i64 (wrap64 ((rd x1_1 ((rd_T70 l0_1 x15_1).f0)) + ((rd_T70 l0_1 x15_1).f2))))) w0.heap.size (fun k_ => ((P1_ k_ ∨ P2_ k_ ∨ P3_ k_) ∨ w.heap.size ≤ k_)) (.slice (some ad121) x3_1.length co30) x3_1) := ⟨by (with_reducible repeat (first | apply rA | apply rN | apply rD)); exact Kd.R_mono (Kd.R_far (p := ⟨go21, (((rd_T70 l0_1 x15_1).f1) : Int).toNat, none⟩) (Kd.R_types HO_3.out GG21.out (by decide)) (fun _ hk => hk.2) (.int .i64 (wrap64 ((rd x1_1 ((rd_T70 l0_1 x15_1).f0)) + ((rd_T70 l0_1 x15_1).f2))))) (fun _ hk => hk.1)⟩
    have n3_ : Aside0 ((w32.setCell ⟨go21, (((rd_T70 l0_1 x15_1).f1) : Int).toNat, none⟩ (.int .i64 (wrap64 ((rd x1_1 ((rd_T70 l0_1 x15_1).f0)) + ((rd_T70 l0_1 x15_1).f2))))).heap[gb118]? = some (.cells #[.int .i64 a0_0, .slice (some ad119) l0_1.length c0_1] 33 (0, 0))) := ⟨by (with_reducible repeat (first | refine kN ?_ _ | refine kD ?_ | refine kA ?_ _)); refine blk_far ?_ (by have h_ := Kd.R_ne HO_1.out BK118.out (by decide); intro e_; exact h_ (by rw [e_]; rfl)) _; (with_reducible repeat (first | refine kN ?_ _ | refine kD ?_ | refine kA ?_ _)); exact BK118.out⟩
    have n4_ : Aside0 ((w32.setCell ⟨go21, (((rd_T70 l0_1 x15_1).f1) : Int).toNat, none⟩ (.int .i64 (wrap64 ((rd x1_1 ((rd_T70 l0_1 x15_1).f0)) + ((rd_T70 l0_1 x15_1).f2))))).heap[gb120]? = some (.cells #[.int .i64 ((rd_T70 l0_1 x15_1).f0), .int .i64 ((rd_T70 l0_1 x15_1).f1), .int .i64 ((rd_T70 l0_1 x15_1).f2)] 70 (0, 0))) := ⟨by (with_reducible repeat (first | refine kN ?_ _ | refine kD ?_ | refine kA ?_ _)); refine blk_far ?_ (by have h_ := Kd.R_ne HO_1.out BK120.out (by decide); intro e_; exact h_ (by rw [e_]; rfl)) _; (with_reducible repeat (first | refine kN ?_ _ | refine kD ?_ | refine kA ?_ _)); exact BK120.out⟩
    have n5_ : Aside0 (Kept w (w32.setCell ⟨go21, (((rd_T70 l0_1 x15_1).f1) : Int).toNat, none⟩ (.int .i64 (wrap64 ((rd x1_1 ((rd_T70 l0_1 x15_1).f0)) + ((rd_T70 l0_1 x15_1).f2))))) (fun k_ => P1_ k_ ∨ P2_ k_ ∨ P3_ k_)) := ⟨by repeat (first | (with_reducible first | exact HK.out | apply Kept.alloc | apply Kept.drewN | apply Kept.drew | refine Kept.setCell ?_ HMgo21.out _ | refine Kept.setCell ?_ (.inr GW118.out) _ | refine Kept.setCell ?_ (.inr GW120.out) _) | exact HK.out)⟩
    have n6_ : Aside0 (Below w0.heap.size w0 (w32.setCell ⟨go21, (((rd_T70 l0_1 x15_1).f1) : Int).toNat, none⟩ (.int .i64 (wrap64 ((rd x1_1 ((rd_T70 l0_1 x15_1).f0)) + ((rd_T70 l0_1 x15_1).f2)))))) := ⟨by repeat (first | (with_reducible first | exact HB.out | apply bA | apply bN | apply bD | refine bS ?_ GB21.out | refine bS ?_ GE118.out | refine bS ?_ GE120.out) | exact HB.out)⟩
    (try clear HO_1)
    (try clear HO_2)
    (try clear HO_3)
    (try clear BK118)
    (try clear BK120)
    (try clear HK)
    (try clear HB)
    generalize (w32.setCell ⟨go21, (((rd_T70 l0_1 x15_1).f1) : Int).toNat, none⟩ (.int .i64 (wrap64 ((rd x1_1 ((rd_T70 l0_1 x15_1).f0)) + ((rd_T70 l0_1 x15_1).f2))))) = w34 at n0_ n1_ n2_ n3_ n4_ n5_ n6_ ⊢
    have HO_1 := n0_
    have HO_2 := n1_
    have HO_3 := n2_
    have BK118 := n3_
    have BK120 := n4_
    have HK := n5_
    have HB := n6_
    clear n0_ n1_ n2_ n3_ n4_ n5_ n6_
    have hcz35_0 : w34.cell? ⟨gb120, 0, none⟩ = some (.int .i64 ((rd_T70 l0_1 x15_1).f0)) := (blk_cell BK120.out 0).trans rfl
    have hcz35_1 : w34.cell? ⟨gb120, 1, none⟩ = some (.int .i64 ((rd_T70 l0_1 x15_1).f1)) := (blk_cell BK120.out 1).trans rfl
    have hcz35_2 : w34.cell? ⟨gb120, 2, none⟩ = some (.int .i64 ((rd_T70 l0_1 x15_1).f2)) := (blk_cell BK120.out 2).trans rfl
    have hfz35_0 := blk_frozen BK120.out 0
    have hfz35_1 := blk_frozen BK120.out 1
    have hfz35_2 := blk_frozen BK120.out 2
    have p22 : 0 ≤ (((rd_T70 l0_1 x15_1).f1) : Int) := of_decide_eq_true (by first | (with_reducible assumption) | assumption)
    have q22 : (((rd_T70 l0_1 x15_1).f1) : Int) < ((x3_1.length : Int) : Int) := of_decide_eq_true (by first | (with_reducible assumption) | assumption)
    obtain ⟨go22, co22, eo22, gb22, gl22, cl22, HG22⟩ := Kd.R_form HO_3.out (by omega)
    (first | cases eo22 | (injection eo22 with ea_ en_ ec_; (first | subst ea_ | (injection ea_ with ea_; subst ea_)); subst ec_; clear en_))
    have GB22 := mK gb22
    have GG22 := mK HG22
    clear gb22 gl22 HG22
    have HMgo22 := mK (show ((P1_ go22 ∨ P2_ go22 ∨ P3_ go22) ∨ w.heap.size ≤ go22) from (HO_3.out.1 _ rfl))
    (first | simp only [add_plain] at hx121_0 | skip)
    (first | simp only [add_plain] at hx122_0 | skip)
    obtain ⟨hx22_0, hf22_0⟩ := Kd.R_celln false HO_3.out (((rd_T70 l0_1 x15_1).f1) : Int) p22 q22
    replace p22 := eq_true p22
    replace q22 := eq_true q22
    obtain ⟨hy36_, hz36_⟩ := Kd.R_celln false HO_3.out (((rd_T70 l0_1 x15_1).f1) : Int) (of_decide_eq_true (by first | (with_reducible assumption) | assumption)) (of_decide_eq_true (by first | (with_reducible assumption) | assumption))
    have HP36 := Kd.R_putg HO_3.out (((rd_T70 l0_1 x15_1).f1) : Int) true
    try go_wp2_with (first | ((with_reducible refine gate_store (t := 4) (p := 64) rfl ?_); refine store_event (t := 4) (p := 64) (v := ?vo_w37) (w1 := (w34.setCell ⟨go22, (((rd_T70 l0_1 x15_1).f1) : Int).toNat, none⟩ (.bool true))) ?hg ?ho ?hn ?hr ?_; (case ho => rfl); (case hg => rfl); (case hn => rfl); (case hr => first | (go_simp; done) | (go_simp; rfl)); intro w37 hw; have hg : w34.grownBy w37 (some go22) := (by rw [hw]; exact HP36.2); have hp_ : Kd.R Kd.bool 4 w37 w0.heap.size (fun k_ => ((P1_ k_ ∨ P2_ k_ ∨ P3_ k_) ∨ w.heap.size ≤ k_)) (.slice (some ⟨go22, 0, none⟩) x3_1.length co30) y127 := (by rw [hw, Ny127.out]; exact HP36.1); clear HP36; have n0_ := mK (Kd.R_over' (v := (.slice (some ⟨go22, 0, none⟩) x3_1.length co30)) (by (with_reducible repeat (first | apply rA | apply rN | apply rD)); exact HO_1.out) (Kd.R_typed HO_3.out) (by decide) hg); have n1_ := mK (Kd.R_over' (v := (.slice (some ⟨go22, 0, none⟩) x3_1.length co30)) (by (with_reducible repeat (first | apply rA | apply rN | apply rD)); exact HO_2.out) (Kd.R_typed HO_3.out) (by decide) hg); have n2_ := mK (hp_); have n3_ := mK (blk_grown (by (with_reducible repeat (first | refine kN ?_ _ | refine kD ?_ | refine kA ?_ _)); exact BK118.out) hg (Kd.R_ne HO_3.out BK118.out (by decide))); have n4_ := mK (blk_grown (by (with_reducible repeat (first | refine kN ?_ _ | refine kD ?_ | refine kA ?_ _)); exact BK120.out) hg (Kd.R_ne HO_3.out BK120.out (by decide))); have n5_ := mK ((by rw [hw]; exact below_set (HB.out) GB22.out : Below w0.heap.size w0 w37)); have n6_ := mK (Kept.of_grown (S := (fun k_ => P1_ k_ ∨ P2_ k_ ∨ P3_ k_)) hg (by repeat (first | (with_reducible first | exact HK.out | apply Kept.alloc | apply Kept.drewN | apply Kept.drew | refine Kept.setCell ?_ (.inr GW118.out) _ | refine Kept.setCell ?_ (.inr GW120.out) _) | exact HK.out)) (fun k_ e_ => (HO_3.out.1 k_ e_))); clear HO_1; clear HO_2; clear HO_3; clear BK118; clear BK120; clear HB; clear HK; have HO_1 := n0_; have HO_2 := n1_; have HO_3 := n2_; have BK118 := n3_; have BK120 := n4_; have HB := n5_; have HK := n6_; clear n0_ n1_ n2_ n3_ n4_ n5_ n6_; clear hg hw hp_; have hcz38_0 : w37.cell? ⟨gb120, 0, none⟩ = some (.int .i64 ((rd_T70 l0_1 x15_1).f0)) := (blk_cell BK120.out 0).trans rfl; have hcz38_1 : w37.cell? ⟨gb120, 1, none⟩ = some (.int .i64 ((rd_T70 l0_1 x15_1).f1)) := (blk_cell BK120.out 1).trans rfl; have hcz38_2 : w37.cell? ⟨gb120, 2, none⟩ = some (.int .i64 ((rd_T70 l0_1 x15_1).f2)) := (blk_cell BK120.out 2).trans rfl; have hfz38_0 := blk_frozen BK120.out 0; have hfz38_1 := blk_frozen BK120.out 1; have hfz38_2 := blk_frozen BK120.out 2; have p24 : 0 ≤ (((rd_T70 l0_1 x15_1).f1) : Int) := of_decide_eq_true (by first | (with_reducible assumption) | assumption); have q24 : (((rd_T70 l0_1 x15_1).f1) : Int) < ((x2_1.length : Int) : Int) := of_decide_eq_true (by first | (with_reducible assumption) | assumption); obtain ⟨go24, co24, eo24, gb24, gl24, cl24, HG24⟩ := Kd.R_form HO_2.out (by omega); (first | cases eo24 | (injection eo24 with ea_ en_ ec_; (first | subst ea_ | (injection ea_ with ea_; subst ea_)); subst ec_; clear en_)); have GB24 := mK gb24; have GG24 := mK HG24; clear gb24 gl24 HG24; have HMgo24 := mK (show ((P1_ go24 ∨ P2_ go24 ∨ P3_ go24) ∨ w.heap.size ≤ go24) from (HO_2.out.1 _ rfl).1); obtain ⟨hx24_0, hf24_0⟩ := Kd.R_celln 0 HO_2.out (((rd_T70 l0_1 x15_1).f1) : Int) p24 q24; replace p24 := eq_true p24; replace q24 := eq_true q24; obtain ⟨hy39_, hz39_⟩ := Kd.R_celln 0 HO_2.out (((rd_T70 l0_1 x15_1).f1) : Int) (of_decide_eq_true (by first | (with_reducible assumption) | assumption)) (of_decide_eq_true (by first | (with_reducible assumption) | assumption)); have HP39 := Kd.R_putg HO_2.out (((rd_T70 l0_1 x15_1).f1) : Int) x15_1) | ((with_reducible refine gate_store (t := 3) (p := 69) rfl ?_); refine store_event (t := 3) (p := 69) (v := ?vo_w40) (w1 := (w37.setCell ⟨go24, (((rd_T70 l0_1 x15_1).f1) : Int).toNat, none⟩ (.int .i64 x15_1))) ?hg ?ho ?hn ?hr ?_; (case ho => rfl); (case hg => rfl); (case hn => rfl); (case hr => first | (go_simp; done) | (go_simp; rfl)); intro w40 hw; have hg : w37.grownBy w40 (some go24) := (by rw [hw]; exact HP39.2); have hp_ : Kd.R (Kd.int .i64) 3 w40 w0.heap.size (fun k_ => ((P1_ k_ ∨ P2_ k_ ∨ P3_ k_) ∨ w.heap.size ≤ k_) ∧ some k_ ≠ (.slice (some ⟨go21, 0, none⟩) x1_1.length co31 : Value).ownBlock) (.slice (some ⟨go24, 0, none⟩) x2_1.length co24) y128 := (by rw [hw, Ny128.out]; exact HP39.1); clear HP39; have n0_ := mK (Kd.R_after (v := (.slice (some ⟨go24, 0, none⟩) x2_1.length co24)) (v1 := (.slice (some ⟨go24, 0, none⟩) x2_1.length co24)) (ok := (fun k_ => ((P1_ k_ ∨ P2_ k_ ∨ P3_ k_) ∨ w.heap.size ≤ k_))) (by (with_reducible repeat (first | apply rA | apply rN | apply rD)); exact HO_1.out) hg (.inl rfl)); have n1_ := mK (hp_); have n2_ := mK (Kd.R_over' (v := (.slice (some ⟨go24, 0, none⟩) x2_1.length co24)) (by (with_reducible repeat (first | apply rA | apply rN | apply rD)); exact HO_3.out) (Kd.R_typed HO_2.out) (by decide) hg); have n3_ := mK (blk_grown (by (with_reducible repeat (first | refine kN ?_ _ | refine kD ?_ | refine kA ?_ _)); exact BK118.out) hg (Kd.R_ne HO_2.out BK118.out (by decide))); have n4_ := mK (blk_grown (by (with_reducible repeat (first | refine kN ?_ _ | refine kD ?_ | refine kA ?_ _)); exact BK120.out) hg (Kd.R_ne HO_2.out BK120.out (by decide))); have n5_ := mK ((by rw [hw]; exact below_set (HB.out) GB24.out : Below w0.heap.size w0 w40)); have n6_ := mK (Kept.of_grown (S := (fun k_ => P1_ k_ ∨ P2_ k_ ∨ P3_ k_)) hg (by repeat (first | (with_reducible first | exact HK.out | apply Kept.alloc | apply Kept.drewN | apply Kept.drew | refine Kept.setCell ?_ (.inr GW118.out) _ | refine Kept.setCell ?_ (.inr GW120.out) _) | exact HK.out)) (fun k_ e_ => (HO_2.out.1 k_ e_).1)); clear HO_1; clear HO_2; clear HO_3; clear BK118; clear BK120; clear HB; clear HK; have HO_1 := n0_; have HO_2 := n1_; have HO_3 := n2_; have BK118 := n3_; have BK120 := n4_; have HB := n5_; have HK := n6_; clear n0_ n1_ n2_ n3_ n4_ n5_ n6_; clear hg hw hp_))
    go_roundg k1
    case measure => have := HK1.out; omega
    case rel => exact ⟨(y126), (y128), (y127), (x15_1), (wrap64 (x15_1 + 1)), (by first | rfl | (simp; done) | (simp [*]; done)), (by first | rfl | (simp; done) | (simp [*]; done)), H', ⟨by have := HK1.out; omega⟩, ⟨by (with_reducible repeat (first | apply rA | apply rN | apply rD)); exact HO_1.out⟩, ⟨by (with_reducible repeat (first | apply rA | apply rN | apply rD)); exact HO_2.out⟩, ⟨by (with_reducible repeat (first | apply rA | apply rN | apply rD)); exact HO_3.out⟩, ⟨by (with_reducible repeat (first | refine kN ?_ _ | refine kD ?_ | refine kA ?_ _)); exact BK118.out⟩, ⟨by repeat (first | (with_reducible first | exact HK.out | apply Kept.alloc | apply Kept.drewN | apply Kept.drew | refine Kept.setCell ?_ (.inr GW118.out) _ | refine Kept.setCell ?_ (.inr GW120.out) _) | exact HK.out)⟩, ⟨by repeat (first | (with_reducible first | exact HB.out | apply bA | apply bN | apply bD | refine bS ?_ GE118.out | refine bS ?_ GE120.out) | exact HB.out)⟩⟩

end Go.Proofs.Ytbbblnmngjhadaa.QFnExactIsConsistent
