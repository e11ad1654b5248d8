-- Written by this session's program wip/tools/mk.py out of the translation; Lean checks it.
import Derived.Test.YtbbblnmngjhadaaQFnExactWindowOfx0
import Derived.Test.YtbbblnmngjhadaaQFnExactWindowOfx11
namespace Go.Proofs.Ytbbblnmngjhadaa.QFnExactWindowOf
open Go.RowKit Go.Proofs.YtbbblnmngjhadaaW.PrintWords Go.Proofs.YtbbblnmngjhadaaW.PrintLast Go.Proofs.YtbbblnmngjhadaaW.PrintMore
attribute [local go_sem] max2_int min2_int max_two min_two max_three min_three max_four min_four   -- for this text's walks alone
set_option linter.unusedVariables false
set_option linter.unusedSimpArgs false

/-! ### impl_graphOf: function 87 -/
def impl_graphOf.l0 : Nat → List Int → List (S76) → Int → Int → Int → List (S70) → Option (Int × (List (S70)) × List Int)
  | 0, _, _, _, _, _, _ => none
  | k + 1, x5, x12, x13, x14, x361000, x361001 => if x14 < x13 then (if 0 ≤ x14 then (if x14 < (x12.length : Int) then (if ((rd_T76 x12 x14).f2.f1) = 1000000 then (if ((rd_T76 x12 x14).f2.f0) = (-1000000) then (impl_graphOf.l0 k x5 x12 x13 (wrap64 (x14 + 1)) x361000 x361001) else (if x361001.length < 5864062014805 then (if x5.length < 17592186044416 then (impl_graphOf.l0 k (x5 ++ [x14]) x12 x13 (wrap64 (x14 + 1)) x361000 (x361001 ++ [(⟨(rd_T76 x12 x14).f1, (rd_T76 x12 x14).f0, wrap64 (-((rd_T76 x12 x14).f2.f0))⟩ : S70)])) else (none)) else (none))) else (if x361001.length < 5864062014805 then ((some (x361001 ++ [(⟨(rd_T76 x12 x14).f0, (rd_T76 x12 x14).f1, (rd_T76 x12 x14).f2.f1⟩ : S70)] : List (S70))).bind fun y369 => (if x5.length < 17592186044416 then ((some (x5 ++ [x14] : List Int)).bind fun y372 => (if ((rd_T76 x12 x14).f2.f0) = (-1000000) then (impl_graphOf.l0 k y372 x12 x13 (wrap64 (x14 + 1)) x361000 y369) else (if y369.length < 5864062014805 then (if y372.length < 17592186044416 then (impl_graphOf.l0 k (y372 ++ [x14]) x12 x13 (wrap64 (x14 + 1)) x361000 (y369 ++ [(⟨(rd_T76 x12 x14).f1, (rd_T76 x12 x14).f0, wrap64 (-((rd_T76 x12 x14).f2.f0))⟩ : S70)])) else (none)) else (none)))) else (none))) else (none))) else (none)) else (none)) else (some (x361000, x361001, x5))
def impl_graphOf.f (k : Nat) (a0_0 : Int) (l0_1 : List (S76)) : Option (Int × (List (S70)) × List Int) := impl_graphOf.l0 k ([] : List Int) l0_1 (l0_1.length : Int) 0 a0_0 ([] : List (S70))
theorem impl_graphOf.mono_l : ∀ k, (∀ y0 y1 y2 y3 y4 y5, LeO (impl_graphOf.l0 k y0 y1 y2 y3 y4 y5) (impl_graphOf.l0 (k + 1) y0 y1 y2 y3 y4 y5))
  | 0 => fun _ _ _ _ _ _ r h => by simp [impl_graphOf.l0] at h
  | k + 1 => by
    have ih0 := impl_graphOf.mono_l k
    · intro y0 y1 y2 y3 y4 y5
      unfold impl_graphOf.l0
      repeat' first|(with_reducible first|exact ih0 _ _ _ _ _ _|exact lR _|exact lN _|refine lI ?_ ?_|refine lB ?_ (fun _ => ?_))|exact ih0 _ _ _ _ _ _|exact lN _|refine lI ?_ ?_|refine lB ?_ (fun _ => ?_)
theorem impl_graphOf.mono : ∀ a0 a1 k, LeO (impl_graphOf.f k a0 a1) (impl_graphOf.f (k + 1) a0 a1) := by
  intro a0 a1 k
  have ih0 := impl_graphOf.mono_l k
  unfold impl_graphOf.f
  repeat' first|(with_reducible first|exact ih0 _ _ _ _ _ _|exact lR _|exact lN _|refine lI ?_ ?_|refine lB ?_ (fun _ => ?_))|exact ih0 _ _ _ _ _ _|exact lN _|refine lI ?_ ?_|refine lB ?_ (fun _ => ?_)
set_option maxHeartbeats 8000000 in
set_option maxRecDepth 100000 in
theorem impl_graphOf.calls (k : Nat) (a0_0 : Int) (A0_1 : Option Addr) (c0_1 : Nat) (l0_1 : List (S76)) (r1 : Int) (r2 : List (S70)) (r3 : List Int) (w : World) (hr0_1 : Kd.C k76 w A0_1 l0_1.length l0_1) (hc0_1 : l0_1.length ≤ c0_1) (h : impl_graphOf.f k a0_0 l0_1 = some (r1, r2, r3)) :
    Calls Try.prog 87 #[.agg #[.int .i64 a0_0, .slice A0_1 l0_1.length c0_1]] w fun e w' => ∃ v1_ v2_ : Value, e = .returned (.tuple #[.agg #[.int .i64 r1, v1_], v2_]) ∧ Kd.R k70 70 w' w.heap.size (fun _ => True) v1_ r2 ∧ Kd.R (Kd.int .i64) 3 w' w.heap.size (fun _ => True) v2_ r3 ∧ Below w.heap.size w w' := by
 have hu47 := Try.underlying47
 have hu33 := Try.underlying33
 have hu76 := Try.underlying76
 have hu70 := Try.underlying70
 have HR0_1 := mK hr0_1
 have HC0_1 := mK hc0_1
 clear hr0_1 hc0_1
 have HB := mK (Below.refl w.heap.size w)
 have H : (impl_graphOf.l0 k ([] : List Int) l0_1 (l0_1.length : Int) 0 a0_0 ([] : List (S70))) = some (r1, r2, r3) := h
 clear h
 have H' := mK H
 clear H
 go_enter Try.func87, Try.ntmps87
 go_wp2_with (first | ((with_reducible refine gate_dst (N := 1) rfl ?_); refine bxE 1 #[.int .i64 a0_0, .slice A0_1 l0_1.length c0_1] 47 ?_; intro gb358 hg w2 hbox hb; have BK358 := mK hbox; have GW358 := mK (gX hg HB); have GE358 := mK (gX hg HB); replace HB := bB HB hb; clear hb hbox hg) | ((with_reducible refine gate_dst (N := 2) rfl ?_); refine bxE 2 #[.int .i64 0, .slice none 0 0] 33 ?_; intro gb359 hg w3 hbox hb; have BK359 := mK hbox; have GW359 := mK (gX hg HB); have GE359 := mK (gX hg HB); replace HB := bB HB hb; have NB358_359 := mK (lX hg BK358); have NB359_358 := mK (mX hg BK358); replace BK358 := kB BK358 hb; clear hb hbox hg; have hnb4 := NB358_359.out; have hnc4 := NB359_358.out; have hcz5_0 := q0 BK358; have hcz5_1 := q1 BK358; have hfz5_0 := fX BK358 0; have hfz5_1 := fX BK358 1) | ((with_reducible refine gate_dst (N := 4) rfl ?_); refine bxE 4 #[.int .i64 0, .slice none 0 0] 33 ?_; intro gb360 hg w6 hbox hb; have BK360 := mK hbox; have GW360 := mK (gX hg HB); have GE360 := mK (gX hg HB); replace HB := bB HB hb; have NB358_360 := mK (lX hg BK358); have NB360_358 := mK (mX hg BK358); replace BK358 := kB BK358 hb; have NB359_360 := mK (lX hg BK359); have NB360_359 := mK (mX hg BK359); replace BK359 := kB BK359 hb; clear hb hbox hg; have hnb7 := NB360_358.out; have hnc7 := NB358_360.out; have hnb8 := NB360_359.out; have hnc8 := NB359_360.out; have hcz9_0 := q0 BK360; have hcz9_1 := q1 BK360; have hfz9_0 := fX BK360 0; have hfz9_1 := fX BK360 1; have hcz10_0 := q0 BK358; have hcz10_1 := q1 BK358; have hfz10_0 := fX BK358 0; have hfz10_1 := fX BK358 1))
 go_loopg [5, 14] k (fun kq v5 v14 w' => ∃ (x5_1 : List Int) (x14_1 : Int) (x361001_1 : List (S70)) (u361001 : Value), v14 = .int .i64 x14_1 ∧ Aside0 (impl_graphOf.l0 kq x5_1 l0_1 (l0_1.length : Int) x14_1 a0_0 x361001_1 = some (r1, r2, r3)) ∧ Aside0 (kq ≤ k) ∧ Aside0 (Kd.R (Kd.int .i64) 3 w' w.heap.size (fun _ => True) v5 x5_1) ∧ Aside0 (Kd.R k70 70 w' w.heap.size (fun _ => True) u361001 x361001_1) ∧ Aside0 (w'.heap[gb358]? = some (.cells #[.int .i64 a0_0, (.slice A0_1 l0_1.length c0_1)] 47 (0, 0))) ∧ Aside0 (w'.heap[gb359]? = some (.cells #[.int .i64 0, (.slice none 0 0)] 33 (0, 0))) ∧ Aside0 (w'.heap[gb360]? = some (.cells #[.int .i64 a0_0, u361001] 33 (0, 0))) ∧ Aside0 (Below w.heap.size w w'))
 case atStart => exact ⟨(([] : List Int)), (0), (([] : List (S70))), (.slice none 0 0), (by first | rfl | (simp; done) | (simp [*]; done)), H', ⟨Nat.le_refl _⟩, ⟨by first | exact Kd.R_nil _ _ _ _ _ | exact Kd.N_nil _ _ _ _ _ | exact Kd.V_nil _ _ _ _ _ | exact Kd.Q_nil _ _ _ _ _ | exact Kd.S_nil _ _ _ _ _⟩, ⟨by first | exact Kd.R_nil _ _ _ _ _ | exact Kd.N_nil _ _ _ _ _ | exact Kd.V_nil _ _ _ _ _ | exact Kd.Q_nil _ _ _ _ _ | exact Kd.S_nil _ _ _ _ _⟩, ⟨kF BK358 NB358_360⟩, ⟨kF BK359 NB359_360⟩, ⟨kP2 BK360⟩, ⟨bX HB⟩⟩
 case round => (
 clear H'
 try clear p2
 try clear c4
 try clear c7
 try clear c8
 try clear hcz10_0
 try clear hcz10_1
 try clear hcz5_0
 try clear hcz5_1
 try clear hcz9_0
 try clear hcz9_1
 try clear hfz10_0
 try clear hfz10_1
 try clear hfz5_0
 try clear hfz5_1
 try clear hfz9_0
 try clear hfz9_1
 obtain ⟨x5_1, x14_1, x361001_1, u361001, rfl, HA, HK1, HO_5, HO_361001, BK358, BK359, BK360, HB⟩ := hrel
 cases gk with
 | zero => exact absurd HA.out (by simp [impl_graphOf.l0])
 | succ k1 => (
 have H := HA.out
 clear HA
 simp only [impl_graphOf.l0] at H
 by_cases c11 : x14_1 < (l0_1.length : Int)
 rotate_left
 {
 rw [if_neg c11] at H
 have c11b0 : decide (x14_1 < (l0_1.length : Int)) = false := decide_eq_false c11
 clear c11
 simp only [Option.some.injEq, Prod.mk.injEq] at H
 obtain ⟨rfl, rfl, rfl⟩ := H
 have hnb70 := NB360_358.out
 have hnc70 := NB358_360.out
 have hnb71 := NB360_359.out
 have hnc71 := NB359_360.out
 have hcz72_0 := q0 BK360
 have hcz72_1 := q1 BK360
 have hfz72_0 := fX BK360 0
 have hfz72_1 := fX BK360 1
 have hnb73 := NB359_358.out
 have hnc73 := NB358_359.out
 have hcz74_0 := q0 BK359
 have hcz74_1 := q1 BK359
 have hfz74_0 := fX BK359 0
 have hfz74_1 := fX BK359 1
 obtain ⟨Ao75, co75, eo75⟩ := Kd.R_slice HO_361001.out
 subst eo75
 go_wp2
 refine bodyPost_ret (results_ct rfl _ _ gb359 33 #[.int .i64 a0_0, .slice Ao75 x361001_1.length co75] (0, 0) _ rfl (kP2 BK359) Try.underlying33 rfl (by kernel_rfl)) rfl ?_
 exact ⟨_, _, by first | rfl | (simp [errW_none, errW_some] <;> rfl) | (simp [*, errW_none, errW_some] <;> rfl), rF2 HO_361001 BK359, rF2 HO_5 BK359, bX HB⟩
 }
 rw [if_pos c11] at H
 have c11b0 : decide (x14_1 < (l0_1.length : Int)) = true := decide_eq_true c11
 clear c11
 by_cases c12 : 0 ≤ x14_1
 rotate_left
 {
 rw [if_neg c12] at H
 exact absurd H (by simp)
 }
 rw [if_pos c12] at H
 have c12b0 : decide (0 ≤ x14_1) = true := decide_eq_true c12
 clear c12
 by_cases c13 : x14_1 < (l0_1.length : Int)
 rotate_left
 {
 rw [if_neg c13] at H
 exact absurd H (by simp)
 }
 rw [if_pos c13] at H
 have c13b0 : decide (x14_1 < (l0_1.length : Int)) = true := decide_eq_true c13
 clear c13
 by_cases c14 : ((rd_T76 l0_1 x14_1).f2.f1) = 1000000
 {
 rw [if_pos c14] at H
 have c14b0 : (((rd_T76 l0_1 x14_1).f2.f1) == 1000000) = true := beq_iff_eq.mpr c14
 have c14b1 : (((rd_T76 l0_1 x14_1).f2.f1) != 1000000) = false := bne_eq_false_iff_eq.mpr c14
 clear c14
 by_cases c15 : ((rd_T76 l0_1 x14_1).f2.f0) = (-1000000)
 {
 rw [if_pos c15] at H
 have c15b0 : (((rd_T76 l0_1 x14_1).f2.f0) == (-1000000)) = true := beq_iff_eq.mpr c15
 have c15b1 : (((rd_T76 l0_1 x14_1).f2.f0) != (-1000000)) = false := bne_eq_false_iff_eq.mpr c15
 clear c15
 have H' := mK H
 clear H
 have p361 : 0 ≤ (x14_1 : Int) := of_decide_eq_true oX
 have q361 : x14_1 < (l0_1.length : Int) := of_decide_eq_true oX
 obtain ⟨ad361, e361, hx361_0, hx361_1, hx361_2, hx361_3⟩ := at_T76 HR0_1.out x14_1 p361 q361
 cases e361
 replace hx361_0 := (HB.out.cell (World.block_lt_of_cell? w _ hx361_0)).trans hx361_0
 replace hx361_1 := (HB.out.cell (World.block_lt_of_cell? w _ hx361_1)).trans hx361_1
 replace hx361_2 := (HB.out.cell (World.block_lt_of_cell? w _ hx361_2)).trans hx361_2
 replace hx361_3 := (HB.out.cell (World.block_lt_of_cell? w _ hx361_3)).trans hx361_3
 replace p361 := eq_true p361
 replace q361 := eq_true q361
 go_wp2_with (first | ((with_reducible refine gate_dst (N := 7) rfl ?_); refine bxE 7 #[.int .i64 0, .int .i64 0, .int .i64 0, .int .i64 0] 76 ?_; intro gb362 hg w16 hbox hb; replace HO_5 := mK (Kd.R_below (rX HO_5) hb); replace HO_361001 := mK (Kd.R_below (rX HO_361001) hb); have BK362 := mK hbox; have GW362 := mK (gX hg HB); have GE362 := mK (gX hg HB); replace HB := bB HB hb; have NB358_362 := mK (lX hg BK358); have NB362_358 := mK (mX hg BK358); replace BK358 := kB BK358 hb; have NB359_362 := mK (lX hg BK359); have NB362_359 := mK (mX hg BK359); replace BK359 := kB BK359 hb; have NB360_362 := mK (lX hg BK360); have NB362_360 := mK (mX hg BK360); replace BK360 := kB BK360 hb; clear hb hbox hg; have hnb17 := NB362_358.out; have hnc17 := NB358_362.out; have hnb18 := NB362_359.out; have hnc18 := NB359_362.out; have hnb19 := NB362_360.out; have hnc19 := NB360_362.out; have hcz20_0 := q0 BK362; have hcz20_1 := q1 BK362; have hcz20_2 := q2 BK362; have hcz20_3 := q3 BK362; have hfz20_0 := fX BK362 0; have hfz20_1 := fX BK362 1; have hfz20_2 := fX BK362 2; have hfz20_3 := fX BK362 3))
 go_roundg k1
 case measure => have := HK1.out; omega
 case rel => exact ⟨(x5_1), (wrap64 (x14_1 + 1)), (x361001_1), (u361001), (by first | rfl | (simp; done) | (simp [*]; done)), H', ⟨by have := HK1.out; omega⟩, ⟨rF4 HO_5 BK362⟩, ⟨rF4 HO_361001 BK362⟩, ⟨kF BK358 NB358_362⟩, ⟨kF BK359 NB359_362⟩, ⟨kF BK360 NB360_362⟩, ⟨bX HB⟩⟩
 }
 rw [if_neg c15] at H
 have c15b0 : (((rd_T76 l0_1 x14_1).f2.f0) == (-1000000)) = false := beq_eq_false_iff_ne.mpr c15
 have c15b1 : (((rd_T76 l0_1 x14_1).f2.f0) != (-1000000)) = true := bne_iff_ne.mpr c15
 by_cases c21 : x361001_1.length < 5864062014805
 rotate_left
 {
 rw [if_neg c21] at H
 exact absurd H (by simp)
 }
 rw [if_pos c21] at H
 have LMc21 := mK c21
 clear c21
 obtain ⟨y363, hy363⟩ : ∃ y_ : List (S70), y_ = (x361001_1 ++ [(⟨(rd_T76 l0_1 x14_1).f1, (rd_T76 l0_1 x14_1).f0, wrap64 (-((rd_T76 l0_1 x14_1).f2.f0))⟩ : S70)]) := ⟨_, rfl⟩
 replace H : (if x5_1.length < 17592186044416 then (impl_graphOf.l0 k1 (x5_1 ++ [x14_1]) l0_1 (l0_1.length : Int) (wrap64 (x14_1 + 1)) a0_0 y363) else (none)) = some (r1, r2, r3) := by first | (rw [hy363]; with_reducible exact H) | (have H2_ := (Option.bind_some _ _).symm.trans H; rw [hy363]; with_reducible exact H2_) | (have H2_ := (Option.bind_some _ _).symm.trans H; with_reducible exact H2_) | with_reducible exact H | (rw [hy363]; exact H) | exact H
 have Ny363 := mK hy363
 clear hy363
 by_cases c22 : x5_1.length < 17592186044416
 rotate_left
 {
 rw [if_neg c22] at H
 exact absurd H (by simp)
 }
 rw [if_pos c22] at H
 have LMc22 := mK c22
 clear c22
 obtain ⟨y366, hy366⟩ : ∃ y_ : List Int, y_ = (x5_1 ++ [x14_1]) := ⟨_, rfl⟩
 replace H : (impl_graphOf.l0 k1 y366 l0_1 (l0_1.length : Int) (wrap64 (x14_1 + 1)) a0_0 y363) = some (r1, r2, r3) := by first | (rw [hy366]; with_reducible exact H) | (have H2_ := (Option.bind_some _ _).symm.trans H; rw [hy366]; with_reducible exact H2_) | (have H2_ := (Option.bind_some _ _).symm.trans H; with_reducible exact H2_) | with_reducible exact H | (rw [hy366]; exact H) | exact H
 have Ny366 := mK hy366
 clear hy366
 have H' := mK H
 clear H
 have p361 : 0 ≤ (x14_1 : Int) := of_decide_eq_true oX
 have q361 : x14_1 < (l0_1.length : Int) := of_decide_eq_true oX
 obtain ⟨ad361, e361, hx361_0, hx361_1, hx361_2, hx361_3⟩ := at_T76 HR0_1.out x14_1 p361 q361
 cases e361
 replace hx361_0 := (HB.out.cell (World.block_lt_of_cell? w _ hx361_0)).trans hx361_0
 replace hx361_1 := (HB.out.cell (World.block_lt_of_cell? w _ hx361_1)).trans hx361_1
 replace hx361_2 := (HB.out.cell (World.block_lt_of_cell? w _ hx361_2)).trans hx361_2
 replace hx361_3 := (HB.out.cell (World.block_lt_of_cell? w _ hx361_3)).trans hx361_3
 replace p361 := eq_true p361
 replace q361 := eq_true q361
 go_wp2_with (first | ((with_reducible refine gate_dst (N := 7) rfl ?_); refine bxE 7 #[.int .i64 0, .int .i64 0, .int .i64 0, .int .i64 0] 76 ?_; intro gb362 hg w23 hbox hb; replace HO_5 := mK (Kd.R_below (rX HO_5) hb); replace HO_361001 := mK (Kd.R_below (rX HO_361001) hb); have BK362 := mK hbox; have GW362 := mK (gX hg HB); have GE362 := mK (gX hg HB); replace HB := bB HB hb; have NB358_362 := mK (lX hg BK358); have NB362_358 := mK (mX hg BK358); replace BK358 := kB BK358 hb; have NB359_362 := mK (lX hg BK359); have NB362_359 := mK (mX hg BK359); replace BK359 := kB BK359 hb; have NB360_362 := mK (lX hg BK360); have NB362_360 := mK (mX hg BK360); replace BK360 := kB BK360 hb; clear hb hbox hg; have hnb24 := NB362_358.out; have hnc24 := NB358_362.out; have hnb25 := NB362_359.out; have hnc25 := NB359_362.out; have hnb26 := NB362_360.out; have hnc26 := NB360_362.out; have hcz27_0 := q0 BK362; have hcz27_1 := q1 BK362; have hcz27_2 := q2 BK362; have hcz27_3 := q3 BK362; have hfz27_0 := fX BK362 0; have hfz27_1 := fX BK362 1; have hfz27_2 := fX BK362 2; have hfz27_3 := fX BK362 3; have hnb28 := NB360_358.out; have hnc28 := NB358_360.out; have hnb29 := NB360_359.out; have hnc29 := NB359_360.out; have hcz30_0 := q0 BK360; have hcz30_1 := q1 BK360; have hfz30_0 := fX BK360 0; have hfz30_1 := fX BK360 1) | ((with_reducible refine gate_builtin (b := .append) (xs := #[.tmp 45, .tmp 55]) rfl ?_); at_builtin; refine Kd.R_append k70 (w0 := w) w.heap.size rfl (.tmp 45) (.tmp 55) 31 70 (.agg #[(.int .i64 0), (.int .i64 0), (.int .i64 0)]) 24 rfl Try.underlying31 info70 rfl (by decide) (by omega) u361001 x361001_1 (⟨(rd_T76 l0_1 x14_1).f1, (rd_T76 l0_1 x14_1).f0, wrap64 (-((rd_T76 l0_1 x14_1).f2.f0))⟩ : S70) [.int .i64 ((rd_T76 l0_1 x14_1).f1), .int .i64 ((rd_T76 l0_1 x14_1).f0), .int .i64 (wrap64 (-((rd_T76 l0_1 x14_1).f2.f0)))] (fun _ => True) (fun _ => False) rfl (by go_simp <;> rfl) ?aP (fun _ hk => hk.elim) ?aF ?aO ?aB ?aS ?aL ?_; (case aP => exact k70_mkM _ _ _ (⟨(rd_T76 l0_1 x14_1).f1, (rd_T76 l0_1 x14_1).f0, wrap64 (-((rd_T76 l0_1 x14_1).f2.f0))⟩ : S70)); (case aB => exact (bX HB)); (case aF => exact (fun _ _ => trivial)); (case aO => exact (rF4 HO_361001 BK362)); (case aS => exact (below_size (bX HB))); (case aL => have := LMc21.out; omega); intro v364 w31 ho hb hg hat; rw [← Ny363.out] at ho; have n0_ := mK (Kd.R_over' (rF4 HO_5 BK362) (Kd.R_typed (rF4 HO_361001 BK362)) (by decide) hg); have n1_ := mK (blk_grown (g := gb358) (o := .cells #[.int .i64 a0_0, .slice (some ad361) l0_1.length c0_1] 47 (0, 0)) (kF BK358 NB358_362) hg (Kd.R_ne HO_361001.out BK358.out (by decide))); have n2_ := mK (blk_grown (g := gb359) (o := .cells #[.int .i64 0, .slice none 0 0] 33 (0, 0)) (kF BK359 NB359_362) hg (Kd.R_ne HO_361001.out BK359.out (by decide))); have n3_ := mK (blk_grown (g := gb360) (o := .cells #[.int .i64 a0_0, u361001] 33 (0, 0)) (kF BK360 NB360_362) hg (Kd.R_ne HO_361001.out BK360.out (by decide))); have n4_ := mK (blk_grown (g := gb362) (o := .cells #[.int .i64 ((rd_T76 l0_1 x14_1).f0), .int .i64 ((rd_T76 l0_1 x14_1).f1), .int .i64 ((rd_T76 l0_1 x14_1).f2.f0), .int .i64 ((rd_T76 l0_1 x14_1).f2.f1)] 76 (0, 0)) (kP4 BK362) hg (Kd.R_ne HO_361001.out BK362.out (by decide))); have n5_ := mK (hb); have n6_ := mK (ho); clear HO_5; clear BK358; clear BK359; clear BK360; clear BK362; clear HB; clear HO_361001; have HO_5 := n0_; have BK358 := n1_; have BK359 := n2_; have BK360 := n3_; have BK362 := n4_; have HB := n5_; have HO365 := n6_; clear n0_ n1_ n2_ n3_ n4_ n5_ n6_; clear ho hb hg hat) | ((with_reducible refine gate_builtin (b := .append) (xs := #[.tmp 57, .tmp 59]) rfl ?_); at_builtin; refine Kd.R_append (Kd.int .i64) (w0 := w) w.heap.size rfl (.tmp 57) (.tmp 59) 26 3 (.int .i64 0) 8 rfl Try.underlying26 info3 rfl (by decide) (by omega) u5 x5_1 x14_1 [.int .i64 x14_1] (fun _ => True) (fun _ => False) rfl rfl ?aP (fun _ hk => hk.elim) ?aF ?aO ?aB ?aS ?aL ?_; (case aP => exact rfl); (case aB => exact (bX HB)); (case aF => exact (fun _ _ => trivial)); (case aO => exact (rX HO_5)); (case aS => exact (below_size (bX HB))); (case aL => have := LMc22.out; omega); intro v367 w32 ho hb hg hat; rw [← Ny366.out] at ho; have n0_ := mK (blk_grown (kX BK358) hg (Kd.R_ne HO_5.out BK358.out (by decide))); have n1_ := mK (blk_grown (kX BK359) hg (Kd.R_ne HO_5.out BK359.out (by decide))); have n2_ := mK (blk_grown (kX BK360) hg (Kd.R_ne HO_5.out BK360.out (by decide))); have n3_ := mK (blk_grown (kX BK362) hg (Kd.R_ne HO_5.out BK362.out (by decide))); have n4_ := mK (Kd.R_over' (rX HO365) (Kd.R_typed (rX HO_5)) (by decide) hg); have n5_ := mK (hb); have n6_ := mK (ho); clear BK358; clear BK359; clear BK360; clear BK362; clear HO365; clear HB; clear HO_5; have BK358 := n0_; have BK359 := n1_; have BK360 := n2_; have BK362 := n3_; have HO365 := n4_; have HB := n5_; have HO368 := n6_; clear n0_ n1_ n2_ n3_ n4_ n5_ n6_; clear ho hb hg hat; obtain ⟨Ao33, co33, eo33⟩ := Kd.R_slice HO365.out; subst eo33; have hcz34_0 := q0 BK360; have hcz34_1 := q1 BK360; have hfz34_0 := fX BK360 0; have hfz34_1 := fX BK360 1))
 go_roundg k1
 case measure => have := HK1.out; omega
 case rel => exact ⟨(y366), (wrap64 (x14_1 + 1)), (y363), (.slice Ao33 y363.length co33), (by first | rfl | (simp; done) | (simp [*]; done)), H', ⟨by have := HK1.out; omega⟩, ⟨by (with_reducible repeat first|apply rA|apply rN|apply rD); exact Kd.R_mono (Kd.R_far (p := ⟨gb360, 1, none⟩) (Kd.R_types HO368.out BK360.out (by decide)) (fun _ hk => hk.2) (.slice Ao33 y363.length co33)) (fun _ hk => trivial)⟩, ⟨by (with_reducible repeat first|apply rA|apply rN|apply rD); exact Kd.R_mono (Kd.R_far (p := ⟨gb360, 1, none⟩) (Kd.R_types HO365.out BK360.out (by decide)) (fun _ hk => hk.2) (.slice Ao33 y363.length co33)) (fun _ hk => trivial)⟩, ⟨kF BK358 NB358_360⟩, ⟨kF BK359 NB359_360⟩, ⟨by (with_reducible repeat first|apply kN|apply kD|apply kA); refine blk_put (cs := #[.int .i64 a0_0, u361001]) ?_ 1 _ rfl; (with_reducible repeat first|apply kN|apply kD|apply kA); exact BK360.out⟩, ⟨bX HB⟩⟩
 }
 rw [if_neg c14] at H
 have c14b0 : (((rd_T76 l0_1 x14_1).f2.f1) == 1000000) = false := beq_eq_false_iff_ne.mpr c14
 have c14b1 : (((rd_T76 l0_1 x14_1).f2.f1) != 1000000) = true := bne_iff_ne.mpr c14
 by_cases c35 : x361001_1.length < 5864062014805
 rotate_left
 {
 rw [if_neg c35] at H
 exact absurd H (by simp)
 }
 rw [if_pos c35] at H
 have LMc35 := mK c35
 clear c35
 obtain ⟨y369, hy369⟩ : ∃ y_ : List (S70), y_ = (x361001_1 ++ [(⟨(rd_T76 l0_1 x14_1).f0, (rd_T76 l0_1 x14_1).f1, (rd_T76 l0_1 x14_1).f2.f1⟩ : S70)]) := ⟨_, rfl⟩
 replace H : (if x5_1.length < 17592186044416 then ((some (x5_1 ++ [x14_1] : List Int)).bind fun y372 => (if ((rd_T76 l0_1 x14_1).f2.f0) = (-1000000) then (impl_graphOf.l0 k1 y372 l0_1 (l0_1.length : Int) (wrap64 (x14_1 + 1)) a0_0 y369) else (if y369.length < 5864062014805 then (if y372.length < 17592186044416 then (impl_graphOf.l0 k1 (y372 ++ [x14_1]) l0_1 (l0_1.length : Int) (wrap64 (x14_1 + 1)) a0_0 (y369 ++ [(⟨(rd_T76 l0_1 x14_1).f1, (rd_T76 l0_1 x14_1).f0, wrap64 (-((rd_T76 l0_1 x14_1).f2.f0))⟩ : S70)])) else (none)) else (none)))) else (none)) = some (r1, r2, r3) := by first | (rw [hy369]; with_reducible exact H) | (have H2_ := (Option.bind_some _ _).symm.trans H; rw [hy369]; with_reducible exact H2_) | (have H2_ := (Option.bind_some _ _).symm.trans H; with_reducible exact H2_) | with_reducible exact H | (rw [hy369]; exact H) | exact H
 have Ny369 := mK hy369
 clear hy369
 by_cases c36 : x5_1.length < 17592186044416
 rotate_left
 {
 rw [if_neg c36] at H
 exact absurd H (by simp)
 }
 rw [if_pos c36] at H
 have LMc36 := mK c36
 clear c36
 obtain ⟨y372, hy372⟩ : ∃ y_ : List Int, y_ = (x5_1 ++ [x14_1]) := ⟨_, rfl⟩
 replace H : (if ((rd_T76 l0_1 x14_1).f2.f0) = (-1000000) then (impl_graphOf.l0 k1 y372 l0_1 (l0_1.length : Int) (wrap64 (x14_1 + 1)) a0_0 y369) else (if y369.length < 5864062014805 then (if y372.length < 17592186044416 then (impl_graphOf.l0 k1 (y372 ++ [x14_1]) l0_1 (l0_1.length : Int) (wrap64 (x14_1 + 1)) a0_0 (y369 ++ [(⟨(rd_T76 l0_1 x14_1).f1, (rd_T76 l0_1 x14_1).f0, wrap64 (-((rd_T76 l0_1 x14_1).f2.f0))⟩ : S70)])) else (none)) else (none))) = some (r1, r2, r3) := by first | (rw [hy372]; with_reducible exact H) | (have H2_ := (Option.bind_some _ _).symm.trans H; rw [hy372]; with_reducible exact H2_) | (have H2_ := (Option.bind_some _ _).symm.trans H; with_reducible exact H2_) | with_reducible exact H | (rw [hy372]; exact H) | exact H
 have Ny372 := mK hy372
 clear hy372
 by_cases c37 : ((rd_T76 l0_1 x14_1).f2.f0) = (-1000000)
 {
 rw [if_pos c37] at H
 have c37b0 : (((rd_T76 l0_1 x14_1).f2.f0) == (-1000000)) = true := beq_iff_eq.mpr c37
 have c37b1 : (((rd_T76 l0_1 x14_1).f2.f0) != (-1000000)) = false := bne_eq_false_iff_eq.mpr c37
 clear c37
 have H' := mK H
 clear H
 have p361 : 0 ≤ (x14_1 : Int) := of_decide_eq_true oX
 have q361 : x14_1 < (l0_1.length : Int) := of_decide_eq_true oX
 obtain ⟨ad361, e361, hx361_0, hx361_1, hx361_2, hx361_3⟩ := at_T76 HR0_1.out x14_1 p361 q361
 cases e361
 replace hx361_0 := (HB.out.cell (World.block_lt_of_cell? w _ hx361_0)).trans hx361_0
 replace hx361_1 := (HB.out.cell (World.block_lt_of_cell? w _ hx361_1)).trans hx361_1
 replace hx361_2 := (HB.out.cell (World.block_lt_of_cell? w _ hx361_2)).trans hx361_2
 replace hx361_3 := (HB.out.cell (World.block_lt_of_cell? w _ hx361_3)).trans hx361_3
 replace p361 := eq_true p361
 replace q361 := eq_true q361
 go_wp2_with (first | ((with_reducible refine gate_dst (N := 7) rfl ?_); refine bxE 7 #[.int .i64 0, .int .i64 0, .int .i64 0, .int .i64 0] 76 ?_; intro gb362 hg w38 hbox hb; replace HO_5 := mK (Kd.R_below (rX HO_5) hb); replace HO_361001 := mK (Kd.R_below (rX HO_361001) hb); have BK362 := mK hbox; have GW362 := mK (gX hg HB); have GE362 := mK (gX hg HB); replace HB := bB HB hb; have NB358_362 := mK (lX hg BK358); have NB362_358 := mK (mX hg BK358); replace BK358 := kB BK358 hb; have NB359_362 := mK (lX hg BK359); have NB362_359 := mK (mX hg BK359); replace BK359 := kB BK359 hb; have NB360_362 := mK (lX hg BK360); have NB362_360 := mK (mX hg BK360); replace BK360 := kB BK360 hb; clear hb hbox hg; have hnb39 := NB362_358.out; have hnc39 := NB358_362.out; have hnb40 := NB362_359.out; have hnc40 := NB359_362.out; have hnb41 := NB362_360.out; have hnc41 := NB360_362.out; have hcz42_0 := q0 BK362; have hcz42_1 := q1 BK362; have hcz42_2 := q2 BK362; have hcz42_3 := q3 BK362; have hfz42_0 := fX BK362 0; have hfz42_1 := fX BK362 1; have hfz42_2 := fX BK362 2; have hfz42_3 := fX BK362 3; have hnb43 := NB360_358.out; have hnc43 := NB358_360.out; have hnb44 := NB360_359.out; have hnc44 := NB359_360.out; have hcz45_0 := q0 BK360; have hcz45_1 := q1 BK360; have hfz45_0 := fX BK360 0; have hfz45_1 := fX BK360 1) | ((with_reducible refine gate_builtin (b := .append) (xs := #[.tmp 24, .tmp 33]) rfl ?_); at_builtin; refine Kd.R_append k70 (w0 := w) w.heap.size rfl (.tmp 24) (.tmp 33) 31 70 (.agg #[(.int .i64 0), (.int .i64 0), (.int .i64 0)]) 24 rfl Try.underlying31 info70 rfl (by decide) (by omega) u361001 x361001_1 (⟨(rd_T76 l0_1 x14_1).f0, (rd_T76 l0_1 x14_1).f1, (rd_T76 l0_1 x14_1).f2.f1⟩ : S70) [.int .i64 ((rd_T76 l0_1 x14_1).f0), .int .i64 ((rd_T76 l0_1 x14_1).f1), .int .i64 ((rd_T76 l0_1 x14_1).f2.f1)] (fun _ => True) (fun _ => False) rfl (by go_simp <;> rfl) ?aP (fun _ hk => hk.elim) ?aF ?aO ?aB ?aS ?aL ?_; (case aP => exact k70_mkM _ _ _ (⟨(rd_T76 l0_1 x14_1).f0, (rd_T76 l0_1 x14_1).f1, (rd_T76 l0_1 x14_1).f2.f1⟩ : S70)); (case aB => exact (bX HB)); (case aF => exact (fun _ _ => trivial)); (case aO => exact (rF4 HO_361001 BK362)); (case aS => exact (below_size (bX HB))); (case aL => have := LMc35.out; omega); intro v370 w46 ho hb hg hat; rw [← Ny369.out] at ho; have n0_ := mK (Kd.R_over' (rF4 HO_5 BK362) (Kd.R_typed (rF4 HO_361001 BK362)) (by decide) hg); have n1_ := mK (blk_grown (g := gb358) (o := .cells #[.int .i64 a0_0, .slice (some ad361) l0_1.length c0_1] 47 (0, 0)) (kF BK358 NB358_362) hg (Kd.R_ne HO_361001.out BK358.out (by decide))); have n2_ := mK (blk_grown (g := gb359) (o := .cells #[.int .i64 0, .slice none 0 0] 33 (0, 0)) (kF BK359 NB359_362) hg (Kd.R_ne HO_361001.out BK359.out (by decide))); have n3_ := mK (blk_grown (g := gb360) (o := .cells #[.int .i64 a0_0, u361001] 33 (0, 0)) (kF BK360 NB360_362) hg (Kd.R_ne HO_361001.out BK360.out (by decide))); have n4_ := mK (blk_grown (g := gb362) (o := .cells #[.int .i64 ((rd_T76 l0_1 x14_1).f0), .int .i64 ((rd_T76 l0_1 x14_1).f1), .int .i64 ((rd_T76 l0_1 x14_1).f2.f0), .int .i64 ((rd_T76 l0_1 x14_1).f2.f1)] 76 (0, 0)) (kP4 BK362) hg (Kd.R_ne HO_361001.out BK362.out (by decide))); have n5_ := mK (hb); have n6_ := mK (ho); clear HO_5; clear BK358; clear BK359; clear BK360; clear BK362; clear HB; clear HO_361001; have HO_5 := n0_; have BK358 := n1_; have BK359 := n2_; have BK360 := n3_; have BK362 := n4_; have HB := n5_; have HO371 := n6_; clear n0_ n1_ n2_ n3_ n4_ n5_ n6_; clear ho hb hg hat) | ((with_reducible refine gate_builtin (b := .append) (xs := #[.tmp 35, .tmp 37]) rfl ?_); at_builtin; refine Kd.R_append (Kd.int .i64) (w0 := w) w.heap.size rfl (.tmp 35) (.tmp 37) 26 3 (.int .i64 0) 8 rfl Try.underlying26 info3 rfl (by decide) (by omega) u5 x5_1 x14_1 [.int .i64 x14_1] (fun _ => True) (fun _ => False) rfl rfl ?aP (fun _ hk => hk.elim) ?aF ?aO ?aB ?aS ?aL ?_; (case aP => exact rfl); (case aB => exact (bX HB)); (case aF => exact (fun _ _ => trivial)); (case aO => exact (rX HO_5)); (case aS => exact (below_size (bX HB))); (case aL => have := LMc36.out; omega); intro v373 w47 ho hb hg hat; rw [← Ny372.out] at ho; have n0_ := mK (blk_grown (kX BK358) hg (Kd.R_ne HO_5.out BK358.out (by decide))); have n1_ := mK (blk_grown (kX BK359) hg (Kd.R_ne HO_5.out BK359.out (by decide))); have n2_ := mK (blk_grown (kX BK360) hg (Kd.R_ne HO_5.out BK360.out (by decide))); have n3_ := mK (blk_grown (kX BK362) hg (Kd.R_ne HO_5.out BK362.out (by decide))); have n4_ := mK (Kd.R_over' (rX HO371) (Kd.R_typed (rX HO_5)) (by decide) hg); have n5_ := mK (hb); have n6_ := mK (ho); clear BK358; clear BK359; clear BK360; clear BK362; clear HO371; clear HB; clear HO_5; have BK358 := n0_; have BK359 := n1_; have BK360 := n2_; have BK362 := n3_; have HO371 := n4_; have HB := n5_; have HO374 := n6_; clear n0_ n1_ n2_ n3_ n4_ n5_ n6_; clear ho hb hg hat; obtain ⟨Ao48, co48, eo48⟩ := Kd.R_slice HO371.out; subst eo48; have hcz49_0 := q0 BK360; have hcz49_1 := q1 BK360; have hfz49_0 := fX BK360 0; have hfz49_1 := fX BK360 1; have hcz50_0 := q0 BK362; have hcz50_1 := q1 BK362; have hcz50_2 := q2 BK362; have hcz50_3 := q3 BK362; have hfz50_0 := fX BK362 0; have hfz50_1 := fX BK362 1; have hfz50_2 := fX BK362 2; have hfz50_3 := fX BK362 3))
 go_roundg k1
 case measure => have := HK1.out; omega
 case rel => exact ⟨(y372), (wrap64 (x14_1 + 1)), (y369), (.slice Ao48 y369.length co48), (by first | rfl | (simp; done) | (simp [*]; done)), H', ⟨by have := HK1.out; omega⟩, ⟨by (with_reducible repeat first|apply rA|apply rN|apply rD); exact Kd.R_mono (Kd.R_far (p := ⟨gb360, 1, none⟩) (Kd.R_types HO374.out BK360.out (by decide)) (fun _ hk => hk.2) (.slice Ao48 y369.length co48)) (fun _ hk => trivial)⟩, ⟨by (with_reducible repeat first|apply rA|apply rN|apply rD); exact Kd.R_mono (Kd.R_far (p := ⟨gb360, 1, none⟩) (Kd.R_types HO371.out BK360.out (by decide)) (fun _ hk => hk.2) (.slice Ao48 y369.length co48)) (fun _ hk => trivial)⟩, ⟨kF BK358 NB358_360⟩, ⟨kF BK359 NB359_360⟩, ⟨by (with_reducible repeat first|apply kN|apply kD|apply kA); refine blk_put (cs := #[.int .i64 a0_0, u361001]) ?_ 1 _ rfl; (with_reducible repeat first|apply kN|apply kD|apply kA); exact BK360.out⟩, ⟨bX HB⟩⟩
 }
 rw [if_neg c37] at H
 have c37b0 : (((rd_T76 l0_1 x14_1).f2.f0) == (-1000000)) = false := beq_eq_false_iff_ne.mpr c37
 have c37b1 : (((rd_T76 l0_1 x14_1).f2.f0) != (-1000000)) = true := bne_iff_ne.mpr c37
 by_cases c51 : y369.length < 5864062014805
 rotate_left
 {
 rw [if_neg c51] at H
 exact absurd H (by simp)
 }
 rw [if_pos c51] at H
 have LMc51 := mK c51
 clear c51
 obtain ⟨y375, hy375⟩ : ∃ y_ : List (S70), y_ = (y369 ++ [(⟨(rd_T76 l0_1 x14_1).f1, (rd_T76 l0_1 x14_1).f0, wrap64 (-((rd_T76 l0_1 x14_1).f2.f0))⟩ : S70)]) := ⟨_, rfl⟩
 replace H : (if y372.length < 17592186044416 then (impl_graphOf.l0 k1 (y372 ++ [x14_1]) l0_1 (l0_1.length : Int) (wrap64 (x14_1 + 1)) a0_0 y375) else (none)) = some (r1, r2, r3) := by first | (rw [hy375]; with_reducible exact H) | (have H2_ := (Option.bind_some _ _).symm.trans H; rw [hy375]; with_reducible exact H2_) | (have H2_ := (Option.bind_some _ _).symm.trans H; with_reducible exact H2_) | with_reducible exact H | (rw [hy375]; exact H) | exact H
 have Ny375 := mK hy375
 clear hy375
 by_cases c52 : y372.length < 17592186044416
 rotate_left
 {
 rw [if_neg c52] at H
 exact absurd H (by simp)
 }
 rw [if_pos c52] at H
 have LMc52 := mK c52
 clear c52
 obtain ⟨y378, hy378⟩ : ∃ y_ : List Int, y_ = (y372 ++ [x14_1]) := ⟨_, rfl⟩
 replace H : (impl_graphOf.l0 k1 y378 l0_1 (l0_1.length : Int) (wrap64 (x14_1 + 1)) a0_0 y375) = some (r1, r2, r3) := by first | (rw [hy378]; with_reducible exact H) | (have H2_ := (Option.bind_some _ _).symm.trans H; rw [hy378]; with_reducible exact H2_) | (have H2_ := (Option.bind_some _ _).symm.trans H; with_reducible exact H2_) | with_reducible exact H | (rw [hy378]; exact H) | exact H
 have Ny378 := mK hy378
 clear hy378
 have H' := mK H
 clear H
 have p361 : 0 ≤ (x14_1 : Int) := of_decide_eq_true oX
 have q361 : x14_1 < (l0_1.length : Int) := of_decide_eq_true oX
 obtain ⟨ad361, e361, hx361_0, hx361_1, hx361_2, hx361_3⟩ := at_T76 HR0_1.out x14_1 p361 q361
 cases e361
 replace hx361_0 := (HB.out.cell (World.block_lt_of_cell? w _ hx361_0)).trans hx361_0
 replace hx361_1 := (HB.out.cell (World.block_lt_of_cell? w _ hx361_1)).trans hx361_1
 replace hx361_2 := (HB.out.cell (World.block_lt_of_cell? w _ hx361_2)).trans hx361_2
 replace hx361_3 := (HB.out.cell (World.block_lt_of_cell? w _ hx361_3)).trans hx361_3
 replace p361 := eq_true p361
 replace q361 := eq_true q361
 go_wp2_with (first | ((with_reducible refine gate_dst (N := 7) rfl ?_); refine bxE 7 #[.int .i64 0, .int .i64 0, .int .i64 0, .int .i64 0] 76 ?_; intro gb362 hg w53 hbox hb; replace HO_5 := mK (Kd.R_below (rX HO_5) hb); replace HO_361001 := mK (Kd.R_below (rX HO_361001) hb); have BK362 := mK hbox; have GW362 := mK (gX hg HB); have GE362 := mK (gX hg HB); replace HB := bB HB hb; have NB358_362 := mK (lX hg BK358); have NB362_358 := mK (mX hg BK358); replace BK358 := kB BK358 hb; have NB359_362 := mK (lX hg BK359); have NB362_359 := mK (mX hg BK359); replace BK359 := kB BK359 hb; have NB360_362 := mK (lX hg BK360); have NB362_360 := mK (mX hg BK360); replace BK360 := kB BK360 hb; clear hb hbox hg; have hnb54 := NB362_358.out; have hnc54 := NB358_362.out; have hnb55 := NB362_359.out; have hnc55 := NB359_362.out; have hnb56 := NB362_360.out; have hnc56 := NB360_362.out; have hcz57_0 := q0 BK362; have hcz57_1 := q1 BK362; have hcz57_2 := q2 BK362; have hcz57_3 := q3 BK362; have hfz57_0 := fX BK362 0; have hfz57_1 := fX BK362 1; have hfz57_2 := fX BK362 2; have hfz57_3 := fX BK362 3; have hnb58 := NB360_358.out; have hnc58 := NB358_360.out; have hnb59 := NB360_359.out; have hnc59 := NB359_360.out; have hcz60_0 := q0 BK360; have hcz60_1 := q1 BK360; have hfz60_0 := fX BK360 0; have hfz60_1 := fX BK360 1) | ((with_reducible refine gate_builtin (b := .append) (xs := #[.tmp 24, .tmp 33]) rfl ?_); at_builtin; refine Kd.R_append k70 (w0 := w) w.heap.size rfl (.tmp 24) (.tmp 33) 31 70 (.agg #[(.int .i64 0), (.int .i64 0), (.int .i64 0)]) 24 rfl Try.underlying31 info70 rfl (by decide) (by omega) u361001 x361001_1 (⟨(rd_T76 l0_1 x14_1).f0, (rd_T76 l0_1 x14_1).f1, (rd_T76 l0_1 x14_1).f2.f1⟩ : S70) [.int .i64 ((rd_T76 l0_1 x14_1).f0), .int .i64 ((rd_T76 l0_1 x14_1).f1), .int .i64 ((rd_T76 l0_1 x14_1).f2.f1)] (fun _ => True) (fun _ => False) rfl (by go_simp <;> rfl) ?aP (fun _ hk => hk.elim) ?aF ?aO ?aB ?aS ?aL ?_; (case aP => exact k70_mkM _ _ _ (⟨(rd_T76 l0_1 x14_1).f0, (rd_T76 l0_1 x14_1).f1, (rd_T76 l0_1 x14_1).f2.f1⟩ : S70)); (case aB => exact (bX HB)); (case aF => exact (fun _ _ => trivial)); (case aO => exact (rF4 HO_361001 BK362)); (case aS => exact (below_size (bX HB))); (case aL => have := LMc35.out; omega); intro v370 w61 ho hb hg hat; rw [← Ny369.out] at ho; have n0_ := mK (Kd.R_over' (rF4 HO_5 BK362) (Kd.R_typed (rF4 HO_361001 BK362)) (by decide) hg); have n1_ := mK (blk_grown (g := gb358) (o := .cells #[.int .i64 a0_0, .slice (some ad361) l0_1.length c0_1] 47 (0, 0)) (kF BK358 NB358_362) hg (Kd.R_ne HO_361001.out BK358.out (by decide))); have n2_ := mK (blk_grown (g := gb359) (o := .cells #[.int .i64 0, .slice none 0 0] 33 (0, 0)) (kF BK359 NB359_362) hg (Kd.R_ne HO_361001.out BK359.out (by decide))); have n3_ := mK (blk_grown (g := gb360) (o := .cells #[.int .i64 a0_0, u361001] 33 (0, 0)) (kF BK360 NB360_362) hg (Kd.R_ne HO_361001.out BK360.out (by decide))); have n4_ := mK (blk_grown (g := gb362) (o := .cells #[.int .i64 ((rd_T76 l0_1 x14_1).f0), .int .i64 ((rd_T76 l0_1 x14_1).f1), .int .i64 ((rd_T76 l0_1 x14_1).f2.f0), .int .i64 ((rd_T76 l0_1 x14_1).f2.f1)] 76 (0, 0)) (kP4 BK362) hg (Kd.R_ne HO_361001.out BK362.out (by decide))); have n5_ := mK (hb); have n6_ := mK (ho); clear HO_5; clear BK358; clear BK359; clear BK360; clear BK362; clear HB; clear HO_361001; have HO_5 := n0_; have BK358 := n1_; have BK359 := n2_; have BK360 := n3_; have BK362 := n4_; have HB := n5_; have HO371 := n6_; clear n0_ n1_ n2_ n3_ n4_ n5_ n6_; clear ho hb hg hat) | ((with_reducible refine gate_builtin (b := .append) (xs := #[.tmp 35, .tmp 37]) rfl ?_); at_builtin; refine Kd.R_append (Kd.int .i64) (w0 := w) w.heap.size rfl (.tmp 35) (.tmp 37) 26 3 (.int .i64 0) 8 rfl Try.underlying26 info3 rfl (by decide) (by omega) u5 x5_1 x14_1 [.int .i64 x14_1] (fun _ => True) (fun _ => False) rfl rfl ?aP (fun _ hk => hk.elim) ?aF ?aO ?aB ?aS ?aL ?_; (case aP => exact rfl); (case aB => exact (bX HB)); (case aF => exact (fun _ _ => trivial)); (case aO => exact (rX HO_5)); (case aS => exact (below_size (bX HB))); (case aL => have := LMc36.out; omega); intro v373 w62 ho hb hg hat; rw [← Ny372.out] at ho; have n0_ := mK (blk_grown (kX BK358) hg (Kd.R_ne HO_5.out BK358.out (by decide))); have n1_ := mK (blk_grown (kX BK359) hg (Kd.R_ne HO_5.out BK359.out (by decide))); have n2_ := mK (blk_grown (kX BK360) hg (Kd.R_ne HO_5.out BK360.out (by decide))); have n3_ := mK (blk_grown (kX BK362) hg (Kd.R_ne HO_5.out BK362.out (by decide))); have n4_ := mK (Kd.R_over' (rX HO371) (Kd.R_typed (rX HO_5)) (by decide) hg); have n5_ := mK (hb); have n6_ := mK (ho); clear BK358; clear BK359; clear BK360; clear BK362; clear HO371; clear HB; clear HO_5; have BK358 := n0_; have BK359 := n1_; have BK360 := n2_; have BK362 := n3_; have HO371 := n4_; have HB := n5_; have HO374 := n6_; clear n0_ n1_ n2_ n3_ n4_ n5_ n6_; clear ho hb hg hat; obtain ⟨Ao63, co63, eo63⟩ := Kd.R_slice HO371.out; subst eo63; have hcz64_0 := q0 BK360; have hcz64_1 := q1 BK360; have hfz64_0 := fX BK360 0; have hfz64_1 := fX BK360 1; have hcz65_0 := q0 BK362; have hcz65_1 := q1 BK362; have hcz65_2 := q2 BK362; have hcz65_3 := q3 BK362; have hfz65_0 := fX BK362 0; have hfz65_1 := fX BK362 1; have hfz65_2 := fX BK362 2; have hfz65_3 := fX BK362 3) | ((with_reducible refine gate_builtin (b := .append) (xs := #[.tmp 45, .tmp 55]) rfl ?_); at_builtin; refine Kd.R_append k70 (w0 := w) w.heap.size rfl (.tmp 45) (.tmp 55) 31 70 (.agg #[(.int .i64 0), (.int .i64 0), (.int .i64 0)]) 24 rfl Try.underlying31 info70 rfl (by decide) (by omega) (.slice Ao63 y369.length co63) y369 (⟨(rd_T76 l0_1 x14_1).f1, (rd_T76 l0_1 x14_1).f0, wrap64 (-((rd_T76 l0_1 x14_1).f2.f0))⟩ : S70) [.int .i64 ((rd_T76 l0_1 x14_1).f1), .int .i64 ((rd_T76 l0_1 x14_1).f0), .int .i64 (wrap64 (-((rd_T76 l0_1 x14_1).f2.f0)))] (fun _ => True) (fun _ => False) rfl (by go_simp <;> rfl) ?aP (fun _ hk => hk.elim) ?aF ?aO ?aB ?aS ?aL ?_; (case aP => exact k70_mkM _ _ _ (⟨(rd_T76 l0_1 x14_1).f1, (rd_T76 l0_1 x14_1).f0, wrap64 (-((rd_T76 l0_1 x14_1).f2.f0))⟩ : S70)); (case aB => exact (bX HB)); (case aF => exact (fun _ _ => trivial)); (case aO => exact (by (with_reducible repeat first|apply rA|apply rN|apply rD); exact Kd.R_mono (Kd.R_far (p := ⟨gb360, 1, none⟩) (Kd.R_types HO371.out BK360.out (by decide)) (fun _ hk => hk.2) (.slice Ao63 y369.length co63)) (fun _ hk => trivial))); (case aS => exact (below_size (bX HB))); (case aL => have := LMc51.out; omega); intro v376 w66 ho hb hg hat; rw [← Ny375.out] at ho; have n0_ := mK (blk_grown (g := gb358) (o := .cells #[.int .i64 a0_0, .slice (some ad361) l0_1.length c0_1] 47 (0, 0)) (kF BK358 NB358_360) hg (Kd.R_ne HO371.out BK358.out (by decide))); have n1_ := mK (blk_grown (g := gb359) (o := .cells #[.int .i64 0, .slice none 0 0] 33 (0, 0)) (kF BK359 NB359_360) hg (Kd.R_ne HO371.out BK359.out (by decide))); have n2_ := mK (blk_grown (g := gb360) (o := .cells #[.int .i64 a0_0, .slice Ao63 y369.length co63] 33 (0, 0)) (by (with_reducible repeat first|apply kN|apply kD|apply kA); refine blk_put (cs := #[.int .i64 a0_0, u361001]) ?_ 1 _ rfl; (with_reducible repeat first|apply kN|apply kD|apply kA); exact BK360.out) hg (Kd.R_ne HO371.out BK360.out (by decide))); have n3_ := mK (blk_grown (g := gb362) (o := .cells #[.int .i64 ((rd_T76 l0_1 x14_1).f0), .int .i64 ((rd_T76 l0_1 x14_1).f1), .int .i64 ((rd_T76 l0_1 x14_1).f2.f0), .int .i64 ((rd_T76 l0_1 x14_1).f2.f1)] 76 (0, 0)) (kF BK362 NB362_360) hg (Kd.R_ne HO371.out BK362.out (by decide))); have n4_ := mK (Kd.R_over' (by (with_reducible repeat first|apply rA|apply rN|apply rD); exact (Kd.R_mono (Kd.R_far (p := ⟨gb360, 1, none⟩) (Kd.R_types HO374.out BK360.out (by decide)) (fun _ hk => hk.2) (.slice Ao63 y369.length co63)) (fun _ h_ => h_.1))) (Kd.R_typed (by (with_reducible repeat first|apply rA|apply rN|apply rD); exact (Kd.R_mono (Kd.R_far (p := ⟨gb360, 1, none⟩) (Kd.R_types HO371.out BK360.out (by decide)) (fun _ hk => hk.2) (.slice Ao63 y369.length co63)) (fun _ h_ => h_.1)))) (by decide) hg); have n5_ := mK (hb); have n6_ := mK (ho); clear BK358; clear BK359; clear BK360; clear BK362; clear HO374; clear HB; clear HO371; have BK358 := n0_; have BK359 := n1_; have BK360 := n2_; have BK362 := n3_; have HO374 := n4_; have HB := n5_; have HO377 := n6_; clear n0_ n1_ n2_ n3_ n4_ n5_ n6_; clear ho hb hg hat) | ((with_reducible refine gate_builtin (b := .append) (xs := #[.tmp 57, .tmp 59]) rfl ?_); at_builtin; refine Kd.R_append (Kd.int .i64) (w0 := w) w.heap.size rfl (.tmp 57) (.tmp 59) 26 3 (.int .i64 0) 8 rfl Try.underlying26 info3 rfl (by decide) (by omega) v373 y372 x14_1 [.int .i64 x14_1] (fun _ => True) (fun _ => False) rfl rfl ?aP (fun _ hk => hk.elim) ?aF ?aO ?aB ?aS ?aL ?_; (case aP => exact rfl); (case aB => exact (bX HB)); (case aF => exact (fun _ _ => trivial)); (case aO => exact (rX HO374)); (case aS => exact (below_size (bX HB))); (case aL => have := LMc52.out; omega); intro v379 w67 ho hb hg hat; rw [← Ny378.out] at ho; have n0_ := mK (blk_grown (kX BK358) hg (Kd.R_ne HO374.out BK358.out (by decide))); have n1_ := mK (blk_grown (kX BK359) hg (Kd.R_ne HO374.out BK359.out (by decide))); have n2_ := mK (blk_grown (kX BK360) hg (Kd.R_ne HO374.out BK360.out (by decide))); have n3_ := mK (blk_grown (kX BK362) hg (Kd.R_ne HO374.out BK362.out (by decide))); have n4_ := mK (Kd.R_over' (rX HO377) (Kd.R_typed (rX HO374)) (by decide) hg); have n5_ := mK (hb); have n6_ := mK (ho); clear BK358; clear BK359; clear BK360; clear BK362; clear HO377; clear HB; clear HO374; have BK358 := n0_; have BK359 := n1_; have BK360 := n2_; have BK362 := n3_; have HO377 := n4_; have HB := n5_; have HO380 := n6_; clear n0_ n1_ n2_ n3_ n4_ n5_ n6_; clear ho hb hg hat; obtain ⟨Ao68, co68, eo68⟩ := Kd.R_slice HO377.out; subst eo68; have hcz69_0 := q0 BK360; have hcz69_1 := q1 BK360; have hfz69_0 := fX BK360 0; have hfz69_1 := fX BK360 1))
 go_roundg k1
 case measure => have := HK1.out; omega
 case rel => exact ⟨(y378), (wrap64 (x14_1 + 1)), (y375), (.slice Ao68 y375.length co68), (by first | rfl | (simp; done) | (simp [*]; done)), H', ⟨by have := HK1.out; omega⟩, ⟨by (with_reducible repeat first|apply rA|apply rN|apply rD); exact Kd.R_mono (Kd.R_far (p := ⟨gb360, 1, none⟩) (Kd.R_types HO380.out BK360.out (by decide)) (fun _ hk => hk.2) (.slice Ao68 y375.length co68)) (fun _ hk => trivial)⟩, ⟨by (with_reducible repeat first|apply rA|apply rN|apply rD); exact Kd.R_mono (Kd.R_far (p := ⟨gb360, 1, none⟩) (Kd.R_types HO377.out BK360.out (by decide)) (fun _ hk => hk.2) (.slice Ao68 y375.length co68)) (fun _ hk => trivial)⟩, ⟨kF BK358 NB358_360⟩, ⟨kF BK359 NB359_360⟩, ⟨by (with_reducible repeat first|apply kN|apply kD|apply kA); refine blk_put (cs := #[.int .i64 a0_0, .slice Ao63 y369.length co63]) ?_ 1 _ rfl; (with_reducible repeat first|apply kN|apply kD|apply kA); exact BK360.out⟩, ⟨bX HB⟩⟩
 )
 )

/-! ### impl_GraphOf: function 67 -/
def impl_GraphOf.f (k : Nat) (a0_0 : Int) (l0_1 : List (S76)) : Option (Int × (List (S70))) := (impl_SimpleOk.f a0_0 l0_1).bind fun t383 => (if t383 = true then ((impl_graphOf.f k a0_0 l0_1).bind fun bt384 => (some (bt384.1, bt384.2.1))) else (some (0, ([] : List (S70)))))
theorem impl_GraphOf.mono : ∀ a0 a1 k, LeO (impl_GraphOf.f k a0 a1) (impl_GraphOf.f (k + 1) a0 a1) := by
  intro a0 a1 k
  unfold impl_GraphOf.f
  repeat' first|(with_reducible first|exact impl_graphOf.mono _ _ _|exact lR _|exact lN _|refine lI ?_ ?_|refine lB ?_ (fun _ => ?_))|exact impl_graphOf.mono _ _ _|exact lN _|refine lI ?_ ?_|refine lB ?_ (fun _ => ?_)
set_option maxHeartbeats 8000000 in
set_option maxRecDepth 100000 in
theorem impl_GraphOf.calls (k : Nat) (a0_0 : Int) (A0_1 : Option Addr) (c0_1 : Nat) (l0_1 : List (S76)) (r1 : Int) (r2 : List (S70)) (w : World) (hr0_1 : Kd.C k76 w A0_1 l0_1.length l0_1) (hc0_1 : l0_1.length ≤ c0_1) (h : impl_GraphOf.f k a0_0 l0_1 = some (r1, r2)) :
    Calls Try.prog 67 #[.agg #[.int .i64 a0_0, .slice A0_1 l0_1.length c0_1]] w fun e w' => ∃ v1_ : Value, e = .returned (.agg #[.int .i64 r1, v1_]) ∧ Kd.R k70 70 w' w.heap.size (fun _ => True) v1_ r2 ∧ Below w.heap.size w w' := by
  have hu47 := Try.underlying47
  have hu33 := Try.underlying33
  have HR0_1 := mK hr0_1
  have HC0_1 := mK hc0_1
  clear hr0_1 hc0_1
  have HB := mK (Below.refl w.heap.size w)
  have H : ((impl_SimpleOk.f a0_0 l0_1).bind fun t383 => (if t383 = true then ((impl_graphOf.f k a0_0 l0_1).bind fun bt384 => (some (bt384.1, bt384.2.1))) else (some (0, ([] : List (S70)))))) = some (r1, r2) := h
  clear h
  replace H := Option.bind_eq_some_iff.mp H
  obtain ⟨t383, A20, H⟩ := H
  replace H : (if t383 = true then ((impl_graphOf.f k a0_0 l0_1).bind fun bt384 => (some (bt384.1, bt384.2.1))) else (some (0, ([] : List (S70))))) = some (r1, r2) := H
  have A2 := mK A20
  clear A20
  by_cases c3 : t383 = true
  rotate_left
  · replace c3 := Bool.eq_false_iff.mpr c3
    subst c3
    rw [if_neg (show ¬ (false = true) by decide)] at H
    simp only [Option.some.injEq, Prod.mk.injEq] at H
    obtain ⟨rfl, rfl⟩ := H
    go_enter Try.func67, Try.ntmps67
    go_wp2_with (first | ((with_reducible refine gate_dst (N := 1) rfl ?_); refine bxE 1 #[.int .i64 a0_0, .slice A0_1 l0_1.length c0_1] 47 ?_; intro gb381 hg w18 hbox hb; have BK381 := mK hbox; have GW381 := mK (gX hg HB); have GE381 := mK (gX hg HB); replace HB := bB HB hb; clear hb hbox hg) | ((with_reducible refine gate_dst (N := 2) rfl ?_); refine bxE 2 #[.int .i64 0, .slice none 0 0] 33 ?_; intro gb382 hg w19 hbox hb; have BK382 := mK hbox; have GW382 := mK (gX hg HB); have GE382 := mK (gX hg HB); replace HB := bB HB hb; have NB381_382 := mK (lX hg BK381); have NB382_381 := mK (mX hg BK381); replace BK381 := kB BK381 hb; clear hb hbox hg; have hnb20 := NB381_382.out; have hnc20 := NB382_381.out; have hcz21_0 := q0 BK381; have hcz21_1 := q1 BK381; have hfz21_0 := fX BK381 0; have hfz21_1 := fX BK381 1) | ((with_reducible refine gate_callee (f := 49) rfl ?_); refine gsE (some 6) Try.func49 #[.agg #[.int .i64 a0_0, .slice A0_1 l0_1.length c0_1]] ?_; (with_reducible refine (impl_SimpleOk.calls a0_0 _ _ l0_1 false _ ?side1 ?side2 A2.out).mono ?_); (case side1 => exact cX HR0_1 HB); (case side2 => exact HC0_1.out); rintro e w22 ⟨rfl, hb⟩; refine ⟨_, rfl, ?_⟩; replace BK381 := kB BK381 hb; replace BK382 := kB BK382 hb; replace HB := bB HB hb; (try clear hb); (try clear hb2); (try clear hk); (try clear hi); have hcz23_0 := q0 BK382; have hcz23_1 := q1 BK382; have hfz23_0 := fX BK382 0; have hfz23_1 := fX BK382 1))
    refine bodyPost_ret (results_cell_row rfl _ _ gb382 33 #[.int .i64 0, .slice none 0 0] (0, 0) _ rfl (kP2 BK382) Try.underlying33 rfl (by kernel_rfl)) rfl ?_
    exact ⟨_, by first | rfl | (simp [errW_none, errW_some] <;> rfl) | (simp [*, errW_none, errW_some] <;> rfl), by first | exact Kd.R_nil _ _ _ _ _ | exact Kd.N_nil _ _ _ _ _ | exact Kd.V_nil _ _ _ _ _ | exact Kd.Q_nil _ _ _ _ _ | exact Kd.S_nil _ _ _ _ _, bX HB⟩
  subst c3
  rw [if_pos rfl] at H
  replace H := Option.bind_eq_some_iff.mp H
  obtain ⟨⟨t384, t385, t388⟩, A40, H⟩ := H
  replace H : (some (t384, t385)) = some (r1, r2) := H
  have A4 := mK A40
  clear A40
  simp only [Option.some.injEq, Prod.mk.injEq] at H
  obtain ⟨rfl, rfl⟩ := H
  go_enter Try.func67, Try.ntmps67
  go_wp2_with (first | ((with_reducible refine gate_dst (N := 1) rfl ?_); refine bxE 1 #[.int .i64 a0_0, .slice A0_1 l0_1.length c0_1] 47 ?_; intro gb381 hg w5 hbox hb; have BK381 := mK hbox; have GW381 := mK (gX hg HB); have GE381 := mK (gX hg HB); replace HB := bB HB hb; clear hb hbox hg) | ((with_reducible refine gate_dst (N := 2) rfl ?_); refine bxE 2 #[.int .i64 0, .slice none 0 0] 33 ?_; intro gb382 hg w6 hbox hb; have BK382 := mK hbox; have GW382 := mK (gX hg HB); have GE382 := mK (gX hg HB); replace HB := bB HB hb; have NB381_382 := mK (lX hg BK381); have NB382_381 := mK (mX hg BK381); replace BK381 := kB BK381 hb; clear hb hbox hg; have hnb7 := NB381_382.out; have hnc7 := NB382_381.out; have hcz8_0 := q0 BK381; have hcz8_1 := q1 BK381; have hfz8_0 := fX BK381 0; have hfz8_1 := fX BK381 1) | ((with_reducible refine gate_callee (f := 49) rfl ?_); refine gsE (some 6) Try.func49 #[.agg #[.int .i64 a0_0, .slice A0_1 l0_1.length c0_1]] ?_; (with_reducible refine (impl_SimpleOk.calls a0_0 _ _ l0_1 true _ ?side1 ?side2 A2.out).mono ?_); (case side1 => exact cX HR0_1 HB); (case side2 => exact HC0_1.out); rintro e w9 ⟨rfl, hb⟩; refine ⟨_, rfl, ?_⟩; replace BK381 := kB BK381 hb; replace BK382 := kB BK382 hb; replace HB := bB HB hb; (try clear hb); (try clear hb2); (try clear hk); (try clear hi); have hcz10_0 := q0 BK381; have hcz10_1 := q1 BK381; have hfz10_0 := fX BK381 0; have hfz10_1 := fX BK381 1) | ((with_reducible refine gate_callee (f := 87) rfl ?_); refine gsE (some 11) Try.func87 #[.agg #[.int .i64 a0_0, .slice A0_1 l0_1.length c0_1]] ?_; (with_reducible refine (impl_graphOf.calls k a0_0 _ _ l0_1 t384 t385 t388 _ ?side1 ?side2 A4.out).mono ?_); (case side1 => exact cX HR0_1 HB); (case side2 => exact HC0_1.out); rintro e w11 ⟨v386, v389, rfl, ho0, ho1, hb⟩; refine ⟨_, rfl, ?_⟩; have HO387 := mK (Kd.R_lower ho0 (below_size (bX HB))); have HO390 := mK (Kd.R_lower ho1 (below_size (bX HB))); replace BK381 := kB BK381 hb; replace BK382 := kB BK382 hb; replace HB := bB HB hb; (try clear hb); (try clear hb2); (try clear hk); (try clear hi); (try clear ho0); (try clear ho1)) | ((with_reducible refine gate_dst (N := 3) rfl ?_); refine bxE 3 #[.int .i64 0, .slice none 0 0] 33 ?_; intro gb391 hg w12 hbox hb; replace HO387 := mK (Kd.R_below (rX HO387) hb); replace HO390 := mK (Kd.R_below (rX HO390) hb); have BK391 := mK hbox; have GW391 := mK (gX hg HB); have GE391 := mK (gX hg HB); replace HB := bB HB hb; have NB381_391 := mK (lX hg BK381); have NB391_381 := mK (mX hg BK381); replace BK381 := kB BK381 hb; have NB382_391 := mK (lX hg BK382); have NB391_382 := mK (mX hg BK382); replace BK382 := kB BK382 hb; clear hb hbox hg; have hnb13 := NB391_381.out; have hnc13 := NB381_391.out; have hnb14 := NB391_382.out; have hnc14 := NB382_391.out; have hcz15_0 := q0 BK391; have hcz15_1 := q1 BK391; have hfz15_0 := fX BK391 0; have hfz15_1 := fX BK391 1; obtain ⟨Ao16, co16, eo16⟩ := Kd.R_slice HO387.out; subst eo16; have hcz17_0 := q0 BK382; have hcz17_1 := q1 BK382; have hfz17_0 := fX BK382 0; have hfz17_1 := fX BK382 1))
  refine bodyPost_ret (results_cell_row rfl _ _ gb382 33 #[.int .i64 t384, .slice Ao16 t385.length co16] (0, 0) _ rfl (by (with_reducible repeat first|apply kN|apply kD|apply kA); refine blk_put (cs := #[.int .i64 t384, .slice none 0 0]) ?_ 1 _ rfl; (with_reducible repeat first|apply kN|apply kD|apply kA); refine blk_put (cs := #[.int .i64 0, .slice none 0 0]) ?_ 0 _ rfl; (with_reducible repeat first|apply kN|apply kD|apply kA); refine blk_far ?_ NB382_391.out _; (with_reducible repeat first|apply kN|apply kD|apply kA); refine blk_far ?_ NB382_391.out _; (with_reducible repeat first|apply kN|apply kD|apply kA); exact BK382.out) Try.underlying33 rfl (by kernel_rfl)) rfl ?_
  exact ⟨_, by first | rfl | (simp [errW_none, errW_some] <;> rfl) | (simp [*, errW_none, errW_some] <;> rfl), by (with_reducible repeat first|apply rA|apply rN|apply rD); exact Kd.R_mono (Kd.R_far (p := ⟨gb382, 1, none⟩) (Kd.R_far (p := ⟨gb382, 0, none⟩) (Kd.R_far (p := ⟨gb391, 1, none⟩) (Kd.R_far (p := ⟨gb391, 0, none⟩) (Kd.R_types (Kd.R_types HO387.out BK391.out (by decide)) BK382.out (by decide)) (fun _ hk => hk.1.2) (.int .i64 t384)) (fun _ hk => hk.1.2) (.slice Ao16 t385.length co16)) (fun _ hk => hk.2) (.int .i64 t384)) (fun _ hk => hk.2) (.slice Ao16 t385.length co16)) (fun _ hk => trivial), bX HB⟩

/-! ### impl_TableOk: function 45 -/
mutual
def impl_TableOk.j0 : Nat → Bool → Int → List Int → Option (Bool)
  | 0, _, _, _ => none
  | k + 1, x23, x393000, x393001 => if x23 = true then (some false) else (impl_TableOk.l0 k x393001 (x393001.length : Int) 0 x393000 x393001)
def impl_TableOk.l0 : Nat → List Int → Int → Int → Int → List Int → Option (Bool)
  | 0, _, _, _, _, _ => none
  | k + 1, x25, x26, x27, x393000, x393001 => if x27 < x26 then (if 0 ≤ x27 then (if x27 < (x25.length : Int) then (if (rd x25 x27) < (-1000000) then (some false) else (if (rd x25 x27) > 1000000 then (some false) else (if x393000 = 0 then (none) else (if (wrap64 (Int.tdiv x27 x393000)) = (Int.tmod x27 x393000) then (if (rd x25 x27) = 0 then (impl_TableOk.l0 k x25 x26 (wrap64 (x27 + 1)) x393000 x393001) else (some false)) else (impl_TableOk.l0 k x25 x26 (wrap64 (x27 + 1)) x393000 x393001))))) else (none)) else (none)) else (some true)
end
def impl_TableOk.f (k : Nat) (a0_0 : Int) (l0_1 : List Int) : Option (Bool) := if a0_0 < 0 then (impl_TableOk.j0 k true a0_0 l0_1) else (if a0_0 > 8 then (impl_TableOk.j0 k true a0_0 l0_1) else (impl_TableOk.j0 k ((l0_1.length : Int) != (wrap64 (a0_0 * a0_0))) a0_0 l0_1))
theorem impl_TableOk.mono_l : ∀ k, (∀ y0 y1 y2, LeO (impl_TableOk.j0 k y0 y1 y2) (impl_TableOk.j0 (k + 1) y0 y1 y2)) ∧ (∀ y0 y1 y2 y3 y4, LeO (impl_TableOk.l0 k y0 y1 y2 y3 y4) (impl_TableOk.l0 (k + 1) y0 y1 y2 y3 y4))
  | 0 => ⟨fun _ _ _ r h => by simp [impl_TableOk.j0] at h, fun _ _ _ _ _ r h => by simp [impl_TableOk.l0] at h⟩
  | k + 1 => by
    obtain ⟨ih0, ih1⟩ := impl_TableOk.mono_l k
    refine ⟨?_, ?_⟩
    · intro y0 y1 y2
      unfold impl_TableOk.j0
      repeat' first|(with_reducible first|exact ih0 _ _ _|exact ih1 _ _ _ _ _|exact lR _|exact lN _|refine lI ?_ ?_|refine lB ?_ (fun _ => ?_))|exact ih0 _ _ _|exact ih1 _ _ _ _ _|exact lN _|refine lI ?_ ?_|refine lB ?_ (fun _ => ?_)
    · intro y0 y1 y2 y3 y4
      unfold impl_TableOk.l0
      repeat' first|(with_reducible first|exact ih0 _ _ _|exact ih1 _ _ _ _ _|exact lR _|exact lN _|refine lI ?_ ?_|refine lB ?_ (fun _ => ?_))|exact ih0 _ _ _|exact ih1 _ _ _ _ _|exact lN _|refine lI ?_ ?_|refine lB ?_ (fun _ => ?_)
theorem impl_TableOk.mono : ∀ a0 a1 k, LeO (impl_TableOk.f k a0 a1) (impl_TableOk.f (k + 1) a0 a1) := by
  intro a0 a1 k
  obtain ⟨ih0, ih1⟩ := impl_TableOk.mono_l k
  unfold impl_TableOk.f
  repeat' first|(with_reducible first|exact ih0 _ _ _|exact ih1 _ _ _ _ _|exact lR _|exact lN _|refine lI ?_ ?_|refine lB ?_ (fun _ => ?_))|exact ih0 _ _ _|exact ih1 _ _ _ _ _|exact lN _|refine lI ?_ ?_|refine lB ?_ (fun _ => ?_)
set_option maxHeartbeats 8000000 in
set_option maxRecDepth 100000 in
theorem impl_TableOk.calls (k : Nat) (a0_0 : Int) (A0_1 : Option Addr) (c0_1 : Nat) (l0_1 : List Int) (r : Bool) (w : World) (hr0_1 : Kd.C (Kd.int .i64) w A0_1 l0_1.length l0_1) (hc0_1 : l0_1.length ≤ c0_1) (h : impl_TableOk.f k a0_0 l0_1 = some r) :
    Calls Try.prog 45 #[.agg #[.int .i64 a0_0, .slice A0_1 l0_1.length c0_1]] w fun e w' => e = .returned (.bool r) ∧ Below w.heap.size w w' := by
  have hu28 := Try.underlying28
  have HR0_1 := mK hr0_1
  have HC0_1 := mK hc0_1
  clear hr0_1 hc0_1
  have HB := mK (Below.refl w.heap.size w)
  have H : (if a0_0 < 0 then (impl_TableOk.j0 k true a0_0 l0_1) else (if a0_0 > 8 then (impl_TableOk.j0 k true a0_0 l0_1) else (impl_TableOk.j0 k ((l0_1.length : Int) != (wrap64 (a0_0 * a0_0))) a0_0 l0_1))) = some r := h
  clear h
  have HC2 := mK H
  clear H
  go_enter Try.func45, Try.ntmps45
  go_upto_region 1 with (first | ((with_reducible refine gate_dst (N := 1) rfl ?_); (try (refine gate_guard (by rfl) ?_; dsimp only)); refine box_event ?hg (N := 1) ?hd (cs := #[.int .i64 a0_0, .slice A0_1 l0_1.length c0_1]) (t := 28) ?hr ?_; (case hd => rfl); (case hg => rfl); (case hr => go_simp <;> rfl); intro gb392 hg w3 hbox hb; have BK392 := mK hbox; have GW392 := mK (gX hg HB); have GE392 := mK (gX hg HB); replace HB := bB HB hb; clear hb hbox hg))
  repeat (go_quiet (first | ((with_reducible refine gate_dst (N := 1) rfl ?_); (try (refine gate_guard (by rfl) ?_; dsimp only)); refine box_event ?hg (N := 1) ?hd (cs := #[.int .i64 a0_0, .slice A0_1 l0_1.length c0_1]) (t := 28) ?hr ?_; (case hd => rfl); (case hg => rfl); (case hr => go_simp <;> rfl); intro gb392 hg w3 hbox hb; have BK392 := mK hbox; have GW392 := mK (gX hg HB); have GE392 := mK (gX hg HB); replace HB := bB HB hb; clear hb hbox hg)); go_upto_region 1 with (first | ((with_reducible refine gate_dst (N := 1) rfl ?_); (try (refine gate_guard (by rfl) ?_; dsimp only)); refine box_event ?hg (N := 1) ?hd (cs := #[.int .i64 a0_0, .slice A0_1 l0_1.length c0_1]) (t := 28) ?hr ?_; (case hd => rfl); (case hg => rfl); (case hr => go_simp <;> rfl); intro gb392 hg w3 hbox hb; have BK392 := mK hbox; have GW392 := mK (gX hg HB); have GE392 := mK (gX hg HB); replace HB := bB HB hb; clear hb hbox hg)))
  (try simp only [Act.put, sT, sZ, sU])
  go_cut [23] (fun v23 wc => ∃ (kq : Nat) (x23_1 : Bool), v23 = .bool x23_1 ∧ Aside0 (impl_TableOk.j0 kq x23_1 a0_0 l0_1 = some r) ∧ Aside0 (kq ≤ k) ∧ Aside0 (wc.heap[gb392]? = some (.cells #[.int .i64 a0_0, (.slice A0_1 l0_1.length c0_1)] 28 (0, 0))) ∧ Aside0 (Below w.heap.size w wc))
  case first =>
   have H := HC2.out
   clear HC2
   by_cases c4 : a0_0 < 0
   · rw [if_pos c4] at H
     have c4b0 : decide (a0_0 < 0) = true := decide_eq_true c4
     clear c4
     (first | rw [c4b0] | (simp only [i64_w, i32_w]; rw [c4b0]) | skip)
     have H' := mK H
     clear H
     have hcz5_0 := q0 BK392
     have hcz5_1 := q1 BK392
     have hfz5_0 := fX BK392 0
     have hfz5_1 := fX BK392 1
     go_wp2
     repeat (go_quiet (fail); try go_wp2)
     go_meet
     case rel => exact ⟨_, (true), (by first | rfl | (simp; done) | (simp [*]; done)), H', ⟨by first | omega | exact Nat.le_refl _⟩, ⟨kX BK392⟩, ⟨bX HB⟩⟩
   rw [if_neg c4] at H
   have c4b0 : decide (a0_0 < 0) = false := decide_eq_false c4
   clear c4
   (first | rw [c4b0] | (simp only [i64_w, i32_w]; rw [c4b0]) | skip)
   by_cases c6 : a0_0 > 8
   · rw [if_pos c6] at H
     have c6b0 : decide (8 < a0_0) = true := decide_eq_true c6
     clear c6
     have H' := mK H
     clear H
     have hcz7_0 := q0 BK392
     have hcz7_1 := q1 BK392
     have hfz7_0 := fX BK392 0
     have hfz7_1 := fX BK392 1
     go_wp2
     repeat (go_quiet (fail); try go_wp2)
     go_meet
     case rel => exact ⟨_, (true), (by first | rfl | (simp; done) | (simp [*]; done)), H', ⟨by first | omega | exact Nat.le_refl _⟩, ⟨kX BK392⟩, ⟨bX HB⟩⟩
   rw [if_neg c6] at H
   have c6b0 : decide (8 < a0_0) = false := decide_eq_false c6
   clear c6
   have H' := mK H
   clear H
   have hcz8_0 := q0 BK392
   have hcz8_1 := q1 BK392
   have hfz8_0 := fX BK392 0
   have hfz8_1 := fX BK392 1
   go_wp2
   repeat (go_quiet (fail); try go_wp2)
   go_meet
   case rel => exact ⟨_, (((l0_1.length : Int) != (wrap64 (a0_0 * a0_0)))), (by first | rfl | (simp; done) | (simp [*]; done)), H', ⟨by first | omega | exact Nat.le_refl _⟩, ⟨kX BK392⟩, ⟨bX HB⟩⟩
  case rest =>
   clear HC2
   try clear p2
   try clear c4
   try clear c4b0
   try clear c6
   try clear c6b0
   try clear p6
   try clear hcz5_0
   try clear hcz5_1
   try clear hcz7_0
   try clear hcz7_1
   try clear hcz8_0
   try clear hcz8_1
   try clear hfz5_0
   try clear hfz5_1
   try clear hfz7_0
   try clear hfz7_1
   try clear hfz8_0
   try clear hfz8_1
   obtain ⟨kq, x23_1, rfl, HA, HJ1, BK392, HB⟩ := hcut
   cases kq with
   | zero => exact absurd HA.out (by simp [impl_TableOk.j0])
   | succ kj1 =>
    have H := HA.out
    clear HA
    simp only [impl_TableOk.j0] at H
    by_cases c9 : x23_1 = true
    · subst c9
      rw [if_pos rfl] at H
      obtain rfl := Option.some.inj H
      go_wp2
      repeat (go_quiet (fail); try go_wp2)
      go_ret
      exact ⟨by first | rfl | (simp [errW_none, errW_some] <;> rfl) | (simp [*, errW_none, errW_some] <;> rfl), bX HB⟩
    replace c9 := Bool.eq_false_iff.mpr c9
    subst c9
    rw [if_neg (show ¬ (false = true) by decide)] at H
    have H' := mK H
    clear H
    have hcz10_0 := q0 BK392
    have hcz10_1 := q1 BK392
    have hfz10_0 := fX BK392 0
    have hfz10_1 := fX BK392 1
    go_wp2
    repeat (go_quiet (fail); try go_wp2)
    go_loopg [27] kj1 (fun kq v27 w' => ∃ (x27_2 : Int), v27 = .int .i64 x27_2 ∧ Aside0 (impl_TableOk.l0 kq l0_1 (l0_1.length : Int) x27_2 a0_0 l0_1 = some r) ∧ Aside0 (kq ≤ kj1) ∧ Aside0 (w'.heap[gb392]? = some (.cells #[.int .i64 a0_0, (.slice A0_1 l0_1.length c0_1)] 28 (0, 0))) ∧ Aside0 (Below w.heap.size w w'))
    case atStart => exact ⟨(0), (by first | rfl | (simp; done) | (simp [*]; done)), H', ⟨Nat.le_refl _⟩, ⟨kX BK392⟩, ⟨bX HB⟩⟩
    case round =>
     clear H'
     try clear p2
     try clear c4
     try clear c4b0
     try clear c6
     try clear c6b0
     try clear p6
     try clear c9
     try clear hcz10_0
     try clear hcz10_1
     try clear hcz5_0
     try clear hcz5_1
     try clear hcz7_0
     try clear hcz7_1
     try clear hcz8_0
     try clear hcz8_1
     try clear hfz10_0
     try clear hfz10_1
     try clear hfz5_0
     try clear hfz5_1
     try clear hfz7_0
     try clear hfz7_1
     try clear hfz8_0
     try clear hfz8_1
     try clear p2
     try clear p6
     obtain ⟨x27_2, rfl, HA, HK2, BK392, HB⟩ := hrel
     cases gk with
     | zero => exact absurd HA.out (by simp [impl_TableOk.l0])
     | succ k2 =>
      have H := HA.out
      clear HA
      simp only [impl_TableOk.l0] at H
      by_cases c11 : x27_2 < (l0_1.length : Int)
      rotate_left
      · rw [if_neg c11] at H
        have c11b0 : decide (x27_2 < (l0_1.length : Int)) = false := decide_eq_false c11
        clear c11
        obtain rfl := Option.some.inj H
        go_wp2
        repeat (go_quiet (fail); try go_wp2)
        go_ret
        exact ⟨by first | rfl | (simp [errW_none, errW_some] <;> rfl) | (simp [*, errW_none, errW_some] <;> rfl), bX HB⟩
      rw [if_pos c11] at H
      have c11b0 : decide (x27_2 < (l0_1.length : Int)) = true := decide_eq_true c11
      clear c11
      by_cases c12 : 0 ≤ x27_2
      rotate_left
      · rw [if_neg c12] at H
        exact absurd H (by simp)
      rw [if_pos c12] at H
      have c12b0 : decide (0 ≤ x27_2) = true := decide_eq_true c12
      clear c12
      by_cases c13 : x27_2 < (l0_1.length : Int)
      rotate_left
      · rw [if_neg c13] at H
        exact absurd H (by simp)
      rw [if_pos c13] at H
      have c13b0 : decide (x27_2 < (l0_1.length : Int)) = true := decide_eq_true c13
      clear c13
      by_cases c14 : (rd l0_1 x27_2) < (-1000000)
      · rw [if_pos c14] at H
        have c14b0 : decide ((rd l0_1 x27_2) < (-1000000)) = true := decide_eq_true c14
        clear c14
        obtain rfl := Option.some.inj H
        have p393 : 0 ≤ (x27_2 : Int) := of_decide_eq_true oX
        have q393 : x27_2 < (l0_1.length : Int) := of_decide_eq_true oX
        obtain ⟨ad393, e393, hx393_0⟩ := Kd.at_int HR0_1.out x27_2 p393 q393
        cases e393
        replace hx393_0 := (HB.out.cell (World.block_lt_of_cell? w _ hx393_0)).trans hx393_0
        replace p393 := eq_true p393
        replace q393 := eq_true q393
        go_wp2
        repeat (go_quiet (fail); try go_wp2)
        go_ret
        exact ⟨by first | rfl | (simp [errW_none, errW_some] <;> rfl) | (simp [*, errW_none, errW_some] <;> rfl), bX HB⟩
      rw [if_neg c14] at H
      have c14b0 : decide ((rd l0_1 x27_2) < (-1000000)) = false := decide_eq_false c14
      clear c14
      by_cases c15 : (rd l0_1 x27_2) > 1000000
      · rw [if_pos c15] at H
        have c15b0 : decide (1000000 < (rd l0_1 x27_2)) = true := decide_eq_true c15
        clear c15
        obtain rfl := Option.some.inj H
        have p393 : 0 ≤ (x27_2 : Int) := of_decide_eq_true oX
        have q393 : x27_2 < (l0_1.length : Int) := of_decide_eq_true oX
        obtain ⟨ad393, e393, hx393_0⟩ := Kd.at_int HR0_1.out x27_2 p393 q393
        cases e393
        replace hx393_0 := (HB.out.cell (World.block_lt_of_cell? w _ hx393_0)).trans hx393_0
        replace p393 := eq_true p393
        replace q393 := eq_true q393
        go_wp2
        repeat (go_quiet (fail); try go_wp2)
        go_ret
        exact ⟨by first | rfl | (simp [errW_none, errW_some] <;> rfl) | (simp [*, errW_none, errW_some] <;> rfl), bX HB⟩
      rw [if_neg c15] at H
      have c15b0 : decide (1000000 < (rd l0_1 x27_2)) = false := decide_eq_false c15
      clear c15
      by_cases c16 : a0_0 = 0
      · rw [if_pos c16] at H
        exact absurd H (by simp)
      rw [if_neg c16] at H
      have c16b0 : (a0_0 == 0) = false := beq_eq_false_iff_ne.mpr c16
      have c16b1 : (a0_0 != 0) = true := bne_iff_ne.mpr c16
      by_cases c17 : (wrap64 (Int.tdiv x27_2 a0_0)) = (Int.tmod x27_2 a0_0)
      rotate_left
      · rw [if_neg c17] at H
        have c17b0 : ((wrap64 (Int.tdiv x27_2 a0_0)) == (Int.tmod x27_2 a0_0)) = false := beq_eq_false_iff_ne.mpr c17
        have c17b1 : ((wrap64 (Int.tdiv x27_2 a0_0)) != (Int.tmod x27_2 a0_0)) = true := bne_iff_ne.mpr c17
        have H' := mK H
        clear H
        have p393 : 0 ≤ (x27_2 : Int) := of_decide_eq_true oX
        have q393 : x27_2 < (l0_1.length : Int) := of_decide_eq_true oX
        obtain ⟨ad393, e393, hx393_0⟩ := Kd.at_int HR0_1.out x27_2 p393 q393
        cases e393
        replace hx393_0 := (HB.out.cell (World.block_lt_of_cell? w _ hx393_0)).trans hx393_0
        replace p393 := eq_true p393
        replace q393 := eq_true q393
        have hcz21_0 := q0 BK392
        have hcz21_1 := q1 BK392
        have hfz21_0 := fX BK392 0
        have hfz21_1 := fX BK392 1
        go_wp2
        repeat (go_quiet (fail); try go_wp2)
        go_roundg k2
        case measure => have := HJ1.out; have := HK2.out; omega
        case rel => exact ⟨(wrap64 (x27_2 + 1)), (by first | rfl | (simp; done) | (simp [*]; done)), H', ⟨by have := HJ1.out; have := HK2.out; omega⟩, ⟨kX BK392⟩, ⟨bX HB⟩⟩
      rw [if_pos c17] at H
      have c17b0 : ((wrap64 (Int.tdiv x27_2 a0_0)) == (Int.tmod x27_2 a0_0)) = true := beq_iff_eq.mpr c17
      have c17b1 : ((wrap64 (Int.tdiv x27_2 a0_0)) != (Int.tmod x27_2 a0_0)) = false := bne_eq_false_iff_eq.mpr c17
      clear c17
      by_cases c18 : (rd l0_1 x27_2) = 0
      rotate_left
      · rw [if_neg c18] at H
        have c18b0 : ((rd l0_1 x27_2) == 0) = false := beq_eq_false_iff_ne.mpr c18
        have c18b1 : ((rd l0_1 x27_2) != 0) = true := bne_iff_ne.mpr c18
        obtain rfl := Option.some.inj H
        have p393 : 0 ≤ (x27_2 : Int) := of_decide_eq_true oX
        have q393 : x27_2 < (l0_1.length : Int) := of_decide_eq_true oX
        obtain ⟨ad393, e393, hx393_0⟩ := Kd.at_int HR0_1.out x27_2 p393 q393
        cases e393
        replace hx393_0 := (HB.out.cell (World.block_lt_of_cell? w _ hx393_0)).trans hx393_0
        replace p393 := eq_true p393
        replace q393 := eq_true q393
        have hcz20_0 := q0 BK392
        have hcz20_1 := q1 BK392
        have hfz20_0 := fX BK392 0
        have hfz20_1 := fX BK392 1
        go_wp2
        repeat (go_quiet (fail); try go_wp2)
        go_ret
        exact ⟨by first | rfl | (simp [errW_none, errW_some] <;> rfl) | (simp [*, errW_none, errW_some] <;> rfl), bX HB⟩
      rw [if_pos c18] at H
      have c18b0 : ((rd l0_1 x27_2) == 0) = true := beq_iff_eq.mpr c18
      have c18b1 : ((rd l0_1 x27_2) != 0) = false := bne_eq_false_iff_eq.mpr c18
      clear c18
      have H' := mK H
      clear H
      have p393 : 0 ≤ (x27_2 : Int) := of_decide_eq_true oX
      have q393 : x27_2 < (l0_1.length : Int) := of_decide_eq_true oX
      obtain ⟨ad393, e393, hx393_0⟩ := Kd.at_int HR0_1.out x27_2 p393 q393
      cases e393
      replace hx393_0 := (HB.out.cell (World.block_lt_of_cell? w _ hx393_0)).trans hx393_0
      replace p393 := eq_true p393
      replace q393 := eq_true q393
      have hcz19_0 := q0 BK392
      have hcz19_1 := q1 BK392
      have hfz19_0 := fX BK392 0
      have hfz19_1 := fX BK392 1
      go_wp2
      repeat (go_quiet (fail); try go_wp2)
      go_roundg k2
      case measure => have := HJ1.out; have := HK2.out; omega
      case rel => exact ⟨(wrap64 (x27_2 + 1)), (by first | rfl | (simp; done) | (simp [*]; done)), H', ⟨by have := HJ1.out; have := HK2.out; omega⟩, ⟨kX BK392⟩, ⟨bX HB⟩⟩

/-! ### impl_Table_cell: function 83 -/
def impl_Table_cell.f (a0_0 : Int) (l0_1 : List Int) (a1 : Int) (a2 : Int) : Option (Int) := if 0 ≤ (wrap64 ((wrap64 (a1 * a0_0)) + a2)) then (if (wrap64 ((wrap64 (a1 * a0_0)) + a2)) < (l0_1.length : Int) then (some (rd l0_1 (wrap64 ((wrap64 (a1 * a0_0)) + a2)))) else (none)) else (none)
set_option maxHeartbeats 8000000 in
set_option maxRecDepth 100000 in
theorem impl_Table_cell.calls (a0_0 : Int) (A0_1 : Option Addr) (c0_1 : Nat) (l0_1 : List Int) (a1 : Int) (a2 : Int) (r : Int) (w : World) (hr0_1 : Kd.C (Kd.int .i64) w A0_1 l0_1.length l0_1) (hc0_1 : l0_1.length ≤ c0_1) (h : impl_Table_cell.f a0_0 l0_1 a1 a2 = some r) :
    Calls Try.prog 83 #[.agg #[.int .i64 a0_0, .slice A0_1 l0_1.length c0_1], .int .i64 a1, .int .i64 a2] w fun e w' => e = .returned (.int .i64 r) ∧ Below w.heap.size w w' := by
  have hu28 := Try.underlying28
  have HR0_1 := mK hr0_1
  have HC0_1 := mK hc0_1
  clear hr0_1 hc0_1
  have HB := mK (Below.refl w.heap.size w)
  have H : (if 0 ≤ (wrap64 ((wrap64 (a1 * a0_0)) + a2)) then (if (wrap64 ((wrap64 (a1 * a0_0)) + a2)) < (l0_1.length : Int) then (some (rd l0_1 (wrap64 ((wrap64 (a1 * a0_0)) + a2)))) else (none)) else (none)) = some r := h
  clear h
  obtain ⟨ji4, hji4⟩ : ∃ j_ : Int, (wrap64 ((wrap64 (a1 * a0_0)) + a2)) = j_ := ⟨_, rfl⟩
  replace H : (if 0 ≤ (ji4) then (if (ji4) < (l0_1.length : Int) then (some (rd l0_1 (ji4))) else (none)) else (none)) = some r := by first | (rw [hji4] at H; exact H) | (simp only [hji4] at H ⊢; exact H)
  have hji4w : (IntKind.i64.wrap ((wrap64 (a1 * a0_0)) + a2)) = ji4 := (i64_w _).trans hji4
  by_cases c5 : 0 ≤ (ji4)
  rotate_left
  · rw [if_neg c5] at H
    exact absurd H (by simp)
  rw [if_pos c5] at H
  have c5b0 : decide (0 ≤ (ji4)) = true := decide_eq_true c5
  clear c5
  by_cases c6 : (ji4) < (l0_1.length : Int)
  rotate_left
  · rw [if_neg c6] at H
    exact absurd H (by simp)
  rw [if_pos c6] at H
  have c6b0 : decide ((ji4) < (l0_1.length : Int)) = true := decide_eq_true c6
  clear c6
  obtain rfl := Option.some.inj H
  go_enter Try.func83, Try.ntmps83
  go_wp2_with (first | ((with_reducible refine gate_dst (N := 3) rfl ?_); refine bxE 3 #[.int .i64 a0_0, .slice A0_1 l0_1.length c0_1] 28 ?_; intro gb394 hg w7 hbox hb; have BK394 := mK hbox; have GW394 := mK (gX hg HB); have GE394 := mK (gX hg HB); replace HB := bB HB hb; clear hb hbox hg; have hcz8_0 := q0 BK394; have hcz8_1 := q1 BK394; have hfz8_0 := fX BK394 0; have hfz8_1 := fX BK394 1; have p395 : 0 ≤ ((ji4) : Int) := of_decide_eq_true oX; have q395 : (ji4) < (l0_1.length : Int) := of_decide_eq_true oX; obtain ⟨ad395, e395, hx395_0⟩ := Kd.at_int HR0_1.out (ji4) p395 q395; cases e395; replace hx395_0 := (HB.out.cell (World.block_lt_of_cell? w _ hx395_0)).trans hx395_0; replace p395 := eq_true p395; replace q395 := eq_true q395))
  go_ret
  exact ⟨by first | rfl | (simp [errW_none, errW_some] <;> rfl) | (simp only [← hji4]; first | rfl | (simp [errW_none, errW_some] <;> rfl)) | (simp [*, errW_none, errW_some] <;> rfl), bX HB⟩

/-! ### impl_checked: function 106 -/
def impl_checked.f (a0_0 : Int) (a0_1 : Int) (a1 : Bool) : Option (Int × Int × Bool) := if a1 = true then ((impl_IntervalOk.f a0_0 a0_1).bind fun t398 => (if t398 = true then (some (a0_0, a0_1, true)) else (some (0, 0, false)))) else (some (0, 0, false))
set_option maxHeartbeats 8000000 in
set_option maxRecDepth 100000 in
theorem impl_checked.calls (a0_0 : Int) (a0_1 : Int) (a1 : Bool) (r1 : Int) (r2 : Int) (r3 : Bool) (w : World) (h : impl_checked.f a0_0 a0_1 a1 = some (r1, r2, r3)) :
    Calls Try.prog 106 #[.agg #[.int .i64 a0_0, .int .i64 a0_1], .bool a1] w fun e w' => e = .returned (.tuple #[.agg #[.int .i64 r1, .int .i64 r2], .bool r3]) ∧ Below w.heap.size w w' := by
  have hu52 := Try.underlying52
  have HB := mK (Below.refl w.heap.size w)
  have H : (if a1 = true then ((impl_IntervalOk.f a0_0 a0_1).bind fun t398 => (if t398 = true then (some (a0_0, a0_1, true)) else (some (0, 0, false)))) else (some (0, 0, false))) = some (r1, r2, r3) := h
  clear h
  by_cases c3 : a1 = true
  rotate_left
  · replace c3 := Bool.eq_false_iff.mpr c3
    subst c3
    rw [if_neg (show ¬ (false = true) by decide)] at H
    simp only [Option.some.injEq, Prod.mk.injEq] at H
    obtain ⟨rfl, rfl, rfl⟩ := H
    go_enter Try.func106, Try.ntmps106
    go_wp2_with (first | ((with_reducible refine gate_dst (N := 2) rfl ?_); refine bxE 2 #[.int .i64 a0_0, .int .i64 a0_1] 52 ?_; intro gb396 hg w19 hbox hb; have BK396 := mK hbox; have GW396 := mK (gX hg HB); have GE396 := mK (gX hg HB); replace HB := bB HB hb; clear hb hbox hg) | ((with_reducible refine gate_dst (N := 4) rfl ?_); refine bxE 4 #[.int .i64 0, .int .i64 0] 52 ?_; intro gb397 hg w20 hbox hb; have BK397 := mK hbox; have GW397 := mK (gX hg HB); have GE397 := mK (gX hg HB); replace HB := bB HB hb; have NB396_397 := mK (lX hg BK396); have NB397_396 := mK (mX hg BK396); replace BK396 := kB BK396 hb; clear hb hbox hg; have hnb21 := NB397_396.out; have hnc21 := NB396_397.out; have hcz22_0 := q0 BK397; have hcz22_1 := q1 BK397; have hfz22_0 := fX BK397 0; have hfz22_1 := fX BK397 1))
    refine bodyPost_ret (results_ct rfl _ _ gb397 52 #[.int .i64 0, .int .i64 0] (0, 0) _ rfl (kP2 BK397) Try.underlying52 rfl (by kernel_rfl)) rfl ?_
    exact ⟨by first | rfl | (simp [errW_none, errW_some] <;> rfl) | (simp [*, errW_none, errW_some] <;> rfl), bX HB⟩
  subst c3
  rw [if_pos rfl] at H
  replace H := Option.bind_eq_some_iff.mp H
  obtain ⟨t398, A40, H⟩ := H
  replace H : (if t398 = true then (some (a0_0, a0_1, true)) else (some (0, 0, false))) = some (r1, r2, r3) := H
  have A4 := mK A40
  clear A40
  by_cases c5 : t398 = true
  rotate_left
  · replace c5 := Bool.eq_false_iff.mpr c5
    subst c5
    rw [if_neg (show ¬ (false = true) by decide)] at H
    simp only [Option.some.injEq, Prod.mk.injEq] at H
    obtain ⟨rfl, rfl, rfl⟩ := H
    go_enter Try.func106, Try.ntmps106
    go_wp2_with (first | ((with_reducible refine gate_dst (N := 2) rfl ?_); refine bxE 2 #[.int .i64 a0_0, .int .i64 a0_1] 52 ?_; intro gb396 hg w13 hbox hb; have BK396 := mK hbox; have GW396 := mK (gX hg HB); have GE396 := mK (gX hg HB); replace HB := bB HB hb; clear hb hbox hg) | ((with_reducible refine gate_dst (N := 4) rfl ?_); refine bxE 4 #[.int .i64 0, .int .i64 0] 52 ?_; intro gb397 hg w14 hbox hb; have BK397 := mK hbox; have GW397 := mK (gX hg HB); have GE397 := mK (gX hg HB); replace HB := bB HB hb; have NB396_397 := mK (lX hg BK396); have NB397_396 := mK (mX hg BK396); replace BK396 := kB BK396 hb; clear hb hbox hg; have hnb15 := NB396_397.out; have hnc15 := NB397_396.out; have hcz16_0 := q0 BK396; have hcz16_1 := q1 BK396; have hfz16_0 := fX BK396 0; have hfz16_1 := fX BK396 1) | (go_at_call 90; (with_reducible refine (impl_IntervalOk.calls a0_0 a0_1 false _ A4.out).mono ?_); rintro e w17 ⟨rfl, hb⟩; replace BK396 := kB BK396 hb; replace BK397 := kB BK397 hb; replace HB := bB HB hb; (try clear hb); (try clear hb2); (try clear hk); (try clear hi); have hcz18_0 := q0 BK397; have hcz18_1 := q1 BK397; have hfz18_0 := fX BK397 0; have hfz18_1 := fX BK397 1))
    refine bodyPost_ret (results_ct rfl _ _ gb397 52 #[.int .i64 0, .int .i64 0] (0, 0) _ rfl (kP2 BK397) Try.underlying52 rfl (by kernel_rfl)) rfl ?_
    exact ⟨by first | rfl | (simp [errW_none, errW_some] <;> rfl) | (simp [*, errW_none, errW_some] <;> rfl), bX HB⟩
  subst c5
  rw [if_pos rfl] at H
  simp only [Option.some.injEq, Prod.mk.injEq] at H
  obtain ⟨rfl, rfl, rfl⟩ := H
  go_enter Try.func106, Try.ntmps106
  go_wp2_with (first | ((with_reducible refine gate_dst (N := 2) rfl ?_); refine bxE 2 #[.int .i64 a0_0, .int .i64 a0_1] 52 ?_; intro gb396 hg w6 hbox hb; have BK396 := mK hbox; have GW396 := mK (gX hg HB); have GE396 := mK (gX hg HB); replace HB := bB HB hb; clear hb hbox hg) | ((with_reducible refine gate_dst (N := 4) rfl ?_); refine bxE 4 #[.int .i64 0, .int .i64 0] 52 ?_; intro gb397 hg w7 hbox hb; have BK397 := mK hbox; have GW397 := mK (gX hg HB); have GE397 := mK (gX hg HB); replace HB := bB HB hb; have NB396_397 := mK (lX hg BK396); have NB397_396 := mK (mX hg BK396); replace BK396 := kB BK396 hb; clear hb hbox hg; have hnb8 := NB396_397.out; have hnc8 := NB397_396.out; have hcz9_0 := q0 BK396; have hcz9_1 := q1 BK396; have hfz9_0 := fX BK396 0; have hfz9_1 := fX BK396 1) | (go_at_call 90; (with_reducible refine (impl_IntervalOk.calls a0_0 a0_1 true _ A4.out).mono ?_); rintro e w10 ⟨rfl, hb⟩; replace BK396 := kB BK396 hb; replace BK397 := kB BK397 hb; replace HB := bB HB hb; (try clear hb); (try clear hb2); (try clear hk); (try clear hi); have hcz11_0 := q0 BK396; have hcz11_1 := q1 BK396; have hfz11_0 := fX BK396 0; have hfz11_1 := fX BK396 1; have hcz12_0 := q0 BK397; have hcz12_1 := q1 BK397; have hfz12_0 := fX BK397 0; have hfz12_1 := fX BK397 1))
  refine bodyPost_ret (results_ct rfl _ _ gb397 52 #[.int .i64 a0_0, .int .i64 a0_1] (0, 0) _ rfl (kP2 BK397) Try.underlying52 rfl (by kernel_rfl)) rfl ?_
  exact ⟨by first | rfl | (simp [errW_none, errW_some] <;> rfl) | (simp [*, errW_none, errW_some] <;> rfl), bX HB⟩

end Go.Proofs.Ytbbblnmngjhadaa.QFnExactWindowOf
