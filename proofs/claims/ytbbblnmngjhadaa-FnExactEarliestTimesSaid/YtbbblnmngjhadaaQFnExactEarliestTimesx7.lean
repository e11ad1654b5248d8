-- Written by this session's program wip/tools/mk.py out of the translation; Lean checks it.
import Derived.Test.YtbbblnmngjhadaaQFnExactEarliestTimesx0
import Derived.Test.YtbbblnmngjhadaaQFnExactEarliestTimesx1
import Derived.Test.YtbbblnmngjhadaaQFnExactEarliestTimesx5
import Derived.Test.YtbbblnmngjhadaaQFnExactEarliestTimesx6
namespace Go.Proofs.Ytbbblnmngjhadaa.QFnExactEarliestTimes
open Go.RowKit Go.Proofs.YtbbblnmngjhadaaW.PrintWords Go.Proofs.YtbbblnmngjhadaaW.PrintLast Go.Proofs.YtbbblnmngjhadaaW.PrintMore
attribute [local go_sem] max2_int min2_int max_two min_two max_three min_three max_four min_four   -- for this text's walks alone
set_option linter.unusedVariables false
set_option linter.unusedSimpArgs false

/-! ### spec_l05Edges: function 101 -/
def spec_l05Edges.l0 : Nat → List (S70) → List Int → List (S76) → Int → Int → Option ((List (S70)) × List Int)
  | 0, _, _, _, _, _ => none
  | k + 1, x4, x5, x11, x12, x13 => if x13 < x12 then (if 0 ≤ x13 then (if x13 < (x11.length : Int) then (if ((rd_T76 x11 x13).f2.f1) = 1000000 then (if ((rd_T76 x11 x13).f2.f0) = (-1000000) then (spec_l05Edges.l0 k x4 x5 x11 x12 (wrap64 (x13 + 1))) else (if x4.length < 5864062014805 then (if x5.length < 17592186044416 then (spec_l05Edges.l0 k (x4 ++ [(⟨(rd_T76 x11 x13).f1, (rd_T76 x11 x13).f0, wrap64 (-((rd_T76 x11 x13).f2.f0))⟩ : S70)]) (x5 ++ [x13]) x11 x12 (wrap64 (x13 + 1))) else (none)) else (none))) else (if x4.length < 5864062014805 then ((some (x4 ++ [(⟨(rd_T76 x11 x13).f0, (rd_T76 x11 x13).f1, (rd_T76 x11 x13).f2.f1⟩ : S70)] : List (S70))).bind fun y257 => (if x5.length < 17592186044416 then ((some (x5 ++ [x13] : List Int)).bind fun y260 => (if ((rd_T76 x11 x13).f2.f0) = (-1000000) then (spec_l05Edges.l0 k y257 y260 x11 x12 (wrap64 (x13 + 1))) else (if y257.length < 5864062014805 then (if y260.length < 17592186044416 then (spec_l05Edges.l0 k (y257 ++ [(⟨(rd_T76 x11 x13).f1, (rd_T76 x11 x13).f0, wrap64 (-((rd_T76 x11 x13).f2.f0))⟩ : S70)]) (y260 ++ [x13]) x11 x12 (wrap64 (x13 + 1))) else (none)) else (none)))) else (none))) else (none))) else (none)) else (none)) else (some (x4, x5))
def spec_l05Edges.f (k : Nat) (a0_0 : Int) (l0_1 : List (S76)) : Option ((List (S70)) × List Int) := spec_l05Edges.l0 k (([] : List (S70))) (([] : List Int)) l0_1 (l0_1.length : Int) 0
theorem spec_l05Edges.mono_l : ∀ k, (∀ y0 y1 y2 y3 y4, LeO (spec_l05Edges.l0 k y0 y1 y2 y3 y4) (spec_l05Edges.l0 (k + 1) y0 y1 y2 y3 y4))
  | 0 => fun _ _ _ _ _ r h => by simp [spec_l05Edges.l0] at h
  | k + 1 => by
    have ih0 := spec_l05Edges.mono_l k
    · intro y0 y1 y2 y3 y4
      unfold spec_l05Edges.l0
      repeat' first|(with_reducible first|exact ih0 _ _ _ _ _|exact lR _|exact lN _|refine lI ?_ ?_|refine lB ?_ (fun _ => ?_))|exact ih0 _ _ _ _ _|exact lN _|refine lI ?_ ?_|refine lB ?_ (fun _ => ?_)
theorem spec_l05Edges.mono : ∀ a0 a1 k, LeO (spec_l05Edges.f k a0 a1) (spec_l05Edges.f (k + 1) a0 a1) := by
  intro a0 a1 k
  have ih0 := spec_l05Edges.mono_l k
  unfold spec_l05Edges.f
  repeat' first|(with_reducible first|exact ih0 _ _ _ _ _|exact lR _|exact lN _|refine lI ?_ ?_|refine lB ?_ (fun _ => ?_))|exact ih0 _ _ _ _ _|exact lN _|refine lI ?_ ?_|refine lB ?_ (fun _ => ?_)
set_option maxHeartbeats 8000000 in
set_option maxRecDepth 100000 in
theorem spec_l05Edges.calls (k : Nat) (a0_0 : Int) (A0_1 : Option Addr) (c0_1 : Nat) (l0_1 : List (S76)) (r1 : List (S70)) (r2 : List Int) (w : World) (hr0_1 : Kd.C k76 w A0_1 l0_1.length l0_1) (hc0_1 : l0_1.length ≤ c0_1) (h : spec_l05Edges.f k a0_0 l0_1 = some (r1, r2)) :
    Calls Try.prog 101 #[.agg #[.int .i64 a0_0, .slice A0_1 l0_1.length c0_1]] w fun e w' => ∃ v0_ v1_ : Value, e = .returned (.tuple #[v0_, v1_]) ∧ Kd.R k70 70 w' w.heap.size (fun _ => True) v0_ r1 ∧ Kd.R (Kd.int .i64) 3 w' w.heap.size (fun _ => True) v1_ r2 ∧ Below w.heap.size w w' := by
 have hu47 := Try.underlying47
 have hu76 := Try.underlying76
 have hu70 := Try.underlying70
 have HR0_1 := mK hr0_1
 have HC0_1 := mK hc0_1
 clear hr0_1 hc0_1
 have HB := mK (Below.refl w.heap.size w)
 have H : (spec_l05Edges.l0 k (([] : List (S70))) (([] : List Int)) l0_1 (l0_1.length : Int) 0) = some (r1, r2) := h
 clear h
 obtain ⟨y243, hy243⟩ : ∃ y_ : List (S70), y_ = (([] : List (S70))) := ⟨_, rfl⟩
 replace H : (spec_l05Edges.l0 k y243 (([] : List Int)) l0_1 (l0_1.length : Int) 0) = some (r1, r2) := by first | (rw [hy243]; with_reducible exact H) | (have H2_ := (Option.bind_some _ _).symm.trans H; rw [hy243]; with_reducible exact H2_) | (have H2_ := (Option.bind_some _ _).symm.trans H; with_reducible exact H2_) | with_reducible exact H | (rw [hy243]; exact H) | exact H
 have Ny243 := mK hy243
 clear hy243
 obtain ⟨y246, hy246⟩ : ∃ y_ : List Int, y_ = (([] : List Int)) := ⟨_, rfl⟩
 replace H : (spec_l05Edges.l0 k y243 y246 l0_1 (l0_1.length : Int) 0) = some (r1, r2) := by first | (rw [hy246]; with_reducible exact H) | (have H2_ := (Option.bind_some _ _).symm.trans H; rw [hy246]; with_reducible exact H2_) | (have H2_ := (Option.bind_some _ _).symm.trans H; with_reducible exact H2_) | with_reducible exact H | (rw [hy246]; exact H) | exact H
 have Ny246 := mK hy246
 clear hy246
 have H' := mK H
 clear H
 go_enter Try.func101, Try.ntmps101
 go_wp2_with (first | ((with_reducible refine gate_dst (N := 1) rfl ?_); refine bxE 1 #[.int .i64 a0_0, .slice A0_1 l0_1.length c0_1] 47 ?_; intro gb242 hg w2 hbox hb; have BK242 := mK hbox; have GW242 := mK (gX hg HB); have GE242 := mK (gX hg HB); replace HB := bB HB hb; clear hb hbox hg) | ((with_reducible refine gate_dst (N := 8) rfl ?_); refine Kd.R_lit k70 _ 70 ?hg (N := 8) ?hd (xs := ([] : List (S70))) (inner := []) (ok := fun _ => True) (okp := fun _ => True) ?hr ?hp (fun _ hk => hk) trivial (Below.refl _ _) (Nat.le_refl _) (by simp) ?_; (case hd => rfl); (case hg => rfl); (case hr => go_simp <;> rfl); (case hp => exact (Reps.none _ _)); intro v244 w3 ho4 hb hg_ hnew_; clear hg_ hnew_; (first | rw [← Ny243.out] at ho4 | (simp only [Int.reduceToNat] at ho4; rw [← Ny243.out] at ho4)); have HO245 := mK (Kd.R_lower ho4 (below_size (bX HB))); replace BK242 := kB BK242 hb; replace HB := bB HB hb; clear hb ho4) | ((with_reducible refine gate_dst (N := 9) rfl ?_); refine Kd.R_lit (Kd.int .i64) _ 3 ?hg (N := 9) ?hd (xs := ([] : List Int)) (inner := []) (ok := fun _ => True) (okp := fun _ => True) ?hr ?hp (fun _ hk => hk) trivial (Below.refl _ _) (Nat.le_refl _) (by simp) ?_; (case hd => rfl); (case hg => rfl); (case hr => go_simp <;> rfl); (case hp => exact (Reps.none _ _)); intro v247 w5 ho6 hb hg_ hnew_; clear hg_ hnew_; (first | rw [← Ny246.out] at ho6 | (simp only [Int.reduceToNat] at ho6; rw [← Ny246.out] at ho6)); replace HO245 := mK (Kd.R_below (rX HO245) hb); have HO248 := mK (Kd.R_lower ho6 (below_size (bX HB))); replace BK242 := kB BK242 hb; replace HB := bB HB hb; clear hb ho6; have hcz7_0 := q0 BK242; have hcz7_1 := q1 BK242; have hfz7_0 := fX BK242 0; have hfz7_1 := fX BK242 1))
 go_loopg [4, 5, 13] k (fun kq v4 v5 v13 w' => ∃ (x4_1 : List (S70)) (x5_1 : List Int) (x13_1 : Int), v13 = .int .i64 x13_1 ∧ Aside0 (spec_l05Edges.l0 kq x4_1 x5_1 l0_1 (l0_1.length : Int) x13_1 = some (r1, r2)) ∧ Aside0 (kq ≤ k) ∧ Aside0 (Kd.R k70 70 w' w.heap.size (fun _ => True) v4 x4_1) ∧ Aside0 (Kd.R (Kd.int .i64) 3 w' w.heap.size (fun _ => True) v5 x5_1) ∧ Aside0 (w'.heap[gb242]? = some (.cells #[.int .i64 a0_0, (.slice A0_1 l0_1.length c0_1)] 47 (0, 0))) ∧ Aside0 (Below w.heap.size w w'))
 case atStart => exact ⟨(y243), (y246), (0), (by first | rfl | (simp; done) | (simp [*]; done)), H', ⟨Nat.le_refl _⟩, ⟨rX HO245⟩, ⟨rX HO248⟩, ⟨kX BK242⟩, ⟨bX HB⟩⟩
 case round => (
 clear H'
 try clear c1
 try clear p2
 try clear hcz7_0
 try clear hcz7_1
 try clear hfz7_0
 try clear hfz7_1
 obtain ⟨x4_1, x5_1, x13_1, rfl, HA, HK1, HO_4, HO_5, BK242, HB⟩ := hrel
 cases gk with
 | zero => exact absurd HA.out (by simp [spec_l05Edges.l0])
 | succ k1 => (
 have H := HA.out
 clear HA
 simp only [spec_l05Edges.l0] at H
 by_cases c8 : x13_1 < (l0_1.length : Int)
 rotate_left
 {
 rw [if_neg c8] at H
 have c8b0 : decide (x13_1 < (l0_1.length : Int)) = false := decide_eq_false c8
 clear c8
 simp only [Option.some.injEq, Prod.mk.injEq] at H
 obtain ⟨rfl, rfl⟩ := H
 go_wp2
 go_ret2
 exact ⟨_, _, by first | rfl | (simp [errW_none, errW_some] <;> rfl) | (simp [*, errW_none, errW_some] <;> rfl), rX HO_4, rX HO_5, bX HB⟩
 }
 rw [if_pos c8] at H
 have c8b0 : decide (x13_1 < (l0_1.length : Int)) = true := decide_eq_true c8
 clear c8
 by_cases c9 : 0 ≤ x13_1
 rotate_left
 {
 rw [if_neg c9] at H
 exact absurd H (by simp)
 }
 rw [if_pos c9] at H
 have c9b0 : decide (0 ≤ x13_1) = true := decide_eq_true c9
 clear c9
 by_cases c10 : x13_1 < (l0_1.length : Int)
 rotate_left
 {
 rw [if_neg c10] at H
 exact absurd H (by simp)
 }
 rw [if_pos c10] at H
 have c10b0 : decide (x13_1 < (l0_1.length : Int)) = true := decide_eq_true c10
 clear c10
 by_cases c11 : ((rd_T76 l0_1 x13_1).f2.f1) = 1000000
 {
 rw [if_pos c11] at H
 have c11b0 : (((rd_T76 l0_1 x13_1).f2.f1) == 1000000) = true := beq_iff_eq.mpr c11
 have c11b1 : (((rd_T76 l0_1 x13_1).f2.f1) != 1000000) = false := bne_eq_false_iff_eq.mpr c11
 clear c11
 by_cases c12 : ((rd_T76 l0_1 x13_1).f2.f0) = (-1000000)
 {
 rw [if_pos c12] at H
 have c12b0 : (((rd_T76 l0_1 x13_1).f2.f0) == (-1000000)) = true := beq_iff_eq.mpr c12
 have c12b1 : (((rd_T76 l0_1 x13_1).f2.f0) != (-1000000)) = false := bne_eq_false_iff_eq.mpr c12
 clear c12
 have H' := mK H
 clear H
 have p249 : 0 ≤ (x13_1 : Int) := of_decide_eq_true oX
 have q249 : x13_1 < (l0_1.length : Int) := of_decide_eq_true oX
 obtain ⟨ad249, e249, hx249_0, hx249_1, hx249_2, hx249_3⟩ := at_T76 HR0_1.out x13_1 p249 q249
 cases e249
 replace hx249_0 := (HB.out.cell (World.block_lt_of_cell? w _ hx249_0)).trans hx249_0
 replace hx249_1 := (HB.out.cell (World.block_lt_of_cell? w _ hx249_1)).trans hx249_1
 replace hx249_2 := (HB.out.cell (World.block_lt_of_cell? w _ hx249_2)).trans hx249_2
 replace hx249_3 := (HB.out.cell (World.block_lt_of_cell? w _ hx249_3)).trans hx249_3
 replace p249 := eq_true p249
 replace q249 := eq_true q249
 go_wp2_with (first | ((with_reducible refine gate_dst (N := 7) rfl ?_); refine bxE 7 #[.int .i64 0, .int .i64 0, .int .i64 0, .int .i64 0] 76 ?_; intro gb250 hg w13 hbox hb; replace HO_4 := mK (Kd.R_below (rX HO_4) hb); replace HO_5 := mK (Kd.R_below (rX HO_5) hb); have BK250 := mK hbox; have GW250 := mK (gX hg HB); have GE250 := mK (gX hg HB); replace HB := bB HB hb; have NB242_250 := mK (lX hg BK242); have NB250_242 := mK (mX hg BK242); replace BK242 := kB BK242 hb; clear hb hbox hg; have hnb14 := NB250_242.out; have hnc14 := NB242_250.out; have hcz15_0 := q0 BK250; have hcz15_1 := q1 BK250; have hcz15_2 := q2 BK250; have hcz15_3 := q3 BK250; have hfz15_0 := fX BK250 0; have hfz15_1 := fX BK250 1; have hfz15_2 := fX BK250 2; have hfz15_3 := fX BK250 3))
 go_roundg k1
 case measure => have := HK1.out; omega
 case rel => exact ⟨(x4_1), (x5_1), (wrap64 (x13_1 + 1)), (by first | rfl | (simp; done) | (simp [*]; done)), H', ⟨by have := HK1.out; omega⟩, ⟨rF4 HO_4 BK250⟩, ⟨rF4 HO_5 BK250⟩, ⟨kF BK242 NB242_250⟩, ⟨bX HB⟩⟩
 }
 rw [if_neg c12] at H
 have c12b0 : (((rd_T76 l0_1 x13_1).f2.f0) == (-1000000)) = false := beq_eq_false_iff_ne.mpr c12
 have c12b1 : (((rd_T76 l0_1 x13_1).f2.f0) != (-1000000)) = true := bne_iff_ne.mpr c12
 by_cases c16 : x4_1.length < 5864062014805
 rotate_left
 {
 rw [if_neg c16] at H
 exact absurd H (by simp)
 }
 rw [if_pos c16] at H
 have LMc16 := mK c16
 clear c16
 obtain ⟨y251, hy251⟩ : ∃ y_ : List (S70), y_ = (x4_1 ++ [(⟨(rd_T76 l0_1 x13_1).f1, (rd_T76 l0_1 x13_1).f0, wrap64 (-((rd_T76 l0_1 x13_1).f2.f0))⟩ : S70)]) := ⟨_, rfl⟩
 replace H : (if x5_1.length < 17592186044416 then (spec_l05Edges.l0 k1 y251 (x5_1 ++ [x13_1]) l0_1 (l0_1.length : Int) (wrap64 (x13_1 + 1))) else (none)) = some (r1, r2) := by first | (rw [hy251]; with_reducible exact H) | (have H2_ := (Option.bind_some _ _).symm.trans H; rw [hy251]; with_reducible exact H2_) | (have H2_ := (Option.bind_some _ _).symm.trans H; with_reducible exact H2_) | with_reducible exact H | (rw [hy251]; exact H) | exact H
 have Ny251 := mK hy251
 clear hy251
 by_cases c17 : x5_1.length < 17592186044416
 rotate_left
 {
 rw [if_neg c17] at H
 exact absurd H (by simp)
 }
 rw [if_pos c17] at H
 have LMc17 := mK c17
 clear c17
 obtain ⟨y254, hy254⟩ : ∃ y_ : List Int, y_ = (x5_1 ++ [x13_1]) := ⟨_, rfl⟩
 replace H : (spec_l05Edges.l0 k1 y251 y254 l0_1 (l0_1.length : Int) (wrap64 (x13_1 + 1))) = some (r1, r2) := by first | (rw [hy254]; with_reducible exact H) | (have H2_ := (Option.bind_some _ _).symm.trans H; rw [hy254]; with_reducible exact H2_) | (have H2_ := (Option.bind_some _ _).symm.trans H; with_reducible exact H2_) | with_reducible exact H | (rw [hy254]; exact H) | exact H
 have Ny254 := mK hy254
 clear hy254
 have H' := mK H
 clear H
 have p249 : 0 ≤ (x13_1 : Int) := of_decide_eq_true oX
 have q249 : x13_1 < (l0_1.length : Int) := of_decide_eq_true oX
 obtain ⟨ad249, e249, hx249_0, hx249_1, hx249_2, hx249_3⟩ := at_T76 HR0_1.out x13_1 p249 q249
 cases e249
 replace hx249_0 := (HB.out.cell (World.block_lt_of_cell? w _ hx249_0)).trans hx249_0
 replace hx249_1 := (HB.out.cell (World.block_lt_of_cell? w _ hx249_1)).trans hx249_1
 replace hx249_2 := (HB.out.cell (World.block_lt_of_cell? w _ hx249_2)).trans hx249_2
 replace hx249_3 := (HB.out.cell (World.block_lt_of_cell? w _ hx249_3)).trans hx249_3
 replace p249 := eq_true p249
 replace q249 := eq_true q249
 go_wp2_with (first | ((with_reducible refine gate_dst (N := 7) rfl ?_); refine bxE 7 #[.int .i64 0, .int .i64 0, .int .i64 0, .int .i64 0] 76 ?_; intro gb250 hg w18 hbox hb; replace HO_4 := mK (Kd.R_below (rX HO_4) hb); replace HO_5 := mK (Kd.R_below (rX HO_5) hb); have BK250 := mK hbox; have GW250 := mK (gX hg HB); have GE250 := mK (gX hg HB); replace HB := bB HB hb; have NB242_250 := mK (lX hg BK242); have NB250_242 := mK (mX hg BK242); replace BK242 := kB BK242 hb; clear hb hbox hg; have hnb19 := NB250_242.out; have hnc19 := NB242_250.out; have hcz20_0 := q0 BK250; have hcz20_1 := q1 BK250; have hcz20_2 := q2 BK250; have hcz20_3 := q3 BK250; have hfz20_0 := fX BK250 0; have hfz20_1 := fX BK250 1; have hfz20_2 := fX BK250 2; have hfz20_3 := fX BK250 3) | ((with_reducible refine gate_builtin (b := .append) (xs := #[.tmp 41, .tmp 51]) rfl ?_); at_builtin; refine Kd.R_append k70 (w0 := w) w.heap.size rfl (.tmp 41) (.tmp 51) 31 70 (.agg #[(.int .i64 0), (.int .i64 0), (.int .i64 0)]) 24 rfl Try.underlying31 info70 rfl (by decide) (by omega) u4 x4_1 (⟨(rd_T76 l0_1 x13_1).f1, (rd_T76 l0_1 x13_1).f0, wrap64 (-((rd_T76 l0_1 x13_1).f2.f0))⟩ : S70) [.int .i64 ((rd_T76 l0_1 x13_1).f1), .int .i64 ((rd_T76 l0_1 x13_1).f0), .int .i64 (wrap64 (-((rd_T76 l0_1 x13_1).f2.f0)))] (fun _ => True) (fun _ => False) rfl (by go_simp <;> rfl) ?aP (fun _ hk => hk.elim) ?aF ?aO ?aB ?aS ?aL ?_; (case aP => exact k70_mkM _ _ _ (⟨(rd_T76 l0_1 x13_1).f1, (rd_T76 l0_1 x13_1).f0, wrap64 (-((rd_T76 l0_1 x13_1).f2.f0))⟩ : S70)); (case aB => exact (bX HB)); (case aF => exact (fun _ _ => trivial)); (case aO => exact (rF4 HO_4 BK250)); (case aS => exact (below_size (bX HB))); (case aL => have := LMc16.out; omega); intro v252 w21 ho hb hg hat; rw [← Ny251.out] at ho; have n0_ := mK (Kd.R_over' (rF4 HO_5 BK250) (Kd.R_typed (rF4 HO_4 BK250)) (by decide) hg); have n1_ := mK (blk_grown (g := gb242) (o := .cells #[.int .i64 a0_0, .slice (some ad249) l0_1.length c0_1] 47 (0, 0)) (kF BK242 NB242_250) hg (Kd.R_ne HO_4.out BK242.out (by decide))); have n2_ := mK (blk_grown (g := gb250) (o := .cells #[.int .i64 ((rd_T76 l0_1 x13_1).f0), .int .i64 ((rd_T76 l0_1 x13_1).f1), .int .i64 ((rd_T76 l0_1 x13_1).f2.f0), .int .i64 ((rd_T76 l0_1 x13_1).f2.f1)] 76 (0, 0)) (kP4 BK250) hg (Kd.R_ne HO_4.out BK250.out (by decide))); have n3_ := mK (hb); have n4_ := mK (ho); clear HO_5; clear BK242; clear BK250; clear HB; clear HO_4; have HO_5 := n0_; have BK242 := n1_; have BK250 := n2_; have HB := n3_; have HO253 := n4_; clear n0_ n1_ n2_ n3_ n4_; clear ho hb hg hat) | ((with_reducible refine gate_builtin (b := .append) (xs := #[.tmp 53, .tmp 55]) rfl ?_); at_builtin; refine Kd.R_append (Kd.int .i64) (w0 := w) w.heap.size rfl (.tmp 53) (.tmp 55) 26 3 (.int .i64 0) 8 rfl Try.underlying26 info3 rfl (by decide) (by omega) u5 x5_1 x13_1 [.int .i64 x13_1] (fun _ => True) (fun _ => False) rfl rfl ?aP (fun _ hk => hk.elim) ?aF ?aO ?aB ?aS ?aL ?_; (case aP => exact rfl); (case aB => exact (bX HB)); (case aF => exact (fun _ _ => trivial)); (case aO => exact (rX HO_5)); (case aS => exact (below_size (bX HB))); (case aL => have := LMc17.out; omega); intro v255 w22 ho hb hg hat; rw [← Ny254.out] at ho; have n0_ := mK (blk_grown (kX BK242) hg (Kd.R_ne HO_5.out BK242.out (by decide))); have n1_ := mK (blk_grown (kX BK250) hg (Kd.R_ne HO_5.out BK250.out (by decide))); have n2_ := mK (Kd.R_over' (rX HO253) (Kd.R_typed (rX HO_5)) (by decide) hg); have n3_ := mK (hb); have n4_ := mK (ho); clear BK242; clear BK250; clear HO253; clear HB; clear HO_5; have BK242 := n0_; have BK250 := n1_; have HO253 := n2_; have HB := n3_; have HO256 := n4_; clear n0_ n1_ n2_ n3_ n4_; clear ho hb hg hat))
 go_roundg k1
 case measure => have := HK1.out; omega
 case rel => exact ⟨(y251), (y254), (wrap64 (x13_1 + 1)), (by first | rfl | (simp; done) | (simp [*]; done)), H', ⟨by have := HK1.out; omega⟩, ⟨rX HO253⟩, ⟨rX HO256⟩, ⟨kX BK242⟩, ⟨bX HB⟩⟩
 }
 rw [if_neg c11] at H
 have c11b0 : (((rd_T76 l0_1 x13_1).f2.f1) == 1000000) = false := beq_eq_false_iff_ne.mpr c11
 have c11b1 : (((rd_T76 l0_1 x13_1).f2.f1) != 1000000) = true := bne_iff_ne.mpr c11
 by_cases c23 : x4_1.length < 5864062014805
 rotate_left
 {
 rw [if_neg c23] at H
 exact absurd H (by simp)
 }
 rw [if_pos c23] at H
 have LMc23 := mK c23
 clear c23
 obtain ⟨y257, hy257⟩ : ∃ y_ : List (S70), y_ = (x4_1 ++ [(⟨(rd_T76 l0_1 x13_1).f0, (rd_T76 l0_1 x13_1).f1, (rd_T76 l0_1 x13_1).f2.f1⟩ : S70)]) := ⟨_, rfl⟩
 replace H : (if x5_1.length < 17592186044416 then ((some (x5_1 ++ [x13_1] : List Int)).bind fun y260 => (if ((rd_T76 l0_1 x13_1).f2.f0) = (-1000000) then (spec_l05Edges.l0 k1 y257 y260 l0_1 (l0_1.length : Int) (wrap64 (x13_1 + 1))) else (if y257.length < 5864062014805 then (if y260.length < 17592186044416 then (spec_l05Edges.l0 k1 (y257 ++ [(⟨(rd_T76 l0_1 x13_1).f1, (rd_T76 l0_1 x13_1).f0, wrap64 (-((rd_T76 l0_1 x13_1).f2.f0))⟩ : S70)]) (y260 ++ [x13_1]) l0_1 (l0_1.length : Int) (wrap64 (x13_1 + 1))) else (none)) else (none)))) else (none)) = some (r1, r2) := by first | (rw [hy257]; with_reducible exact H) | (have H2_ := (Option.bind_some _ _).symm.trans H; rw [hy257]; with_reducible exact H2_) | (have H2_ := (Option.bind_some _ _).symm.trans H; with_reducible exact H2_) | with_reducible exact H | (rw [hy257]; exact H) | exact H
 have Ny257 := mK hy257
 clear hy257
 by_cases c24 : x5_1.length < 17592186044416
 rotate_left
 {
 rw [if_neg c24] at H
 exact absurd H (by simp)
 }
 rw [if_pos c24] at H
 have LMc24 := mK c24
 clear c24
 obtain ⟨y260, hy260⟩ : ∃ y_ : List Int, y_ = (x5_1 ++ [x13_1]) := ⟨_, rfl⟩
 replace H : (if ((rd_T76 l0_1 x13_1).f2.f0) = (-1000000) then (spec_l05Edges.l0 k1 y257 y260 l0_1 (l0_1.length : Int) (wrap64 (x13_1 + 1))) else (if y257.length < 5864062014805 then (if y260.length < 17592186044416 then (spec_l05Edges.l0 k1 (y257 ++ [(⟨(rd_T76 l0_1 x13_1).f1, (rd_T76 l0_1 x13_1).f0, wrap64 (-((rd_T76 l0_1 x13_1).f2.f0))⟩ : S70)]) (y260 ++ [x13_1]) l0_1 (l0_1.length : Int) (wrap64 (x13_1 + 1))) else (none)) else (none))) = some (r1, r2) := by first | (rw [hy260]; with_reducible exact H) | (have H2_ := (Option.bind_some _ _).symm.trans H; rw [hy260]; with_reducible exact H2_) | (have H2_ := (Option.bind_some _ _).symm.trans H; with_reducible exact H2_) | with_reducible exact H | (rw [hy260]; exact H) | exact H
 have Ny260 := mK hy260
 clear hy260
 by_cases c25 : ((rd_T76 l0_1 x13_1).f2.f0) = (-1000000)
 {
 rw [if_pos c25] at H
 have c25b0 : (((rd_T76 l0_1 x13_1).f2.f0) == (-1000000)) = true := beq_iff_eq.mpr c25
 have c25b1 : (((rd_T76 l0_1 x13_1).f2.f0) != (-1000000)) = false := bne_eq_false_iff_eq.mpr c25
 clear c25
 have H' := mK H
 clear H
 have p249 : 0 ≤ (x13_1 : Int) := of_decide_eq_true oX
 have q249 : x13_1 < (l0_1.length : Int) := of_decide_eq_true oX
 obtain ⟨ad249, e249, hx249_0, hx249_1, hx249_2, hx249_3⟩ := at_T76 HR0_1.out x13_1 p249 q249
 cases e249
 replace hx249_0 := (HB.out.cell (World.block_lt_of_cell? w _ hx249_0)).trans hx249_0
 replace hx249_1 := (HB.out.cell (World.block_lt_of_cell? w _ hx249_1)).trans hx249_1
 replace hx249_2 := (HB.out.cell (World.block_lt_of_cell? w _ hx249_2)).trans hx249_2
 replace hx249_3 := (HB.out.cell (World.block_lt_of_cell? w _ hx249_3)).trans hx249_3
 replace p249 := eq_true p249
 replace q249 := eq_true q249
 go_wp2_with (first | ((with_reducible refine gate_dst (N := 7) rfl ?_); refine bxE 7 #[.int .i64 0, .int .i64 0, .int .i64 0, .int .i64 0] 76 ?_; intro gb250 hg w26 hbox hb; replace HO_4 := mK (Kd.R_below (rX HO_4) hb); replace HO_5 := mK (Kd.R_below (rX HO_5) hb); have BK250 := mK hbox; have GW250 := mK (gX hg HB); have GE250 := mK (gX hg HB); replace HB := bB HB hb; have NB242_250 := mK (lX hg BK242); have NB250_242 := mK (mX hg BK242); replace BK242 := kB BK242 hb; clear hb hbox hg; have hnb27 := NB250_242.out; have hnc27 := NB242_250.out; have hcz28_0 := q0 BK250; have hcz28_1 := q1 BK250; have hcz28_2 := q2 BK250; have hcz28_3 := q3 BK250; have hfz28_0 := fX BK250 0; have hfz28_1 := fX BK250 1; have hfz28_2 := fX BK250 2; have hfz28_3 := fX BK250 3) | ((with_reducible refine gate_builtin (b := .append) (xs := #[.tmp 22, .tmp 31]) rfl ?_); at_builtin; refine Kd.R_append k70 (w0 := w) w.heap.size rfl (.tmp 22) (.tmp 31) 31 70 (.agg #[(.int .i64 0), (.int .i64 0), (.int .i64 0)]) 24 rfl Try.underlying31 info70 rfl (by decide) (by omega) u4 x4_1 (⟨(rd_T76 l0_1 x13_1).f0, (rd_T76 l0_1 x13_1).f1, (rd_T76 l0_1 x13_1).f2.f1⟩ : S70) [.int .i64 ((rd_T76 l0_1 x13_1).f0), .int .i64 ((rd_T76 l0_1 x13_1).f1), .int .i64 ((rd_T76 l0_1 x13_1).f2.f1)] (fun _ => True) (fun _ => False) rfl (by go_simp <;> rfl) ?aP (fun _ hk => hk.elim) ?aF ?aO ?aB ?aS ?aL ?_; (case aP => exact k70_mkM _ _ _ (⟨(rd_T76 l0_1 x13_1).f0, (rd_T76 l0_1 x13_1).f1, (rd_T76 l0_1 x13_1).f2.f1⟩ : S70)); (case aB => exact (bX HB)); (case aF => exact (fun _ _ => trivial)); (case aO => exact (rF4 HO_4 BK250)); (case aS => exact (below_size (bX HB))); (case aL => have := LMc23.out; omega); intro v258 w29 ho hb hg hat; rw [← Ny257.out] at ho; have n0_ := mK (Kd.R_over' (rF4 HO_5 BK250) (Kd.R_typed (rF4 HO_4 BK250)) (by decide) hg); have n1_ := mK (blk_grown (g := gb242) (o := .cells #[.int .i64 a0_0, .slice (some ad249) l0_1.length c0_1] 47 (0, 0)) (kF BK242 NB242_250) hg (Kd.R_ne HO_4.out BK242.out (by decide))); have n2_ := mK (blk_grown (g := gb250) (o := .cells #[.int .i64 ((rd_T76 l0_1 x13_1).f0), .int .i64 ((rd_T76 l0_1 x13_1).f1), .int .i64 ((rd_T76 l0_1 x13_1).f2.f0), .int .i64 ((rd_T76 l0_1 x13_1).f2.f1)] 76 (0, 0)) (kP4 BK250) hg (Kd.R_ne HO_4.out BK250.out (by decide))); have n3_ := mK (hb); have n4_ := mK (ho); clear HO_5; clear BK242; clear BK250; clear HB; clear HO_4; have HO_5 := n0_; have BK242 := n1_; have BK250 := n2_; have HB := n3_; have HO259 := n4_; clear n0_ n1_ n2_ n3_ n4_; clear ho hb hg hat) | ((with_reducible refine gate_builtin (b := .append) (xs := #[.tmp 33, .tmp 35]) rfl ?_); at_builtin; refine Kd.R_append (Kd.int .i64) (w0 := w) w.heap.size rfl (.tmp 33) (.tmp 35) 26 3 (.int .i64 0) 8 rfl Try.underlying26 info3 rfl (by decide) (by omega) u5 x5_1 x13_1 [.int .i64 x13_1] (fun _ => True) (fun _ => False) rfl rfl ?aP (fun _ hk => hk.elim) ?aF ?aO ?aB ?aS ?aL ?_; (case aP => exact rfl); (case aB => exact (bX HB)); (case aF => exact (fun _ _ => trivial)); (case aO => exact (rX HO_5)); (case aS => exact (below_size (bX HB))); (case aL => have := LMc24.out; omega); intro v261 w30 ho hb hg hat; rw [← Ny260.out] at ho; have n0_ := mK (blk_grown (kX BK242) hg (Kd.R_ne HO_5.out BK242.out (by decide))); have n1_ := mK (blk_grown (kX BK250) hg (Kd.R_ne HO_5.out BK250.out (by decide))); have n2_ := mK (Kd.R_over' (rX HO259) (Kd.R_typed (rX HO_5)) (by decide) hg); have n3_ := mK (hb); have n4_ := mK (ho); clear BK242; clear BK250; clear HO259; clear HB; clear HO_5; have BK242 := n0_; have BK250 := n1_; have HO259 := n2_; have HB := n3_; have HO262 := n4_; clear n0_ n1_ n2_ n3_ n4_; clear ho hb hg hat; have hcz31_0 := q0 BK250; have hcz31_1 := q1 BK250; have hcz31_2 := q2 BK250; have hcz31_3 := q3 BK250; have hfz31_0 := fX BK250 0; have hfz31_1 := fX BK250 1; have hfz31_2 := fX BK250 2; have hfz31_3 := fX BK250 3))
 go_roundg k1
 case measure => have := HK1.out; omega
 case rel => exact ⟨(y257), (y260), (wrap64 (x13_1 + 1)), (by first | rfl | (simp; done) | (simp [*]; done)), H', ⟨by have := HK1.out; omega⟩, ⟨rX HO259⟩, ⟨rX HO262⟩, ⟨kX BK242⟩, ⟨bX HB⟩⟩
 }
 rw [if_neg c25] at H
 have c25b0 : (((rd_T76 l0_1 x13_1).f2.f0) == (-1000000)) = false := beq_eq_false_iff_ne.mpr c25
 have c25b1 : (((rd_T76 l0_1 x13_1).f2.f0) != (-1000000)) = true := bne_iff_ne.mpr c25
 by_cases c32 : y257.length < 5864062014805
 rotate_left
 {
 rw [if_neg c32] at H
 exact absurd H (by simp)
 }
 rw [if_pos c32] at H
 have LMc32 := mK c32
 clear c32
 obtain ⟨y263, hy263⟩ : ∃ y_ : List (S70), y_ = (y257 ++ [(⟨(rd_T76 l0_1 x13_1).f1, (rd_T76 l0_1 x13_1).f0, wrap64 (-((rd_T76 l0_1 x13_1).f2.f0))⟩ : S70)]) := ⟨_, rfl⟩
 replace H : (if y260.length < 17592186044416 then (spec_l05Edges.l0 k1 y263 (y260 ++ [x13_1]) l0_1 (l0_1.length : Int) (wrap64 (x13_1 + 1))) else (none)) = some (r1, r2) := by first | (rw [hy263]; with_reducible exact H) | (have H2_ := (Option.bind_some _ _).symm.trans H; rw [hy263]; with_reducible exact H2_) | (have H2_ := (Option.bind_some _ _).symm.trans H; with_reducible exact H2_) | with_reducible exact H | (rw [hy263]; exact H) | exact H
 have Ny263 := mK hy263
 clear hy263
 by_cases c33 : y260.length < 17592186044416
 rotate_left
 {
 rw [if_neg c33] at H
 exact absurd H (by simp)
 }
 rw [if_pos c33] at H
 have LMc33 := mK c33
 clear c33
 obtain ⟨y266, hy266⟩ : ∃ y_ : List Int, y_ = (y260 ++ [x13_1]) := ⟨_, rfl⟩
 replace H : (spec_l05Edges.l0 k1 y263 y266 l0_1 (l0_1.length : Int) (wrap64 (x13_1 + 1))) = some (r1, r2) := by first | (rw [hy266]; with_reducible exact H) | (have H2_ := (Option.bind_some _ _).symm.trans H; rw [hy266]; with_reducible exact H2_) | (have H2_ := (Option.bind_some _ _).symm.trans H; with_reducible exact H2_) | with_reducible exact H | (rw [hy266]; exact H) | exact H
 have Ny266 := mK hy266
 clear hy266
 have H' := mK H
 clear H
 have p249 : 0 ≤ (x13_1 : Int) := of_decide_eq_true oX
 have q249 : x13_1 < (l0_1.length : Int) := of_decide_eq_true oX
 obtain ⟨ad249, e249, hx249_0, hx249_1, hx249_2, hx249_3⟩ := at_T76 HR0_1.out x13_1 p249 q249
 cases e249
 replace hx249_0 := (HB.out.cell (World.block_lt_of_cell? w _ hx249_0)).trans hx249_0
 replace hx249_1 := (HB.out.cell (World.block_lt_of_cell? w _ hx249_1)).trans hx249_1
 replace hx249_2 := (HB.out.cell (World.block_lt_of_cell? w _ hx249_2)).trans hx249_2
 replace hx249_3 := (HB.out.cell (World.block_lt_of_cell? w _ hx249_3)).trans hx249_3
 replace p249 := eq_true p249
 replace q249 := eq_true q249
 go_wp2_with (first | ((with_reducible refine gate_dst (N := 7) rfl ?_); refine bxE 7 #[.int .i64 0, .int .i64 0, .int .i64 0, .int .i64 0] 76 ?_; intro gb250 hg w34 hbox hb; replace HO_4 := mK (Kd.R_below (rX HO_4) hb); replace HO_5 := mK (Kd.R_below (rX HO_5) hb); have BK250 := mK hbox; have GW250 := mK (gX hg HB); have GE250 := mK (gX hg HB); replace HB := bB HB hb; have NB242_250 := mK (lX hg BK242); have NB250_242 := mK (mX hg BK242); replace BK242 := kB BK242 hb; clear hb hbox hg; have hnb35 := NB250_242.out; have hnc35 := NB242_250.out; have hcz36_0 := q0 BK250; have hcz36_1 := q1 BK250; have hcz36_2 := q2 BK250; have hcz36_3 := q3 BK250; have hfz36_0 := fX BK250 0; have hfz36_1 := fX BK250 1; have hfz36_2 := fX BK250 2; have hfz36_3 := fX BK250 3) | ((with_reducible refine gate_builtin (b := .append) (xs := #[.tmp 22, .tmp 31]) rfl ?_); at_builtin; refine Kd.R_append k70 (w0 := w) w.heap.size rfl (.tmp 22) (.tmp 31) 31 70 (.agg #[(.int .i64 0), (.int .i64 0), (.int .i64 0)]) 24 rfl Try.underlying31 info70 rfl (by decide) (by omega) u4 x4_1 (⟨(rd_T76 l0_1 x13_1).f0, (rd_T76 l0_1 x13_1).f1, (rd_T76 l0_1 x13_1).f2.f1⟩ : S70) [.int .i64 ((rd_T76 l0_1 x13_1).f0), .int .i64 ((rd_T76 l0_1 x13_1).f1), .int .i64 ((rd_T76 l0_1 x13_1).f2.f1)] (fun _ => True) (fun _ => False) rfl (by go_simp <;> rfl) ?aP (fun _ hk => hk.elim) ?aF ?aO ?aB ?aS ?aL ?_; (case aP => exact k70_mkM _ _ _ (⟨(rd_T76 l0_1 x13_1).f0, (rd_T76 l0_1 x13_1).f1, (rd_T76 l0_1 x13_1).f2.f1⟩ : S70)); (case aB => exact (bX HB)); (case aF => exact (fun _ _ => trivial)); (case aO => exact (rF4 HO_4 BK250)); (case aS => exact (below_size (bX HB))); (case aL => have := LMc23.out; omega); intro v258 w37 ho hb hg hat; rw [← Ny257.out] at ho; have n0_ := mK (Kd.R_over' (rF4 HO_5 BK250) (Kd.R_typed (rF4 HO_4 BK250)) (by decide) hg); have n1_ := mK (blk_grown (g := gb242) (o := .cells #[.int .i64 a0_0, .slice (some ad249) l0_1.length c0_1] 47 (0, 0)) (kF BK242 NB242_250) hg (Kd.R_ne HO_4.out BK242.out (by decide))); have n2_ := mK (blk_grown (g := gb250) (o := .cells #[.int .i64 ((rd_T76 l0_1 x13_1).f0), .int .i64 ((rd_T76 l0_1 x13_1).f1), .int .i64 ((rd_T76 l0_1 x13_1).f2.f0), .int .i64 ((rd_T76 l0_1 x13_1).f2.f1)] 76 (0, 0)) (kP4 BK250) hg (Kd.R_ne HO_4.out BK250.out (by decide))); have n3_ := mK (hb); have n4_ := mK (ho); clear HO_5; clear BK242; clear BK250; clear HB; clear HO_4; have HO_5 := n0_; have BK242 := n1_; have BK250 := n2_; have HB := n3_; have HO259 := n4_; clear n0_ n1_ n2_ n3_ n4_; clear ho hb hg hat) | ((with_reducible refine gate_builtin (b := .append) (xs := #[.tmp 33, .tmp 35]) rfl ?_); at_builtin; refine Kd.R_append (Kd.int .i64) (w0 := w) w.heap.size rfl (.tmp 33) (.tmp 35) 26 3 (.int .i64 0) 8 rfl Try.underlying26 info3 rfl (by decide) (by omega) u5 x5_1 x13_1 [.int .i64 x13_1] (fun _ => True) (fun _ => False) rfl rfl ?aP (fun _ hk => hk.elim) ?aF ?aO ?aB ?aS ?aL ?_; (case aP => exact rfl); (case aB => exact (bX HB)); (case aF => exact (fun _ _ => trivial)); (case aO => exact (rX HO_5)); (case aS => exact (below_size (bX HB))); (case aL => have := LMc24.out; omega); intro v261 w38 ho hb hg hat; rw [← Ny260.out] at ho; have n0_ := mK (blk_grown (kX BK242) hg (Kd.R_ne HO_5.out BK242.out (by decide))); have n1_ := mK (blk_grown (kX BK250) hg (Kd.R_ne HO_5.out BK250.out (by decide))); have n2_ := mK (Kd.R_over' (rX HO259) (Kd.R_typed (rX HO_5)) (by decide) hg); have n3_ := mK (hb); have n4_ := mK (ho); clear BK242; clear BK250; clear HO259; clear HB; clear HO_5; have BK242 := n0_; have BK250 := n1_; have HO259 := n2_; have HB := n3_; have HO262 := n4_; clear n0_ n1_ n2_ n3_ n4_; clear ho hb hg hat; have hcz39_0 := q0 BK250; have hcz39_1 := q1 BK250; have hcz39_2 := q2 BK250; have hcz39_3 := q3 BK250; have hfz39_0 := fX BK250 0; have hfz39_1 := fX BK250 1; have hfz39_2 := fX BK250 2; have hfz39_3 := fX BK250 3) | ((with_reducible refine gate_builtin (b := .append) (xs := #[.tmp 41, .tmp 51]) rfl ?_); at_builtin; refine Kd.R_append k70 (w0 := w) w.heap.size rfl (.tmp 41) (.tmp 51) 31 70 (.agg #[(.int .i64 0), (.int .i64 0), (.int .i64 0)]) 24 rfl Try.underlying31 info70 rfl (by decide) (by omega) v258 y257 (⟨(rd_T76 l0_1 x13_1).f1, (rd_T76 l0_1 x13_1).f0, wrap64 (-((rd_T76 l0_1 x13_1).f2.f0))⟩ : S70) [.int .i64 ((rd_T76 l0_1 x13_1).f1), .int .i64 ((rd_T76 l0_1 x13_1).f0), .int .i64 (wrap64 (-((rd_T76 l0_1 x13_1).f2.f0)))] (fun _ => True) (fun _ => False) rfl rfl ?aP (fun _ hk => hk.elim) ?aF ?aO ?aB ?aS ?aL ?_; (case aP => exact k70_mkM _ _ _ (⟨(rd_T76 l0_1 x13_1).f1, (rd_T76 l0_1 x13_1).f0, wrap64 (-((rd_T76 l0_1 x13_1).f2.f0))⟩ : S70)); (case aB => exact (bX HB)); (case aF => exact (fun _ _ => trivial)); (case aO => exact (rX HO259)); (case aS => exact (below_size (bX HB))); (case aL => have := LMc32.out; omega); intro v264 w40 ho hb hg hat; rw [← Ny263.out] at ho; have n0_ := mK (blk_grown (kX BK242) hg (Kd.R_ne HO259.out BK242.out (by decide))); have n1_ := mK (blk_grown (kX BK250) hg (Kd.R_ne HO259.out BK250.out (by decide))); have n2_ := mK (Kd.R_over' (rX HO262) (Kd.R_typed (rX HO259)) (by decide) hg); have n3_ := mK (hb); have n4_ := mK (ho); clear BK242; clear BK250; clear HO262; clear HB; clear HO259; have BK242 := n0_; have BK250 := n1_; have HO262 := n2_; have HB := n3_; have HO265 := n4_; clear n0_ n1_ n2_ n3_ n4_; clear ho hb hg hat) | ((with_reducible refine gate_builtin (b := .append) (xs := #[.tmp 53, .tmp 55]) rfl ?_); at_builtin; refine Kd.R_append (Kd.int .i64) (w0 := w) w.heap.size rfl (.tmp 53) (.tmp 55) 26 3 (.int .i64 0) 8 rfl Try.underlying26 info3 rfl (by decide) (by omega) v261 y260 x13_1 [.int .i64 x13_1] (fun _ => True) (fun _ => False) rfl rfl ?aP (fun _ hk => hk.elim) ?aF ?aO ?aB ?aS ?aL ?_; (case aP => exact rfl); (case aB => exact (bX HB)); (case aF => exact (fun _ _ => trivial)); (case aO => exact (rX HO262)); (case aS => exact (below_size (bX HB))); (case aL => have := LMc33.out; omega); intro v267 w41 ho hb hg hat; rw [← Ny266.out] at ho; have n0_ := mK (blk_grown (kX BK242) hg (Kd.R_ne HO262.out BK242.out (by decide))); have n1_ := mK (blk_grown (kX BK250) hg (Kd.R_ne HO262.out BK250.out (by decide))); have n2_ := mK (Kd.R_over' (rX HO265) (Kd.R_typed (rX HO262)) (by decide) hg); have n3_ := mK (hb); have n4_ := mK (ho); clear BK242; clear BK250; clear HO265; clear HB; clear HO262; have BK242 := n0_; have BK250 := n1_; have HO265 := n2_; have HB := n3_; have HO268 := n4_; clear n0_ n1_ n2_ n3_ n4_; clear ho hb hg hat))
 go_roundg k1
 case measure => have := HK1.out; omega
 case rel => exact ⟨(y263), (y266), (wrap64 (x13_1 + 1)), (by first | rfl | (simp; done) | (simp [*]; done)), H', ⟨by have := HK1.out; omega⟩, ⟨rX HO265⟩, ⟨rX HO268⟩, ⟨kX BK242⟩, ⟨bX HB⟩⟩
 )
 )

/-! ### spec_GraphOf: function 65 -/
def spec_GraphOf.f (k : Nat) (a0_0 : Int) (l0_1 : List (S76)) : Option (Int × (List (S70))) := (spec_SimpleOk.f k a0_0 l0_1).bind fun t271 => (if t271 = true then ((spec_l05Edges.f k a0_0 l0_1).bind fun bt272 => (some (a0_0, bt272.1))) else (some (0, ([] : List (S70)))))
theorem spec_GraphOf.mono : ∀ a0 a1 k, LeO (spec_GraphOf.f k a0 a1) (spec_GraphOf.f (k + 1) a0 a1) := by
  intro a0 a1 k
  unfold spec_GraphOf.f
  repeat' first|(with_reducible first|exact spec_SimpleOk.mono _ _ _|exact spec_l05Edges.mono _ _ _|exact lR _|exact lN _|refine lI ?_ ?_|refine lB ?_ (fun _ => ?_))|exact spec_SimpleOk.mono _ _ _|exact spec_l05Edges.mono _ _ _|exact lN _|refine lI ?_ ?_|refine lB ?_ (fun _ => ?_)
set_option maxHeartbeats 8000000 in
set_option maxRecDepth 100000 in
theorem spec_GraphOf.calls (k : Nat) (a0_0 : Int) (A0_1 : Option Addr) (c0_1 : Nat) (l0_1 : List (S76)) (r1 : Int) (r2 : List (S70)) (w : World) (hr0_1 : Kd.C k76 w A0_1 l0_1.length l0_1) (hc0_1 : l0_1.length ≤ c0_1) (h : spec_GraphOf.f k a0_0 l0_1 = some (r1, r2)) :
    Calls Try.prog 65 #[.agg #[.int .i64 a0_0, .slice A0_1 l0_1.length c0_1]] w fun e w' => ∃ v1_ : Value, e = .returned (.agg #[.int .i64 r1, v1_]) ∧ Kd.R k70 70 w' w.heap.size (fun _ => True) v1_ r2 ∧ Below w.heap.size w w' := by
  have hu47 := Try.underlying47
  have hu33 := Try.underlying33
  have HR0_1 := mK hr0_1
  have HC0_1 := mK hc0_1
  clear hr0_1 hc0_1
  have HB := mK (Below.refl w.heap.size w)
  have H : ((spec_SimpleOk.f k a0_0 l0_1).bind fun t271 => (if t271 = true then ((spec_l05Edges.f k a0_0 l0_1).bind fun bt272 => (some (a0_0, bt272.1))) else (some (0, ([] : List (S70)))))) = some (r1, r2) := h
  clear h
  replace H := Option.bind_eq_some_iff.mp H
  obtain ⟨t271, A20, H⟩ := H
  replace H : (if t271 = true then ((spec_l05Edges.f k a0_0 l0_1).bind fun bt272 => (some (a0_0, bt272.1))) else (some (0, ([] : List (S70))))) = some (r1, r2) := H
  have A2 := mK A20
  clear A20
  by_cases c3 : t271 = true
  rotate_left
  · replace c3 := Bool.eq_false_iff.mpr c3
    subst c3
    rw [if_neg (show ¬ (false = true) by decide)] at H
    simp only [Option.some.injEq, Prod.mk.injEq] at H
    obtain ⟨rfl, rfl⟩ := H
    go_enter Try.func65, Try.ntmps65
    go_wp2_with (first | ((with_reducible refine gate_dst (N := 1) rfl ?_); refine bxE 1 #[.int .i64 a0_0, .slice A0_1 l0_1.length c0_1] 47 ?_; intro gb269 hg w15 hbox hb; have BK269 := mK hbox; have GW269 := mK (gX hg HB); have GE269 := mK (gX hg HB); replace HB := bB HB hb; clear hb hbox hg) | ((with_reducible refine gate_dst (N := 2) rfl ?_); refine bxE 2 #[.int .i64 0, .slice none 0 0] 33 ?_; intro gb270 hg w16 hbox hb; have BK270 := mK hbox; have GW270 := mK (gX hg HB); have GE270 := mK (gX hg HB); replace HB := bB HB hb; have NB269_270 := mK (lX hg BK269); have NB270_269 := mK (mX hg BK269); replace BK269 := kB BK269 hb; clear hb hbox hg; have hnb17 := NB269_270.out; have hnc17 := NB270_269.out; have hcz18_0 := q0 BK269; have hcz18_1 := q1 BK269; have hfz18_0 := fX BK269 0; have hfz18_1 := fX BK269 1) | ((with_reducible refine gate_callee (f := 63) rfl ?_); refine gsE (some 6) Try.func63 #[.agg #[.int .i64 a0_0, .slice A0_1 l0_1.length c0_1]] ?_; (with_reducible refine (spec_SimpleOk.calls k a0_0 _ _ l0_1 false _ ?side1 ?side2 A2.out).mono ?_); (case side1 => exact cX HR0_1 HB); (case side2 => exact HC0_1.out); rintro e w19 ⟨rfl, hb⟩; refine ⟨_, rfl, ?_⟩; replace BK269 := kB BK269 hb; replace BK270 := kB BK270 hb; replace HB := bB HB hb; (try clear hb); (try clear hb2); (try clear hk); (try clear hi); have hcz20_0 := q0 BK270; have hcz20_1 := q1 BK270; have hfz20_0 := fX BK270 0; have hfz20_1 := fX BK270 1))
    refine bodyPost_ret (results_cell_row rfl _ _ gb270 33 #[.int .i64 0, .slice none 0 0] (0, 0) _ rfl (kP2 BK270) Try.underlying33 rfl (by kernel_rfl)) rfl ?_
    exact ⟨_, by first | rfl | (simp [errW_none, errW_some] <;> rfl) | (simp [*, errW_none, errW_some] <;> rfl), by first | exact Kd.R_nil _ _ _ _ _ | exact Kd.N_nil _ _ _ _ _ | exact Kd.V_nil _ _ _ _ _ | exact Kd.Q_nil _ _ _ _ _ | exact Kd.S_nil _ _ _ _ _, bX HB⟩
  subst c3
  rw [if_pos rfl] at H
  replace H := Option.bind_eq_some_iff.mp H
  obtain ⟨⟨t272, t275⟩, A40, H⟩ := H
  replace H : (some (a0_0, t272)) = some (r1, r2) := H
  have A4 := mK A40
  clear A40
  simp only [Option.some.injEq, Prod.mk.injEq] at H
  obtain ⟨rfl, rfl⟩ := H
  go_enter Try.func65, Try.ntmps65
  go_wp2_with (first | ((with_reducible refine gate_dst (N := 1) rfl ?_); refine bxE 1 #[.int .i64 a0_0, .slice A0_1 l0_1.length c0_1] 47 ?_; intro gb269 hg w5 hbox hb; have BK269 := mK hbox; have GW269 := mK (gX hg HB); have GE269 := mK (gX hg HB); replace HB := bB HB hb; clear hb hbox hg) | ((with_reducible refine gate_dst (N := 2) rfl ?_); refine bxE 2 #[.int .i64 0, .slice none 0 0] 33 ?_; intro gb270 hg w6 hbox hb; have BK270 := mK hbox; have GW270 := mK (gX hg HB); have GE270 := mK (gX hg HB); replace HB := bB HB hb; have NB269_270 := mK (lX hg BK269); have NB270_269 := mK (mX hg BK269); replace BK269 := kB BK269 hb; clear hb hbox hg; have hnb7 := NB269_270.out; have hnc7 := NB270_269.out; have hcz8_0 := q0 BK269; have hcz8_1 := q1 BK269; have hfz8_0 := fX BK269 0; have hfz8_1 := fX BK269 1) | ((with_reducible refine gate_callee (f := 63) rfl ?_); refine gsE (some 6) Try.func63 #[.agg #[.int .i64 a0_0, .slice A0_1 l0_1.length c0_1]] ?_; (with_reducible refine (spec_SimpleOk.calls k a0_0 _ _ l0_1 true _ ?side1 ?side2 A2.out).mono ?_); (case side1 => exact cX HR0_1 HB); (case side2 => exact HC0_1.out); rintro e w9 ⟨rfl, hb⟩; refine ⟨_, rfl, ?_⟩; replace BK269 := kB BK269 hb; replace BK270 := kB BK270 hb; replace HB := bB HB hb; (try clear hb); (try clear hb2); (try clear hk); (try clear hi); have hcz10_0 := q0 BK269; have hcz10_1 := q1 BK269; have hfz10_0 := fX BK269 0; have hfz10_1 := fX BK269 1) | ((with_reducible refine gate_callee (f := 101) rfl ?_); refine gsE (some 11) Try.func101 #[.agg #[.int .i64 a0_0, .slice A0_1 l0_1.length c0_1]] ?_; (with_reducible refine (spec_l05Edges.calls k a0_0 _ _ l0_1 t272 t275 _ ?side1 ?side2 A4.out).mono ?_); (case side1 => exact cX HR0_1 HB); (case side2 => exact HC0_1.out); rintro e w11 ⟨v273, v276, rfl, ho0, ho1, hb⟩; refine ⟨_, rfl, ?_⟩; have HO274 := mK (Kd.R_lower ho0 (below_size (bX HB))); have HO277 := mK (Kd.R_lower ho1 (below_size (bX HB))); replace BK269 := kB BK269 hb; replace BK270 := kB BK270 hb; replace HB := bB HB hb; (try clear hb); (try clear hb2); (try clear hk); (try clear hi); (try clear ho0); (try clear ho1); have hcz12_0 := q0 BK269; have hcz12_1 := q1 BK269; have hfz12_0 := fX BK269 0; have hfz12_1 := fX BK269 1; obtain ⟨Ao13, co13, eo13⟩ := Kd.R_slice HO274.out; subst eo13; have hcz14_0 := q0 BK270; have hcz14_1 := q1 BK270; have hfz14_0 := fX BK270 0; have hfz14_1 := fX BK270 1))
  refine bodyPost_ret (results_cell_row rfl _ _ gb270 33 #[.int .i64 a0_0, .slice Ao13 t272.length co13] (0, 0) _ rfl (kP2 BK270) Try.underlying33 rfl (by kernel_rfl)) rfl ?_
  exact ⟨_, by first | rfl | (simp [errW_none, errW_some] <;> rfl) | (simp [*, errW_none, errW_some] <;> rfl), rF2 HO274 BK270, bX HB⟩

/-! ### spec_IsConsistent: function 22 -/
def spec_IsConsistent.f (k : Nat) (a0_0 : Int) (l0_1 : List (S76)) : Option (Bool) := (spec_SimpleOk.f k a0_0 l0_1).bind fun t279 => (if t279 = true then ((spec_GraphOf.f k a0_0 l0_1).bind fun bt280 => ((spec_NegativeCycle.f k bt280.1 bt280.2).bind fun t284 => (some ((t284.length : Int) == 0)))) else (some false))
theorem spec_IsConsistent.mono : ∀ a0 a1 k, LeO (spec_IsConsistent.f k a0 a1) (spec_IsConsistent.f (k + 1) a0 a1) := by
  intro a0 a1 k
  unfold spec_IsConsistent.f
  repeat' first|(with_reducible first|exact spec_GraphOf.mono _ _ _|exact spec_NegativeCycle.mono _ _ _|exact spec_SimpleOk.mono _ _ _|exact lR _|exact lN _|refine lI ?_ ?_|refine lB ?_ (fun _ => ?_))|exact spec_GraphOf.mono _ _ _|exact spec_NegativeCycle.mono _ _ _|exact spec_SimpleOk.mono _ _ _|exact lN _|refine lI ?_ ?_|refine lB ?_ (fun _ => ?_)
set_option maxHeartbeats 8000000 in
set_option maxRecDepth 100000 in
theorem spec_IsConsistent.calls (k : Nat) (a0_0 : Int) (A0_1 : Option Addr) (c0_1 : Nat) (l0_1 : List (S76)) (r : Bool) (w : World) (hr0_1 : Kd.C k76 w A0_1 l0_1.length l0_1) (hc0_1 : l0_1.length ≤ c0_1) (h : spec_IsConsistent.f k a0_0 l0_1 = some r) :
    Calls Try.prog 22 #[.agg #[.int .i64 a0_0, .slice A0_1 l0_1.length c0_1]] w fun e w' => e = .returned (.bool r) ∧ Below w.heap.size w w' := by
  have hu47 := Try.underlying47
  have HR0_1 := mK hr0_1
  have HC0_1 := mK hc0_1
  clear hr0_1 hc0_1
  have HB := mK (Below.refl w.heap.size w)
  have H : ((spec_SimpleOk.f k a0_0 l0_1).bind fun t279 => (if t279 = true then ((spec_GraphOf.f k a0_0 l0_1).bind fun bt280 => ((spec_NegativeCycle.f k bt280.1 bt280.2).bind fun t284 => (some ((t284.length : Int) == 0)))) else (some false))) = some r := h
  clear h
  replace H := Option.bind_eq_some_iff.mp H
  obtain ⟨t279, A20, H⟩ := H
  replace H : (if t279 = true then ((spec_GraphOf.f k a0_0 l0_1).bind fun bt280 => ((spec_NegativeCycle.f k bt280.1 bt280.2).bind fun t284 => (some ((t284.length : Int) == 0)))) else (some false)) = some r := H
  have A2 := mK A20
  clear A20
  by_cases c3 : t279 = true
  rotate_left
  · replace c3 := Bool.eq_false_iff.mpr c3
    subst c3
    rw [if_neg (show ¬ (false = true) by decide)] at H
    obtain rfl := Option.some.inj H
    go_enter Try.func22, Try.ntmps22
    go_wp2_with (first | ((with_reducible refine gate_dst (N := 1) rfl ?_); (try (refine gate_guard (by rfl) ?_; dsimp only)); refine box_event ?hg (N := 1) ?hd (cs := #[.int .i64 a0_0, .slice A0_1 l0_1.length c0_1]) (t := 47) ?hr ?_; (case hd => rfl); (case hg => rfl); (case hr => go_simp <;> rfl); intro gb278 hg w14 hbox hb; have BK278 := mK hbox; have GW278 := mK (gX hg HB); have GE278 := mK (gX hg HB); replace HB := bB HB hb; clear hb hbox hg; have hcz15_0 := q0 BK278; have hcz15_1 := q1 BK278; have hfz15_0 := fX BK278 0; have hfz15_1 := fX BK278 1) | ((with_reducible refine gate_callee (f := 63) rfl ?_); refine gsE (some 4) Try.func63 #[.agg #[.int .i64 a0_0, .slice A0_1 l0_1.length c0_1]] ?_; (with_reducible refine (spec_SimpleOk.calls k a0_0 _ _ l0_1 false _ ?side1 ?side2 A2.out).mono ?_); (case side1 => exact cX HR0_1 HB); (case side2 => exact HC0_1.out); rintro e w16 ⟨rfl, hb⟩; refine ⟨_, rfl, ?_⟩; replace BK278 := kB BK278 hb; replace HB := bB HB hb; (try clear hb); (try clear hb2); (try clear hk); (try clear hi)))
    go_ret
    exact ⟨by first | rfl | (simp [errW_none, errW_some] <;> rfl) | (simp [*, errW_none, errW_some] <;> rfl), bX HB⟩
  subst c3
  rw [if_pos rfl] at H
  replace H := Option.bind_eq_some_iff.mp H
  obtain ⟨⟨t280, t281⟩, A40, H⟩ := H
  replace H : ((spec_NegativeCycle.f k t280 t281).bind fun t284 => (some ((t284.length : Int) == 0))) = some r := H
  have A4 := mK A40
  clear A40
  replace H := Option.bind_eq_some_iff.mp H
  obtain ⟨t284, A50, H⟩ := H
  replace H : (some ((t284.length : Int) == 0)) = some r := H
  have A5 := mK A50
  clear A50
  obtain rfl := Option.some.inj H
  go_enter Try.func22, Try.ntmps22
  go_wp2_with (first | ((with_reducible refine gate_dst (N := 1) rfl ?_); (try (refine gate_guard (by rfl) ?_; dsimp only)); refine box_event ?hg (N := 1) ?hd (cs := #[.int .i64 a0_0, .slice A0_1 l0_1.length c0_1]) (t := 47) ?hr ?_; (case hd => rfl); (case hg => rfl); (case hr => go_simp <;> rfl); intro gb278 hg w6 hbox hb; have BK278 := mK hbox; have GW278 := mK (gX hg HB); have GE278 := mK (gX hg HB); replace HB := bB HB hb; clear hb hbox hg; have hcz7_0 := q0 BK278; have hcz7_1 := q1 BK278; have hfz7_0 := fX BK278 0; have hfz7_1 := fX BK278 1) | ((with_reducible refine gate_callee (f := 63) rfl ?_); refine gsE (some 4) Try.func63 #[.agg #[.int .i64 a0_0, .slice A0_1 l0_1.length c0_1]] ?_; (with_reducible refine (spec_SimpleOk.calls k a0_0 _ _ l0_1 true _ ?side1 ?side2 A2.out).mono ?_); (case side1 => exact cX HR0_1 HB); (case side2 => exact HC0_1.out); rintro e w8 ⟨rfl, hb⟩; refine ⟨_, rfl, ?_⟩; replace BK278 := kB BK278 hb; replace HB := bB HB hb; (try clear hb); (try clear hb2); (try clear hk); (try clear hi); have hcz9_0 := q0 BK278; have hcz9_1 := q1 BK278; have hfz9_0 := fX BK278 0; have hfz9_1 := fX BK278 1) | (go_at_call 65; (with_reducible refine (spec_GraphOf.calls k a0_0 _ _ l0_1 t280 t281 _ ?side1 ?side2 A4.out).mono ?_); (case side1 => exact cX HR0_1 HB); (case side2 => exact HC0_1.out); rintro e w10 ⟨v282, rfl, ho0, hb⟩; have HO283 := mK (Kd.R_lower ho0 (below_size (bX HB))); replace BK278 := kB BK278 hb; replace HB := bB HB hb; (try clear hb); (try clear hb2); (try clear hk); (try clear hi); (try clear ho0); obtain ⟨Ao11, co11, eo11⟩ := Kd.R_slice HO283.out; subst eo11) | (go_at_call 64; (with_reducible refine (spec_NegativeCycle.calls k t280 _ _ t281 t284 _ ?side1 ?side2 A5.out).mono ?_); (case side1 => repeat (first | exact (Kd.R_reads' HO283.out).2.2 | (with_reducible refine Kd.C_alloc ?_ _) | (with_reducible refine Kd.C_drewN ?_ _) | (with_reducible refine Kd.C_drew ?_))); (case side2 => exact (Kd.R_reads' HO283.out).2.1); rintro e w12 ⟨v285, rfl, ho0, hb⟩; replace HO283 := mK (Kd.R_below (rX HO283) hb); have HO286 := mK (Kd.R_lower ho0 (below_size (bX HB))); replace BK278 := kB BK278 hb; replace HB := bB HB hb; (try clear hb); (try clear hb2); (try clear hk); (try clear hi); (try clear ho0); obtain ⟨Ao13, co13, eo13⟩ := Kd.R_slice HO286.out; subst eo13))
  go_ret
  exact ⟨by first | rfl | (simp [errW_none, errW_some] <;> rfl) | (simp [*, errW_none, errW_some] <;> rfl), bX HB⟩

/-! ### spec_TableOk: function 104 -/
mutual
def spec_TableOk.j0 : Nat → Bool → Int → List Int → Option (Bool)
  | 0, _, _, _ => none
  | k + 1, x19, x288000, x288001 => if x19 = true then (some false) else (spec_TableOk.l0 k x288001 (x288001.length : Int) 0 x288000 x288001)
def spec_TableOk.l0 : Nat → List Int → Int → Int → Int → List Int → Option (Bool)
  | 0, _, _, _, _, _ => none
  | k + 1, x21, x22, x23, x288000, x288001 => if x23 < x22 then (if 0 ≤ x23 then (if x23 < (x21.length : Int) then ((spec_l01In.f (rd x21 x23) (-1000000) 1000000).bind fun t290 => (if t290 = true then (if (wrap64 (x288000 + 1)) = 0 then (none) else (if (Int.tmod x23 (wrap64 (x288000 + 1))) = 0 then (if (rd x21 x23) = 0 then (spec_TableOk.l0 k x21 x22 (wrap64 (x23 + 1)) x288000 x288001) else (some false)) else (spec_TableOk.l0 k x21 x22 (wrap64 (x23 + 1)) x288000 x288001))) else (some false))) else (none)) else (none)) else (some true)
end
def spec_TableOk.f (k : Nat) (a0_0 : Int) (l0_1 : List Int) : Option (Bool) := (spec_l01In.f a0_0 0 8).bind fun t288 => (if t288 = true then (spec_TableOk.j0 k ((l0_1.length : Int) != (wrap64 (a0_0 * a0_0))) a0_0 l0_1) else (spec_TableOk.j0 k true a0_0 l0_1))
theorem spec_TableOk.mono_l : ∀ k, (∀ y0 y1 y2, LeO (spec_TableOk.j0 k y0 y1 y2) (spec_TableOk.j0 (k + 1) y0 y1 y2)) ∧ (∀ y0 y1 y2 y3 y4, LeO (spec_TableOk.l0 k y0 y1 y2 y3 y4) (spec_TableOk.l0 (k + 1) y0 y1 y2 y3 y4))
  | 0 => ⟨fun _ _ _ r h => by simp [spec_TableOk.j0] at h, fun _ _ _ _ _ r h => by simp [spec_TableOk.l0] at h⟩
  | k + 1 => by
    obtain ⟨ih0, ih1⟩ := spec_TableOk.mono_l k
    refine ⟨?_, ?_⟩
    · intro y0 y1 y2
      unfold spec_TableOk.j0
      repeat' first|(with_reducible first|exact ih0 _ _ _|exact ih1 _ _ _ _ _|exact lR _|exact lN _|refine lI ?_ ?_|refine lB ?_ (fun _ => ?_))|exact ih0 _ _ _|exact ih1 _ _ _ _ _|exact lN _|refine lI ?_ ?_|refine lB ?_ (fun _ => ?_)
    · intro y0 y1 y2 y3 y4
      unfold spec_TableOk.l0
      repeat' first|(with_reducible first|exact ih0 _ _ _|exact ih1 _ _ _ _ _|exact lR _|exact lN _|refine lI ?_ ?_|refine lB ?_ (fun _ => ?_))|exact ih0 _ _ _|exact ih1 _ _ _ _ _|exact lN _|refine lI ?_ ?_|refine lB ?_ (fun _ => ?_)
theorem spec_TableOk.mono : ∀ a0 a1 k, LeO (spec_TableOk.f k a0 a1) (spec_TableOk.f (k + 1) a0 a1) := by
  intro a0 a1 k
  obtain ⟨ih0, ih1⟩ := spec_TableOk.mono_l k
  unfold spec_TableOk.f
  repeat' first|(with_reducible first|exact ih0 _ _ _|exact ih1 _ _ _ _ _|exact lR _|exact lN _|refine lI ?_ ?_|refine lB ?_ (fun _ => ?_))|exact ih0 _ _ _|exact ih1 _ _ _ _ _|exact lN _|refine lI ?_ ?_|refine lB ?_ (fun _ => ?_)
set_option maxHeartbeats 8000000 in
set_option maxRecDepth 100000 in
theorem spec_TableOk.calls (k : Nat) (a0_0 : Int) (A0_1 : Option Addr) (c0_1 : Nat) (l0_1 : List Int) (r : Bool) (w : World) (hr0_1 : Kd.C (Kd.int .i64) w A0_1 l0_1.length l0_1) (hc0_1 : l0_1.length ≤ c0_1) (h : spec_TableOk.f k a0_0 l0_1 = some r) :
    Calls Try.prog 104 #[.agg #[.int .i64 a0_0, .slice A0_1 l0_1.length c0_1]] w fun e w' => e = .returned (.bool r) ∧ Below w.heap.size w w' := by
  have hu28 := Try.underlying28
  have HR0_1 := mK hr0_1
  have HC0_1 := mK hc0_1
  clear hr0_1 hc0_1
  have HB := mK (Below.refl w.heap.size w)
  have H : ((spec_l01In.f a0_0 0 8).bind fun t288 => (if t288 = true then (spec_TableOk.j0 k ((l0_1.length : Int) != (wrap64 (a0_0 * a0_0))) a0_0 l0_1) else (spec_TableOk.j0 k true a0_0 l0_1))) = some r := h
  clear h
  have HC2 := mK H
  clear H
  go_enter Try.func104, Try.ntmps104
  go_upto_region 1 with (first | ((with_reducible refine gate_dst (N := 1) rfl ?_); (try (refine gate_guard (by rfl) ?_; dsimp only)); refine box_event ?hg (N := 1) ?hd (cs := #[.int .i64 a0_0, .slice A0_1 l0_1.length c0_1]) (t := 28) ?hr ?_; (case hd => rfl); (case hg => rfl); (case hr => go_simp <;> rfl); intro gb287 hg w3 hbox hb; have BK287 := mK hbox; have GW287 := mK (gX hg HB); have GE287 := mK (gX hg HB); replace HB := bB HB hb; clear hb hbox hg))
  (try simp only [Act.put, sT, sZ, sU])
  go_cut [19] (fun v19 wc => ∃ (kq : Nat) (x19_1 : Bool), v19 = .bool x19_1 ∧ Aside0 (spec_TableOk.j0 kq x19_1 a0_0 l0_1 = some r) ∧ Aside0 (kq ≤ k) ∧ Aside0 (wc.heap[gb287]? = some (.cells #[.int .i64 a0_0, (.slice A0_1 l0_1.length c0_1)] 28 (0, 0))) ∧ Aside0 (Below w.heap.size w wc))
  case first =>
   have H := HC2.out
   clear HC2
   replace H := Option.bind_eq_some_iff.mp H
   obtain ⟨t288, A40, H⟩ := H
   replace H : (if t288 = true then (spec_TableOk.j0 k ((l0_1.length : Int) != (wrap64 (a0_0 * a0_0))) a0_0 l0_1) else (spec_TableOk.j0 k true a0_0 l0_1)) = some r := H
   have A4 := mK A40
   clear A40
   by_cases c5 : t288 = true
   rotate_left
   · replace c5 := Bool.eq_false_iff.mpr c5
     subst c5
     rw [if_neg (show ¬ (false = true) by decide)] at H
     have H' := mK H
     clear H
     have hcz7_0 := q0 BK287
     have hcz7_1 := q1 BK287
     have hfz7_0 := fX BK287 0
     have hfz7_1 := fX BK287 1
     go_wp2_with (first | ((with_reducible refine gate_callee (f := 96) rfl ?_); refine gsE (some 7) Try.func96 #[.int .i64 a0_0, .int .i64 0, .int .i64 8] ?_; (with_reducible refine (spec_l01In.calls a0_0 0 8 false _ A4.out).mono ?_); rintro e w' ⟨rfl, ⟨nd, rfl⟩⟩; refine ⟨_, rfl, ?_⟩))
     go_meet
     case rel => exact ⟨_, (true), (by first | rfl | (simp; done) | (simp [*]; done)), H', ⟨by first | omega | exact Nat.le_refl _⟩, ⟨kX BK287⟩, ⟨bX HB⟩⟩
   subst c5
   rw [if_pos rfl] at H
   have H' := mK H
   clear H
   have hcz6_0 := q0 BK287
   have hcz6_1 := q1 BK287
   have hfz6_0 := fX BK287 0
   have hfz6_1 := fX BK287 1
   go_wp2_with (first | ((with_reducible refine gate_callee (f := 96) rfl ?_); refine gsE (some 7) Try.func96 #[.int .i64 a0_0, .int .i64 0, .int .i64 8] ?_; (with_reducible refine (spec_l01In.calls a0_0 0 8 true _ A4.out).mono ?_); rintro e w' ⟨rfl, ⟨nd, rfl⟩⟩; refine ⟨_, rfl, ?_⟩))
   go_meet
   case rel => exact ⟨_, (((l0_1.length : Int) != (wrap64 (a0_0 * a0_0)))), (by first | rfl | (simp; done) | (simp [*]; done)), H', ⟨by first | omega | exact Nat.le_refl _⟩, ⟨kX BK287⟩, ⟨bX HB⟩⟩
  case rest =>
   clear HC2
   try clear c1
   try clear p2
   try clear c5
   try clear p6
   try clear hcz6_0
   try clear hcz6_1
   try clear hcz7_0
   try clear hcz7_1
   try clear hfz6_0
   try clear hfz6_1
   try clear hfz7_0
   try clear hfz7_1
   obtain ⟨kq, x19_1, rfl, HA, HJ1, BK287, HB⟩ := hcut
   cases kq with
   | zero => exact absurd HA.out (by simp [spec_TableOk.j0])
   | succ kj1 =>
    have H := HA.out
    clear HA
    simp only [spec_TableOk.j0] at H
    by_cases c8 : x19_1 = true
    · subst c8
      rw [if_pos rfl] at H
      obtain rfl := Option.some.inj H
      go_wp2
      go_ret
      exact ⟨by first | rfl | (simp [errW_none, errW_some] <;> rfl) | (simp [*, errW_none, errW_some] <;> rfl), bX HB⟩
    replace c8 := Bool.eq_false_iff.mpr c8
    subst c8
    rw [if_neg (show ¬ (false = true) by decide)] at H
    have H' := mK H
    clear H
    have hcz9_0 := q0 BK287
    have hcz9_1 := q1 BK287
    have hfz9_0 := fX BK287 0
    have hfz9_1 := fX BK287 1
    go_wp2
    go_loopg [23] kj1 (fun kq v23 w' => ∃ (x23_2 : Int), v23 = .int .i64 x23_2 ∧ Aside0 (spec_TableOk.l0 kq l0_1 (l0_1.length : Int) x23_2 a0_0 l0_1 = some r) ∧ Aside0 (kq ≤ kj1) ∧ Aside0 (w'.heap[gb287]? = some (.cells #[.int .i64 a0_0, (.slice A0_1 l0_1.length c0_1)] 28 (0, 0))) ∧ Aside0 (Below w.heap.size w w'))
    case atStart => exact ⟨(0), (by first | rfl | (simp; done) | (simp [*]; done)), H', ⟨Nat.le_refl _⟩, ⟨kX BK287⟩, ⟨bX HB⟩⟩
    case round =>
     clear H'
     try clear c1
     try clear p2
     try clear c5
     try clear p6
     try clear c8
     try clear c9
     try clear hcz6_0
     try clear hcz6_1
     try clear hcz7_0
     try clear hcz7_1
     try clear hcz9_0
     try clear hcz9_1
     try clear hfz6_0
     try clear hfz6_1
     try clear hfz7_0
     try clear hfz7_1
     try clear hfz9_0
     try clear hfz9_1
     try clear p2
     try clear p6
     obtain ⟨x23_2, rfl, HA, HK2, BK287, HB⟩ := hrel
     cases gk with
     | zero => exact absurd HA.out (by simp [spec_TableOk.l0])
     | succ k2 =>
      have H := HA.out
      clear HA
      simp only [spec_TableOk.l0] at H
      by_cases c10 : x23_2 < (l0_1.length : Int)
      rotate_left
      · rw [if_neg c10] at H
        have c10b0 : decide (x23_2 < (l0_1.length : Int)) = false := decide_eq_false c10
        clear c10
        obtain rfl := Option.some.inj H
        go_wp2
        go_ret
        exact ⟨by first | rfl | (simp [errW_none, errW_some] <;> rfl) | (simp [*, errW_none, errW_some] <;> rfl), bX HB⟩
      rw [if_pos c10] at H
      have c10b0 : decide (x23_2 < (l0_1.length : Int)) = true := decide_eq_true c10
      clear c10
      by_cases c11 : 0 ≤ x23_2
      rotate_left
      · rw [if_neg c11] at H
        exact absurd H (by simp)
      rw [if_pos c11] at H
      have c11b0 : decide (0 ≤ x23_2) = true := decide_eq_true c11
      clear c11
      by_cases c12 : x23_2 < (l0_1.length : Int)
      rotate_left
      · rw [if_neg c12] at H
        exact absurd H (by simp)
      rw [if_pos c12] at H
      have c12b0 : decide (x23_2 < (l0_1.length : Int)) = true := decide_eq_true c12
      clear c12
      replace H := Option.bind_eq_some_iff.mp H
      obtain ⟨t290, A130, H⟩ := H
      replace H : (if t290 = true then (if (wrap64 (a0_0 + 1)) = 0 then (none) else (if (Int.tmod x23_2 (wrap64 (a0_0 + 1))) = 0 then (if (rd l0_1 x23_2) = 0 then (spec_TableOk.l0 k2 l0_1 (l0_1.length : Int) (wrap64 (x23_2 + 1)) a0_0 l0_1) else (some false)) else (spec_TableOk.l0 k2 l0_1 (l0_1.length : Int) (wrap64 (x23_2 + 1)) a0_0 l0_1))) else (some false)) = some r := H
      have A13 := mK A130
      clear A130
      by_cases c14 : t290 = true
      rotate_left
      · replace c14 := Bool.eq_false_iff.mpr c14
        subst c14
        rw [if_neg (show ¬ (false = true) by decide)] at H
        obtain rfl := Option.some.inj H
        have p289 : 0 ≤ (x23_2 : Int) := of_decide_eq_true oX
        have q289 : x23_2 < (l0_1.length : Int) := of_decide_eq_true oX
        obtain ⟨ad289, e289, hx289_0⟩ := Kd.at_int HR0_1.out x23_2 p289 q289
        cases e289
        replace hx289_0 := (HB.out.cell (World.block_lt_of_cell? w _ hx289_0)).trans hx289_0
        replace p289 := eq_true p289
        replace q289 := eq_true q289
        go_wp2_with (first | ((with_reducible refine gate_callee (f := 96) rfl ?_); refine gsE (some 29) Try.func96 #[.int .i64 (rd l0_1 x23_2), .int .i64 (-1000000), .int .i64 1000000] ?_; (with_reducible refine (spec_l01In.calls (rd l0_1 x23_2) (-1000000) 1000000 false _ A13.out).mono ?_); rintro e w' ⟨rfl, ⟨nd, rfl⟩⟩; refine ⟨_, rfl, ?_⟩))
        go_ret
        exact ⟨by first | rfl | (simp [errW_none, errW_some] <;> rfl) | (simp [*, errW_none, errW_some] <;> rfl), bX HB⟩
      subst c14
      rw [if_pos rfl] at H
      by_cases c15 : (wrap64 (a0_0 + 1)) = 0
      · rw [if_pos c15] at H
        exact absurd H (by simp)
      rw [if_neg c15] at H
      have c15b0 : ((wrap64 (a0_0 + 1)) == 0) = false := beq_eq_false_iff_ne.mpr c15
      have c15b1 : ((wrap64 (a0_0 + 1)) != 0) = true := bne_iff_ne.mpr c15
      by_cases c16 : (Int.tmod x23_2 (wrap64 (a0_0 + 1))) = 0
      rotate_left
      · rw [if_neg c16] at H
        have c16b0 : ((Int.tmod x23_2 (wrap64 (a0_0 + 1))) == 0) = false := beq_eq_false_iff_ne.mpr c16
        have c16b1 : ((Int.tmod x23_2 (wrap64 (a0_0 + 1))) != 0) = true := bne_iff_ne.mpr c16
        have H' := mK H
        clear H
        have p289 : 0 ≤ (x23_2 : Int) := of_decide_eq_true oX
        have q289 : x23_2 < (l0_1.length : Int) := of_decide_eq_true oX
        obtain ⟨ad289, e289, hx289_0⟩ := Kd.at_int HR0_1.out x23_2 p289 q289
        cases e289
        replace hx289_0 := (HB.out.cell (World.block_lt_of_cell? w _ hx289_0)).trans hx289_0
        replace p289 := eq_true p289
        replace q289 := eq_true q289
        go_wp2_with (first | ((with_reducible refine gate_callee (f := 96) rfl ?_); refine gsE (some 29) Try.func96 #[.int .i64 (rd l0_1 x23_2), .int .i64 (-1000000), .int .i64 1000000] ?_; (with_reducible refine (spec_l01In.calls (rd l0_1 x23_2) (-1000000) 1000000 true _ A13.out).mono ?_); rintro e w' ⟨rfl, ⟨nd, rfl⟩⟩; refine ⟨_, rfl, ?_⟩; have hcz20_0 := q0 BK287; have hcz20_1 := q1 BK287; have hfz20_0 := fX BK287 0; have hfz20_1 := fX BK287 1))
        go_roundg k2
        case measure => have := HJ1.out; have := HK2.out; omega
        case rel => exact ⟨(wrap64 (x23_2 + 1)), (by first | rfl | (simp; done) | (simp [*]; done)), H', ⟨by have := HJ1.out; have := HK2.out; omega⟩, ⟨kX BK287⟩, ⟨bX HB⟩⟩
      rw [if_pos c16] at H
      have c16b0 : ((Int.tmod x23_2 (wrap64 (a0_0 + 1))) == 0) = true := beq_iff_eq.mpr c16
      have c16b1 : ((Int.tmod x23_2 (wrap64 (a0_0 + 1))) != 0) = false := bne_eq_false_iff_eq.mpr c16
      clear c16
      by_cases c17 : (rd l0_1 x23_2) = 0
      rotate_left
      · rw [if_neg c17] at H
        have c17b0 : ((rd l0_1 x23_2) == 0) = false := beq_eq_false_iff_ne.mpr c17
        have c17b1 : ((rd l0_1 x23_2) != 0) = true := bne_iff_ne.mpr c17
        obtain rfl := Option.some.inj H
        have p289 : 0 ≤ (x23_2 : Int) := of_decide_eq_true oX
        have q289 : x23_2 < (l0_1.length : Int) := of_decide_eq_true oX
        obtain ⟨ad289, e289, hx289_0⟩ := Kd.at_int HR0_1.out x23_2 p289 q289
        cases e289
        replace hx289_0 := (HB.out.cell (World.block_lt_of_cell? w _ hx289_0)).trans hx289_0
        replace p289 := eq_true p289
        replace q289 := eq_true q289
        go_wp2_with (first | ((with_reducible refine gate_callee (f := 96) rfl ?_); refine gsE (some 29) Try.func96 #[.int .i64 (rd l0_1 x23_2), .int .i64 (-1000000), .int .i64 1000000] ?_; (with_reducible refine (spec_l01In.calls (rd l0_1 x23_2) (-1000000) 1000000 true _ A13.out).mono ?_); rintro e w' ⟨rfl, ⟨nd, rfl⟩⟩; refine ⟨_, rfl, ?_⟩; have hcz19_0 := q0 BK287; have hcz19_1 := q1 BK287; have hfz19_0 := fX BK287 0; have hfz19_1 := fX BK287 1))
        go_ret
        exact ⟨by first | rfl | (simp [errW_none, errW_some] <;> rfl) | (simp [*, errW_none, errW_some] <;> rfl), bX HB⟩
      rw [if_pos c17] at H
      have c17b0 : ((rd l0_1 x23_2) == 0) = true := beq_iff_eq.mpr c17
      have c17b1 : ((rd l0_1 x23_2) != 0) = false := bne_eq_false_iff_eq.mpr c17
      clear c17
      have H' := mK H
      clear H
      have p289 : 0 ≤ (x23_2 : Int) := of_decide_eq_true oX
      have q289 : x23_2 < (l0_1.length : Int) := of_decide_eq_true oX
      obtain ⟨ad289, e289, hx289_0⟩ := Kd.at_int HR0_1.out x23_2 p289 q289
      cases e289
      replace hx289_0 := (HB.out.cell (World.block_lt_of_cell? w _ hx289_0)).trans hx289_0
      replace p289 := eq_true p289
      replace q289 := eq_true q289
      go_wp2_with (first | ((with_reducible refine gate_callee (f := 96) rfl ?_); refine gsE (some 29) Try.func96 #[.int .i64 (rd l0_1 x23_2), .int .i64 (-1000000), .int .i64 1000000] ?_; (with_reducible refine (spec_l01In.calls (rd l0_1 x23_2) (-1000000) 1000000 true _ A13.out).mono ?_); rintro e w' ⟨rfl, ⟨nd, rfl⟩⟩; refine ⟨_, rfl, ?_⟩; have hcz18_0 := q0 BK287; have hcz18_1 := q1 BK287; have hfz18_0 := fX BK287 0; have hfz18_1 := fX BK287 1))
      go_roundg k2
      case measure => have := HJ1.out; have := HK2.out; omega
      case rel => exact ⟨(wrap64 (x23_2 + 1)), (by first | rfl | (simp; done) | (simp [*]; done)), H', ⟨by have := HJ1.out; have := HK2.out; omega⟩, ⟨kX BK287⟩, ⟨bX HB⟩⟩

/-! ### spec_l04At: function 105 -/
def spec_l04At.f (a0_0 : Int) (l0_1 : List Int) (a1 : Int) (a2 : Int) : Option (Int) := if 0 ≤ (wrap64 ((wrap64 (a1 * a0_0)) + a2)) then (if (wrap64 ((wrap64 (a1 * a0_0)) + a2)) < (l0_1.length : Int) then (some (rd l0_1 (wrap64 ((wrap64 (a1 * a0_0)) + a2)))) else (none)) else (none)
set_option maxHeartbeats 8000000 in
set_option maxRecDepth 100000 in
theorem spec_l04At.calls (a0_0 : Int) (A0_1 : Option Addr) (c0_1 : Nat) (l0_1 : List Int) (a1 : Int) (a2 : Int) (r : Int) (w : World) (hr0_1 : Kd.C (Kd.int .i64) w A0_1 l0_1.length l0_1) (hc0_1 : l0_1.length ≤ c0_1) (h : spec_l04At.f a0_0 l0_1 a1 a2 = some r) :
    Calls Try.prog 105 #[.agg #[.int .i64 a0_0, .slice A0_1 l0_1.length c0_1], .int .i64 a1, .int .i64 a2] w fun e w' => e = .returned (.int .i64 r) ∧ Below w.heap.size w w' := by
  have hu28 := Try.underlying28
  have HR0_1 := mK hr0_1
  have HC0_1 := mK hc0_1
  clear hr0_1 hc0_1
  have HB := mK (Below.refl w.heap.size w)
  have H : (if 0 ≤ (wrap64 ((wrap64 (a1 * a0_0)) + a2)) then (if (wrap64 ((wrap64 (a1 * a0_0)) + a2)) < (l0_1.length : Int) then (some (rd l0_1 (wrap64 ((wrap64 (a1 * a0_0)) + a2)))) else (none)) else (none)) = some r := h
  clear h
  obtain ⟨ji4, hji4⟩ : ∃ j_ : Int, (wrap64 ((wrap64 (a1 * a0_0)) + a2)) = j_ := ⟨_, rfl⟩
  replace H : (if 0 ≤ (ji4) then (if (ji4) < (l0_1.length : Int) then (some (rd l0_1 (ji4))) else (none)) else (none)) = some r := by first | (rw [hji4] at H; exact H) | (simp only [hji4] at H ⊢; exact H)
  have hji4w : (IntKind.i64.wrap ((wrap64 (a1 * a0_0)) + a2)) = ji4 := (i64_w _).trans hji4
  by_cases c5 : 0 ≤ (ji4)
  rotate_left
  · rw [if_neg c5] at H
    exact absurd H (by simp)
  rw [if_pos c5] at H
  have c5b0 : decide (0 ≤ (ji4)) = true := decide_eq_true c5
  clear c5
  by_cases c6 : (ji4) < (l0_1.length : Int)
  rotate_left
  · rw [if_neg c6] at H
    exact absurd H (by simp)
  rw [if_pos c6] at H
  have c6b0 : decide ((ji4) < (l0_1.length : Int)) = true := decide_eq_true c6
  clear c6
  obtain rfl := Option.some.inj H
  go_enter Try.func105, Try.ntmps105
  go_wp2_with (first | ((with_reducible refine gate_dst (N := 3) rfl ?_); refine bxE 3 #[.int .i64 a0_0, .slice A0_1 l0_1.length c0_1] 28 ?_; intro gb291 hg w7 hbox hb; have BK291 := mK hbox; have GW291 := mK (gX hg HB); have GE291 := mK (gX hg HB); replace HB := bB HB hb; clear hb hbox hg; have hcz8_0 := q0 BK291; have hcz8_1 := q1 BK291; have hfz8_0 := fX BK291 0; have hfz8_1 := fX BK291 1; have p292 : 0 ≤ ((ji4) : Int) := of_decide_eq_true oX; have q292 : (ji4) < (l0_1.length : Int) := of_decide_eq_true oX; obtain ⟨ad292, e292, hx292_0⟩ := Kd.at_int HR0_1.out (ji4) p292 q292; cases e292; replace hx292_0 := (HB.out.cell (World.block_lt_of_cell? w _ hx292_0)).trans hx292_0; replace p292 := eq_true p292; replace q292 := eq_true q292))
  go_ret
  exact ⟨by first | rfl | (simp [errW_none, errW_some] <;> rfl) | (simp only [← hji4]; first | rfl | (simp [errW_none, errW_some] <;> rfl)) | (simp [*, errW_none, errW_some] <;> rfl), bX HB⟩

end Go.Proofs.Ytbbblnmngjhadaa.QFnExactEarliestTimes
