-- Written by this session's program wip/tools/mk.py out of the translation; Lean checks it.
import Derived.Test.YtbbblnmngjhadaaQFnExactLatestTimesx0
import Derived.Test.YtbbblnmngjhadaaQFnExactLatestTimesx2
import Derived.Test.YtbbblnmngjhadaaQFnExactLatestTimesx5
import Derived.Test.YtbbblnmngjhadaaQFnExactLatestTimesx6
namespace Go.Proofs.Ytbbblnmngjhadaa.QFnExactLatestTimes
open Go.RowKit Go.Proofs.YtbbblnmngjhadaaW.PrintWords Go.Proofs.YtbbblnmngjhadaaW.PrintLast Go.Proofs.YtbbblnmngjhadaaW.PrintMore
attribute [local go_sem] max2_int min2_int max_two min_two max_three min_three max_four min_four   -- for this text's walks alone
set_option linter.unusedVariables false
set_option linter.unusedSimpArgs false

/-! ### spec_l05Edges: function 101 -/
def spec_l05Edges.l0 : Nat → List (S70) → List Int → List (S76) → Int → Int → Option ((List (S70)) × List Int)
  | 0, _, _, _, _, _ => none
  | k + 1, x4, x5, x11, x12, x13 => if x13 < x12 then (if 0 ≤ x13 then (if x13 < (x11.length : Int) then (if ((rd_T76 x11 x13).f2.f1) = 1000000 then (if ((rd_T76 x11 x13).f2.f0) = (-1000000) then (spec_l05Edges.l0 k x4 x5 x11 x12 (wrap64 (x13 + 1))) else (if x4.length < 5864062014805 then (if x5.length < 17592186044416 then (spec_l05Edges.l0 k (x4 ++ [(⟨(rd_T76 x11 x13).f1, (rd_T76 x11 x13).f0, wrap64 (-((rd_T76 x11 x13).f2.f0))⟩ : S70)]) (x5 ++ [x13]) x11 x12 (wrap64 (x13 + 1))) else (none)) else (none))) else (if x4.length < 5864062014805 then ((some (x4 ++ [(⟨(rd_T76 x11 x13).f0, (rd_T76 x11 x13).f1, (rd_T76 x11 x13).f2.f1⟩ : S70)] : List (S70))).bind fun y268 => (if x5.length < 17592186044416 then ((some (x5 ++ [x13] : List Int)).bind fun y271 => (if ((rd_T76 x11 x13).f2.f0) = (-1000000) then (spec_l05Edges.l0 k y268 y271 x11 x12 (wrap64 (x13 + 1))) else (if y268.length < 5864062014805 then (if y271.length < 17592186044416 then (spec_l05Edges.l0 k (y268 ++ [(⟨(rd_T76 x11 x13).f1, (rd_T76 x11 x13).f0, wrap64 (-((rd_T76 x11 x13).f2.f0))⟩ : S70)]) (y271 ++ [x13]) x11 x12 (wrap64 (x13 + 1))) else (none)) else (none)))) else (none))) else (none))) else (none)) else (none)) else (some (x4, x5))
def spec_l05Edges.f (k : Nat) (a0_0 : Int) (l0_1 : List (S76)) : Option ((List (S70)) × List Int) := spec_l05Edges.l0 k (([] : List (S70))) (([] : List Int)) l0_1 (l0_1.length : Int) 0
theorem spec_l05Edges.mono_l : ∀ k, (∀ y0 y1 y2 y3 y4, LeO (spec_l05Edges.l0 k y0 y1 y2 y3 y4) (spec_l05Edges.l0 (k + 1) y0 y1 y2 y3 y4))
  | 0 => fun _ _ _ _ _ r h => by simp [spec_l05Edges.l0] at h
  | k + 1 => by
    have ih0 := spec_l05Edges.mono_l k
    · intro y0 y1 y2 y3 y4
      unfold spec_l05Edges.l0
      repeat' first|(with_reducible first|exact ih0 _ _ _ _ _|exact lR _|exact lN _|refine lI ?_ ?_|refine lB ?_ (fun _ => ?_))|exact ih0 _ _ _ _ _|exact lN _|refine lI ?_ ?_|refine lB ?_ (fun _ => ?_)
theorem spec_l05Edges.mono : ∀ a0 a1 k, LeO (spec_l05Edges.f k a0 a1) (spec_l05Edges.f (k + 1) a0 a1) := by
  intro a0 a1 k
  have ih0 := spec_l05Edges.mono_l k
  unfold spec_l05Edges.f
  repeat' first|(with_reducible first|exact ih0 _ _ _ _ _|exact lR _|exact lN _|refine lI ?_ ?_|refine lB ?_ (fun _ => ?_))|exact ih0 _ _ _ _ _|exact lN _|refine lI ?_ ?_|refine lB ?_ (fun _ => ?_)
set_option maxHeartbeats 8000000 in
set_option maxRecDepth 100000 in
theorem spec_l05Edges.calls (k : Nat) (a0_0 : Int) (A0_1 : Option Addr) (c0_1 : Nat) (l0_1 : List (S76)) (r1 : List (S70)) (r2 : List Int) (w : World) (hr0_1 : Kd.C k76 w A0_1 l0_1.length l0_1) (hc0_1 : l0_1.length ≤ c0_1) (h : spec_l05Edges.f k a0_0 l0_1 = some (r1, r2)) :
    Calls Try.prog 101 #[.agg #[.int .i64 a0_0, .slice A0_1 l0_1.length c0_1]] w fun e w' => ∃ v0_ v1_ : Value, e = .returned (.tuple #[v0_, v1_]) ∧ Kd.R k70 70 w' w.heap.size (fun _ => True) v0_ r1 ∧ Kd.R (Kd.int .i64) 3 w' w.heap.size (fun _ => True) v1_ r2 ∧ Below w.heap.size w w' := by
 have hu47 := Try.underlying47
 have hu76 := Try.underlying76
 have hu70 := Try.underlying70
 have HR0_1 := mK hr0_1
 have HC0_1 := mK hc0_1
 clear hr0_1 hc0_1
 have HB := mK (Below.refl w.heap.size w)
 have H : (spec_l05Edges.l0 k (([] : List (S70))) (([] : List Int)) l0_1 (l0_1.length : Int) 0) = some (r1, r2) := h
 clear h
 obtain ⟨y254, hy254⟩ : ∃ y_ : List (S70), y_ = (([] : List (S70))) := ⟨_, rfl⟩
 replace H : (spec_l05Edges.l0 k y254 (([] : List Int)) l0_1 (l0_1.length : Int) 0) = some (r1, r2) := by first | (rw [hy254]; with_reducible exact H) | (have H2_ := (Option.bind_some _ _).symm.trans H; rw [hy254]; with_reducible exact H2_) | (have H2_ := (Option.bind_some _ _).symm.trans H; with_reducible exact H2_) | with_reducible exact H | (rw [hy254]; exact H) | exact H
 have Ny254 := mK hy254
 clear hy254
 obtain ⟨y257, hy257⟩ : ∃ y_ : List Int, y_ = (([] : List Int)) := ⟨_, rfl⟩
 replace H : (spec_l05Edges.l0 k y254 y257 l0_1 (l0_1.length : Int) 0) = some (r1, r2) := by first | (rw [hy257]; with_reducible exact H) | (have H2_ := (Option.bind_some _ _).symm.trans H; rw [hy257]; with_reducible exact H2_) | (have H2_ := (Option.bind_some _ _).symm.trans H; with_reducible exact H2_) | with_reducible exact H | (rw [hy257]; exact H) | exact H
 have Ny257 := mK hy257
 clear hy257
 have H' := mK H
 clear H
 go_enter Try.func101, Try.ntmps101
 go_wp2_with (first | ((with_reducible refine gate_dst (N := 1) rfl ?_); refine bxE 1 #[.int .i64 a0_0, .slice A0_1 l0_1.length c0_1] 47 ?_; intro gb253 hg w2 hbox hb; have BK253 := mK hbox; have GW253 := mK (gX hg HB); have GE253 := mK (gX hg HB); replace HB := bB HB hb; clear hb hbox hg) | ((with_reducible refine gate_dst (N := 8) rfl ?_); refine Kd.R_lit k70 _ 70 ?hg (N := 8) ?hd (xs := ([] : List (S70))) (inner := []) (ok := fun _ => True) (okp := fun _ => True) ?hr ?hp (fun _ hk => hk) trivial (Below.refl _ _) (Nat.le_refl _) (by simp) ?_; (case hd => rfl); (case hg => rfl); (case hr => go_simp <;> rfl); (case hp => exact (Reps.none _ _)); intro v255 w3 ho4 hb hg_ hnew_; clear hg_ hnew_; (first | rw [← Ny254.out] at ho4 | (simp only [Int.reduceToNat] at ho4; rw [← Ny254.out] at ho4)); have HO256 := mK (Kd.R_lower ho4 (below_size (bX HB))); replace BK253 := kB BK253 hb; replace HB := bB HB hb; clear hb ho4) | ((with_reducible refine gate_dst (N := 9) rfl ?_); refine Kd.R_lit (Kd.int .i64) _ 3 ?hg (N := 9) ?hd (xs := ([] : List Int)) (inner := []) (ok := fun _ => True) (okp := fun _ => True) ?hr ?hp (fun _ hk => hk) trivial (Below.refl _ _) (Nat.le_refl _) (by simp) ?_; (case hd => rfl); (case hg => rfl); (case hr => go_simp <;> rfl); (case hp => exact (Reps.none _ _)); intro v258 w5 ho6 hb hg_ hnew_; clear hg_ hnew_; (first | rw [← Ny257.out] at ho6 | (simp only [Int.reduceToNat] at ho6; rw [← Ny257.out] at ho6)); replace HO256 := mK (Kd.R_below (rX HO256) hb); have HO259 := mK (Kd.R_lower ho6 (below_size (bX HB))); replace BK253 := kB BK253 hb; replace HB := bB HB hb; clear hb ho6; have hcz7_0 := q0 BK253; have hcz7_1 := q1 BK253; have hfz7_0 := fX BK253 0; have hfz7_1 := fX BK253 1))
 go_loopg [4, 5, 13] k (fun kq v4 v5 v13 w' => ∃ (x4_1 : List (S70)) (x5_1 : List Int) (x13_1 : Int), v13 = .int .i64 x13_1 ∧ Aside0 (spec_l05Edges.l0 kq x4_1 x5_1 l0_1 (l0_1.length : Int) x13_1 = some (r1, r2)) ∧ Aside0 (kq ≤ k) ∧ Aside0 (Kd.R k70 70 w' w.heap.size (fun _ => True) v4 x4_1) ∧ Aside0 (Kd.R (Kd.int .i64) 3 w' w.heap.size (fun _ => True) v5 x5_1) ∧ Aside0 (w'.heap[gb253]? = some (.cells #[.int .i64 a0_0, (.slice A0_1 l0_1.length c0_1)] 47 (0, 0))) ∧ Aside0 (Below w.heap.size w w'))
 case atStart => exact ⟨(y254), (y257), (0), (by first | rfl | (simp; done) | (simp [*]; done)), H', ⟨Nat.le_refl _⟩, ⟨rX HO256⟩, ⟨rX HO259⟩, ⟨kX BK253⟩, ⟨bX HB⟩⟩
 case round => (
 clear H'
 try clear c1
 try clear p2
 try clear hcz7_0
 try clear hcz7_1
 try clear hfz7_0
 try clear hfz7_1
 obtain ⟨x4_1, x5_1, x13_1, rfl, HA, HK1, HO_4, HO_5, BK253, HB⟩ := hrel
 cases gk with
 | zero => exact absurd HA.out (by simp [spec_l05Edges.l0])
 | succ k1 => (
 have H := HA.out
 clear HA
 simp only [spec_l05Edges.l0] at H
 by_cases c8 : x13_1 < (l0_1.length : Int)
 rotate_left
 {
 rw [if_neg c8] at H
 have c8b0 : decide (x13_1 < (l0_1.length : Int)) = false := decide_eq_false c8
 clear c8
 simp only [Option.some.injEq, Prod.mk.injEq] at H
 obtain ⟨rfl, rfl⟩ := H
 go_wp2
 go_ret2
 exact ⟨_, _, by first | rfl | (simp [errW_none, errW_some] <;> rfl) | (simp [*, errW_none, errW_some] <;> rfl), rX HO_4, rX HO_5, bX HB⟩
 }
 rw [if_pos c8] at H
 have c8b0 : decide (x13_1 < (l0_1.length : Int)) = true := decide_eq_true c8
 clear c8
 by_cases c9 : 0 ≤ x13_1
 rotate_left
 {
 rw [if_neg c9] at H
 exact absurd H (by simp)
 }
 rw [if_pos c9] at H
 have c9b0 : decide (0 ≤ x13_1) = true := decide_eq_true c9
 clear c9
 by_cases c10 : x13_1 < (l0_1.length : Int)
 rotate_left
 {
 rw [if_neg c10] at H
 exact absurd H (by simp)
 }
 rw [if_pos c10] at H
 have c10b0 : decide (x13_1 < (l0_1.length : Int)) = true := decide_eq_true c10
 clear c10
 by_cases c11 : ((rd_T76 l0_1 x13_1).f2.f1) = 1000000
 {
 rw [if_pos c11] at H
 have c11b0 : (((rd_T76 l0_1 x13_1).f2.f1) == 1000000) = true := beq_iff_eq.mpr c11
 have c11b1 : (((rd_T76 l0_1 x13_1).f2.f1) != 1000000) = false := bne_eq_false_iff_eq.mpr c11
 clear c11
 by_cases c12 : ((rd_T76 l0_1 x13_1).f2.f0) = (-1000000)
 {
 rw [if_pos c12] at H
 have c12b0 : (((rd_T76 l0_1 x13_1).f2.f0) == (-1000000)) = true := beq_iff_eq.mpr c12
 have c12b1 : (((rd_T76 l0_1 x13_1).f2.f0) != (-1000000)) = false := bne_eq_false_iff_eq.mpr c12
 clear c12
 have H' := mK H
 clear H
 have p260 : 0 ≤ (x13_1 : Int) := of_decide_eq_true oX
 have q260 : x13_1 < (l0_1.length : Int) := of_decide_eq_true oX
 obtain ⟨ad260, e260, hx260_0, hx260_1, hx260_2, hx260_3⟩ := at_T76 HR0_1.out x13_1 p260 q260
 cases e260
 replace hx260_0 := (HB.out.cell (World.block_lt_of_cell? w _ hx260_0)).trans hx260_0
 replace hx260_1 := (HB.out.cell (World.block_lt_of_cell? w _ hx260_1)).trans hx260_1
 replace hx260_2 := (HB.out.cell (World.block_lt_of_cell? w _ hx260_2)).trans hx260_2
 replace hx260_3 := (HB.out.cell (World.block_lt_of_cell? w _ hx260_3)).trans hx260_3
 replace p260 := eq_true p260
 replace q260 := eq_true q260
 go_wp2_with (first | ((with_reducible refine gate_dst (N := 7) rfl ?_); refine bxE 7 #[.int .i64 0, .int .i64 0, .int .i64 0, .int .i64 0] 76 ?_; intro gb261 hg w13 hbox hb; replace HO_4 := mK (Kd.R_below (rX HO_4) hb); replace HO_5 := mK (Kd.R_below (rX HO_5) hb); have BK261 := mK hbox; have GW261 := mK (gX hg HB); have GE261 := mK (gX hg HB); replace HB := bB HB hb; have NB253_261 := mK (lX hg BK253); have NB261_253 := mK (mX hg BK253); replace BK253 := kB BK253 hb; clear hb hbox hg; have hnb14 := NB261_253.out; have hnc14 := NB253_261.out; have hcz15_0 := q0 BK261; have hcz15_1 := q1 BK261; have hcz15_2 := q2 BK261; have hcz15_3 := q3 BK261; have hfz15_0 := fX BK261 0; have hfz15_1 := fX BK261 1; have hfz15_2 := fX BK261 2; have hfz15_3 := fX BK261 3))
 go_roundg k1
 case measure => have := HK1.out; omega
 case rel => exact ⟨(x4_1), (x5_1), (wrap64 (x13_1 + 1)), (by first | rfl | (simp; done) | (simp [*]; done)), H', ⟨by have := HK1.out; omega⟩, ⟨rF4 HO_4 BK261⟩, ⟨rF4 HO_5 BK261⟩, ⟨kF BK253 NB253_261⟩, ⟨bX HB⟩⟩
 }
 rw [if_neg c12] at H
 have c12b0 : (((rd_T76 l0_1 x13_1).f2.f0) == (-1000000)) = false := beq_eq_false_iff_ne.mpr c12
 have c12b1 : (((rd_T76 l0_1 x13_1).f2.f0) != (-1000000)) = true := bne_iff_ne.mpr c12
 by_cases c16 : x4_1.length < 5864062014805
 rotate_left
 {
 rw [if_neg c16] at H
 exact absurd H (by simp)
 }
 rw [if_pos c16] at H
 have LMc16 := mK c16
 clear c16
 obtain ⟨y262, hy262⟩ : ∃ y_ : List (S70), y_ = (x4_1 ++ [(⟨(rd_T76 l0_1 x13_1).f1, (rd_T76 l0_1 x13_1).f0, wrap64 (-((rd_T76 l0_1 x13_1).f2.f0))⟩ : S70)]) := ⟨_, rfl⟩
 replace H : (if x5_1.length < 17592186044416 then (spec_l05Edges.l0 k1 y262 (x5_1 ++ [x13_1]) l0_1 (l0_1.length : Int) (wrap64 (x13_1 + 1))) else (none)) = some (r1, r2) := by first | (rw [hy262]; with_reducible exact H) | (have H2_ := (Option.bind_some _ _).symm.trans H; rw [hy262]; with_reducible exact H2_) | (have H2_ := (Option.bind_some _ _).symm.trans H; with_reducible exact H2_) | with_reducible exact H | (rw [hy262]; exact H) | exact H
 have Ny262 := mK hy262
 clear hy262
 by_cases c17 : x5_1.length < 17592186044416
 rotate_left
 {
 rw [if_neg c17] at H
 exact absurd H (by simp)
 }
 rw [if_pos c17] at H
 have LMc17 := mK c17
 clear c17
 obtain ⟨y265, hy265⟩ : ∃ y_ : List Int, y_ = (x5_1 ++ [x13_1]) := ⟨_, rfl⟩
 replace H : (spec_l05Edges.l0 k1 y262 y265 l0_1 (l0_1.length : Int) (wrap64 (x13_1 + 1))) = some (r1, r2) := by first | (rw [hy265]; with_reducible exact H) | (have H2_ := (Option.bind_some _ _).symm.trans H; rw [hy265]; with_reducible exact H2_) | (have H2_ := (Option.bind_some _ _).symm.trans H; with_reducible exact H2_) | with_reducible exact H | (rw [hy265]; exact H) | exact H
 have Ny265 := mK hy265
 clear hy265
 have H' := mK H
 clear H
 have p260 : 0 ≤ (x13_1 : Int) := of_decide_eq_true oX
 have q260 : x13_1 < (l0_1.length : Int) := of_decide_eq_true oX
 obtain ⟨ad260, e260, hx260_0, hx260_1, hx260_2, hx260_3⟩ := at_T76 HR0_1.out x13_1 p260 q260
 cases e260
 replace hx260_0 := (HB.out.cell (World.block_lt_of_cell? w _ hx260_0)).trans hx260_0
 replace hx260_1 := (HB.out.cell (World.block_lt_of_cell? w _ hx260_1)).trans hx260_1
 replace hx260_2 := (HB.out.cell (World.block_lt_of_cell? w _ hx260_2)).trans hx260_2
 replace hx260_3 := (HB.out.cell (World.block_lt_of_cell? w _ hx260_3)).trans hx260_3
 replace p260 := eq_true p260
 replace q260 := eq_true q260
 go_wp2_with (first | ((with_reducible refine gate_dst (N := 7) rfl ?_); refine bxE 7 #[.int .i64 0, .int .i64 0, .int .i64 0, .int .i64 0] 76 ?_; intro gb261 hg w18 hbox hb; replace HO_4 := mK (Kd.R_below (rX HO_4) hb); replace HO_5 := mK (Kd.R_below (rX HO_5) hb); have BK261 := mK hbox; have GW261 := mK (gX hg HB); have GE261 := mK (gX hg HB); replace HB := bB HB hb; have NB253_261 := mK (lX hg BK253); have NB261_253 := mK (mX hg BK253); replace BK253 := kB BK253 hb; clear hb hbox hg; have hnb19 := NB261_253.out; have hnc19 := NB253_261.out; have hcz20_0 := q0 BK261; have hcz20_1 := q1 BK261; have hcz20_2 := q2 BK261; have hcz20_3 := q3 BK261; have hfz20_0 := fX BK261 0; have hfz20_1 := fX BK261 1; have hfz20_2 := fX BK261 2; have hfz20_3 := fX BK261 3) | ((with_reducible refine gate_builtin (b := .append) (xs := #[.tmp 41, .tmp 51]) rfl ?_); at_builtin; refine Kd.R_append k70 (w0 := w) w.heap.size rfl (.tmp 41) (.tmp 51) 31 70 (.agg #[(.int .i64 0), (.int .i64 0), (.int .i64 0)]) 24 rfl Try.underlying31 info70 rfl (by decide) (by omega) u4 x4_1 (⟨(rd_T76 l0_1 x13_1).f1, (rd_T76 l0_1 x13_1).f0, wrap64 (-((rd_T76 l0_1 x13_1).f2.f0))⟩ : S70) [.int .i64 ((rd_T76 l0_1 x13_1).f1), .int .i64 ((rd_T76 l0_1 x13_1).f0), .int .i64 (wrap64 (-((rd_T76 l0_1 x13_1).f2.f0)))] (fun _ => True) (fun _ => False) rfl (by go_simp <;> rfl) ?aP (fun _ hk => hk.elim) ?aF ?aO ?aB ?aS ?aL ?_; (case aP => exact k70_mkM _ _ _ (⟨(rd_T76 l0_1 x13_1).f1, (rd_T76 l0_1 x13_1).f0, wrap64 (-((rd_T76 l0_1 x13_1).f2.f0))⟩ : S70)); (case aB => exact (bX HB)); (case aF => exact (fun _ _ => trivial)); (case aO => exact (rF4 HO_4 BK261)); (case aS => exact (below_size (bX HB))); (case aL => have := LMc16.out; omega); intro v263 w21 ho hb hg hat; rw [← Ny262.out] at ho; have n0_ := mK (Kd.R_over' (rF4 HO_5 BK261) (Kd.R_typed (rF4 HO_4 BK261)) (by decide) hg); have n1_ := mK (blk_grown (g := gb253) (o := .cells #[.int .i64 a0_0, .slice (some ad260) l0_1.length c0_1] 47 (0, 0)) (kF BK253 NB253_261) hg (Kd.R_ne HO_4.out BK253.out (by decide))); have n2_ := mK (blk_grown (g := gb261) (o := .cells #[.int .i64 ((rd_T76 l0_1 x13_1).f0), .int .i64 ((rd_T76 l0_1 x13_1).f1), .int .i64 ((rd_T76 l0_1 x13_1).f2.f0), .int .i64 ((rd_T76 l0_1 x13_1).f2.f1)] 76 (0, 0)) (kP4 BK261) hg (Kd.R_ne HO_4.out BK261.out (by decide))); have n3_ := mK (hb); have n4_ := mK (ho); clear HO_5; clear BK253; clear BK261; clear HB; clear HO_4; have HO_5 := n0_; have BK253 := n1_; have BK261 := n2_; have HB := n3_; have HO264 := n4_; clear n0_ n1_ n2_ n3_ n4_; clear ho hb hg hat) | ((with_reducible refine gate_builtin (b := .append) (xs := #[.tmp 53, .tmp 55]) rfl ?_); at_builtin; refine Kd.R_append (Kd.int .i64) (w0 := w) w.heap.size rfl (.tmp 53) (.tmp 55) 26 3 (.int .i64 0) 8 rfl Try.underlying26 info3 rfl (by decide) (by omega) u5 x5_1 x13_1 [.int .i64 x13_1] (fun _ => True) (fun _ => False) rfl rfl ?aP (fun _ hk => hk.elim) ?aF ?aO ?aB ?aS ?aL ?_; (case aP => exact rfl); (case aB => exact (bX HB)); (case aF => exact (fun _ _ => trivial)); (case aO => exact (rX HO_5)); (case aS => exact (below_size (bX HB))); (case aL => have := LMc17.out; omega); intro v266 w22 ho hb hg hat; rw [← Ny265.out] at ho; have n0_ := mK (blk_grown (kX BK253) hg (Kd.R_ne HO_5.out BK253.out (by decide))); have n1_ := mK (blk_grown (kX BK261) hg (Kd.R_ne HO_5.out BK261.out (by decide))); have n2_ := mK (Kd.R_over' (rX HO264) (Kd.R_typed (rX HO_5)) (by decide) hg); have n3_ := mK (hb); have n4_ := mK (ho); clear BK253; clear BK261; clear HO264; clear HB; clear HO_5; have BK253 := n0_; have BK261 := n1_; have HO264 := n2_; have HB := n3_; have HO267 := n4_; clear n0_ n1_ n2_ n3_ n4_; clear ho hb hg hat))
 go_roundg k1
 case measure => have := HK1.out; omega
 case rel => exact ⟨(y262), (y265), (wrap64 (x13_1 + 1)), (by first | rfl | (simp; done) | (simp [*]; done)), H', ⟨by have := HK1.out; omega⟩, ⟨rX HO264⟩, ⟨rX HO267⟩, ⟨kX BK253⟩, ⟨bX HB⟩⟩
 }
 rw [if_neg c11] at H
 have c11b0 : (((rd_T76 l0_1 x13_1).f2.f1) == 1000000) = false := beq_eq_false_iff_ne.mpr c11
 have c11b1 : (((rd_T76 l0_1 x13_1).f2.f1) != 1000000) = true := bne_iff_ne.mpr c11
 by_cases c23 : x4_1.length < 5864062014805
 rotate_left
 {
 rw [if_neg c23] at H
 exact absurd H (by simp)
 }
 rw [if_pos c23] at H
 have LMc23 := mK c23
 clear c23
 obtain ⟨y268, hy268⟩ : ∃ y_ : List (S70), y_ = (x4_1 ++ [(⟨(rd_T76 l0_1 x13_1).f0, (rd_T76 l0_1 x13_1).f1, (rd_T76 l0_1 x13_1).f2.f1⟩ : S70)]) := ⟨_, rfl⟩
 replace H : (if x5_1.length < 17592186044416 then ((some (x5_1 ++ [x13_1] : List Int)).bind fun y271 => (if ((rd_T76 l0_1 x13_1).f2.f0) = (-1000000) then (spec_l05Edges.l0 k1 y268 y271 l0_1 (l0_1.length : Int) (wrap64 (x13_1 + 1))) else (if y268.length < 5864062014805 then (if y271.length < 17592186044416 then (spec_l05Edges.l0 k1 (y268 ++ [(⟨(rd_T76 l0_1 x13_1).f1, (rd_T76 l0_1 x13_1).f0, wrap64 (-((rd_T76 l0_1 x13_1).f2.f0))⟩ : S70)]) (y271 ++ [x13_1]) l0_1 (l0_1.length : Int) (wrap64 (x13_1 + 1))) else (none)) else (none)))) else (none)) = some (r1, r2) := by first | (rw [hy268]; with_reducible exact H) | (have H2_ := (Option.bind_some _ _).symm.trans H; rw [hy268]; with_reducible exact H2_) | (have H2_ := (Option.bind_some _ _).symm.trans H; with_reducible exact H2_) | with_reducible exact H | (rw [hy268]; exact H) | exact H
 have Ny268 := mK hy268
 clear hy268
 by_cases c24 : x5_1.length < 17592186044416
 rotate_left
 {
 rw [if_neg c24] at H
 exact absurd H (by simp)
 }
 rw [if_pos c24] at H
 have LMc24 := mK c24
 clear c24
 obtain ⟨y271, hy271⟩ : ∃ y_ : List Int, y_ = (x5_1 ++ [x13_1]) := ⟨_, rfl⟩
 replace H : (if ((rd_T76 l0_1 x13_1).f2.f0) = (-1000000) then (spec_l05Edges.l0 k1 y268 y271 l0_1 (l0_1.length : Int) (wrap64 (x13_1 + 1))) else (if y268.length < 5864062014805 then (if y271.length < 17592186044416 then (spec_l05Edges.l0 k1 (y268 ++ [(⟨(rd_T76 l0_1 x13_1).f1, (rd_T76 l0_1 x13_1).f0, wrap64 (-((rd_T76 l0_1 x13_1).f2.f0))⟩ : S70)]) (y271 ++ [x13_1]) l0_1 (l0_1.length : Int) (wrap64 (x13_1 + 1))) else (none)) else (none))) = some (r1, r2) := by first | (rw [hy271]; with_reducible exact H) | (have H2_ := (Option.bind_some _ _).symm.trans H; rw [hy271]; with_reducible exact H2_) | (have H2_ := (Option.bind_some _ _).symm.trans H; with_reducible exact H2_) | with_reducible exact H | (rw [hy271]; exact H) | exact H
 have Ny271 := mK hy271
 clear hy271
 by_cases c25 : ((rd_T76 l0_1 x13_1).f2.f0) = (-1000000)
 {
 rw [if_pos c25] at H
 have c25b0 : (((rd_T76 l0_1 x13_1).f2.f0) == (-1000000)) = true := beq_iff_eq.mpr c25
 have c25b1 : (((rd_T76 l0_1 x13_1).f2.f0) != (-1000000)) = false := bne_eq_false_iff_eq.mpr c25
 clear c25
 have H' := mK H
 clear H
 have p260 : 0 ≤ (x13_1 : Int) := of_decide_eq_true oX
 have q260 : x13_1 < (l0_1.length : Int) := of_decide_eq_true oX
 obtain ⟨ad260, e260, hx260_0, hx260_1, hx260_2, hx260_3⟩ := at_T76 HR0_1.out x13_1 p260 q260
 cases e260
 replace hx260_0 := (HB.out.cell (World.block_lt_of_cell? w _ hx260_0)).trans hx260_0
 replace hx260_1 := (HB.out.cell (World.block_lt_of_cell? w _ hx260_1)).trans hx260_1
 replace hx260_2 := (HB.out.cell (World.block_lt_of_cell? w _ hx260_2)).trans hx260_2
 replace hx260_3 := (HB.out.cell (World.block_lt_of_cell? w _ hx260_3)).trans hx260_3
 replace p260 := eq_true p260
 replace q260 := eq_true q260
 go_wp2_with (first | ((with_reducible refine gate_dst (N := 7) rfl ?_); refine bxE 7 #[.int .i64 0, .int .i64 0, .int .i64 0, .int .i64 0] 76 ?_; intro gb261 hg w26 hbox hb; replace HO_4 := mK (Kd.R_below (rX HO_4) hb); replace HO_5 := mK (Kd.R_below (rX HO_5) hb); have BK261 := mK hbox; have GW261 := mK (gX hg HB); have GE261 := mK (gX hg HB); replace HB := bB HB hb; have NB253_261 := mK (lX hg BK253); have NB261_253 := mK (mX hg BK253); replace BK253 := kB BK253 hb; clear hb hbox hg; have hnb27 := NB261_253.out; have hnc27 := NB253_261.out; have hcz28_0 := q0 BK261; have hcz28_1 := q1 BK261; have hcz28_2 := q2 BK261; have hcz28_3 := q3 BK261; have hfz28_0 := fX BK261 0; have hfz28_1 := fX BK261 1; have hfz28_2 := fX BK261 2; have hfz28_3 := fX BK261 3) | ((with_reducible refine gate_builtin (b := .append) (xs := #[.tmp 22, .tmp 31]) rfl ?_); at_builtin; refine Kd.R_append k70 (w0 := w) w.heap.size rfl (.tmp 22) (.tmp 31) 31 70 (.agg #[(.int .i64 0), (.int .i64 0), (.int .i64 0)]) 24 rfl Try.underlying31 info70 rfl (by decide) (by omega) u4 x4_1 (⟨(rd_T76 l0_1 x13_1).f0, (rd_T76 l0_1 x13_1).f1, (rd_T76 l0_1 x13_1).f2.f1⟩ : S70) [.int .i64 ((rd_T76 l0_1 x13_1).f0), .int .i64 ((rd_T76 l0_1 x13_1).f1), .int .i64 ((rd_T76 l0_1 x13_1).f2.f1)] (fun _ => True) (fun _ => False) rfl (by go_simp <;> rfl) ?aP (fun _ hk => hk.elim) ?aF ?aO ?aB ?aS ?aL ?_; (case aP => exact k70_mkM _ _ _ (⟨(rd_T76 l0_1 x13_1).f0, (rd_T76 l0_1 x13_1).f1, (rd_T76 l0_1 x13_1).f2.f1⟩ : S70)); (case aB => exact (bX HB)); (case aF => exact (fun _ _ => trivial)); (case aO => exact (rF4 HO_4 BK261)); (case aS => exact (below_size (bX HB))); (case aL => have := LMc23.out; omega); intro v269 w29 ho hb hg hat; rw [← Ny268.out] at ho; have n0_ := mK (Kd.R_over' (rF4 HO_5 BK261) (Kd.R_typed (rF4 HO_4 BK261)) (by decide) hg); have n1_ := mK (blk_grown (g := gb253) (o := .cells #[.int .i64 a0_0, .slice (some ad260) l0_1.length c0_1] 47 (0, 0)) (kF BK253 NB253_261) hg (Kd.R_ne HO_4.out BK253.out (by decide))); have n2_ := mK (blk_grown (g := gb261) (o := .cells #[.int .i64 ((rd_T76 l0_1 x13_1).f0), .int .i64 ((rd_T76 l0_1 x13_1).f1), .int .i64 ((rd_T76 l0_1 x13_1).f2.f0), .int .i64 ((rd_T76 l0_1 x13_1).f2.f1)] 76 (0, 0)) (kP4 BK261) hg (Kd.R_ne HO_4.out BK261.out (by decide))); have n3_ := mK (hb); have n4_ := mK (ho); clear HO_5; clear BK253; clear BK261; clear HB; clear HO_4; have HO_5 := n0_; have BK253 := n1_; have BK261 := n2_; have HB := n3_; have HO270 := n4_; clear n0_ n1_ n2_ n3_ n4_; clear ho hb hg hat) | ((with_reducible refine gate_builtin (b := .append) (xs := #[.tmp 33, .tmp 35]) rfl ?_); at_builtin; refine Kd.R_append (Kd.int .i64) (w0 := w) w.heap.size rfl (.tmp 33) (.tmp 35) 26 3 (.int .i64 0) 8 rfl Try.underlying26 info3 rfl (by decide) (by omega) u5 x5_1 x13_1 [.int .i64 x13_1] (fun _ => True) (fun _ => False) rfl rfl ?aP (fun _ hk => hk.elim) ?aF ?aO ?aB ?aS ?aL ?_; (case aP => exact rfl); (case aB => exact (bX HB)); (case aF => exact (fun _ _ => trivial)); (case aO => exact (rX HO_5)); (case aS => exact (below_size (bX HB))); (case aL => have := LMc24.out; omega); intro v272 w30 ho hb hg hat; rw [← Ny271.out] at ho; have n0_ := mK (blk_grown (kX BK253) hg (Kd.R_ne HO_5.out BK253.out (by decide))); have n1_ := mK (blk_grown (kX BK261) hg (Kd.R_ne HO_5.out BK261.out (by decide))); have n2_ := mK (Kd.R_over' (rX HO270) (Kd.R_typed (rX HO_5)) (by decide) hg); have n3_ := mK (hb); have n4_ := mK (ho); clear BK253; clear BK261; clear HO270; clear HB; clear HO_5; have BK253 := n0_; have BK261 := n1_; have HO270 := n2_; have HB := n3_; have HO273 := n4_; clear n0_ n1_ n2_ n3_ n4_; clear ho hb hg hat; have hcz31_0 := q0 BK261; have hcz31_1 := q1 BK261; have hcz31_2 := q2 BK261; have hcz31_3 := q3 BK261; have hfz31_0 := fX BK261 0; have hfz31_1 := fX BK261 1; have hfz31_2 := fX BK261 2; have hfz31_3 := fX BK261 3))
 go_roundg k1
 case measure => have := HK1.out; omega
 case rel => exact ⟨(y268), (y271), (wrap64 (x13_1 + 1)), (by first | rfl | (simp; done) | (simp [*]; done)), H', ⟨by have := HK1.out; omega⟩, ⟨rX HO270⟩, ⟨rX HO273⟩, ⟨kX BK253⟩, ⟨bX HB⟩⟩
 }
 rw [if_neg c25] at H
 have c25b0 : (((rd_T76 l0_1 x13_1).f2.f0) == (-1000000)) = false := beq_eq_false_iff_ne.mpr c25
 have c25b1 : (((rd_T76 l0_1 x13_1).f2.f0) != (-1000000)) = true := bne_iff_ne.mpr c25
 by_cases c32 : y268.length < 5864062014805
 rotate_left
 {
 rw [if_neg c32] at H
 exact absurd H (by simp)
 }
 rw [if_pos c32] at H
 have LMc32 := mK c32
 clear c32
 obtain ⟨y274, hy274⟩ : ∃ y_ : List (S70), y_ = (y268 ++ [(⟨(rd_T76 l0_1 x13_1).f1, (rd_T76 l0_1 x13_1).f0, wrap64 (-((rd_T76 l0_1 x13_1).f2.f0))⟩ : S70)]) := ⟨_, rfl⟩
 replace H : (if y271.length < 17592186044416 then (spec_l05Edges.l0 k1 y274 (y271 ++ [x13_1]) l0_1 (l0_1.length : Int) (wrap64 (x13_1 + 1))) else (none)) = some (r1, r2) := by first | (rw [hy274]; with_reducible exact H) | (have H2_ := (Option.bind_some _ _).symm.trans H; rw [hy274]; with_reducible exact H2_) | (have H2_ := (Option.bind_some _ _).symm.trans H; with_reducible exact H2_) | with_reducible exact H | (rw [hy274]; exact H) | exact H
 have Ny274 := mK hy274
 clear hy274
 by_cases c33 : y271.length < 17592186044416
 rotate_left
 {
 rw [if_neg c33] at H
 exact absurd H (by simp)
 }
 rw [if_pos c33] at H
 have LMc33 := mK c33
 clear c33
 obtain ⟨y277, hy277⟩ : ∃ y_ : List Int, y_ = (y271 ++ [x13_1]) := ⟨_, rfl⟩
 replace H : (spec_l05Edges.l0 k1 y274 y277 l0_1 (l0_1.length : Int) (wrap64 (x13_1 + 1))) = some (r1, r2) := by first | (rw [hy277]; with_reducible exact H) | (have H2_ := (Option.bind_some _ _).symm.trans H; rw [hy277]; with_reducible exact H2_) | (have H2_ := (Option.bind_some _ _).symm.trans H; with_reducible exact H2_) | with_reducible exact H | (rw [hy277]; exact H) | exact H
 have Ny277 := mK hy277
 clear hy277
 have H' := mK H
 clear H
 have p260 : 0 ≤ (x13_1 : Int) := of_decide_eq_true oX
 have q260 : x13_1 < (l0_1.length : Int) := of_decide_eq_true oX
 obtain ⟨ad260, e260, hx260_0, hx260_1, hx260_2, hx260_3⟩ := at_T76 HR0_1.out x13_1 p260 q260
 cases e260
 replace hx260_0 := (HB.out.cell (World.block_lt_of_cell? w _ hx260_0)).trans hx260_0
 replace hx260_1 := (HB.out.cell (World.block_lt_of_cell? w _ hx260_1)).trans hx260_1
 replace hx260_2 := (HB.out.cell (World.block_lt_of_cell? w _ hx260_2)).trans hx260_2
 replace hx260_3 := (HB.out.cell (World.block_lt_of_cell? w _ hx260_3)).trans hx260_3
 replace p260 := eq_true p260
 replace q260 := eq_true q260
 go_wp2_with (first | ((with_reducible refine gate_dst (N := 7) rfl ?_); refine bxE 7 #[.int .i64 0, .int .i64 0, .int .i64 0, .int .i64 0] 76 ?_; intro gb261 hg w34 hbox hb; replace HO_4 := mK (Kd.R_below (rX HO_4) hb); replace HO_5 := mK (Kd.R_below (rX HO_5) hb); have BK261 := mK hbox; have GW261 := mK (gX hg HB); have GE261 := mK (gX hg HB); replace HB := bB HB hb; have NB253_261 := mK (lX hg BK253); have NB261_253 := mK (mX hg BK253); replace BK253 := kB BK253 hb; clear hb hbox hg; have hnb35 := NB261_253.out; have hnc35 := NB253_261.out; have hcz36_0 := q0 BK261; have hcz36_1 := q1 BK261; have hcz36_2 := q2 BK261; have hcz36_3 := q3 BK261; have hfz36_0 := fX BK261 0; have hfz36_1 := fX BK261 1; have hfz36_2 := fX BK261 2; have hfz36_3 := fX BK261 3) | ((with_reducible refine gate_builtin (b := .append) (xs := #[.tmp 22, .tmp 31]) rfl ?_); at_builtin; refine Kd.R_append k70 (w0 := w) w.heap.size rfl (.tmp 22) (.tmp 31) 31 70 (.agg #[(.int .i64 0), (.int .i64 0), (.int .i64 0)]) 24 rfl Try.underlying31 info70 rfl (by decide) (by omega) u4 x4_1 (⟨(rd_T76 l0_1 x13_1).f0, (rd_T76 l0_1 x13_1).f1, (rd_T76 l0_1 x13_1).f2.f1⟩ : S70) [.int .i64 ((rd_T76 l0_1 x13_1).f0), .int .i64 ((rd_T76 l0_1 x13_1).f1), .int .i64 ((rd_T76 l0_1 x13_1).f2.f1)] (fun _ => True) (fun _ => False) rfl (by go_simp <;> rfl) ?aP (fun _ hk => hk.elim) ?aF ?aO ?aB ?aS ?aL ?_; (case aP => exact k70_mkM _ _ _ (⟨(rd_T76 l0_1 x13_1).f0, (rd_T76 l0_1 x13_1).f1, (rd_T76 l0_1 x13_1).f2.f1⟩ : S70)); (case aB => exact (bX HB)); (case aF => exact (fun _ _ => trivial)); (case aO => exact (rF4 HO_4 BK261)); (case aS => exact (below_size (bX HB))); (case aL => have := LMc23.out; omega); intro v269 w37 ho hb hg hat; rw [← Ny268.out] at ho; have n0_ := mK (Kd.R_over' (rF4 HO_5 BK261) (Kd.R_typed (rF4 HO_4 BK261)) (by decide) hg); have n1_ := mK (blk_grown (g := gb253) (o := .cells #[.int .i64 a0_0, .slice (some ad260) l0_1.length c0_1] 47 (0, 0)) (kF BK253 NB253_261) hg (Kd.R_ne HO_4.out BK253.out (by decide))); have n2_ := mK (blk_grown (g := gb261) (o := .cells #[.int .i64 ((rd_T76 l0_1 x13_1).f0), .int .i64 ((rd_T76 l0_1 x13_1).f1), .int .i64 ((rd_T76 l0_1 x13_1).f2.f0), .int .i64 ((rd_T76 l0_1 x13_1).f2.f1)] 76 (0, 0)) (kP4 BK261) hg (Kd.R_ne HO_4.out BK261.out (by decide))); have n3_ := mK (hb); have n4_ := mK (ho); clear HO_5; clear BK253; clear BK261; clear HB; clear HO_4; have HO_5 := n0_; have BK253 := n1_; have BK261 := n2_; have HB := n3_; have HO270 := n4_; clear n0_ n1_ n2_ n3_ n4_; clear ho hb hg hat) | ((with_reducible refine gate_builtin (b := .append) (xs := #[.tmp 33, .tmp 35]) rfl ?_); at_builtin; refine Kd.R_append (Kd.int .i64) (w0 := w) w.heap.size rfl (.tmp 33) (.tmp 35) 26 3 (.int .i64 0) 8 rfl Try.underlying26 info3 rfl (by decide) (by omega) u5 x5_1 x13_1 [.int .i64 x13_1] (fun _ => True) (fun _ => False) rfl rfl ?aP (fun _ hk => hk.elim) ?aF ?aO ?aB ?aS ?aL ?_; (case aP => exact rfl); (case aB => exact (bX HB)); (case aF => exact (fun _ _ => trivial)); (case aO => exact (rX HO_5)); (case aS => exact (below_size (bX HB))); (case aL => have := LMc24.out; omega); intro v272 w38 ho hb hg hat; rw [← Ny271.out] at ho; have n0_ := mK (blk_grown (kX BK253) hg (Kd.R_ne HO_5.out BK253.out (by decide))); have n1_ := mK (blk_grown (kX BK261) hg (Kd.R_ne HO_5.out BK261.out (by decide))); have n2_ := mK (Kd.R_over' (rX HO270) (Kd.R_typed (rX HO_5)) (by decide) hg); have n3_ := mK (hb); have n4_ := mK (ho); clear BK253; clear BK261; clear HO270; clear HB; clear HO_5; have BK253 := n0_; have BK261 := n1_; have HO270 := n2_; have HB := n3_; have HO273 := n4_; clear n0_ n1_ n2_ n3_ n4_; clear ho hb hg hat; have hcz39_0 := q0 BK261; have hcz39_1 := q1 BK261; have hcz39_2 := q2 BK261; have hcz39_3 := q3 BK261; have hfz39_0 := fX BK261 0; have hfz39_1 := fX BK261 1; have hfz39_2 := fX BK261 2; have hfz39_3 := fX BK261 3) | ((with_reducible refine gate_builtin (b := .append) (xs := #[.tmp 41, .tmp 51]) rfl ?_); at_builtin; refine Kd.R_append k70 (w0 := w) w.heap.size rfl (.tmp 41) (.tmp 51) 31 70 (.agg #[(.int .i64 0), (.int .i64 0), (.int .i64 0)]) 24 rfl Try.underlying31 info70 rfl (by decide) (by omega) v269 y268 (⟨(rd_T76 l0_1 x13_1).f1, (rd_T76 l0_1 x13_1).f0, wrap64 (-((rd_T76 l0_1 x13_1).f2.f0))⟩ : S70) [.int .i64 ((rd_T76 l0_1 x13_1).f1), .int .i64 ((rd_T76 l0_1 x13_1).f0), .int .i64 (wrap64 (-((rd_T76 l0_1 x13_1).f2.f0)))] (fun _ => True) (fun _ => False) rfl rfl ?aP (fun _ hk => hk.elim) ?aF ?aO ?aB ?aS ?aL ?_; (case aP => exact k70_mkM _ _ _ (⟨(rd_T76 l0_1 x13_1).f1, (rd_T76 l0_1 x13_1).f0, wrap64 (-((rd_T76 l0_1 x13_1).f2.f0))⟩ : S70)); (case aB => exact (bX HB)); (case aF => exact (fun _ _ => trivial)); (case aO => exact (rX HO270)); (case aS => exact (below_size (bX HB))); (case aL => have := LMc32.out; omega); intro v275 w40 ho hb hg hat; rw [← Ny274.out] at ho; have n0_ := mK (blk_grown (kX BK253) hg (Kd.R_ne HO270.out BK253.out (by decide))); have n1_ := mK (blk_grown (kX BK261) hg (Kd.R_ne HO270.out BK261.out (by decide))); have n2_ := mK (Kd.R_over' (rX HO273) (Kd.R_typed (rX HO270)) (by decide) hg); have n3_ := mK (hb); have n4_ := mK (ho); clear BK253; clear BK261; clear HO273; clear HB; clear HO270; have BK253 := n0_; have BK261 := n1_; have HO273 := n2_; have HB := n3_; have HO276 := n4_; clear n0_ n1_ n2_ n3_ n4_; clear ho hb hg hat) | ((with_reducible refine gate_builtin (b := .append) (xs := #[.tmp 53, .tmp 55]) rfl ?_); at_builtin; refine Kd.R_append (Kd.int .i64) (w0 := w) w.heap.size rfl (.tmp 53) (.tmp 55) 26 3 (.int .i64 0) 8 rfl Try.underlying26 info3 rfl (by decide) (by omega) v272 y271 x13_1 [.int .i64 x13_1] (fun _ => True) (fun _ => False) rfl rfl ?aP (fun _ hk => hk.elim) ?aF ?aO ?aB ?aS ?aL ?_; (case aP => exact rfl); (case aB => exact (bX HB)); (case aF => exact (fun _ _ => trivial)); (case aO => exact (rX HO273)); (case aS => exact (below_size (bX HB))); (case aL => have := LMc33.out; omega); intro v278 w41 ho hb hg hat; rw [← Ny277.out] at ho; have n0_ := mK (blk_grown (kX BK253) hg (Kd.R_ne HO273.out BK253.out (by decide))); have n1_ := mK (blk_grown (kX BK261) hg (Kd.R_ne HO273.out BK261.out (by decide))); have n2_ := mK (Kd.R_over' (rX HO276) (Kd.R_typed (rX HO273)) (by decide) hg); have n3_ := mK (hb); have n4_ := mK (ho); clear BK253; clear BK261; clear HO276; clear HB; clear HO273; have BK253 := n0_; have BK261 := n1_; have HO276 := n2_; have HB := n3_; have HO279 := n4_; clear n0_ n1_ n2_ n3_ n4_; clear ho hb hg hat))
 go_roundg k1
 case measure => have := HK1.out; omega
 case rel => exact ⟨(y274), (y277), (wrap64 (x13_1 + 1)), (by first | rfl | (simp; done) | (simp [*]; done)), H', ⟨by have := HK1.out; omega⟩, ⟨rX HO276⟩, ⟨rX HO279⟩, ⟨kX BK253⟩, ⟨bX HB⟩⟩
 )
 )

/-! ### spec_GraphOf: function 65 -/
def spec_GraphOf.f (k : Nat) (a0_0 : Int) (l0_1 : List (S76)) : Option (Int × (List (S70))) := (spec_SimpleOk.f k a0_0 l0_1).bind fun t282 => (if t282 = true then ((spec_l05Edges.f k a0_0 l0_1).bind fun bt283 => (some (a0_0, bt283.1))) else (some (0, ([] : List (S70)))))
theorem spec_GraphOf.mono : ∀ a0 a1 k, LeO (spec_GraphOf.f k a0 a1) (spec_GraphOf.f (k + 1) a0 a1) := by
  intro a0 a1 k
  unfold spec_GraphOf.f
  repeat' first|(with_reducible first|exact spec_SimpleOk.mono _ _ _|exact spec_l05Edges.mono _ _ _|exact lR _|exact lN _|refine lI ?_ ?_|refine lB ?_ (fun _ => ?_))|exact spec_SimpleOk.mono _ _ _|exact spec_l05Edges.mono _ _ _|exact lN _|refine lI ?_ ?_|refine lB ?_ (fun _ => ?_)
set_option maxHeartbeats 8000000 in
set_option maxRecDepth 100000 in
theorem spec_GraphOf.calls (k : Nat) (a0_0 : Int) (A0_1 : Option Addr) (c0_1 : Nat) (l0_1 : List (S76)) (r1 : Int) (r2 : List (S70)) (w : World) (hr0_1 : Kd.C k76 w A0_1 l0_1.length l0_1) (hc0_1 : l0_1.length ≤ c0_1) (h : spec_GraphOf.f k a0_0 l0_1 = some (r1, r2)) :
    Calls Try.prog 65 #[.agg #[.int .i64 a0_0, .slice A0_1 l0_1.length c0_1]] w fun e w' => ∃ v1_ : Value, e = .returned (.agg #[.int .i64 r1, v1_]) ∧ Kd.R k70 70 w' w.heap.size (fun _ => True) v1_ r2 ∧ Below w.heap.size w w' := by
  have hu47 := Try.underlying47
  have hu33 := Try.underlying33
  have HR0_1 := mK hr0_1
  have HC0_1 := mK hc0_1
  clear hr0_1 hc0_1
  have HB := mK (Below.refl w.heap.size w)
  have H : ((spec_SimpleOk.f k a0_0 l0_1).bind fun t282 => (if t282 = true then ((spec_l05Edges.f k a0_0 l0_1).bind fun bt283 => (some (a0_0, bt283.1))) else (some (0, ([] : List (S70)))))) = some (r1, r2) := h
  clear h
  replace H := Option.bind_eq_some_iff.mp H
  obtain ⟨t282, A20, H⟩ := H
  replace H : (if t282 = true then ((spec_l05Edges.f k a0_0 l0_1).bind fun bt283 => (some (a0_0, bt283.1))) else (some (0, ([] : List (S70))))) = some (r1, r2) := H
  have A2 := mK A20
  clear A20
  by_cases c3 : t282 = true
  rotate_left
  · replace c3 := Bool.eq_false_iff.mpr c3
    subst c3
    rw [if_neg (show ¬ (false = true) by decide)] at H
    simp only [Option.some.injEq, Prod.mk.injEq] at H
    obtain ⟨rfl, rfl⟩ := H
    go_enter Try.func65, Try.ntmps65
    go_wp2_with (first | ((with_reducible refine gate_dst (N := 1) rfl ?_); refine bxE 1 #[.int .i64 a0_0, .slice A0_1 l0_1.length c0_1] 47 ?_; intro gb280 hg w15 hbox hb; have BK280 := mK hbox; have GW280 := mK (gX hg HB); have GE280 := mK (gX hg HB); replace HB := bB HB hb; clear hb hbox hg) | ((with_reducible refine gate_dst (N := 2) rfl ?_); refine bxE 2 #[.int .i64 0, .slice none 0 0] 33 ?_; intro gb281 hg w16 hbox hb; have BK281 := mK hbox; have GW281 := mK (gX hg HB); have GE281 := mK (gX hg HB); replace HB := bB HB hb; have NB280_281 := mK (lX hg BK280); have NB281_280 := mK (mX hg BK280); replace BK280 := kB BK280 hb; clear hb hbox hg; have hnb17 := NB280_281.out; have hnc17 := NB281_280.out; have hcz18_0 := q0 BK280; have hcz18_1 := q1 BK280; have hfz18_0 := fX BK280 0; have hfz18_1 := fX BK280 1) | ((with_reducible refine gate_callee (f := 63) rfl ?_); refine gsE (some 6) Try.func63 #[.agg #[.int .i64 a0_0, .slice A0_1 l0_1.length c0_1]] ?_; (with_reducible refine (spec_SimpleOk.calls k a0_0 _ _ l0_1 false _ ?side1 ?side2 A2.out).mono ?_); (case side1 => exact cX HR0_1 HB); (case side2 => exact HC0_1.out); rintro e w19 ⟨rfl, hb⟩; refine ⟨_, rfl, ?_⟩; replace BK280 := kB BK280 hb; replace BK281 := kB BK281 hb; replace HB := bB HB hb; (try clear hb); (try clear hb2); (try clear hk); (try clear hi); have hcz20_0 := q0 BK281; have hcz20_1 := q1 BK281; have hfz20_0 := fX BK281 0; have hfz20_1 := fX BK281 1))
    refine bodyPost_ret (results_cell_row rfl _ _ gb281 33 #[.int .i64 0, .slice none 0 0] (0, 0) _ rfl (kP2 BK281) Try.underlying33 rfl (by kernel_rfl)) rfl ?_
    exact ⟨_, by first | rfl | (simp [errW_none, errW_some] <;> rfl) | (simp [*, errW_none, errW_some] <;> rfl), by first | exact Kd.R_nil _ _ _ _ _ | exact Kd.N_nil _ _ _ _ _ | exact Kd.V_nil _ _ _ _ _ | exact Kd.Q_nil _ _ _ _ _ | exact Kd.S_nil _ _ _ _ _, bX HB⟩
  subst c3
  rw [if_pos rfl] at H
  replace H := Option.bind_eq_some_iff.mp H
  obtain ⟨⟨t283, t286⟩, A40, H⟩ := H
  replace H : (some (a0_0, t283)) = some (r1, r2) := H
  have A4 := mK A40
  clear A40
  simp only [Option.some.injEq, Prod.mk.injEq] at H
  obtain ⟨rfl, rfl⟩ := H
  go_enter Try.func65, Try.ntmps65
  go_wp2_with (first | ((with_reducible refine gate_dst (N := 1) rfl ?_); refine bxE 1 #[.int .i64 a0_0, .slice A0_1 l0_1.length c0_1] 47 ?_; intro gb280 hg w5 hbox hb; have BK280 := mK hbox; have GW280 := mK (gX hg HB); have GE280 := mK (gX hg HB); replace HB := bB HB hb; clear hb hbox hg) | ((with_reducible refine gate_dst (N := 2) rfl ?_); refine bxE 2 #[.int .i64 0, .slice none 0 0] 33 ?_; intro gb281 hg w6 hbox hb; have BK281 := mK hbox; have GW281 := mK (gX hg HB); have GE281 := mK (gX hg HB); replace HB := bB HB hb; have NB280_281 := mK (lX hg BK280); have NB281_280 := mK (mX hg BK280); replace BK280 := kB BK280 hb; clear hb hbox hg; have hnb7 := NB280_281.out; have hnc7 := NB281_280.out; have hcz8_0 := q0 BK280; have hcz8_1 := q1 BK280; have hfz8_0 := fX BK280 0; have hfz8_1 := fX BK280 1) | ((with_reducible refine gate_callee (f := 63) rfl ?_); refine gsE (some 6) Try.func63 #[.agg #[.int .i64 a0_0, .slice A0_1 l0_1.length c0_1]] ?_; (with_reducible refine (spec_SimpleOk.calls k a0_0 _ _ l0_1 true _ ?side1 ?side2 A2.out).mono ?_); (case side1 => exact cX HR0_1 HB); (case side2 => exact HC0_1.out); rintro e w9 ⟨rfl, hb⟩; refine ⟨_, rfl, ?_⟩; replace BK280 := kB BK280 hb; replace BK281 := kB BK281 hb; replace HB := bB HB hb; (try clear hb); (try clear hb2); (try clear hk); (try clear hi); have hcz10_0 := q0 BK280; have hcz10_1 := q1 BK280; have hfz10_0 := fX BK280 0; have hfz10_1 := fX BK280 1) | ((with_reducible refine gate_callee (f := 101) rfl ?_); refine gsE (some 11) Try.func101 #[.agg #[.int .i64 a0_0, .slice A0_1 l0_1.length c0_1]] ?_; (with_reducible refine (spec_l05Edges.calls k a0_0 _ _ l0_1 t283 t286 _ ?side1 ?side2 A4.out).mono ?_); (case side1 => exact cX HR0_1 HB); (case side2 => exact HC0_1.out); rintro e w11 ⟨v284, v287, rfl, ho0, ho1, hb⟩; refine ⟨_, rfl, ?_⟩; have HO285 := mK (Kd.R_lower ho0 (below_size (bX HB))); have HO288 := mK (Kd.R_lower ho1 (below_size (bX HB))); replace BK280 := kB BK280 hb; replace BK281 := kB BK281 hb; replace HB := bB HB hb; (try clear hb); (try clear hb2); (try clear hk); (try clear hi); (try clear ho0); (try clear ho1); have hcz12_0 := q0 BK280; have hcz12_1 := q1 BK280; have hfz12_0 := fX BK280 0; have hfz12_1 := fX BK280 1; obtain ⟨Ao13, co13, eo13⟩ := Kd.R_slice HO285.out; subst eo13; have hcz14_0 := q0 BK281; have hcz14_1 := q1 BK281; have hfz14_0 := fX BK281 0; have hfz14_1 := fX BK281 1))
  refine bodyPost_ret (results_cell_row rfl _ _ gb281 33 #[.int .i64 a0_0, .slice Ao13 t283.length co13] (0, 0) _ rfl (kP2 BK281) Try.underlying33 rfl (by kernel_rfl)) rfl ?_
  exact ⟨_, by first | rfl | (simp [errW_none, errW_some] <;> rfl) | (simp [*, errW_none, errW_some] <;> rfl), rF2 HO285 BK281, bX HB⟩

/-! ### spec_IsConsistent: function 22 -/
def spec_IsConsistent.f (k : Nat) (a0_0 : Int) (l0_1 : List (S76)) : Option (Bool) := (spec_SimpleOk.f k a0_0 l0_1).bind fun t290 => (if t290 = true then ((spec_GraphOf.f k a0_0 l0_1).bind fun bt291 => ((spec_NegativeCycle.f k bt291.1 bt291.2).bind fun t295 => (some ((t295.length : Int) == 0)))) else (some false))
theorem spec_IsConsistent.mono : ∀ a0 a1 k, LeO (spec_IsConsistent.f k a0 a1) (spec_IsConsistent.f (k + 1) a0 a1) := by
  intro a0 a1 k
  unfold spec_IsConsistent.f
  repeat' first|(with_reducible first|exact spec_GraphOf.mono _ _ _|exact spec_NegativeCycle.mono _ _ _|exact spec_SimpleOk.mono _ _ _|exact lR _|exact lN _|refine lI ?_ ?_|refine lB ?_ (fun _ => ?_))|exact spec_GraphOf.mono _ _ _|exact spec_NegativeCycle.mono _ _ _|exact spec_SimpleOk.mono _ _ _|exact lN _|refine lI ?_ ?_|refine lB ?_ (fun _ => ?_)
set_option maxHeartbeats 8000000 in
set_option maxRecDepth 100000 in
theorem spec_IsConsistent.calls (k : Nat) (a0_0 : Int) (A0_1 : Option Addr) (c0_1 : Nat) (l0_1 : List (S76)) (r : Bool) (w : World) (hr0_1 : Kd.C k76 w A0_1 l0_1.length l0_1) (hc0_1 : l0_1.length ≤ c0_1) (h : spec_IsConsistent.f k a0_0 l0_1 = some r) :
    Calls Try.prog 22 #[.agg #[.int .i64 a0_0, .slice A0_1 l0_1.length c0_1]] w fun e w' => e = .returned (.bool r) ∧ Below w.heap.size w w' := by
  have hu47 := Try.underlying47
  have HR0_1 := mK hr0_1
  have HC0_1 := mK hc0_1
  clear hr0_1 hc0_1
  have HB := mK (Below.refl w.heap.size w)
  have H : ((spec_SimpleOk.f k a0_0 l0_1).bind fun t290 => (if t290 = true then ((spec_GraphOf.f k a0_0 l0_1).bind fun bt291 => ((spec_NegativeCycle.f k bt291.1 bt291.2).bind fun t295 => (some ((t295.length : Int) == 0)))) else (some false))) = some r := h
  clear h
  replace H := Option.bind_eq_some_iff.mp H
  obtain ⟨t290, A20, H⟩ := H
  replace H : (if t290 = true then ((spec_GraphOf.f k a0_0 l0_1).bind fun bt291 => ((spec_NegativeCycle.f k bt291.1 bt291.2).bind fun t295 => (some ((t295.length : Int) == 0)))) else (some false)) = some r := H
  have A2 := mK A20
  clear A20
  by_cases c3 : t290 = true
  rotate_left
  · replace c3 := Bool.eq_false_iff.mpr c3
    subst c3
    rw [if_neg (show ¬ (false = true) by decide)] at H
    obtain rfl := Option.some.inj H
    go_enter Try.func22, Try.ntmps22
    go_wp2_with (first | ((with_reducible refine gate_dst (N := 1) rfl ?_); (try (refine gate_guard (by rfl) ?_; dsimp only)); refine box_event ?hg (N := 1) ?hd (cs := #[.int .i64 a0_0, .slice A0_1 l0_1.length c0_1]) (t := 47) ?hr ?_; (case hd => rfl); (case hg => rfl); (case hr => go_simp <;> rfl); intro gb289 hg w14 hbox hb; have BK289 := mK hbox; have GW289 := mK (gX hg HB); have GE289 := mK (gX hg HB); replace HB := bB HB hb; clear hb hbox hg; have hcz15_0 := q0 BK289; have hcz15_1 := q1 BK289; have hfz15_0 := fX BK289 0; have hfz15_1 := fX BK289 1) | ((with_reducible refine gate_callee (f := 63) rfl ?_); refine gsE (some 4) Try.func63 #[.agg #[.int .i64 a0_0, .slice A0_1 l0_1.length c0_1]] ?_; (with_reducible refine (spec_SimpleOk.calls k a0_0 _ _ l0_1 false _ ?side1 ?side2 A2.out).mono ?_); (case side1 => exact cX HR0_1 HB); (case side2 => exact HC0_1.out); rintro e w16 ⟨rfl, hb⟩; refine ⟨_, rfl, ?_⟩; replace BK289 := kB BK289 hb; replace HB := bB HB hb; (try clear hb); (try clear hb2); (try clear hk); (try clear hi)))
    go_ret
    exact ⟨by first | rfl | (simp [errW_none, errW_some] <;> rfl) | (simp [*, errW_none, errW_some] <;> rfl), bX HB⟩
  subst c3
  rw [if_pos rfl] at H
  replace H := Option.bind_eq_some_iff.mp H
  obtain ⟨⟨t291, t292⟩, A40, H⟩ := H
  replace H : ((spec_NegativeCycle.f k t291 t292).bind fun t295 => (some ((t295.length : Int) == 0))) = some r := H
  have A4 := mK A40
  clear A40
  replace H := Option.bind_eq_some_iff.mp H
  obtain ⟨t295, A50, H⟩ := H
  replace H : (some ((t295.length : Int) == 0)) = some r := H
  have A5 := mK A50
  clear A50
  obtain rfl := Option.some.inj H
  go_enter Try.func22, Try.ntmps22
  go_wp2_with (first | ((with_reducible refine gate_dst (N := 1) rfl ?_); (try (refine gate_guard (by rfl) ?_; dsimp only)); refine box_event ?hg (N := 1) ?hd (cs := #[.int .i64 a0_0, .slice A0_1 l0_1.length c0_1]) (t := 47) ?hr ?_; (case hd => rfl); (case hg => rfl); (case hr => go_simp <;> rfl); intro gb289 hg w6 hbox hb; have BK289 := mK hbox; have GW289 := mK (gX hg HB); have GE289 := mK (gX hg HB); replace HB := bB HB hb; clear hb hbox hg; have hcz7_0 := q0 BK289; have hcz7_1 := q1 BK289; have hfz7_0 := fX BK289 0; have hfz7_1 := fX BK289 1) | ((with_reducible refine gate_callee (f := 63) rfl ?_); refine gsE (some 4) Try.func63 #[.agg #[.int .i64 a0_0, .slice A0_1 l0_1.length c0_1]] ?_; (with_reducible refine (spec_SimpleOk.calls k a0_0 _ _ l0_1 true _ ?side1 ?side2 A2.out).mono ?_); (case side1 => exact cX HR0_1 HB); (case side2 => exact HC0_1.out); rintro e w8 ⟨rfl, hb⟩; refine ⟨_, rfl, ?_⟩; replace BK289 := kB BK289 hb; replace HB := bB HB hb; (try clear hb); (try clear hb2); (try clear hk); (try clear hi); have hcz9_0 := q0 BK289; have hcz9_1 := q1 BK289; have hfz9_0 := fX BK289 0; have hfz9_1 := fX BK289 1) | (go_at_call 65; (with_reducible refine (spec_GraphOf.calls k a0_0 _ _ l0_1 t291 t292 _ ?side1 ?side2 A4.out).mono ?_); (case side1 => exact cX HR0_1 HB); (case side2 => exact HC0_1.out); rintro e w10 ⟨v293, rfl, ho0, hb⟩; have HO294 := mK (Kd.R_lower ho0 (below_size (bX HB))); replace BK289 := kB BK289 hb; replace HB := bB HB hb; (try clear hb); (try clear hb2); (try clear hk); (try clear hi); (try clear ho0); obtain ⟨Ao11, co11, eo11⟩ := Kd.R_slice HO294.out; subst eo11) | (go_at_call 64; (with_reducible refine (spec_NegativeCycle.calls k t291 _ _ t292 t295 _ ?side1 ?side2 A5.out).mono ?_); (case side1 => repeat (first | exact (Kd.R_reads' HO294.out).2.2 | (with_reducible refine Kd.C_alloc ?_ _) | (with_reducible refine Kd.C_drewN ?_ _) | (with_reducible refine Kd.C_drew ?_))); (case side2 => exact (Kd.R_reads' HO294.out).2.1); rintro e w12 ⟨v296, rfl, ho0, hb⟩; replace HO294 := mK (Kd.R_below (rX HO294) hb); have HO297 := mK (Kd.R_lower ho0 (below_size (bX HB))); replace BK289 := kB BK289 hb; replace HB := bB HB hb; (try clear hb); (try clear hb2); (try clear hk); (try clear hi); (try clear ho0); obtain ⟨Ao13, co13, eo13⟩ := Kd.R_slice HO297.out; subst eo13))
  go_ret
  exact ⟨by first | rfl | (simp [errW_none, errW_some] <;> rfl) | (simp [*, errW_none, errW_some] <;> rfl), bX HB⟩

/-! ### spec_TableOk: function 104 -/
mutual
def spec_TableOk.j0 : Nat → Bool → Int → List Int → Option (Bool)
  | 0, _, _, _ => none
  | k + 1, x19, x299000, x299001 => if x19 = true then (some false) else (spec_TableOk.l0 k x299001 (x299001.length : Int) 0 x299000 x299001)
def spec_TableOk.l0 : Nat → List Int → Int → Int → Int → List Int → Option (Bool)
  | 0, _, _, _, _, _ => none
  | k + 1, x21, x22, x23, x299000, x299001 => if x23 < x22 then (if 0 ≤ x23 then (if x23 < (x21.length : Int) then ((spec_l01In.f (rd x21 x23) (-1000000) 1000000).bind fun t301 => (if t301 = true then (if (wrap64 (x299000 + 1)) = 0 then (none) else (if (Int.tmod x23 (wrap64 (x299000 + 1))) = 0 then (if (rd x21 x23) = 0 then (spec_TableOk.l0 k x21 x22 (wrap64 (x23 + 1)) x299000 x299001) else (some false)) else (spec_TableOk.l0 k x21 x22 (wrap64 (x23 + 1)) x299000 x299001))) else (some false))) else (none)) else (none)) else (some true)
end
def spec_TableOk.f (k : Nat) (a0_0 : Int) (l0_1 : List Int) : Option (Bool) := (spec_l01In.f a0_0 0 8).bind fun t299 => (if t299 = true then (spec_TableOk.j0 k ((l0_1.length : Int) != (wrap64 (a0_0 * a0_0))) a0_0 l0_1) else (spec_TableOk.j0 k true a0_0 l0_1))
theorem spec_TableOk.mono_l : ∀ k, (∀ y0 y1 y2, LeO (spec_TableOk.j0 k y0 y1 y2) (spec_TableOk.j0 (k + 1) y0 y1 y2)) ∧ (∀ y0 y1 y2 y3 y4, LeO (spec_TableOk.l0 k y0 y1 y2 y3 y4) (spec_TableOk.l0 (k + 1) y0 y1 y2 y3 y4))
  | 0 => ⟨fun _ _ _ r h => by simp [spec_TableOk.j0] at h, fun _ _ _ _ _ r h => by simp [spec_TableOk.l0] at h⟩
  | k + 1 => by
    obtain ⟨ih0, ih1⟩ := spec_TableOk.mono_l k
    refine ⟨?_, ?_⟩
    · intro y0 y1 y2
      unfold spec_TableOk.j0
      repeat' first|(with_reducible first|exact ih0 _ _ _|exact ih1 _ _ _ _ _|exact lR _|exact lN _|refine lI ?_ ?_|refine lB ?_ (fun _ => ?_))|exact ih0 _ _ _|exact ih1 _ _ _ _ _|exact lN _|refine lI ?_ ?_|refine lB ?_ (fun _ => ?_)
    · intro y0 y1 y2 y3 y4
      unfold spec_TableOk.l0
      repeat' first|(with_reducible first|exact ih0 _ _ _|exact ih1 _ _ _ _ _|exact lR _|exact lN _|refine lI ?_ ?_|refine lB ?_ (fun _ => ?_))|exact ih0 _ _ _|exact ih1 _ _ _ _ _|exact lN _|refine lI ?_ ?_|refine lB ?_ (fun _ => ?_)
theorem spec_TableOk.mono : ∀ a0 a1 k, LeO (spec_TableOk.f k a0 a1) (spec_TableOk.f (k + 1) a0 a1) := by
  intro a0 a1 k
  obtain ⟨ih0, ih1⟩ := spec_TableOk.mono_l k
  unfold spec_TableOk.f
  repeat' first|(with_reducible first|exact ih0 _ _ _|exact ih1 _ _ _ _ _|exact lR _|exact lN _|refine lI ?_ ?_|refine lB ?_ (fun _ => ?_))|exact ih0 _ _ _|exact ih1 _ _ _ _ _|exact lN _|refine lI ?_ ?_|refine lB ?_ (fun _ => ?_)
set_option maxHeartbeats 8000000 in
set_option maxRecDepth 100000 in
theorem spec_TableOk.calls (k : Nat) (a0_0 : Int) (A0_1 : Option Addr) (c0_1 : Nat) (l0_1 : List Int) (r : Bool) (w : World) (hr0_1 : Kd.C (Kd.int .i64) w A0_1 l0_1.length l0_1) (hc0_1 : l0_1.length ≤ c0_1) (h : spec_TableOk.f k a0_0 l0_1 = some r) :
    Calls Try.prog 104 #[.agg #[.int .i64 a0_0, .slice A0_1 l0_1.length c0_1]] w fun e w' => e = .returned (.bool r) ∧ Below w.heap.size w w' := by
  have hu28 := Try.underlying28
  have HR0_1 := mK hr0_1
  have HC0_1 := mK hc0_1
  clear hr0_1 hc0_1
  have HB := mK (Below.refl w.heap.size w)
  have H : ((spec_l01In.f a0_0 0 8).bind fun t299 => (if t299 = true then (spec_TableOk.j0 k ((l0_1.length : Int) != (wrap64 (a0_0 * a0_0))) a0_0 l0_1) else (spec_TableOk.j0 k true a0_0 l0_1))) = some r := h
  clear h
  have HC2 := mK H
  clear H
  go_enter Try.func104, Try.ntmps104
  go_upto_region 1 with (first | ((with_reducible refine gate_dst (N := 1) rfl ?_); (try (refine gate_guard (by rfl) ?_; dsimp only)); refine box_event ?hg (N := 1) ?hd (cs := #[.int .i64 a0_0, .slice A0_1 l0_1.length c0_1]) (t := 28) ?hr ?_; (case hd => rfl); (case hg => rfl); (case hr => go_simp <;> rfl); intro gb298 hg w3 hbox hb; have BK298 := mK hbox; have GW298 := mK (gX hg HB); have GE298 := mK (gX hg HB); replace HB := bB HB hb; clear hb hbox hg))
  (try simp only [Act.put, sT, sZ, sU])
  go_cut [19] (fun v19 wc => ∃ (kq : Nat) (x19_1 : Bool), v19 = .bool x19_1 ∧ Aside0 (spec_TableOk.j0 kq x19_1 a0_0 l0_1 = some r) ∧ Aside0 (kq ≤ k) ∧ Aside0 (wc.heap[gb298]? = some (.cells #[.int .i64 a0_0, (.slice A0_1 l0_1.length c0_1)] 28 (0, 0))) ∧ Aside0 (Below w.heap.size w wc))
  case first =>
   have H := HC2.out
   clear HC2
   replace H := Option.bind_eq_some_iff.mp H
   obtain ⟨t299, A40, H⟩ := H
   replace H : (if t299 = true then (spec_TableOk.j0 k ((l0_1.length : Int) != (wrap64 (a0_0 * a0_0))) a0_0 l0_1) else (spec_TableOk.j0 k true a0_0 l0_1)) = some r := H
   have A4 := mK A40
   clear A40
   by_cases c5 : t299 = true
   rotate_left
   · replace c5 := Bool.eq_false_iff.mpr c5
     subst c5
     rw [if_neg (show ¬ (false = true) by decide)] at H
     have H' := mK H
     clear H
     have hcz7_0 := q0 BK298
     have hcz7_1 := q1 BK298
     have hfz7_0 := fX BK298 0
     have hfz7_1 := fX BK298 1
     go_wp2_with (first | ((with_reducible refine gate_callee (f := 96) rfl ?_); refine gsE (some 7) Try.func96 #[.int .i64 a0_0, .int .i64 0, .int .i64 8] ?_; (with_reducible refine (spec_l01In.calls a0_0 0 8 false _ A4.out).mono ?_); rintro e w' ⟨rfl, ⟨nd, rfl⟩⟩; refine ⟨_, rfl, ?_⟩))
     go_meet
     case rel => exact ⟨_, (true), (by first | rfl | (simp; done) | (simp [*]; done)), H', ⟨by first | omega | exact Nat.le_refl _⟩, ⟨kX BK298⟩, ⟨bX HB⟩⟩
   subst c5
   rw [if_pos rfl] at H
   have H' := mK H
   clear H
   have hcz6_0 := q0 BK298
   have hcz6_1 := q1 BK298
   have hfz6_0 := fX BK298 0
   have hfz6_1 := fX BK298 1
   go_wp2_with (first | ((with_reducible refine gate_callee (f := 96) rfl ?_); refine gsE (some 7) Try.func96 #[.int .i64 a0_0, .int .i64 0, .int .i64 8] ?_; (with_reducible refine (spec_l01In.calls a0_0 0 8 true _ A4.out).mono ?_); rintro e w' ⟨rfl, ⟨nd, rfl⟩⟩; refine ⟨_, rfl, ?_⟩))
   go_meet
   case rel => exact ⟨_, (((l0_1.length : Int) != (wrap64 (a0_0 * a0_0)))), (by first | rfl | (simp; done) | (simp [*]; done)), H', ⟨by first | omega | exact Nat.le_refl _⟩, ⟨kX BK298⟩, ⟨bX HB⟩⟩
  case rest =>
   clear HC2
   try clear c1
   try clear p2
   try clear c5
   try clear p6
   try clear hcz6_0
   try clear hcz6_1
   try clear hcz7_0
   try clear hcz7_1
   try clear hfz6_0
   try clear hfz6_1
   try clear hfz7_0
   try clear hfz7_1
   obtain ⟨kq, x19_1, rfl, HA, HJ1, BK298, HB⟩ := hcut
   cases kq with
   | zero => exact absurd HA.out (by simp [spec_TableOk.j0])
   | succ kj1 =>
    have H := HA.out
    clear HA
    simp only [spec_TableOk.j0] at H
    by_cases c8 : x19_1 = true
    · subst c8
      rw [if_pos rfl] at H
      obtain rfl := Option.some.inj H
      go_wp2
      go_ret
      exact ⟨by first | rfl | (simp [errW_none, errW_some] <;> rfl) | (simp [*, errW_none, errW_some] <;> rfl), bX HB⟩
    replace c8 := Bool.eq_false_iff.mpr c8
    subst c8
    rw [if_neg (show ¬ (false = true) by decide)] at H
    have H' := mK H
    clear H
    have hcz9_0 := q0 BK298
    have hcz9_1 := q1 BK298
    have hfz9_0 := fX BK298 0
    have hfz9_1 := fX BK298 1
    go_wp2
    go_loopg [23] kj1 (fun kq v23 w' => ∃ (x23_2 : Int), v23 = .int .i64 x23_2 ∧ Aside0 (spec_TableOk.l0 kq l0_1 (l0_1.length : Int) x23_2 a0_0 l0_1 = some r) ∧ Aside0 (kq ≤ kj1) ∧ Aside0 (w'.heap[gb298]? = some (.cells #[.int .i64 a0_0, (.slice A0_1 l0_1.length c0_1)] 28 (0, 0))) ∧ Aside0 (Below w.heap.size w w'))
    case atStart => exact ⟨(0), (by first | rfl | (simp; done) | (simp [*]; done)), H', ⟨Nat.le_refl _⟩, ⟨kX BK298⟩, ⟨bX HB⟩⟩
    case round =>
     clear H'
     try clear c1
     try clear p2
     try clear c5
     try clear p6
     try clear c8
     try clear c9
     try clear hcz6_0
     try clear hcz6_1
     try clear hcz7_0
     try clear hcz7_1
     try clear hcz9_0
     try clear hcz9_1
     try clear hfz6_0
     try clear hfz6_1
     try clear hfz7_0
     try clear hfz7_1
     try clear hfz9_0
     try clear hfz9_1
     try clear p2
     try clear p6
     obtain ⟨x23_2, rfl, HA, HK2, BK298, HB⟩ := hrel
     cases gk with
     | zero => exact absurd HA.out (by simp [spec_TableOk.l0])
     | succ k2 =>
      have H := HA.out
      clear HA
      simp only [spec_TableOk.l0] at H
      by_cases c10 : x23_2 < (l0_1.length : Int)
      rotate_left
      · rw [if_neg c10] at H
        have c10b0 : decide (x23_2 < (l0_1.length : Int)) = false := decide_eq_false c10
        clear c10
        obtain rfl := Option.some.inj H
        go_wp2
        go_ret
        exact ⟨by first | rfl | (simp [errW_none, errW_some] <;> rfl) | (simp [*, errW_none, errW_some] <;> rfl), bX HB⟩
      rw [if_pos c10] at H
      have c10b0 : decide (x23_2 < (l0_1.length : Int)) = true := decide_eq_true c10
      clear c10
      by_cases c11 : 0 ≤ x23_2
      rotate_left
      · rw [if_neg c11] at H
        exact absurd H (by simp)
      rw [if_pos c11] at H
      have c11b0 : decide (0 ≤ x23_2) = true := decide_eq_true c11
      clear c11
      by_cases c12 : x23_2 < (l0_1.length : Int)
      rotate_left
      · rw [if_neg c12] at H
        exact absurd H (by simp)
      rw [if_pos c12] at H
      have c12b0 : decide (x23_2 < (l0_1.length : Int)) = true := decide_eq_true c12
      clear c12
      replace H := Option.bind_eq_some_iff.mp H
      obtain ⟨t301, A130, H⟩ := H
      replace H : (if t301 = true then (if (wrap64 (a0_0 + 1)) = 0 then (none) else (if (Int.tmod x23_2 (wrap64 (a0_0 + 1))) = 0 then (if (rd l0_1 x23_2) = 0 then (spec_TableOk.l0 k2 l0_1 (l0_1.length : Int) (wrap64 (x23_2 + 1)) a0_0 l0_1) else (some false)) else (spec_TableOk.l0 k2 l0_1 (l0_1.length : Int) (wrap64 (x23_2 + 1)) a0_0 l0_1))) else (some false)) = some r := H
      have A13 := mK A130
      clear A130
      by_cases c14 : t301 = true
      rotate_left
      · replace c14 := Bool.eq_false_iff.mpr c14
        subst c14
        rw [if_neg (show ¬ (false = true) by decide)] at H
        obtain rfl := Option.some.inj H
        have p300 : 0 ≤ (x23_2 : Int) := of_decide_eq_true oX
        have q300 : x23_2 < (l0_1.length : Int) := of_decide_eq_true oX
        obtain ⟨ad300, e300, hx300_0⟩ := Kd.at_int HR0_1.out x23_2 p300 q300
        cases e300
        replace hx300_0 := (HB.out.cell (World.block_lt_of_cell? w _ hx300_0)).trans hx300_0
        replace p300 := eq_true p300
        replace q300 := eq_true q300
        go_wp2_with (first | ((with_reducible refine gate_callee (f := 96) rfl ?_); refine gsE (some 29) Try.func96 #[.int .i64 (rd l0_1 x23_2), .int .i64 (-1000000), .int .i64 1000000] ?_; (with_reducible refine (spec_l01In.calls (rd l0_1 x23_2) (-1000000) 1000000 false _ A13.out).mono ?_); rintro e w' ⟨rfl, ⟨nd, rfl⟩⟩; refine ⟨_, rfl, ?_⟩))
        go_ret
        exact ⟨by first | rfl | (simp [errW_none, errW_some] <;> rfl) | (simp [*, errW_none, errW_some] <;> rfl), bX HB⟩
      subst c14
      rw [if_pos rfl] at H
      by_cases c15 : (wrap64 (a0_0 + 1)) = 0
      · rw [if_pos c15] at H
        exact absurd H (by simp)
      rw [if_neg c15] at H
      have c15b0 : ((wrap64 (a0_0 + 1)) == 0) = false := beq_eq_false_iff_ne.mpr c15
      have c15b1 : ((wrap64 (a0_0 + 1)) != 0) = true := bne_iff_ne.mpr c15
      by_cases c16 : (Int.tmod x23_2 (wrap64 (a0_0 + 1))) = 0
      rotate_left
      · rw [if_neg c16] at H
        have c16b0 : ((Int.tmod x23_2 (wrap64 (a0_0 + 1))) == 0) = false := beq_eq_false_iff_ne.mpr c16
        have c16b1 : ((Int.tmod x23_2 (wrap64 (a0_0 + 1))) != 0) = true := bne_iff_ne.mpr c16
        have H' := mK H
        clear H
        have p300 : 0 ≤ (x23_2 : Int) := of_decide_eq_true oX
        have q300 : x23_2 < (l0_1.length : Int) := of_decide_eq_true oX
        obtain ⟨ad300, e300, hx300_0⟩ := Kd.at_int HR0_1.out x23_2 p300 q300
        cases e300
        replace hx300_0 := (HB.out.cell (World.block_lt_of_cell? w _ hx300_0)).trans hx300_0
        replace p300 := eq_true p300
        replace q300 := eq_true q300
        go_wp2_with (first | ((with_reducible refine gate_callee (f := 96) rfl ?_); refine gsE (some 29) Try.func96 #[.int .i64 (rd l0_1 x23_2), .int .i64 (-1000000), .int .i64 1000000] ?_; (with_reducible refine (spec_l01In.calls (rd l0_1 x23_2) (-1000000) 1000000 true _ A13.out).mono ?_); rintro e w' ⟨rfl, ⟨nd, rfl⟩⟩; refine ⟨_, rfl, ?_⟩; have hcz20_0 := q0 BK298; have hcz20_1 := q1 BK298; have hfz20_0 := fX BK298 0; have hfz20_1 := fX BK298 1))
        go_roundg k2
        case measure => have := HJ1.out; have := HK2.out; omega
        case rel => exact ⟨(wrap64 (x23_2 + 1)), (by first | rfl | (simp; done) | (simp [*]; done)), H', ⟨by have := HJ1.out; have := HK2.out; omega⟩, ⟨kX BK298⟩, ⟨bX HB⟩⟩
      rw [if_pos c16] at H
      have c16b0 : ((Int.tmod x23_2 (wrap64 (a0_0 + 1))) == 0) = true := beq_iff_eq.mpr c16
      have c16b1 : ((Int.tmod x23_2 (wrap64 (a0_0 + 1))) != 0) = false := bne_eq_false_iff_eq.mpr c16
      clear c16
      by_cases c17 : (rd l0_1 x23_2) = 0
      rotate_left
      · rw [if_neg c17] at H
        have c17b0 : ((rd l0_1 x23_2) == 0) = false := beq_eq_false_iff_ne.mpr c17
        have c17b1 : ((rd l0_1 x23_2) != 0) = true := bne_iff_ne.mpr c17
        obtain rfl := Option.some.inj H
        have p300 : 0 ≤ (x23_2 : Int) := of_decide_eq_true oX
        have q300 : x23_2 < (l0_1.length : Int) := of_decide_eq_true oX
        obtain ⟨ad300, e300, hx300_0⟩ := Kd.at_int HR0_1.out x23_2 p300 q300
        cases e300
        replace hx300_0 := (HB.out.cell (World.block_lt_of_cell? w _ hx300_0)).trans hx300_0
        replace p300 := eq_true p300
        replace q300 := eq_true q300
        go_wp2_with (first | ((with_reducible refine gate_callee (f := 96) rfl ?_); refine gsE (some 29) Try.func96 #[.int .i64 (rd l0_1 x23_2), .int .i64 (-1000000), .int .i64 1000000] ?_; (with_reducible refine (spec_l01In.calls (rd l0_1 x23_2) (-1000000) 1000000 true _ A13.out).mono ?_); rintro e w' ⟨rfl, ⟨nd, rfl⟩⟩; refine ⟨_, rfl, ?_⟩; have hcz19_0 := q0 BK298; have hcz19_1 := q1 BK298; have hfz19_0 := fX BK298 0; have hfz19_1 := fX BK298 1))
        go_ret
        exact ⟨by first | rfl | (simp [errW_none, errW_some] <;> rfl) | (simp [*, errW_none, errW_some] <;> rfl), bX HB⟩
      rw [if_pos c17] at H
      have c17b0 : ((rd l0_1 x23_2) == 0) = true := beq_iff_eq.mpr c17
      have c17b1 : ((rd l0_1 x23_2) != 0) = false := bne_eq_false_iff_eq.mpr c17
      clear c17
      have H' := mK H
      clear H
      have p300 : 0 ≤ (x23_2 : Int) := of_decide_eq_true oX
      have q300 : x23_2 < (l0_1.length : Int) := of_decide_eq_true oX
      obtain ⟨ad300, e300, hx300_0⟩ := Kd.at_int HR0_1.out x23_2 p300 q300
      cases e300
      replace hx300_0 := (HB.out.cell (World.block_lt_of_cell? w _ hx300_0)).trans hx300_0
      replace p300 := eq_true p300
      replace q300 := eq_true q300
      go_wp2_with (first | ((with_reducible refine gate_callee (f := 96) rfl ?_); refine gsE (some 29) Try.func96 #[.int .i64 (rd l0_1 x23_2), .int .i64 (-1000000), .int .i64 1000000] ?_; (with_reducible refine (spec_l01In.calls (rd l0_1 x23_2) (-1000000) 1000000 true _ A13.out).mono ?_); rintro e w' ⟨rfl, ⟨nd, rfl⟩⟩; refine ⟨_, rfl, ?_⟩; have hcz18_0 := q0 BK298; have hcz18_1 := q1 BK298; have hfz18_0 := fX BK298 0; have hfz18_1 := fX BK298 1))
      go_roundg k2
      case measure => have := HJ1.out; have := HK2.out; omega
      case rel => exact ⟨(wrap64 (x23_2 + 1)), (by first | rfl | (simp; done) | (simp [*]; done)), H', ⟨by have := HJ1.out; have := HK2.out; omega⟩, ⟨kX BK298⟩, ⟨bX HB⟩⟩

/-! ### spec_l04At: function 105 -/
def spec_l04At.f (a0_0 : Int) (l0_1 : List Int) (a1 : Int) (a2 : Int) : Option (Int) := if 0 ≤ (wrap64 ((wrap64 (a1 * a0_0)) + a2)) then (if (wrap64 ((wrap64 (a1 * a0_0)) + a2)) < (l0_1.length : Int) then (some (rd l0_1 (wrap64 ((wrap64 (a1 * a0_0)) + a2)))) else (none)) else (none)
set_option maxHeartbeats 8000000 in
set_option maxRecDepth 100000 in
theorem spec_l04At.calls (a0_0 : Int) (A0_1 : Option Addr) (c0_1 : Nat) (l0_1 : List Int) (a1 : Int) (a2 : Int) (r : Int) (w : World) (hr0_1 : Kd.C (Kd.int .i64) w A0_1 l0_1.length l0_1) (hc0_1 : l0_1.length ≤ c0_1) (h : spec_l04At.f a0_0 l0_1 a1 a2 = some r) :
    Calls Try.prog 105 #[.agg #[.int .i64 a0_0, .slice A0_1 l0_1.length c0_1], .int .i64 a1, .int .i64 a2] w fun e w' => e = .returned (.int .i64 r) ∧ Below w.heap.size w w' := by
  have hu28 := Try.underlying28
  have HR0_1 := mK hr0_1
  have HC0_1 := mK hc0_1
  clear hr0_1 hc0_1
  have HB := mK (Below.refl w.heap.size w)
  have H : (if 0 ≤ (wrap64 ((wrap64 (a1 * a0_0)) + a2)) then (if (wrap64 ((wrap64 (a1 * a0_0)) + a2)) < (l0_1.length : Int) then (some (rd l0_1 (wrap64 ((wrap64 (a1 * a0_0)) + a2)))) else (none)) else (none)) = some r := h
  clear h
  obtain ⟨ji4, hji4⟩ : ∃ j_ : Int, (wrap64 ((wrap64 (a1 * a0_0)) + a2)) = j_ := ⟨_, rfl⟩
  replace H : (if 0 ≤ (ji4) then (if (ji4) < (l0_1.length : Int) then (some (rd l0_1 (ji4))) else (none)) else (none)) = some r := by first | (rw [hji4] at H; exact H) | (simp only [hji4] at H ⊢; exact H)
  have hji4w : (IntKind.i64.wrap ((wrap64 (a1 * a0_0)) + a2)) = ji4 := (i64_w _).trans hji4
  by_cases c5 : 0 ≤ (ji4)
  rotate_left
  · rw [if_neg c5] at H
    exact absurd H (by simp)
  rw [if_pos c5] at H
  have c5b0 : decide (0 ≤ (ji4)) = true := decide_eq_true c5
  clear c5
  by_cases c6 : (ji4) < (l0_1.length : Int)
  rotate_left
  · rw [if_neg c6] at H
    exact absurd H (by simp)
  rw [if_pos c6] at H
  have c6b0 : decide ((ji4) < (l0_1.length : Int)) = true := decide_eq_true c6
  clear c6
  obtain rfl := Option.some.inj H
  go_enter Try.func105, Try.ntmps105
  go_wp2_with (first | ((with_reducible refine gate_dst (N := 3) rfl ?_); refine bxE 3 #[.int .i64 a0_0, .slice A0_1 l0_1.length c0_1] 28 ?_; intro gb302 hg w7 hbox hb; have BK302 := mK hbox; have GW302 := mK (gX hg HB); have GE302 := mK (gX hg HB); replace HB := bB HB hb; clear hb hbox hg; have hcz8_0 := q0 BK302; have hcz8_1 := q1 BK302; have hfz8_0 := fX BK302 0; have hfz8_1 := fX BK302 1; have p303 : 0 ≤ ((ji4) : Int) := of_decide_eq_true oX; have q303 : (ji4) < (l0_1.length : Int) := of_decide_eq_true oX; obtain ⟨ad303, e303, hx303_0⟩ := Kd.at_int HR0_1.out (ji4) p303 q303; cases e303; replace hx303_0 := (HB.out.cell (World.block_lt_of_cell? w _ hx303_0)).trans hx303_0; replace p303 := eq_true p303; replace q303 := eq_true q303))
  go_ret
  exact ⟨by first | rfl | (simp [errW_none, errW_some] <;> rfl) | (simp only [← hji4]; first | rfl | (simp [errW_none, errW_some] <;> rfl)) | (simp [*, errW_none, errW_some] <;> rfl), bX HB⟩

end Go.Proofs.Ytbbblnmngjhadaa.QFnExactLatestTimes
