-- Written by this session's program wip/tools/mk.py out of the translation; Lean checks it.
import Derived.Test.YtolecnichpnhnaaQFnExactConflictOfx0
import Derived.Test.YtolecnichpnhnaaQFnExactConflictOfx2
import Derived.Test.YtolecnichpnhnaaQFnExactConflictOfx3
import Derived.Test.YtolecnichpnhnaaQFnExactConflictOfx5
namespace Go.Proofs.Ytolecnichpnhnaa.QFnExactConflictOf
open Go.RowKit Go.Proofs.YtolecnichpnhnaaW.PrintWords Go.Proofs.YtolecnichpnhnaaW.PrintLast Go.Proofs.YtolecnichpnhnaaW.PrintMore
attribute [local go_sem] max2_int min2_int max_two min_two max_three min_three max_four min_four   -- for this text's walks alone
set_option linter.unusedVariables false
set_option linter.unusedSimpArgs false

/-! ### spec_ConflictOf: function 37 -/
def spec_ConflictOf.l0 : Nat → List Int → List Int → List Int → Int → Int → Option (List Int)
  | 0, _, _, _, _, _ => none
  | k + 1, x4, x5, x19, x20, x21 => if x21 < x20 then (if 0 ≤ x21 then (if x21 < (x19.length : Int) then (if 0 ≤ (rd x19 x21) then (if (rd x19 x21) < (x4.length : Int) then (if x5.length < 17592186044416 then (spec_ConflictOf.l0 k x4 (x5 ++ [rd x4 (rd x19 x21)]) x19 x20 (wrap64 (x21 + 1))) else (none)) else (none)) else (none)) else (none)) else (none)) else (some x5)
def spec_ConflictOf.f (k : Nat) (a0_0 : Int) (l0_1 : List (S47)) : Option (List Int) := (spec_SimpleOk.f k a0_0 l0_1).bind fun t255 => (if t255 = true then ((spec_l05Edges.f k a0_0 l0_1).bind fun bt256 => ((spec_GraphOf.f k a0_0 l0_1).bind fun bt265 => ((spec_NegativeCycle.f k bt265.1 bt265.2).bind fun t269 => (spec_ConflictOf.l0 k bt256.2 (([] : List Int)) t269 (t269.length : Int) 0)))) else (some ([] : List Int)))
theorem spec_ConflictOf.mono_l : ∀ k, (∀ y0 y1 y2 y3 y4, LeO (spec_ConflictOf.l0 k y0 y1 y2 y3 y4) (spec_ConflictOf.l0 (k + 1) y0 y1 y2 y3 y4))
  | 0 => fun _ _ _ _ _ r h => by simp [spec_ConflictOf.l0] at h
  | k + 1 => by
    have ih0 := spec_ConflictOf.mono_l k
    · intro y0 y1 y2 y3 y4
      unfold spec_ConflictOf.l0
      repeat' first
      | (with_reducible exact ih0 _ _ _ _ _)
      | (with_reducible exact spec_GraphOf.mono _ _ _)
      | (with_reducible exact spec_NegativeCycle.mono _ _ _)
      | (with_reducible exact spec_SimpleOk.mono _ _ _)
      | (with_reducible exact spec_l05Edges.mono _ _ _)
      | (with_reducible exact LeO.refl _)
      | (with_reducible exact LeO.none _)
      | (with_reducible refine LeO.ite ?_ ?_)
      | (with_reducible refine LeO.bind ?_ (fun _ => ?_))
      | exact ih0 _ _ _ _ _
      | exact spec_GraphOf.mono _ _ _
      | exact spec_NegativeCycle.mono _ _ _
      | exact spec_SimpleOk.mono _ _ _
      | exact spec_l05Edges.mono _ _ _
      | exact LeO.none _
      | refine LeO.ite ?_ ?_
      | refine LeO.bind ?_ (fun _ => ?_)
theorem spec_ConflictOf.mono : ∀ a0 a1 k, LeO (spec_ConflictOf.f k a0 a1) (spec_ConflictOf.f (k + 1) a0 a1) := by
  intro a0 a1 k
  have ih0 := spec_ConflictOf.mono_l k
  unfold spec_ConflictOf.f
  repeat' first
      | (with_reducible exact ih0 _ _ _ _ _)
      | (with_reducible exact spec_GraphOf.mono _ _ _)
      | (with_reducible exact spec_NegativeCycle.mono _ _ _)
      | (with_reducible exact spec_SimpleOk.mono _ _ _)
      | (with_reducible exact spec_l05Edges.mono _ _ _)
      | (with_reducible exact LeO.refl _)
      | (with_reducible exact LeO.none _)
      | (with_reducible refine LeO.ite ?_ ?_)
      | (with_reducible refine LeO.bind ?_ (fun _ => ?_))
      | exact ih0 _ _ _ _ _
      | exact spec_GraphOf.mono _ _ _
      | exact spec_NegativeCycle.mono _ _ _
      | exact spec_SimpleOk.mono _ _ _
      | exact spec_l05Edges.mono _ _ _
      | exact LeO.none _
      | refine LeO.ite ?_ ?_
      | refine LeO.bind ?_ (fun _ => ?_)
set_option maxHeartbeats 8000000 in
set_option maxRecDepth 100000 in
theorem spec_ConflictOf.calls (k : Nat) (a0_0 : Int) (A0_1 : Option Addr) (c0_1 : Nat) (l0_1 : List (S47)) (r : List Int) (w : World) (hr0_1 : Kd.C k47 w A0_1 l0_1.length l0_1) (hc0_1 : l0_1.length ≤ c0_1) (h : spec_ConflictOf.f k a0_0 l0_1 = some r) :
    Calls Try.prog 37 #[.agg #[.int .i64 a0_0, .slice A0_1 l0_1.length c0_1]] w fun e w' => ∃ v0_ : Value, e = .returned (v0_) ∧ Kd.R (Kd.int .i64) 3 w' w.heap.size (fun _ => True) v0_ r ∧ Below w.heap.size w w' := by
  have hu29 := Try.underlying29
  have HR0_1 := mK hr0_1
  have HC0_1 := mK hc0_1
  clear hr0_1 hc0_1
  have HB := mK (Below.refl w.heap.size w)
  have H : ((spec_SimpleOk.f k a0_0 l0_1).bind fun t255 => (if t255 = true then ((spec_l05Edges.f k a0_0 l0_1).bind fun bt256 => ((spec_GraphOf.f k a0_0 l0_1).bind fun bt265 => ((spec_NegativeCycle.f k bt265.1 bt265.2).bind fun t269 => (spec_ConflictOf.l0 k bt256.2 (([] : List Int)) t269 (t269.length : Int) 0)))) else (some ([] : List Int)))) = some r := h
  clear h
  replace H := Option.bind_eq_some_iff.mp H
  obtain ⟨t255, A20, H⟩ := H
  replace H : (if t255 = true then ((spec_l05Edges.f k a0_0 l0_1).bind fun bt256 => ((spec_GraphOf.f k a0_0 l0_1).bind fun bt265 => ((spec_NegativeCycle.f k bt265.1 bt265.2).bind fun t269 => (spec_ConflictOf.l0 k bt256.2 (([] : List Int)) t269 (t269.length : Int) 0)))) else (some ([] : List Int))) = some r := H
  have A2 := mK A20
  clear A20
  by_cases c3 : t255 = true
  rotate_left
  · replace c3 := Bool.eq_false_iff.mpr c3
    subst c3
    have H1 : (some ([] : List Int)) = some r := by rw [if_neg (show ¬ (false = true) by decide)] at H; exact H
    clear H
    have H := H1
    clear H1
    obtain rfl := Option.some.inj H
    go_enter Try.func37, Try.ntmps37
    go_wp2_with (first | ((with_reducible refine gate_dst (N := 1) rfl ?_); refine box_event ?hg (N := 1) ?hd (cs := #[.int .i64 a0_0, .slice A0_1 l0_1.length c0_1]) (t := 29) ?hr ?_; (case hd => rfl); (case hg => rfl); (case hr => first | (go_simp; done) | (go_simp; rfl)); intro gb254 hg w27 hbox hb; have n0_ := mK (below_step (by repeat (first | (with_reducible first | exact HB.out | apply bA | apply bN | apply bD) | exact HB.out)) hb); have n1_ := mK (hbox); have n2_ := mK ((by rw [hg]; exact (below_size (by repeat (first | (with_reducible first | exact HB.out | apply bA | apply bN | apply bD) | exact HB.out))) : w.heap.size ≤ gb254)); have n3_ := mK ((by rw [hg]; exact (below_size (by repeat (first | (with_reducible first | exact HB.out | apply bA | apply bN | apply bD) | exact HB.out))) : w.heap.size ≤ gb254)); clear HB; have HB := n0_; have BK254 := n1_; have GW254 := n2_; have GE254 := n3_; clear n0_ n1_ n2_ n3_; clear hb hbox hg; have hcz28_0 : w27.cell? ⟨gb254, 0, none⟩ = some (.int .i64 a0_0) := (blk_cell BK254.out 0).trans rfl; have hcz28_1 : w27.cell? ⟨gb254, 1, none⟩ = some (.slice A0_1 l0_1.length c0_1) := (blk_cell BK254.out 1).trans rfl; have hfz28_0 := blk_frozen BK254.out 0; have hfz28_1 := blk_frozen BK254.out 1) | ((with_reducible refine gate_callee (f := 12) rfl ?_); refine goesL_ (some 9) rfl rfl Try.func12 (by kernel_rfl) rfl #[.agg #[.int .i64 a0_0, .slice A0_1 l0_1.length c0_1]] rfl (by (try simp only [List.map_toArray, List.map_cons, List.map_nil]); first | done | rfl | (simp only [List.length_drop, List.length_take]; rfl)) ?_; (with_reducible refine (spec_SimpleOk.calls k a0_0 _ _ l0_1 false _ ?side1 ?side2 A2.out).mono ?_); (case side1 => repeat (first | exact (Kd.C_below HR0_1.out HB.out) | (with_reducible refine Kd.C_alloc ?_ _) | (with_reducible refine Kd.C_drewN ?_ _) | (with_reducible refine Kd.C_drew ?_))); (case side2 => exact HC0_1.out); rintro e w29 ⟨rfl, hb⟩; refine ⟨_, rfl, ?_⟩; have n0_ := mK (blk_below (by (with_reducible repeat (first | refine kN ?_ _ | refine kD ?_ | refine kA ?_ _)); exact BK254.out) hb); have n1_ := mK (below_step (by repeat (first | (with_reducible first | exact HB.out | apply bA | apply bN | apply bD | refine bS ?_ GE254.out) | exact HB.out)) hb); clear BK254; clear HB; have BK254 := n0_; have HB := n1_; clear n0_ n1_; (try clear hb); (try clear hb2); (try clear hk); (try clear hi)))
    go_ret
    exact ⟨_, by first | rfl | (simp [errW_none, errW_some] <;> rfl) | (simp [*, errW_none, errW_some] <;> rfl), by first | exact Kd.R_nil _ _ _ _ _ | exact Kd.N_nil _ _ _ _ _ | exact Kd.V_nil _ _ _ _ _ | exact Kd.Q_nil _ _ _ _ _ | exact Kd.S_nil _ _ _ _ _, by repeat (first | (with_reducible first | exact HB.out | apply bA | apply bN | apply bD | refine bS ?_ GE254.out) | exact HB.out)⟩
  subst c3
  have H1 : ((spec_l05Edges.f k a0_0 l0_1).bind fun bt256 => ((spec_GraphOf.f k a0_0 l0_1).bind fun bt265 => ((spec_NegativeCycle.f k bt265.1 bt265.2).bind fun t269 => (spec_ConflictOf.l0 k bt256.2 (([] : List Int)) t269 (t269.length : Int) 0)))) = some r := by rw [if_pos rfl] at H; exact H
  clear H
  have H := H1
  clear H1
  replace H := Option.bind_eq_some_iff.mp H
  obtain ⟨⟨t256, t259⟩, A40, H⟩ := H
  replace H : ((spec_GraphOf.f k a0_0 l0_1).bind fun bt265 => ((spec_NegativeCycle.f k bt265.1 bt265.2).bind fun t269 => (spec_ConflictOf.l0 k t259 (([] : List Int)) t269 (t269.length : Int) 0))) = some r := H
  have A4 := mK A40
  clear A40
  obtain ⟨y262, hy262⟩ : ∃ y_ : List Int, y_ = (([] : List Int)) := ⟨_, rfl⟩
  replace H : ((spec_GraphOf.f k a0_0 l0_1).bind fun bt265 => ((spec_NegativeCycle.f k bt265.1 bt265.2).bind fun t269 => (spec_ConflictOf.l0 k t259 y262 t269 (t269.length : Int) 0))) = some r := by first | (rw [hy262]; with_reducible exact H) | (have H2_ := (Option.bind_some _ _).symm.trans H; rw [hy262]; with_reducible exact H2_) | (have H2_ := (Option.bind_some _ _).symm.trans H; with_reducible exact H2_) | with_reducible exact H | (rw [hy262]; exact H) | exact H
  have Ny262 := mK hy262
  clear hy262
  replace H := Option.bind_eq_some_iff.mp H
  obtain ⟨⟨t265, t266⟩, A50, H⟩ := H
  replace H : ((spec_NegativeCycle.f k t265 t266).bind fun t269 => (spec_ConflictOf.l0 k t259 y262 t269 (t269.length : Int) 0)) = some r := H
  have A5 := mK A50
  clear A50
  replace H := Option.bind_eq_some_iff.mp H
  obtain ⟨t269, A60, H⟩ := H
  replace H : (spec_ConflictOf.l0 k t259 y262 t269 (t269.length : Int) 0) = some r := H
  have A6 := mK A60
  clear A60
  have H' := mK H
  clear H
  go_enter Try.func37, Try.ntmps37
  go_wp2_with (first | ((with_reducible refine gate_dst (N := 1) rfl ?_); refine box_event ?hg (N := 1) ?hd (cs := #[.int .i64 a0_0, .slice A0_1 l0_1.length c0_1]) (t := 29) ?hr ?_; (case hd => rfl); (case hg => rfl); (case hr => first | (go_simp; done) | (go_simp; rfl)); intro gb254 hg w7 hbox hb; have n0_ := mK (below_step (by repeat (first | (with_reducible first | exact HB.out | apply bA | apply bN | apply bD) | exact HB.out)) hb); have n1_ := mK (hbox); have n2_ := mK ((by rw [hg]; exact (below_size (by repeat (first | (with_reducible first | exact HB.out | apply bA | apply bN | apply bD) | exact HB.out))) : w.heap.size ≤ gb254)); have n3_ := mK ((by rw [hg]; exact (below_size (by repeat (first | (with_reducible first | exact HB.out | apply bA | apply bN | apply bD) | exact HB.out))) : w.heap.size ≤ gb254)); clear HB; have HB := n0_; have BK254 := n1_; have GW254 := n2_; have GE254 := n3_; clear n0_ n1_ n2_ n3_; clear hb hbox hg; have hcz8_0 : w7.cell? ⟨gb254, 0, none⟩ = some (.int .i64 a0_0) := (blk_cell BK254.out 0).trans rfl; have hcz8_1 : w7.cell? ⟨gb254, 1, none⟩ = some (.slice A0_1 l0_1.length c0_1) := (blk_cell BK254.out 1).trans rfl; have hfz8_0 := blk_frozen BK254.out 0; have hfz8_1 := blk_frozen BK254.out 1) | ((with_reducible refine gate_callee (f := 12) rfl ?_); refine goesL_ (some 9) rfl rfl Try.func12 (by kernel_rfl) rfl #[.agg #[.int .i64 a0_0, .slice A0_1 l0_1.length c0_1]] rfl (by (try simp only [List.map_toArray, List.map_cons, List.map_nil]); first | done | rfl | (simp only [List.length_drop, List.length_take]; rfl)) ?_; (with_reducible refine (spec_SimpleOk.calls k a0_0 _ _ l0_1 true _ ?side1 ?side2 A2.out).mono ?_); (case side1 => repeat (first | exact (Kd.C_below HR0_1.out HB.out) | (with_reducible refine Kd.C_alloc ?_ _) | (with_reducible refine Kd.C_drewN ?_ _) | (with_reducible refine Kd.C_drew ?_))); (case side2 => exact HC0_1.out); rintro e w9 ⟨rfl, hb⟩; refine ⟨_, rfl, ?_⟩; have n0_ := mK (blk_below (by (with_reducible repeat (first | refine kN ?_ _ | refine kD ?_ | refine kA ?_ _)); exact BK254.out) hb); have n1_ := mK (below_step (by repeat (first | (with_reducible first | exact HB.out | apply bA | apply bN | apply bD | refine bS ?_ GE254.out) | exact HB.out)) hb); clear BK254; clear HB; have BK254 := n0_; have HB := n1_; clear n0_ n1_; (try clear hb); (try clear hb2); (try clear hk); (try clear hi); have hcz10_0 : w9.cell? ⟨gb254, 0, none⟩ = some (.int .i64 a0_0) := (blk_cell BK254.out 0).trans rfl; have hcz10_1 : w9.cell? ⟨gb254, 1, none⟩ = some (.slice A0_1 l0_1.length c0_1) := (blk_cell BK254.out 1).trans rfl; have hfz10_0 := blk_frozen BK254.out 0; have hfz10_1 := blk_frozen BK254.out 1) | ((with_reducible refine gate_callee (f := 63) rfl ?_); refine goesL_ (some 13) rfl rfl Try.func63 (by kernel_rfl) rfl #[.agg #[.int .i64 a0_0, .slice A0_1 l0_1.length c0_1]] rfl (by (try simp only [List.map_toArray, List.map_cons, List.map_nil]); first | done | rfl | (simp only [List.length_drop, List.length_take]; rfl)) ?_; (with_reducible refine (spec_l05Edges.calls k a0_0 _ _ l0_1 t256 t259 _ ?side1 ?side2 A4.out).mono ?_); (case side1 => repeat (first | exact (Kd.C_below HR0_1.out HB.out) | (with_reducible refine Kd.C_alloc ?_ _) | (with_reducible refine Kd.C_drewN ?_ _) | (with_reducible refine Kd.C_drew ?_))); (case side2 => exact HC0_1.out); rintro e w11 ⟨v257, v260, rfl, ho0, ho1, hb⟩; refine ⟨_, rfl, ?_⟩; have n0_ := mK (Kd.R_lower ho0 (below_size (by repeat (first | (with_reducible first | exact HB.out | apply bA | apply bN | apply bD | refine bS ?_ GE254.out) | exact HB.out)))); have n1_ := mK (Kd.R_lower ho1 (below_size (by repeat (first | (with_reducible first | exact HB.out | apply bA | apply bN | apply bD | refine bS ?_ GE254.out) | exact HB.out)))); have n2_ := mK (blk_below (by (with_reducible repeat (first | refine kN ?_ _ | refine kD ?_ | refine kA ?_ _)); exact BK254.out) hb); have n3_ := mK (below_step (by repeat (first | (with_reducible first | exact HB.out | apply bA | apply bN | apply bD | refine bS ?_ GE254.out) | exact HB.out)) hb); clear BK254; clear HB; have HO258 := n0_; have HO261 := n1_; have BK254 := n2_; have HB := n3_; clear n0_ n1_ n2_ n3_; (try clear hb); (try clear hb2); (try clear hk); (try clear hi); (try clear ho0); (try clear ho1)) | ((with_reducible refine gate_dst (N := 16) rfl ?_); refine Kd.R_lit (Kd.int .i64) _ 3 ?hg (N := 16) ?hd (xs := ([] : List Int)) (inner := []) (ok := fun _ => True) (okp := fun _ => True) ?hr ?hp (fun _ hk => hk) trivial (Below.refl _ _) (Nat.le_refl _) (by simp) ?_; (case hd => rfl); (case hg => rfl); (case hr => first | (go_simp; done) | (go_simp; rfl)); (case hp => exact (Reps.none _ _)); intro v263 w12 ho13 hb hg_ hnew_; clear hg_ hnew_; (first | rw [← Ny262.out] at ho13 | (simp only [Int.reduceToNat] at ho13; rw [← Ny262.out] at ho13)); have n0_ := mK (Kd.R_below (by (with_reducible repeat (first | apply rA | apply rN | apply rD)); exact HO258.out) hb); have n1_ := mK (Kd.R_elder' (by (with_reducible repeat (first | apply rA | apply rN | apply rD)); exact HO261.out) (Kd.R_base ho13) hb); have n2_ := mK (Kd.R_lower (Kd.R_new' ho13 (Kd.R_lt (by (with_reducible repeat (first | apply rA | apply rN | apply rD)); exact HO261.out))) (below_size (by repeat (first | (with_reducible first | exact HB.out | apply bA | apply bN | apply bD | refine bS ?_ GE254.out) | exact HB.out)))); have n3_ := mK (blk_below (by (with_reducible repeat (first | refine kN ?_ _ | refine kD ?_ | refine kA ?_ _)); exact BK254.out) hb); have n4_ := mK (below_step (by repeat (first | (with_reducible first | exact HB.out | apply bA | apply bN | apply bD | refine bS ?_ GE254.out) | exact HB.out)) hb); clear HO258; clear HO261; clear BK254; clear HB; have HO258 := n0_; have HO261 := n1_; have HO264 := n2_; have BK254 := n3_; have HB := n4_; clear n0_ n1_ n2_ n3_ n4_; clear hb ho13; have hcz14_0 : w12.cell? ⟨gb254, 0, none⟩ = some (.int .i64 a0_0) := (blk_cell BK254.out 0).trans rfl; have hcz14_1 : w12.cell? ⟨gb254, 1, none⟩ = some (.slice A0_1 l0_1.length c0_1) := (blk_cell BK254.out 1).trans rfl; have hfz14_0 := blk_frozen BK254.out 0; have hfz14_1 := blk_frozen BK254.out 1) | ((with_reducible refine gate_callee (f := 29) rfl ?_); refine goesL_ (some 18) rfl rfl Try.func29 (by kernel_rfl) rfl #[.agg #[.int .i64 a0_0, .slice A0_1 l0_1.length c0_1]] rfl (by (try simp only [List.map_toArray, List.map_cons, List.map_nil]); first | done | rfl | (simp only [List.length_drop, List.length_take]; rfl)) ?_; (with_reducible refine (spec_GraphOf.calls k a0_0 _ _ l0_1 t265 t266 _ ?side1 ?side2 A5.out).mono ?_); (case side1 => repeat (first | exact (Kd.C_below HR0_1.out HB.out) | (with_reducible refine Kd.C_alloc ?_ _) | (with_reducible refine Kd.C_drewN ?_ _) | (with_reducible refine Kd.C_drew ?_))); (case side2 => exact HC0_1.out); rintro e w15 ⟨v267, rfl, ho0, hb⟩; refine ⟨_, rfl, ?_⟩; have n0_ := mK (Kd.R_elder' (by (with_reducible repeat (first | apply rA | apply rN | apply rD)); exact HO258.out) (Kd.R_base ho0) hb); have n1_ := mK (Kd.R_below (by (with_reducible repeat (first | apply rA | apply rN | apply rD)); exact HO261.out) hb); have n2_ := mK (Kd.R_below (by (with_reducible repeat (first | apply rA | apply rN | apply rD)); exact HO264.out) hb); have n3_ := mK (Kd.R_lower (Kd.R_new' ho0 (Kd.R_lt (by (with_reducible repeat (first | apply rA | apply rN | apply rD)); exact HO258.out))) (below_size (by repeat (first | (with_reducible first | exact HB.out | apply bA | apply bN | apply bD | refine bS ?_ GE254.out) | exact HB.out)))); have n4_ := mK (blk_below (by (with_reducible repeat (first | refine kN ?_ _ | refine kD ?_ | refine kA ?_ _)); exact BK254.out) hb); have n5_ := mK (below_step (by repeat (first | (with_reducible first | exact HB.out | apply bA | apply bN | apply bD | refine bS ?_ GE254.out) | exact HB.out)) hb); clear HO258; clear HO261; clear HO264; clear BK254; clear HB; have HO258 := n0_; have HO261 := n1_; have HO264 := n2_; have HO268 := n3_; have BK254 := n4_; have HB := n5_; clear n0_ n1_ n2_ n3_ n4_ n5_; (try clear hb); (try clear hb2); (try clear hk); (try clear hi); (try clear ho0); obtain ⟨Ao16, co16, eo16⟩ := Kd.R_slice HO268.out; subst eo16) | ((with_reducible refine gate_callee (f := 68) rfl ?_); refine goesL_ (some 19) rfl rfl Try.func68 (by kernel_rfl) rfl #[.agg #[.int .i64 t265, .slice Ao16 t266.length co16]] rfl (by (try simp only [List.map_toArray, List.map_cons, List.map_nil]); first | done | rfl | (simp only [List.length_drop, List.length_take]; rfl)) ?_; (with_reducible refine (spec_NegativeCycle.calls k t265 _ _ t266 t269 _ ?side1 ?side2 A6.out).mono ?_); (case side1 => repeat (first | exact (Kd.R_reads' HO268.out).2.2 | (with_reducible refine Kd.C_alloc ?_ _) | (with_reducible refine Kd.C_drewN ?_ _) | (with_reducible refine Kd.C_drew ?_))); (case side2 => exact (Kd.R_reads' HO268.out).2.1); rintro e w17 ⟨v270, rfl, ho0, hb⟩; refine ⟨_, rfl, ?_⟩; have n0_ := mK (Kd.R_below (by (with_reducible repeat (first | apply rA | apply rN | apply rD)); exact HO258.out) hb); have n1_ := mK (Kd.R_elder' (by (with_reducible repeat (first | apply rA | apply rN | apply rD)); exact HO261.out) (Kd.R_base ho0) hb); have n2_ := mK (Kd.R_elder' (by (with_reducible repeat (first | apply rA | apply rN | apply rD)); exact HO264.out) (Kd.R_base ho0) hb); have n3_ := mK (Kd.R_below (by (with_reducible repeat (first | apply rA | apply rN | apply rD)); exact HO268.out) hb); have n4_ := mK (Kd.R_lower (Kd.R_new' (Kd.R_new' ho0 (Kd.R_lt (by (with_reducible repeat (first | apply rA | apply rN | apply rD)); exact HO261.out))) (Kd.R_lt (by (with_reducible repeat (first | apply rA | apply rN | apply rD)); exact HO264.out))) (below_size (by repeat (first | (with_reducible first | exact HB.out | apply bA | apply bN | apply bD | refine bS ?_ GE254.out) | exact HB.out)))); have n5_ := mK (blk_below (by (with_reducible repeat (first | refine kN ?_ _ | refine kD ?_ | refine kA ?_ _)); exact BK254.out) hb); have n6_ := mK (below_step (by repeat (first | (with_reducible first | exact HB.out | apply bA | apply bN | apply bD | refine bS ?_ GE254.out) | exact HB.out)) hb); clear HO258; clear HO261; clear HO264; clear HO268; clear BK254; clear HB; have HO258 := n0_; have HO261 := n1_; have HO264 := n2_; have HO268 := n3_; have HO271 := n4_; have BK254 := n5_; have HB := n6_; clear n0_ n1_ n2_ n3_ n4_ n5_ n6_; (try clear hb); (try clear hb2); (try clear hk); (try clear hi); (try clear ho0); obtain ⟨Ao18, co18, eo18⟩ := Kd.R_slice HO271.out; subst eo18))
  go_loopg [5, 21] k (fun kq v5 v21 w' => ∃ (x5_1 : List Int) (x21_1 : Int), v21 = .int .i64 x21_1 ∧ Aside0 (spec_ConflictOf.l0 kq t259 x5_1 t269 (t269.length : Int) x21_1 = some r) ∧ Aside0 (kq ≤ k) ∧ Aside0 (Kd.R (Kd.int .i64) 3 w' w.heap.size (fun k_ => some k_ ≠ (v5 : Value).ownBlock ∧ some k_ ≠ ((.slice Ao18 t269.length co18) : Value).ownBlock) v260 t259) ∧ Aside0 (Kd.R (Kd.int .i64) 3 w' w.heap.size (fun k_ => some k_ ≠ (v260 : Value).ownBlock ∧ some k_ ≠ ((.slice Ao18 t269.length co18) : Value).ownBlock) v5 x5_1) ∧ Aside0 (Kd.R (Kd.int .i64) 3 w' w.heap.size (fun k_ => some k_ ≠ (v260 : Value).ownBlock ∧ some k_ ≠ (v5 : Value).ownBlock) (.slice Ao18 t269.length co18) t269) ∧ Aside0 (w'.heap[gb254]? = some (.cells #[.int .i64 a0_0, (.slice A0_1 l0_1.length c0_1)] 29 (0, 0))) ∧ Aside0 (Below w.heap.size w w'))
  case atStart => exact ⟨(y262), (0), (by first | rfl | (simp; done) | (simp [*]; done)), H', ⟨Nat.le_refl _⟩, ⟨by (with_reducible repeat (first | apply rA | apply rN | apply rD)); exact Kd.R_mono HO261.out (fun _ hk => ⟨hk.1.2, hk.2⟩)⟩, ⟨by (with_reducible repeat (first | apply rA | apply rN | apply rD)); exact Kd.R_mono HO264.out (fun _ hk => ⟨hk.1.2, hk.2⟩)⟩, ⟨by (with_reducible repeat (first | apply rA | apply rN | apply rD)); exact Kd.R_mono HO271.out (fun _ hk => ⟨hk.1.2, hk.2⟩)⟩, ⟨by (with_reducible repeat (first | refine kN ?_ _ | refine kD ?_ | refine kA ?_ _)); exact BK254.out⟩, ⟨by repeat (first | (with_reducible first | exact HB.out | apply bA | apply bN | apply bD | refine bS ?_ GE254.out) | exact HB.out)⟩⟩
  case round =>
   clear H'
   try clear c1
   try clear c2
   try clear p2
   try clear c3
   try clear c6
   try clear c12
   try clear hcz10_0
   try clear hcz10_1
   try clear hcz14_0
   try clear hcz14_1
   try clear hcz8_0
   try clear hcz8_1
   try clear hfz10_0
   try clear hfz10_1
   try clear hfz14_0
   try clear hfz14_1
   try clear hfz8_0
   try clear hfz8_1
   obtain ⟨x5_1, x21_1, rfl, HA, HK1, HO_4, HO_5, HO_19, BK254, HB⟩ := hrel
   cases gk with
   | zero => exact absurd HA.out (by simp [spec_ConflictOf.l0])
   | succ k1 =>
    have H := HA.out
    clear HA
    simp only [spec_ConflictOf.l0] at H
    by_cases c19 : x21_1 < (t269.length : Int)
    rotate_left
    · rw [if_neg c19] at H
      have c19b0 : decide (x21_1 < (t269.length : Int)) = false := decide_eq_false c19
      clear c19
      obtain rfl := Option.some.inj H
      go_wp2
      go_ret
      exact ⟨_, by first | rfl | (simp [errW_none, errW_some] <;> rfl) | (simp [*, errW_none, errW_some] <;> rfl), by (with_reducible repeat (first | apply rA | apply rN | apply rD)); exact Kd.R_mono HO_5.out (fun _ hk => trivial), by repeat (first | (with_reducible first | exact HB.out | apply bA | apply bN | apply bD | refine bS ?_ GE254.out) | exact HB.out)⟩
    rw [if_pos c19] at H
    have c19b0 : decide (x21_1 < (t269.length : Int)) = true := decide_eq_true c19
    clear c19
    by_cases c20 : 0 ≤ x21_1
    rotate_left
    · rw [if_neg c20] at H
      exact absurd H (by simp)
    rw [if_pos c20] at H
    have c20b0 : decide (0 ≤ x21_1) = true := decide_eq_true c20
    clear c20
    by_cases c21 : x21_1 < (t269.length : Int)
    rotate_left
    · rw [if_neg c21] at H
      exact absurd H (by simp)
    rw [if_pos c21] at H
    have c21b0 : decide (x21_1 < (t269.length : Int)) = true := decide_eq_true c21
    clear c21
    by_cases c22 : 0 ≤ (rd t269 x21_1)
    rotate_left
    · rw [if_neg c22] at H
      exact absurd H (by simp)
    rw [if_pos c22] at H
    have c22b0 : decide (0 ≤ (rd t269 x21_1)) = true := decide_eq_true c22
    clear c22
    by_cases c23 : (rd t269 x21_1) < (t259.length : Int)
    rotate_left
    · rw [if_neg c23] at H
      exact absurd H (by simp)
    rw [if_pos c23] at H
    have c23b0 : decide ((rd t269 x21_1) < (t259.length : Int)) = true := decide_eq_true c23
    clear c23
    by_cases c24 : x5_1.length < 17592186044416
    rotate_left
    · rw [if_neg c24] at H
      exact absurd H (by simp)
    rw [if_pos c24] at H
    have LMc24 := mK c24
    clear c24
    obtain ⟨y274, hy274⟩ : ∃ y_ : List Int, y_ = (x5_1 ++ [rd t259 (rd t269 x21_1)]) := ⟨_, rfl⟩
    replace H : (spec_ConflictOf.l0 k1 t259 y274 t269 (t269.length : Int) (wrap64 (x21_1 + 1))) = some r := by first | (rw [hy274]; with_reducible exact H) | (have H2_ := (Option.bind_some _ _).symm.trans H; rw [hy274]; with_reducible exact H2_) | (have H2_ := (Option.bind_some _ _).symm.trans H; with_reducible exact H2_) | with_reducible exact H | (rw [hy274]; exact H) | exact H
    have Ny274 := mK hy274
    clear hy274
    have H' := mK H
    clear H
    have p272 : 0 ≤ (x21_1 : Int) := of_decide_eq_true (by first | (with_reducible assumption) | assumption)
    have q272 : x21_1 < (t269.length : Int) := of_decide_eq_true (by first | (with_reducible assumption) | assumption)
    obtain ⟨ad272, e272, hx272_0⟩ := Kd.at_int (Kd.R_reads' HO_19.out).2.2 x21_1 p272 q272
    cases e272
    replace p272 := eq_true p272
    replace q272 := eq_true q272
    obtain ⟨Ao25, co25, eo25⟩ := Kd.R_slice HO_4.out
    subst eo25
    have p273 : 0 ≤ ((rd t269 x21_1) : Int) := of_decide_eq_true (by first | (with_reducible assumption) | assumption)
    have q273 : (rd t269 x21_1) < (t259.length : Int) := of_decide_eq_true (by first | (with_reducible assumption) | assumption)
    obtain ⟨ad273, e273, hx273_0⟩ := Kd.at_int (Kd.R_reads' HO_4.out).2.2 (rd t269 x21_1) p273 q273
    cases e273
    replace p273 := eq_true p273
    replace q273 := eq_true q273
    go_wp2_with (first | ((with_reducible refine gate_builtin (b := .append) (xs := #[.tmp 25, .tmp 30]) rfl ?_); at_builtin; refine Kd.R_append (Kd.int .i64) (w0 := w) w.heap.size rfl (.tmp 25) (.tmp 30) 33 3 (.int .i64 0) 8 rfl Try.underlying33 info3 rfl (by decide) (by omega) u5 x5_1 (rd t259 (rd t269 x21_1)) [.int .i64 (rd t259 (rd t269 x21_1))] (fun k_ => some k_ ≠ (.slice (some ad273) t259.length co25 : Value).ownBlock ∧ some k_ ≠ (.slice (some ad272) t269.length co18 : Value).ownBlock) (fun _ => False) rfl rfl ?aP (fun _ hk => hk.elim) ?aF ?aO ?aB ?aS ?aL ?_; (case aP => exact rfl); (case aB => exact (by repeat (first | (with_reducible first | exact HB.out | apply bA | apply bN | apply bD | refine bS ?_ GE254.out) | exact HB.out))); (case aF => exact (fun k_ hk => ⟨Kd.fresh' (Kd.R_lt (by (with_reducible repeat (first | apply rA | apply rN | apply rD)); exact HO_4.out)) k_ hk, Kd.fresh' (Kd.R_lt (by (with_reducible repeat (first | apply rA | apply rN | apply rD)); exact HO_19.out)) k_ hk⟩)); (case aO => exact (by (with_reducible repeat (first | apply rA | apply rN | apply rD)); exact HO_5.out)); (case aS => exact (below_size (by repeat (first | (with_reducible first | exact HB.out | apply bA | apply bN | apply bD | refine bS ?_ GE254.out) | exact HB.out)))); (case aL => have := LMc24.out; omega); intro v275 w26 ho hb hg hat; rw [← Ny274.out] at ho; have n0_ := mK (Kd.R_after (ok := (fun k_ => some k_ ≠ (.slice (some ad272) t269.length co18 : Value).ownBlock)) (by (with_reducible repeat (first | apply rA | apply rN | apply rD)); exact Kd.R_mono HO_4.out (fun _ hk => ⟨hk.2, hk.1⟩)) hg hat); have n1_ := mK (Kd.R_after (ok := (fun k_ => some k_ ≠ (.slice (some ad273) t259.length co25 : Value).ownBlock)) (by (with_reducible repeat (first | apply rA | apply rN | apply rD)); exact HO_19.out) hg hat); have n2_ := mK (blk_grown (by (with_reducible repeat (first | refine kN ?_ _ | refine kD ?_ | refine kA ?_ _)); exact BK254.out) hg (Kd.R_ne HO_5.out BK254.out (by decide))); have n3_ := mK (hb); have n4_ := mK (ho); clear HO_4; clear HO_19; clear BK254; clear HB; clear HO_5; have HO_4 := n0_; have HO_19 := n1_; have BK254 := n2_; have HB := n3_; have HO276 := n4_; clear n0_ n1_ n2_ n3_ n4_; clear ho hb hg hat))
    go_roundg k1
    case measure => have := HK1.out; omega
    case rel => exact ⟨(y274), (wrap64 (x21_1 + 1)), (by first | rfl | (simp; done) | (simp [*]; done)), H', ⟨by have := HK1.out; omega⟩, ⟨by (with_reducible repeat (first | apply rA | apply rN | apply rD)); exact Kd.R_mono HO_4.out (fun _ hk => ⟨hk.2, hk.1⟩)⟩, ⟨by (with_reducible repeat (first | apply rA | apply rN | apply rD)); exact HO276.out⟩, ⟨by (with_reducible repeat (first | apply rA | apply rN | apply rD)); exact HO_19.out⟩, ⟨by (with_reducible repeat (first | refine kN ?_ _ | refine kD ?_ | refine kA ?_ _)); exact BK254.out⟩, ⟨by repeat (first | (with_reducible first | exact HB.out | apply bA | apply bN | apply bD | refine bS ?_ GE254.out) | exact HB.out)⟩⟩

/-! ### impl_Link_55: function 55 -/
section
open Go.Shelf Go.Lib
instance : Inhabited S47 := ⟨z47⟩
def encLink (x : S47) : List Value := [.int .i64 x.f0, .int .i64 x.f1, .int .i64 x.f2.f0, .int .i64 x.f2.f1]
set_option maxHeartbeats 2000000 in
theorem idxLink_calls (p : S47 → Bool) (g : Nat) (lb : Array Value) (eg : ∀ args w, (callFunc g args).run Try.prog w = .ok (.enter g args) w) (b off n c : Nat) (zs : List S47) (w : World)
    (hp : ∀ (W : World) (x : S47), x ∈ zs → Below w.heap.size w W → Calls Try.prog g (#[(.agg #[.int .i64 x.f0, .int .i64 x.f1, .int .i64 x.f2.f0, .int .i64 x.f2.f1])] ++ lb) W fun e w' => e = .returned (.bool (p x)) ∧ Below w.heap.size w w') (hz : n ≤ zs.length) (hbig : n ≤ 9223372036854775807) (hb : b < w.heap.size)
    (hc : ∀ j, j < zs.length → ∀ i v, (encLink zs[j]!)[i]? = some v → w.cell? ⟨b, off + j * 4 + i, none⟩ = some v) :
    Calls Try.prog 55 #[.slice (some ⟨b, off, none⟩) n c, .func (.func g) #[] lb] w fun e w' => e = .returned (.int .i64 (Lib.idxBy (fun _ y => p y) (zs.take n) default)) ∧ Below w.heap.size w w' := by
  have hrow : ∀ (W : World), Below w.heap.size w W → ∀ j, j < zs.length → W.cell? ⟨b, off + j * 4, none⟩ = some (.int .i64 zs[j]!.f0) ∧ W.cell? ⟨b, off + j * 4 + 1, none⟩ = some (.int .i64 zs[j]!.f1) ∧ W.cell? ⟨b, off + j * 4 + 2, none⟩ = some (.int .i64 zs[j]!.f2.f0) ∧ W.cell? ⟨b, off + j * 4 + 3, none⟩ = some (.int .i64 zs[j]!.f2.f1) := fun W hW j hj =>
   ⟨(hW.cell (p := ⟨b, off + j * 4, none⟩) hb).trans (hc j hj 0 _ rfl), (hW.cell (p := ⟨b, off + j * 4 + 1, none⟩) hb).trans (hc j hj 1 _ rfl), (hW.cell (p := ⟨b, off + j * 4 + 2, none⟩) hb).trans (hc j hj 2 _ rfl), (hW.cell (p := ⟨b, off + j * 4 + 3, none⟩) hb).trans (hc j hj 3 _ rfl)⟩
  clear hc
  go_enter Try.func55, Try.ntmps55
  go_wp2
  go_loopg [5, 8] n (fun gg _ s8 wr => ∃ kk : Nat, kk ≤ n ∧ n - kk ≤ gg ∧ s8 = .int .i64 kk ∧ Aside (Below w.heap.size w wr) ∧ Aside (∀ j, j < kk → p zs[j]! = false))
  case atStart => exact ⟨0, Nat.zero_le _, by omega, rfl, Below.refl _ w, fun j hj => absurd hj (Nat.not_lt_zero _)⟩
  case round =>
   obtain ⟨kk, hkk, hg, rfl, BW, A⟩ := hrel
   by_cases hlt : kk < n
   rotate_left
   · have hltz : ¬ (kk : Int) < (n : Int) := by omega
     have : kk = n := by omega
     subst this
     go_wp2
     go_ret
     refine ⟨?_, BW.out⟩
     rw [Lib.idxBy_miss (fun _ y => p y) zs kk default A.out]
     rfl
   have hltz : (kk : Int) < (n : Int) := by omega
   obtain ⟨l0, l1, l2, l3⟩ := hrow wr BW.out kk (by omega)
   have hcall := hp wr zs[kk]! (by rw [getElem!_pos zs kk (by omega)]; exact List.getElem_mem _) BW.out
   clear hrow hp
   generalize hy : zs[kk]! = y at l0 l1 l2 l3 hcall
   have B : Aside (zs[kk]! = y) := hy
   clear hy
   cases hq : p y with
   | true =>
    rw [hq] at hcall
    go_wp2_with (go_at_fn g; refine hcall.mono ?_; rintro e w' ⟨rfl, hb'⟩)
    go_ret
    refine ⟨?_, hb'⟩
    rw [Lib.idxBy_hit (fun _ y => p y) zs n kk default hlt hz (by show p zs[kk]! = true; rw [B.out]; exact hq) A.out]
    rfl
   | false =>
    rw [hq] at hcall
    go_wp2_with (go_at_fn g; refine hcall.mono ?_; rintro e w' ⟨rfl, hb'⟩)
    go_roundg (n - (kk + 1))
    case measure => omega
    case rel =>
     refine ⟨kk + 1, by omega, by omega, by go_num, hb', (show Aside _ from fun j hj => ?_)⟩
     by_cases e : j = kk
     rotate_left
     · exact A.out j (by omega)
     subst e
     rw [B.out]; exact hq
theorem idxLink_empty (a : Option Addr) (c : Nat) (fv : Value) (w : World) :
    Calls Try.prog 55 #[.slice a 0 c, fv] w fun e w' => e = .returned (.int .i64 (-1)) ∧ w' = w := by
  go_enter Try.func55, Try.ntmps55
  go_wp2
  go_loopg [5, 8] 0 (fun _ _ s8 wr => s8 = .int .i64 0 ∧ wr = w)
  case atStart => exact ⟨rfl, rfl⟩
  case round =>
   obtain ⟨rfl, rfl⟩ := hrel
   go_wp2
   go_ret
   exact ⟨rfl, rfl⟩
theorem addrLink_of {W : World} {a : Addr} {v : Value} (h : W.cell? a = some v) : ∃ b o, a = ⟨b, o, none⟩ ∧ b < W.heap.size := by
  obtain ⟨b, o, s⟩ := a
  have hlt := World.block_lt_of_cell? W _ h
  cases s with
  | none => exact ⟨b, o, rfl, hlt⟩
  | some s =>
   unfold World.cell? at h
   split at h
   · simp at h
   · simp at h
theorem idxLink_at (p : S47 → Bool) (g : Nat) (lb : Array Value) (eg : ∀ args w, (callFunc g args).run Try.prog w = .ok (.enter g args) w) (A : Option Addr) (c : Nat) (l : List S47) (w : World)
    (hp : ∀ (W : World) (x : S47), x ∈ l → Below w.heap.size w W → Calls Try.prog g (#[(.agg #[.int .i64 x.f0, .int .i64 x.f1, .int .i64 x.f2.f0, .int .i64 x.f2.f1])] ++ lb) W fun e w' => e = .returned (.bool (p x)) ∧ Below w.heap.size w w') (hr : Kd.C k47 w A l.length l) :
    Calls Try.prog 55 #[.slice A l.length c, .func (.func g) #[] lb] w fun e w' => e = .returned (.int .i64 (Lib.idxBy (fun _ y => p y) l default)) ∧ Below w.heap.size w w' := by
  cases l with
  | nil => exact (idxLink_empty A c _ w).mono fun e w' ⟨he, hw⟩ => by subst hw; exact ⟨he, Below.refl _ _⟩
  | cons x l' =>
   have hrow : ∀ j, j < (x :: l').length → ∃ ad, A = some ad ∧ ∀ i v, (encLink (x :: l')[j]!)[i]? = some v → w.cell? (ad.add (j * 4 + i)) = some v := by
    intro j hj
    obtain ⟨ad, cs, e, _, hK, hc0⟩ := Kd.C_get hr z47 j (by omega) (by omega)
    have hcs : cs = encLink ((x :: l').getD j z47) := k47_open (by simpa using hK)
    refine ⟨ad, e, fun i v hi => ?_⟩
    have e1 : (x :: l')[j]! = (x :: l').getD j z47 := by rw [List.getD_eq_getElem?_getD, List.getElem!_eq_getElem?_getD]; rfl
    have := hc0 i v (by rw [hcs, ← e1]; exact hi)
    simpa [k47, k45, Kd.iso, Kd.pair, Kd.int, Kd.scalar] using this
   obtain ⟨ad, rfl, h0⟩ := hrow 0 (by simp)
   obtain ⟨b, o, rfl, hb⟩ := addrLink_of (h0 0 _ rfl)
   have hcon := idxLink_calls p g lb eg b o (x :: l').length c (x :: l') w
     hp (Nat.le_refl _) (Kd.C_max hr) hb (fun j hj i v hi => by
       obtain ⟨ad', e, h⟩ := hrow j hj
       obtain rfl := Option.some.inj e
       have := h i v hi
       rw [Addr.add_lit] at this
       rw [← this, Nat.add_assoc])
   rw [List.take_length] at hcon
   exact hcon
end

/-! ### impl_Link_44: function 44 -/
section
open Go.Shelf Go.Lib
theorem anyLink_at (p : S47 → Bool) (g : Nat) (lb : Array Value) (eg : ∀ args w, (callFunc g args).run Try.prog w = .ok (.enter g args) w) (A : Option Addr) (c : Nat) (l : List S47) (w : World)
    (hp : ∀ (W : World) (x : S47), x ∈ l → Below w.heap.size w W → Calls Try.prog g (#[(.agg #[.int .i64 x.f0, .int .i64 x.f1, .int .i64 x.f2.f0, .int .i64 x.f2.f1])] ++ lb) W fun e w' => e = .returned (.bool (p x)) ∧ Below w.heap.size w w') (hr : Kd.C k47 w A l.length l) :
    Calls Try.prog 44 #[.slice A l.length c, .func (.func g) #[] lb] w fun e w' => e = .returned (.bool (l.any p)) ∧ Below w.heap.size w w' := by
  rw [show l.any p = decide (0 ≤ Lib.idxBy (fun _ y => p y) l default) from (Lib.idxBy_nonneg_iff (fun _ y => p y) l default).symm]
  have hcon := idxLink_at p g lb eg A c l w hp hr
  generalize Lib.idxBy (fun _ y => p y) l default = r at hcon ⊢
  go_enter Try.func44, Try.ntmps44
  go_wp2_with (go_at_call 55; refine hcon.mono ?_; rintro e w' ⟨rfl, hb'⟩)
  go_ret
  exact ⟨by simp, hb'⟩
end

/-! ### impl_isNode: function 46 -/
def impl_isNode.f (a0 : Int) (a1 : Int) : Option (Bool) := if a1 ≥ 0 then (some (decide (a1 < a0))) else (some false)
set_option maxHeartbeats 8000000 in
set_option maxRecDepth 100000 in
theorem impl_isNode.calls (a0 : Int) (a1 : Int) (r : Bool) (w : World) (h : impl_isNode.f a0 a1 = some r) :
    Calls Try.prog 46 #[.int .i64 a0, .int .i64 a1] w fun e w' => e = .returned (.bool r) ∧ Drawn0 w w' := by
  have H : (if a1 ≥ 0 then (some (decide (a1 < a0))) else (some false)) = some r := h
  clear h
  by_cases c3 : a1 ≥ 0
  · rw [if_pos c3] at H
    have c3b0 : decide (0 ≤ a1) = true := decide_eq_true c3
    clear c3
    obtain rfl := Option.some.inj H
    go_enter Try.func46, Try.ntmps46
    go_wp2
    go_ret
    exact ⟨by first | rfl | (simp; done) | (simp [*]; done), by repeat (first | exact Drawn0.refl _ | apply Drawn0.step)⟩
  rw [if_neg c3] at H
  have c3b0 : decide (0 ≤ a1) = false := decide_eq_false c3
  clear c3
  obtain rfl := Option.some.inj H
  go_enter Try.func46, Try.ntmps46
  go_wp2
  go_ret
  exact ⟨by first | rfl | (simp; done) | (simp [*]; done), by repeat (first | exact Drawn0.refl _ | apply Drawn0.step)⟩

/-! ### impl_IntervalOk: function 47 -/
def impl_IntervalOk.f (a0_0 : Int) (a0_1 : Int) : Option (Bool) := if a0_0 ≥ (-1000000) then (if a0_0 ≤ a0_1 then (if a0_1 ≤ 1000000 then (if a0_0 = 1000000 then (some false) else (some (a0_1 != (-1000000)))) else (some false)) else (some false)) else (some false)
set_option maxHeartbeats 8000000 in
set_option maxRecDepth 100000 in
theorem impl_IntervalOk.calls (a0_0 : Int) (a0_1 : Int) (r : Bool) (w : World) (h : impl_IntervalOk.f a0_0 a0_1 = some r) :
    Calls Try.prog 47 #[.agg #[.int .i64 a0_0, .int .i64 a0_1]] w fun e w' => e = .returned (.bool r) ∧ Below w.heap.size w w' := by
  have hu45 := Try.underlying45
  have HB := mK (Below.refl w.heap.size w)
  have H : (if a0_0 ≥ (-1000000) then (if a0_0 ≤ a0_1 then (if a0_1 ≤ 1000000 then (if a0_0 = 1000000 then (some false) else (some (a0_1 != (-1000000)))) else (some false)) else (some false)) else (some false)) = some r := h
  clear h
  by_cases c2 : a0_0 ≥ (-1000000)
  rotate_left
  · rw [if_neg c2] at H
    have c2b0 : decide ((-1000000) ≤ a0_0) = false := decide_eq_false c2
    clear c2
    obtain rfl := Option.some.inj H
    go_enter Try.func47, Try.ntmps47
    go_wp2_with (first | ((with_reducible refine gate_dst (N := 1) rfl ?_); refine box_event ?hg (N := 1) ?hd (cs := #[.int .i64 a0_0, .int .i64 a0_1]) (t := 45) ?hr ?_; (case hd => rfl); (case hg => rfl); (case hr => first | (go_simp; done) | (go_simp; rfl)); intro gb277 hg w14 hbox hb; have n0_ := mK (below_step (by repeat (first | (with_reducible first | exact HB.out | apply bA | apply bN | apply bD) | exact HB.out)) hb); have n1_ := mK (hbox); have n2_ := mK ((by rw [hg]; exact (below_size (by repeat (first | (with_reducible first | exact HB.out | apply bA | apply bN | apply bD) | exact HB.out))) : w.heap.size ≤ gb277)); have n3_ := mK ((by rw [hg]; exact (below_size (by repeat (first | (with_reducible first | exact HB.out | apply bA | apply bN | apply bD) | exact HB.out))) : w.heap.size ≤ gb277)); clear HB; have HB := n0_; have BK277 := n1_; have GW277 := n2_; have GE277 := n3_; clear n0_ n1_ n2_ n3_; clear hb hbox hg; have hcz15_0 : w14.cell? ⟨gb277, 0, none⟩ = some (.int .i64 a0_0) := (blk_cell BK277.out 0).trans rfl; have hcz15_1 : w14.cell? ⟨gb277, 1, none⟩ = some (.int .i64 a0_1) := (blk_cell BK277.out 1).trans rfl; have hfz15_0 := blk_frozen BK277.out 0; have hfz15_1 := blk_frozen BK277.out 1))
    go_ret
    exact ⟨by first | rfl | (simp [errW_none, errW_some] <;> rfl) | (simp [*, errW_none, errW_some] <;> rfl), by repeat (first | (with_reducible first | exact HB.out | apply bA | apply bN | apply bD | refine bS ?_ GE277.out) | exact HB.out)⟩
  rw [if_pos c2] at H
  have c2b0 : decide ((-1000000) ≤ a0_0) = true := decide_eq_true c2
  clear c2
  by_cases c3 : a0_0 ≤ a0_1
  rotate_left
  · rw [if_neg c3] at H
    have c3b0 : decide (a0_0 ≤ a0_1) = false := decide_eq_false c3
    clear c3
    obtain rfl := Option.some.inj H
    go_enter Try.func47, Try.ntmps47
    go_wp2_with (first | ((with_reducible refine gate_dst (N := 1) rfl ?_); refine box_event ?hg (N := 1) ?hd (cs := #[.int .i64 a0_0, .int .i64 a0_1]) (t := 45) ?hr ?_; (case hd => rfl); (case hg => rfl); (case hr => first | (go_simp; done) | (go_simp; rfl)); intro gb277 hg w12 hbox hb; have n0_ := mK (below_step (by repeat (first | (with_reducible first | exact HB.out | apply bA | apply bN | apply bD) | exact HB.out)) hb); have n1_ := mK (hbox); have n2_ := mK ((by rw [hg]; exact (below_size (by repeat (first | (with_reducible first | exact HB.out | apply bA | apply bN | apply bD) | exact HB.out))) : w.heap.size ≤ gb277)); have n3_ := mK ((by rw [hg]; exact (below_size (by repeat (first | (with_reducible first | exact HB.out | apply bA | apply bN | apply bD) | exact HB.out))) : w.heap.size ≤ gb277)); clear HB; have HB := n0_; have BK277 := n1_; have GW277 := n2_; have GE277 := n3_; clear n0_ n1_ n2_ n3_; clear hb hbox hg; have hcz13_0 : w12.cell? ⟨gb277, 0, none⟩ = some (.int .i64 a0_0) := (blk_cell BK277.out 0).trans rfl; have hcz13_1 : w12.cell? ⟨gb277, 1, none⟩ = some (.int .i64 a0_1) := (blk_cell BK277.out 1).trans rfl; have hfz13_0 := blk_frozen BK277.out 0; have hfz13_1 := blk_frozen BK277.out 1))
    go_ret
    exact ⟨by first | rfl | (simp [errW_none, errW_some] <;> rfl) | (simp [*, errW_none, errW_some] <;> rfl), by repeat (first | (with_reducible first | exact HB.out | apply bA | apply bN | apply bD | refine bS ?_ GE277.out) | exact HB.out)⟩
  rw [if_pos c3] at H
  have c3b0 : decide (a0_0 ≤ a0_1) = true := decide_eq_true c3
  clear c3
  by_cases c4 : a0_1 ≤ 1000000
  rotate_left
  · rw [if_neg c4] at H
    have c4b0 : decide (a0_1 ≤ 1000000) = false := decide_eq_false c4
    clear c4
    obtain rfl := Option.some.inj H
    go_enter Try.func47, Try.ntmps47
    go_wp2_with (first | ((with_reducible refine gate_dst (N := 1) rfl ?_); refine box_event ?hg (N := 1) ?hd (cs := #[.int .i64 a0_0, .int .i64 a0_1]) (t := 45) ?hr ?_; (case hd => rfl); (case hg => rfl); (case hr => first | (go_simp; done) | (go_simp; rfl)); intro gb277 hg w10 hbox hb; have n0_ := mK (below_step (by repeat (first | (with_reducible first | exact HB.out | apply bA | apply bN | apply bD) | exact HB.out)) hb); have n1_ := mK (hbox); have n2_ := mK ((by rw [hg]; exact (below_size (by repeat (first | (with_reducible first | exact HB.out | apply bA | apply bN | apply bD) | exact HB.out))) : w.heap.size ≤ gb277)); have n3_ := mK ((by rw [hg]; exact (below_size (by repeat (first | (with_reducible first | exact HB.out | apply bA | apply bN | apply bD) | exact HB.out))) : w.heap.size ≤ gb277)); clear HB; have HB := n0_; have BK277 := n1_; have GW277 := n2_; have GE277 := n3_; clear n0_ n1_ n2_ n3_; clear hb hbox hg; have hcz11_0 : w10.cell? ⟨gb277, 0, none⟩ = some (.int .i64 a0_0) := (blk_cell BK277.out 0).trans rfl; have hcz11_1 : w10.cell? ⟨gb277, 1, none⟩ = some (.int .i64 a0_1) := (blk_cell BK277.out 1).trans rfl; have hfz11_0 := blk_frozen BK277.out 0; have hfz11_1 := blk_frozen BK277.out 1))
    go_ret
    exact ⟨by first | rfl | (simp [errW_none, errW_some] <;> rfl) | (simp [*, errW_none, errW_some] <;> rfl), by repeat (first | (with_reducible first | exact HB.out | apply bA | apply bN | apply bD | refine bS ?_ GE277.out) | exact HB.out)⟩
  rw [if_pos c4] at H
  have c4b0 : decide (a0_1 ≤ 1000000) = true := decide_eq_true c4
  clear c4
  by_cases c5 : a0_0 = 1000000
  rotate_left
  · rw [if_neg c5] at H
    have c5b0 : (a0_0 == 1000000) = false := beq_eq_false_iff_ne.mpr c5
    have c5b1 : (a0_0 != 1000000) = true := bne_iff_ne.mpr c5
    obtain rfl := Option.some.inj H
    go_enter Try.func47, Try.ntmps47
    go_wp2_with (first | ((with_reducible refine gate_dst (N := 1) rfl ?_); refine box_event ?hg (N := 1) ?hd (cs := #[.int .i64 a0_0, .int .i64 a0_1]) (t := 45) ?hr ?_; (case hd => rfl); (case hg => rfl); (case hr => first | (go_simp; done) | (go_simp; rfl)); intro gb277 hg w8 hbox hb; have n0_ := mK (below_step (by repeat (first | (with_reducible first | exact HB.out | apply bA | apply bN | apply bD) | exact HB.out)) hb); have n1_ := mK (hbox); have n2_ := mK ((by rw [hg]; exact (below_size (by repeat (first | (with_reducible first | exact HB.out | apply bA | apply bN | apply bD) | exact HB.out))) : w.heap.size ≤ gb277)); have n3_ := mK ((by rw [hg]; exact (below_size (by repeat (first | (with_reducible first | exact HB.out | apply bA | apply bN | apply bD) | exact HB.out))) : w.heap.size ≤ gb277)); clear HB; have HB := n0_; have BK277 := n1_; have GW277 := n2_; have GE277 := n3_; clear n0_ n1_ n2_ n3_; clear hb hbox hg; have hcz9_0 : w8.cell? ⟨gb277, 0, none⟩ = some (.int .i64 a0_0) := (blk_cell BK277.out 0).trans rfl; have hcz9_1 : w8.cell? ⟨gb277, 1, none⟩ = some (.int .i64 a0_1) := (blk_cell BK277.out 1).trans rfl; have hfz9_0 := blk_frozen BK277.out 0; have hfz9_1 := blk_frozen BK277.out 1))
    go_ret
    exact ⟨by first | rfl | (simp [errW_none, errW_some] <;> rfl) | (simp [*, errW_none, errW_some] <;> rfl), by repeat (first | (with_reducible first | exact HB.out | apply bA | apply bN | apply bD | refine bS ?_ GE277.out) | exact HB.out)⟩
  rw [if_pos c5] at H
  have c5b0 : (a0_0 == 1000000) = true := beq_iff_eq.mpr c5
  have c5b1 : (a0_0 != 1000000) = false := bne_eq_false_iff_eq.mpr c5
  clear c5
  obtain rfl := Option.some.inj H
  go_enter Try.func47, Try.ntmps47
  go_wp2_with (first | ((with_reducible refine gate_dst (N := 1) rfl ?_); refine box_event ?hg (N := 1) ?hd (cs := #[.int .i64 a0_0, .int .i64 a0_1]) (t := 45) ?hr ?_; (case hd => rfl); (case hg => rfl); (case hr => first | (go_simp; done) | (go_simp; rfl)); intro gb277 hg w6 hbox hb; have n0_ := mK (below_step (by repeat (first | (with_reducible first | exact HB.out | apply bA | apply bN | apply bD) | exact HB.out)) hb); have n1_ := mK (hbox); have n2_ := mK ((by rw [hg]; exact (below_size (by repeat (first | (with_reducible first | exact HB.out | apply bA | apply bN | apply bD) | exact HB.out))) : w.heap.size ≤ gb277)); have n3_ := mK ((by rw [hg]; exact (below_size (by repeat (first | (with_reducible first | exact HB.out | apply bA | apply bN | apply bD) | exact HB.out))) : w.heap.size ≤ gb277)); clear HB; have HB := n0_; have BK277 := n1_; have GW277 := n2_; have GE277 := n3_; clear n0_ n1_ n2_ n3_; clear hb hbox hg; have hcz7_0 : w6.cell? ⟨gb277, 0, none⟩ = some (.int .i64 a0_0) := (blk_cell BK277.out 0).trans rfl; have hcz7_1 : w6.cell? ⟨gb277, 1, none⟩ = some (.int .i64 a0_1) := (blk_cell BK277.out 1).trans rfl; have hfz7_0 := blk_frozen BK277.out 0; have hfz7_1 := blk_frozen BK277.out 1))
  go_ret
  exact ⟨by first | rfl | (simp [errW_none, errW_some] <;> rfl) | (simp [*, errW_none, errW_some] <;> rfl), by repeat (first | (with_reducible first | exact HB.out | apply bA | apply bN | apply bD | refine bS ?_ GE277.out) | exact HB.out)⟩

/-! ### impl_SimpleOk: function 14 -/
section
open Go.Shelf Go.Lib
def sNodeB (n x : Int) : Bool := decide (0 ≤ x ∧ x < n)
theorem sNodeB_calls (n x : Int) (w : World) : Calls Try.prog 46 #[.int .i64 n, .int .i64 x] w fun e w' => e = .returned (.bool (sNodeB n x)) ∧ w = w' := by
  by_cases h1 : 0 ≤ x
  rotate_left
  · rw [show sNodeB n x = false from decide_eq_false (fun h => h1 h.1)]
    go_enter Try.func46, Try.ntmps46
    go_wp2
    go_ret
    exact ⟨by simp, rfl⟩
  by_cases h2 : x < n
  · rw [show sNodeB n x = true from decide_eq_true ⟨h1, h2⟩]
    go_enter Try.func46, Try.ntmps46
    go_wp2
    go_ret
    exact ⟨by simp, rfl⟩
  rw [show sNodeB n x = false from decide_eq_false (fun h => h2 h.2)]
  go_enter Try.func46, Try.ntmps46
  go_wp2
  go_ret
  exact ⟨by simp, rfl⟩
def qokB (a b : Int) : Bool := decide (-1000000 ≤ a ∧ a ≤ b ∧ b ≤ 1000000 ∧ a ≠ 1000000 ∧ b ≠ -1000000)
theorem qokB_f (a b : Int) : impl_IntervalOk.f a b = some (qokB a b) := by
  unfold impl_IntervalOk.f qokB
  repeat' split
  all_goals (congr 1; first | (symm; rw [decide_eq_false_iff_not]; omega) | (rw [Bool.eq_iff_iff]; simp only [bne_iff_ne, ne_eq, decide_eq_true_eq]; omega))
def badLink (n : Int) (e : S47) : Bool := !sNodeB n e.f0 || (!sNodeB n e.f1 || !qokB e.f2.f0 e.f2.f1)
theorem badLink_calls (n : Int) (B : Nat) (x : S47) (W : World) (hBW : B < W.heap.size) (hc : W.cell? ⟨B, 0, none⟩ = some (.int .i64 n)) :
    Calls Try.prog 45 #[.agg #[.int .i64 x.f0, .int .i64 x.f1, .int .i64 x.f2.f0, .int .i64 x.f2.f1], .pointer (some ⟨B, 0, none⟩)] W fun e w' => e = .returned (.bool (badLink n x)) ∧ Below W.heap.size W w' := by
  have hne : B ≠ W.heap.size := by omega
  obtain ⟨a, b, c, d⟩ := x
  show Calls Try.prog 45 #[.agg #[.int .i64 a, .int .i64 b, .int .i64 c, .int .i64 d], .pointer (some ⟨B, 0, none⟩)] W _
  obtain ⟨r1, h1⟩ : ∃ r, sNodeB n a = r := ⟨_, rfl⟩
  obtain ⟨r2, h2⟩ : ∃ r, sNodeB n b = r := ⟨_, rfl⟩
  obtain ⟨r3, h3⟩ : ∃ r, qokB c d = r := ⟨_, rfl⟩
  have k1 := sNodeB_calls n a
  have k2 := sNodeB_calls n b
  have k3 := fun w => impl_IntervalOk.calls c d r3 w (by rw [qokB_f, h3])
  rw [show badLink n ⟨a, b, c, d⟩ = (!r1 || (!r2 || !r3)) by simp [badLink, h1, h2, h3]]
  rw [h1] at k1
  rw [h2] at k2
  clear h1 h2 h3
  cases r1 <;> cases r2 <;> cases r3
  all_goals
    go_enter Try.func45, Try.ntmps45
    first
    | (go_wp2_with (first | (go_at_call 46; (with_reducible refine (k1 _).mono ?_); rintro e w' ⟨rfl, rfl⟩) | (go_at_call 46; (with_reducible refine (k2 _).mono ?_); rintro e w' ⟨rfl, rfl⟩))
       go_ret
       exact ⟨by simp, (Below.refl _ W).alloc (Nat.le_refl _) _⟩)
    | (go_wp2_with (first | (go_at_call 46; (with_reducible refine (k1 _).mono ?_); rintro e w' ⟨rfl, rfl⟩) | (go_at_call 46; (with_reducible refine (k2 _).mono ?_); rintro e w' ⟨rfl, rfl⟩) | (go_at_call 47; (with_reducible refine (k3 _).mono ?_); rintro e w' ⟨rfl, hb'⟩))
       go_ret
       exact ⟨by simp, ((Below.refl _ W).alloc (Nat.le_refl _) _).trans (hb'.mono (by simp))⟩)
def impl_SimpleOk.f (a0_0 : Int) (l0_1 : List (S47)) : Option (Bool) := some (if a0_0 < 1 then false else if a0_0 > 8 then false else if (l0_1.length : Int) > 40 then false else !(l0_1.any (badLink a0_0)))
theorem impl_SimpleOk.calls (a0_0 : Int) (A0_1 : Option Addr) (c0_1 : Nat) (l0_1 : List (S47)) (r : Bool) (w : World) (hr0_1 : Kd.C k47 w A0_1 l0_1.length l0_1) (hc0_1 : l0_1.length ≤ c0_1) (h : impl_SimpleOk.f a0_0 l0_1 = some r) :
    Calls Try.prog 14 #[.agg #[.int .i64 a0_0, .slice A0_1 l0_1.length c0_1]] w fun e w' => e = .returned (.bool r) ∧ Below w.heap.size w w' := by
  obtain rfl := Option.some.inj h
  clear h
  by_cases h0 : a0_0 < 1
  · rw [if_pos h0]
    have h0 : decide (a0_0 < 1) = true := decide_eq_true h0
    go_enter Try.func14, Try.ntmps14
    go_wp2
    go_ret
    exact ⟨by simp, (Below.refl _ w).alloc (Nat.le_refl _) _⟩
  rw [if_neg h0]
  replace h0 : decide (a0_0 < 1) = false := decide_eq_false h0
  by_cases h1 : a0_0 > 8
  · rw [if_pos h1]
    have h1 : decide (8 < a0_0) = true := decide_eq_true h1
    go_enter Try.func14, Try.ntmps14
    go_wp2
    go_ret
    exact ⟨by simp, (Below.refl _ w).alloc (Nat.le_refl _) _⟩
  rw [if_neg h1]
  replace h1 : decide (8 < a0_0) = false := decide_eq_false h1
  by_cases h2 : (l0_1.length : Int) > 40
  · rw [if_pos h2]
    have h2 : decide (40 < (l0_1.length : Int)) = true := decide_eq_true h2
    go_enter Try.func14, Try.ntmps14
    go_wp2
    go_ret
    exact ⟨by simp, (Below.refl _ w).alloc (Nat.le_refl _) _⟩
  rw [if_neg h2]
  replace h2 : decide (40 < (l0_1.length : Int)) = false := decide_eq_false h2
  have eg : ∀ args w, (callFunc 45 args).run Try.prog w = .ok (.enter 45 args) w := enters_of Try.func45 (by kernel_rfl) rfl
  have hcon := anyLink_at (badLink a0_0) 45 #[.pointer (some ⟨w.heap.size, 0, none⟩)] eg A0_1 c0_1 l0_1 (w.alloc (.cells #[.int .i64 a0_0, .slice A0_1 l0_1.length c0_1] 29))
    (fun W x _ hb => (badLink_calls a0_0 w.heap.size x W (Nat.lt_of_lt_of_le (by simp) hb.size) ((hb.cell (p := ⟨w.heap.size, 0, none⟩) (by simp)).trans (by simp))).mono fun e w' ⟨he, h⟩ => ⟨he, hb.trans (h.mono hb.size)⟩) (Kd.C_alloc hr0_1 _)
  generalize l0_1.any (badLink a0_0) = r at hcon ⊢
  go_enter Try.func14, Try.ntmps14
  go_wp2_with (go_at_call 44; refine hcon.mono ?_; rintro e w' ⟨rfl, hb'⟩)
  go_ret
  exact ⟨by simp, ((Below.refl _ w).alloc (Nat.le_refl _) _).trans (hb'.mono (by simp))⟩
end

/-! ### impl_graphOf: function 64 -/
def impl_graphOf.l0 : Nat → List Int → List (S47) → Int → Int → Int → List (S86) → Option (Int × (List (S86)) × List Int)
  | 0, _, _, _, _, _, _ => none
  | k + 1, x5, x12, x13, x14, x281000, x281001 => if x14 < x13 then (if 0 ≤ x14 then (if x14 < (x12.length : Int) then (if ((rd_T47 x12 x14).f2.f1) = 1000000 then (if ((rd_T47 x12 x14).f2.f0) = (-1000000) then (impl_graphOf.l0 k x5 x12 x13 (wrap64 (x14 + 1)) x281000 x281001) else (if x281001.length < 5864062014805 then (if x5.length < 17592186044416 then (impl_graphOf.l0 k (x5 ++ [x14]) x12 x13 (wrap64 (x14 + 1)) x281000 (x281001 ++ [(⟨(rd_T47 x12 x14).f1, (rd_T47 x12 x14).f0, wrap64 (-((rd_T47 x12 x14).f2.f0))⟩ : S86)])) else (none)) else (none))) else (if x281001.length < 5864062014805 then ((some (x281001 ++ [(⟨(rd_T47 x12 x14).f0, (rd_T47 x12 x14).f1, (rd_T47 x12 x14).f2.f1⟩ : S86)] : List (S86))).bind fun y289 => (if x5.length < 17592186044416 then ((some (x5 ++ [x14] : List Int)).bind fun y292 => (if ((rd_T47 x12 x14).f2.f0) = (-1000000) then (impl_graphOf.l0 k y292 x12 x13 (wrap64 (x14 + 1)) x281000 y289) else (if y289.length < 5864062014805 then (if y292.length < 17592186044416 then (impl_graphOf.l0 k (y292 ++ [x14]) x12 x13 (wrap64 (x14 + 1)) x281000 (y289 ++ [(⟨(rd_T47 x12 x14).f1, (rd_T47 x12 x14).f0, wrap64 (-((rd_T47 x12 x14).f2.f0))⟩ : S86)])) else (none)) else (none)))) else (none))) else (none))) else (none)) else (none)) else (some (x281000, x281001, x5))
def impl_graphOf.f (k : Nat) (a0_0 : Int) (l0_1 : List (S47)) : Option (Int × (List (S86)) × List Int) := impl_graphOf.l0 k ([] : List Int) l0_1 (l0_1.length : Int) 0 a0_0 ([] : List (S86))
theorem impl_graphOf.mono_l : ∀ k, (∀ y0 y1 y2 y3 y4 y5, LeO (impl_graphOf.l0 k y0 y1 y2 y3 y4 y5) (impl_graphOf.l0 (k + 1) y0 y1 y2 y3 y4 y5))
  | 0 => fun _ _ _ _ _ _ r h => by simp [impl_graphOf.l0] at h
  | k + 1 => by
    have ih0 := impl_graphOf.mono_l k
    · intro y0 y1 y2 y3 y4 y5
      unfold impl_graphOf.l0
      repeat' first
      | (with_reducible exact ih0 _ _ _ _ _ _)
      | (with_reducible exact LeO.refl _)
      | (with_reducible exact LeO.none _)
      | (with_reducible refine LeO.ite ?_ ?_)
      | (with_reducible refine LeO.bind ?_ (fun _ => ?_))
      | exact ih0 _ _ _ _ _ _
      | exact LeO.none _
      | refine LeO.ite ?_ ?_
      | refine LeO.bind ?_ (fun _ => ?_)
theorem impl_graphOf.mono : ∀ a0 a1 k, LeO (impl_graphOf.f k a0 a1) (impl_graphOf.f (k + 1) a0 a1) := by
  intro a0 a1 k
  have ih0 := impl_graphOf.mono_l k
  unfold impl_graphOf.f
  repeat' first
      | (with_reducible exact ih0 _ _ _ _ _ _)
      | (with_reducible exact LeO.refl _)
      | (with_reducible exact LeO.none _)
      | (with_reducible refine LeO.ite ?_ ?_)
      | (with_reducible refine LeO.bind ?_ (fun _ => ?_))
      | exact ih0 _ _ _ _ _ _
      | exact LeO.none _
      | refine LeO.ite ?_ ?_
      | refine LeO.bind ?_ (fun _ => ?_)
set_option maxHeartbeats 8000000 in
set_option maxRecDepth 100000 in
theorem impl_graphOf.calls (k : Nat) (a0_0 : Int) (A0_1 : Option Addr) (c0_1 : Nat) (l0_1 : List (S47)) (r1 : Int) (r2 : List (S86)) (r3 : List Int) (w : World) (hr0_1 : Kd.C k47 w A0_1 l0_1.length l0_1) (hc0_1 : l0_1.length ≤ c0_1) (h : impl_graphOf.f k a0_0 l0_1 = some (r1, r2, r3)) :
    Calls Try.prog 64 #[.agg #[.int .i64 a0_0, .slice A0_1 l0_1.length c0_1]] w fun e w' => ∃ v1_ v2_ : Value, e = .returned (.tuple #[.agg #[.int .i64 r1, v1_], v2_]) ∧ Kd.R k86 86 w' w.heap.size (fun _ => True) v1_ r2 ∧ Kd.R (Kd.int .i64) 3 w' w.heap.size (fun _ => True) v2_ r3 ∧ Below w.heap.size w w' := by
  have hu29 := Try.underlying29
  have hu53 := Try.underlying53
  have hu47 := Try.underlying47
  have hu86 := Try.underlying86
  have HR0_1 := mK hr0_1
  have HC0_1 := mK hc0_1
  clear hr0_1 hc0_1
  have HB := mK (Below.refl w.heap.size w)
  have H : (impl_graphOf.l0 k ([] : List Int) l0_1 (l0_1.length : Int) 0 a0_0 ([] : List (S86))) = some (r1, r2, r3) := h
  clear h
  have H' := mK H
  clear H
  go_enter Try.func64, Try.ntmps64
  go_wp2_with (first | ((with_reducible refine gate_dst (N := 1) rfl ?_); refine box_event ?hg (N := 1) ?hd (cs := #[.int .i64 a0_0, .slice A0_1 l0_1.length c0_1]) (t := 29) ?hr ?_; (case hd => rfl); (case hg => rfl); (case hr => first | (go_simp; done) | (go_simp; rfl)); intro gb278 hg w2 hbox hb; have n0_ := mK (below_step (by repeat (first | (with_reducible first | exact HB.out | apply bA | apply bN | apply bD) | exact HB.out)) hb); have n1_ := mK (hbox); have n2_ := mK ((by rw [hg]; exact (below_size (by repeat (first | (with_reducible first | exact HB.out | apply bA | apply bN | apply bD) | exact HB.out))) : w.heap.size ≤ gb278)); have n3_ := mK ((by rw [hg]; exact (below_size (by repeat (first | (with_reducible first | exact HB.out | apply bA | apply bN | apply bD) | exact HB.out))) : w.heap.size ≤ gb278)); clear HB; have HB := n0_; have BK278 := n1_; have GW278 := n2_; have GE278 := n3_; clear n0_ n1_ n2_ n3_; clear hb hbox hg) | ((with_reducible refine gate_dst (N := 2) rfl ?_); refine box_event ?hg (N := 2) ?hd (cs := #[.int .i64 0, .slice none 0 0]) (t := 53) ?hr ?_; (case hd => rfl); (case hg => rfl); (case hr => first | (go_simp; done) | (go_simp; rfl)); intro gb279 hg w3 hbox hb; have n0_ := mK (blk_below (by (with_reducible repeat (first | refine kN ?_ _ | refine kD ?_ | refine kA ?_ _)); exact BK278.out) hb); have n1_ := mK (below_step (by repeat (first | (with_reducible first | exact HB.out | apply bA | apply bN | apply bD | refine bS ?_ GE278.out) | exact HB.out)) hb); have n2_ := mK (hbox); have n3_ := mK ((by rw [hg]; exact (below_size (by repeat (first | (with_reducible first | exact HB.out | apply bA | apply bN | apply bD | refine bS ?_ GE278.out) | exact HB.out))) : w.heap.size ≤ gb279)); have n4_ := mK ((by rw [hg]; exact (below_size (by repeat (first | (with_reducible first | exact HB.out | apply bA | apply bN | apply bD | refine bS ?_ GE278.out) | exact HB.out))) : w.heap.size ≤ gb279)); have n5_ := mK ((by rw [hg]; exact Nat.ne_of_lt (blk_lt (by (with_reducible repeat (first | refine kN ?_ _ | refine kD ?_ | refine kA ?_ _)); exact BK278.out)) : gb278 ≠ gb279)); have n6_ := mK ((by rw [hg]; exact Nat.ne_of_gt (blk_lt (by (with_reducible repeat (first | refine kN ?_ _ | refine kD ?_ | refine kA ?_ _)); exact BK278.out)) : gb279 ≠ gb278)); clear BK278; clear HB; have BK278 := n0_; have HB := n1_; have BK279 := n2_; have GW279 := n3_; have GE279 := n4_; have NB278_279 := n5_; have NB279_278 := n6_; clear n0_ n1_ n2_ n3_ n4_ n5_ n6_; clear hb hbox hg; have hnb4 := NB278_279.out; have hnc4 := NB279_278.out; have hcz5_0 : w3.cell? ⟨gb278, 0, none⟩ = some (.int .i64 a0_0) := (blk_cell BK278.out 0).trans rfl; have hcz5_1 : w3.cell? ⟨gb278, 1, none⟩ = some (.slice A0_1 l0_1.length c0_1) := (blk_cell BK278.out 1).trans rfl; have hfz5_0 := blk_frozen BK278.out 0; have hfz5_1 := blk_frozen BK278.out 1) | ((with_reducible refine gate_dst (N := 4) rfl ?_); refine box_event ?hg (N := 4) ?hd (cs := #[.int .i64 0, .slice none 0 0]) (t := 53) ?hr ?_; (case hd => rfl); (case hg => rfl); (case hr => first | (go_simp; done) | (go_simp; rfl)); intro gb280 hg w6 hbox hb; have n0_ := mK (blk_below (by (with_reducible repeat (first | refine kN ?_ _ | refine kD ?_ | refine kA ?_ _)); exact BK278.out) hb); have n1_ := mK (blk_below (by (with_reducible repeat (first | refine kN ?_ _ | refine kD ?_ | refine kA ?_ _)); exact BK279.out) hb); have n2_ := mK (below_step (by repeat (first | (with_reducible first | exact HB.out | apply bA | apply bN | apply bD | refine bS ?_ GE278.out | refine bS ?_ GE279.out) | exact HB.out)) hb); have n3_ := mK (hbox); have n4_ := mK ((by rw [hg]; exact (below_size (by repeat (first | (with_reducible first | exact HB.out | apply bA | apply bN | apply bD | refine bS ?_ GE278.out | refine bS ?_ GE279.out) | exact HB.out))) : w.heap.size ≤ gb280)); have n5_ := mK ((by rw [hg]; exact (below_size (by repeat (first | (with_reducible first | exact HB.out | apply bA | apply bN | apply bD | refine bS ?_ GE278.out | refine bS ?_ GE279.out) | exact HB.out))) : w.heap.size ≤ gb280)); have n6_ := mK ((by rw [hg]; exact Nat.ne_of_lt (blk_lt (by (with_reducible repeat (first | refine kN ?_ _ | refine kD ?_ | refine kA ?_ _)); exact BK278.out)) : gb278 ≠ gb280)); have n7_ := mK ((by rw [hg]; exact Nat.ne_of_gt (blk_lt (by (with_reducible repeat (first | refine kN ?_ _ | refine kD ?_ | refine kA ?_ _)); exact BK278.out)) : gb280 ≠ gb278)); have n8_ := mK ((by rw [hg]; exact Nat.ne_of_lt (blk_lt (by (with_reducible repeat (first | refine kN ?_ _ | refine kD ?_ | refine kA ?_ _)); exact BK279.out)) : gb279 ≠ gb280)); have n9_ := mK ((by rw [hg]; exact Nat.ne_of_gt (blk_lt (by (with_reducible repeat (first | refine kN ?_ _ | refine kD ?_ | refine kA ?_ _)); exact BK279.out)) : gb280 ≠ gb279)); clear BK278; clear BK279; clear HB; have BK278 := n0_; have BK279 := n1_; have HB := n2_; have BK280 := n3_; have GW280 := n4_; have GE280 := n5_; have NB278_280 := n6_; have NB280_278 := n7_; have NB279_280 := n8_; have NB280_279 := n9_; clear n0_ n1_ n2_ n3_ n4_ n5_ n6_ n7_ n8_ n9_; clear hb hbox hg; have hnb7 := NB280_278.out; have hnc7 := NB278_280.out; have hnb8 := NB280_279.out; have hnc8 := NB279_280.out; have hcz9_0 : w6.cell? ⟨gb280, 0, none⟩ = some (.int .i64 0) := (blk_cell BK280.out 0).trans rfl; have hcz9_1 : w6.cell? ⟨gb280, 1, none⟩ = some (.slice none 0 0) := (blk_cell BK280.out 1).trans rfl; have hfz9_0 := blk_frozen BK280.out 0; have hfz9_1 := blk_frozen BK280.out 1; have hcz10_0 : w6.cell? ⟨gb278, 0, none⟩ = some (.int .i64 a0_0) := (blk_cell BK278.out 0).trans rfl; have hcz10_1 : w6.cell? ⟨gb278, 1, none⟩ = some (.slice A0_1 l0_1.length c0_1) := (blk_cell BK278.out 1).trans rfl; have hfz10_0 := blk_frozen BK278.out 0; have hfz10_1 := blk_frozen BK278.out 1))
  go_loopg [5, 14] k (fun kq v5 v14 w' => ∃ (x5_1 : List Int) (x14_1 : Int) (x281001_1 : List (S86)) (u281001 : Value), v14 = .int .i64 x14_1 ∧ Aside0 (impl_graphOf.l0 kq x5_1 l0_1 (l0_1.length : Int) x14_1 a0_0 x281001_1 = some (r1, r2, r3)) ∧ Aside0 (kq ≤ k) ∧ Aside0 (Kd.R (Kd.int .i64) 3 w' w.heap.size (fun _ => True) v5 x5_1) ∧ Aside0 (Kd.R k86 86 w' w.heap.size (fun _ => True) u281001 x281001_1) ∧ Aside0 (w'.heap[gb278]? = some (.cells #[.int .i64 a0_0, (.slice A0_1 l0_1.length c0_1)] 29 (0, 0))) ∧ Aside0 (w'.heap[gb279]? = some (.cells #[.int .i64 0, (.slice none 0 0)] 53 (0, 0))) ∧ Aside0 (w'.heap[gb280]? = some (.cells #[.int .i64 a0_0, u281001] 53 (0, 0))) ∧ Aside0 (Below w.heap.size w w'))
  case atStart => exact ⟨(([] : List Int)), (0), (([] : List (S86))), (.slice none 0 0), (by first | rfl | (simp; done) | (simp [*]; done)), H', ⟨Nat.le_refl _⟩, ⟨by first | exact Kd.R_nil _ _ _ _ _ | exact Kd.N_nil _ _ _ _ _ | exact Kd.V_nil _ _ _ _ _ | exact Kd.Q_nil _ _ _ _ _ | exact Kd.S_nil _ _ _ _ _⟩, ⟨by first | exact Kd.R_nil _ _ _ _ _ | exact Kd.N_nil _ _ _ _ _ | exact Kd.V_nil _ _ _ _ _ | exact Kd.Q_nil _ _ _ _ _ | exact Kd.S_nil _ _ _ _ _⟩, ⟨by (with_reducible repeat (first | refine kN ?_ _ | refine kD ?_ | refine kA ?_ _)); refine blk_far ?_ NB278_280.out _; (with_reducible repeat (first | refine kN ?_ _ | refine kD ?_ | refine kA ?_ _)); refine blk_far ?_ NB278_280.out _; (with_reducible repeat (first | refine kN ?_ _ | refine kD ?_ | refine kA ?_ _)); exact BK278.out⟩, ⟨by (with_reducible repeat (first | refine kN ?_ _ | refine kD ?_ | refine kA ?_ _)); refine blk_far ?_ NB279_280.out _; (with_reducible repeat (first | refine kN ?_ _ | refine kD ?_ | refine kA ?_ _)); refine blk_far ?_ NB279_280.out _; (with_reducible repeat (first | refine kN ?_ _ | refine kD ?_ | refine kA ?_ _)); exact BK279.out⟩, ⟨by (with_reducible repeat (first | refine kN ?_ _ | refine kD ?_ | refine kA ?_ _)); refine blk_put (cs := #[.int .i64 a0_0, .slice none 0 0]) ?_ 1 _ rfl; (with_reducible repeat (first | refine kN ?_ _ | refine kD ?_ | refine kA ?_ _)); refine blk_put (cs := #[.int .i64 0, .slice none 0 0]) ?_ 0 _ rfl; (with_reducible repeat (first | refine kN ?_ _ | refine kD ?_ | refine kA ?_ _)); exact BK280.out⟩, ⟨by repeat (first | (with_reducible first | exact HB.out | apply bA | apply bN | apply bD | refine bS ?_ GE278.out | refine bS ?_ GE279.out | refine bS ?_ GE280.out) | exact HB.out)⟩⟩
  case round =>
   clear H'
   try clear p2
   try clear c4
   try clear c6
   try clear c7
   try clear c8
   try clear hcz10_0
   try clear hcz10_1
   try clear hcz5_0
   try clear hcz5_1
   try clear hcz9_0
   try clear hcz9_1
   try clear hfz10_0
   try clear hfz10_1
   try clear hfz5_0
   try clear hfz5_1
   try clear hfz9_0
   try clear hfz9_1
   obtain ⟨x5_1, x14_1, x281001_1, u281001, rfl, HA, HK1, HO_5, HO_281001, BK278, BK279, BK280, HB⟩ := hrel
   cases gk with
   | zero => exact absurd HA.out (by simp [impl_graphOf.l0])
   | succ k1 =>
    have H := HA.out
    clear HA
    simp only [impl_graphOf.l0] at H
    by_cases c11 : x14_1 < (l0_1.length : Int)
    rotate_left
    · rw [if_neg c11] at H
      have c11b0 : decide (x14_1 < (l0_1.length : Int)) = false := decide_eq_false c11
      clear c11
      simp only [Option.some.injEq, Prod.mk.injEq] at H
      obtain ⟨rfl, rfl, rfl⟩ := H
      have hnb70 := NB280_278.out
      have hnc70 := NB278_280.out
      have hnb71 := NB280_279.out
      have hnc71 := NB279_280.out
      have hcz72_0 : wr.cell? ⟨gb280, 0, none⟩ = some (.int .i64 a0_0) := (blk_cell BK280.out 0).trans rfl
      have hcz72_1 : wr.cell? ⟨gb280, 1, none⟩ = some (u281001) := (blk_cell BK280.out 1).trans rfl
      have hfz72_0 := blk_frozen BK280.out 0
      have hfz72_1 := blk_frozen BK280.out 1
      have hnb73 := NB279_278.out
      have hnc73 := NB278_279.out
      have hcz74_0 : wr.cell? ⟨gb279, 0, none⟩ = some (.int .i64 0) := (blk_cell BK279.out 0).trans rfl
      have hcz74_1 : wr.cell? ⟨gb279, 1, none⟩ = some (.slice none 0 0) := (blk_cell BK279.out 1).trans rfl
      have hfz74_0 := blk_frozen BK279.out 0
      have hfz74_1 := blk_frozen BK279.out 1
      obtain ⟨Ao75, co75, eo75⟩ := Kd.R_slice HO_281001.out
      subst eo75
      go_wp2
      refine bodyPost_ret (results_ct rfl _ _ gb279 53 #[.int .i64 a0_0, .slice Ao75 x281001_1.length co75] (0, 0) _ rfl (by (with_reducible repeat (first | refine kN ?_ _ | refine kD ?_ | refine kA ?_ _)); refine blk_put (cs := #[.int .i64 a0_0, .slice none 0 0]) ?_ 1 _ rfl; (with_reducible repeat (first | refine kN ?_ _ | refine kD ?_ | refine kA ?_ _)); refine blk_put (cs := #[.int .i64 0, .slice none 0 0]) ?_ 0 _ rfl; (with_reducible repeat (first | refine kN ?_ _ | refine kD ?_ | refine kA ?_ _)); exact BK279.out) Try.underlying53 rfl (by kernel_rfl)) rfl ?_
      exact ⟨_, _, by first | rfl | (simp [errW_none, errW_some] <;> rfl) | (simp [*, errW_none, errW_some] <;> rfl), by (with_reducible repeat (first | apply rA | apply rN | apply rD)); exact Kd.R_mono (Kd.R_far (p := ⟨gb279, 1, none⟩) (Kd.R_far (p := ⟨gb279, 0, none⟩) (Kd.R_types HO_281001.out BK279.out (by decide)) (fun _ hk => hk.2) (.int .i64 a0_0)) (fun _ hk => hk.2) (.slice Ao75 x281001_1.length co75)) (fun _ hk => trivial), by (with_reducible repeat (first | apply rA | apply rN | apply rD)); exact Kd.R_mono (Kd.R_far (p := ⟨gb279, 1, none⟩) (Kd.R_far (p := ⟨gb279, 0, none⟩) (Kd.R_types HO_5.out BK279.out (by decide)) (fun _ hk => hk.2) (.int .i64 a0_0)) (fun _ hk => hk.2) (.slice Ao75 x281001_1.length co75)) (fun _ hk => trivial), by repeat (first | (with_reducible first | exact HB.out | apply bA | apply bN | apply bD | refine bS ?_ GE278.out | refine bS ?_ GE279.out | refine bS ?_ GE280.out) | exact HB.out)⟩
    rw [if_pos c11] at H
    have c11b0 : decide (x14_1 < (l0_1.length : Int)) = true := decide_eq_true c11
    clear c11
    by_cases c12 : 0 ≤ x14_1
    rotate_left
    · rw [if_neg c12] at H
      exact absurd H (by simp)
    rw [if_pos c12] at H
    have c12b0 : decide (0 ≤ x14_1) = true := decide_eq_true c12
    clear c12
    by_cases c13 : x14_1 < (l0_1.length : Int)
    rotate_left
    · rw [if_neg c13] at H
      exact absurd H (by simp)
    rw [if_pos c13] at H
    have c13b0 : decide (x14_1 < (l0_1.length : Int)) = true := decide_eq_true c13
    clear c13
    by_cases c14 : ((rd_T47 l0_1 x14_1).f2.f1) = 1000000
    · rw [if_pos c14] at H
      have c14b0 : (((rd_T47 l0_1 x14_1).f2.f1) == 1000000) = true := beq_iff_eq.mpr c14
      have c14b1 : (((rd_T47 l0_1 x14_1).f2.f1) != 1000000) = false := bne_eq_false_iff_eq.mpr c14
      clear c14
      by_cases c15 : ((rd_T47 l0_1 x14_1).f2.f0) = (-1000000)
      · rw [if_pos c15] at H
        have c15b0 : (((rd_T47 l0_1 x14_1).f2.f0) == (-1000000)) = true := beq_iff_eq.mpr c15
        have c15b1 : (((rd_T47 l0_1 x14_1).f2.f0) != (-1000000)) = false := bne_eq_false_iff_eq.mpr c15
        clear c15
        have H' := mK H
        clear H
        have p281 : 0 ≤ (x14_1 : Int) := of_decide_eq_true (by first | (with_reducible assumption) | assumption)
        have q281 : x14_1 < (l0_1.length : Int) := of_decide_eq_true (by first | (with_reducible assumption) | assumption)
        obtain ⟨ad281, e281, hx281_0, hx281_1, hx281_2, hx281_3⟩ := at_T47 HR0_1.out x14_1 p281 q281
        cases e281
        replace hx281_0 := (HB.out.cell (World.block_lt_of_cell? w _ hx281_0)).trans hx281_0
        replace hx281_1 := (HB.out.cell (World.block_lt_of_cell? w _ hx281_1)).trans hx281_1
        replace hx281_2 := (HB.out.cell (World.block_lt_of_cell? w _ hx281_2)).trans hx281_2
        replace hx281_3 := (HB.out.cell (World.block_lt_of_cell? w _ hx281_3)).trans hx281_3
        replace p281 := eq_true p281
        replace q281 := eq_true q281
        go_wp2_with (first | ((with_reducible refine gate_dst (N := 7) rfl ?_); refine box_event ?hg (N := 7) ?hd (cs := #[.int .i64 0, .int .i64 0, .int .i64 0, .int .i64 0]) (t := 47) ?hr ?_; (case hd => rfl); (case hg => rfl); (case hr => first | (go_simp; done) | (go_simp; rfl)); intro gb282 hg w16 hbox hb; have n0_ := mK (Kd.R_below (by (with_reducible repeat (first | apply rA | apply rN | apply rD)); exact HO_5.out) hb); have n1_ := mK (Kd.R_below (by (with_reducible repeat (first | apply rA | apply rN | apply rD)); exact HO_281001.out) hb); have n2_ := mK (blk_below (by (with_reducible repeat (first | refine kN ?_ _ | refine kD ?_ | refine kA ?_ _)); exact BK278.out) hb); have n3_ := mK (blk_below (by (with_reducible repeat (first | refine kN ?_ _ | refine kD ?_ | refine kA ?_ _)); exact BK279.out) hb); have n4_ := mK (blk_below (by (with_reducible repeat (first | refine kN ?_ _ | refine kD ?_ | refine kA ?_ _)); exact BK280.out) hb); have n5_ := mK (below_step (by repeat (first | (with_reducible first | exact HB.out | apply bA | apply bN | apply bD | refine bS ?_ GE278.out | refine bS ?_ GE279.out | refine bS ?_ GE280.out) | exact HB.out)) hb); have n6_ := mK (hbox); have n7_ := mK ((by rw [hg]; exact (below_size (by repeat (first | (with_reducible first | exact HB.out | apply bA | apply bN | apply bD | refine bS ?_ GE278.out | refine bS ?_ GE279.out | refine bS ?_ GE280.out) | exact HB.out))) : w.heap.size ≤ gb282)); have n8_ := mK ((by rw [hg]; exact (below_size (by repeat (first | (with_reducible first | exact HB.out | apply bA | apply bN | apply bD | refine bS ?_ GE278.out | refine bS ?_ GE279.out | refine bS ?_ GE280.out) | exact HB.out))) : w.heap.size ≤ gb282)); have n9_ := mK ((by rw [hg]; exact Nat.ne_of_lt (blk_lt (by (with_reducible repeat (first | refine kN ?_ _ | refine kD ?_ | refine kA ?_ _)); exact BK278.out)) : gb278 ≠ gb282)); have n10_ := mK ((by rw [hg]; exact Nat.ne_of_gt (blk_lt (by (with_reducible repeat (first | refine kN ?_ _ | refine kD ?_ | refine kA ?_ _)); exact BK278.out)) : gb282 ≠ gb278)); have n11_ := mK ((by rw [hg]; exact Nat.ne_of_lt (blk_lt (by (with_reducible repeat (first | refine kN ?_ _ | refine kD ?_ | refine kA ?_ _)); exact BK279.out)) : gb279 ≠ gb282)); have n12_ := mK ((by rw [hg]; exact Nat.ne_of_gt (blk_lt (by (with_reducible repeat (first | refine kN ?_ _ | refine kD ?_ | refine kA ?_ _)); exact BK279.out)) : gb282 ≠ gb279)); have n13_ := mK ((by rw [hg]; exact Nat.ne_of_lt (blk_lt (by (with_reducible repeat (first | refine kN ?_ _ | refine kD ?_ | refine kA ?_ _)); exact BK280.out)) : gb280 ≠ gb282)); have n14_ := mK ((by rw [hg]; exact Nat.ne_of_gt (blk_lt (by (with_reducible repeat (first | refine kN ?_ _ | refine kD ?_ | refine kA ?_ _)); exact BK280.out)) : gb282 ≠ gb280)); clear HO_5; clear HO_281001; clear BK278; clear BK279; clear BK280; clear HB; have HO_5 := n0_; have HO_281001 := n1_; have BK278 := n2_; have BK279 := n3_; have BK280 := n4_; have HB := n5_; have BK282 := n6_; have GW282 := n7_; have GE282 := n8_; have NB278_282 := n9_; have NB282_278 := n10_; have NB279_282 := n11_; have NB282_279 := n12_; have NB280_282 := n13_; have NB282_280 := n14_; clear n0_ n1_ n2_ n3_ n4_ n5_ n6_ n7_ n8_ n9_ n10_ n11_ n12_ n13_ n14_; clear hb hbox hg; have hnb17 := NB282_278.out; have hnc17 := NB278_282.out; have hnb18 := NB282_279.out; have hnc18 := NB279_282.out; have hnb19 := NB282_280.out; have hnc19 := NB280_282.out; have hcz20_0 : w16.cell? ⟨gb282, 0, none⟩ = some (.int .i64 0) := (blk_cell BK282.out 0).trans rfl; have hcz20_1 : w16.cell? ⟨gb282, 1, none⟩ = some (.int .i64 0) := (blk_cell BK282.out 1).trans rfl; have hcz20_2 : w16.cell? ⟨gb282, 2, none⟩ = some (.int .i64 0) := (blk_cell BK282.out 2).trans rfl; have hcz20_3 : w16.cell? ⟨gb282, 3, none⟩ = some (.int .i64 0) := (blk_cell BK282.out 3).trans rfl; have hfz20_0 := blk_frozen BK282.out 0; have hfz20_1 := blk_frozen BK282.out 1; have hfz20_2 := blk_frozen BK282.out 2; have hfz20_3 := blk_frozen BK282.out 3))
        go_roundg k1
        case measure => have := HK1.out; omega
        case rel => exact ⟨(x5_1), (wrap64 (x14_1 + 1)), (x281001_1), (u281001), (by first | rfl | (simp; done) | (simp [*]; done)), H', ⟨by have := HK1.out; omega⟩, ⟨by (with_reducible repeat (first | apply rA | apply rN | apply rD)); exact Kd.R_mono (Kd.R_far (p := ⟨gb282, 3, none⟩) (Kd.R_far (p := ⟨gb282, 2, none⟩) (Kd.R_far (p := ⟨gb282, 1, none⟩) (Kd.R_far (p := ⟨gb282, 0, none⟩) (Kd.R_types HO_5.out BK282.out (by decide)) (fun _ hk => hk.2) (.int .i64 ((rd_T47 l0_1 x14_1).f0))) (fun _ hk => hk.2) (.int .i64 ((rd_T47 l0_1 x14_1).f1))) (fun _ hk => hk.2) (.int .i64 ((rd_T47 l0_1 x14_1).f2.f0))) (fun _ hk => hk.2) (.int .i64 ((rd_T47 l0_1 x14_1).f2.f1))) (fun _ hk => trivial)⟩, ⟨by (with_reducible repeat (first | apply rA | apply rN | apply rD)); exact Kd.R_mono (Kd.R_far (p := ⟨gb282, 3, none⟩) (Kd.R_far (p := ⟨gb282, 2, none⟩) (Kd.R_far (p := ⟨gb282, 1, none⟩) (Kd.R_far (p := ⟨gb282, 0, none⟩) (Kd.R_types HO_281001.out BK282.out (by decide)) (fun _ hk => hk.2) (.int .i64 ((rd_T47 l0_1 x14_1).f0))) (fun _ hk => hk.2) (.int .i64 ((rd_T47 l0_1 x14_1).f1))) (fun _ hk => hk.2) (.int .i64 ((rd_T47 l0_1 x14_1).f2.f0))) (fun _ hk => hk.2) (.int .i64 ((rd_T47 l0_1 x14_1).f2.f1))) (fun _ hk => trivial)⟩, ⟨by (with_reducible repeat (first | refine kN ?_ _ | refine kD ?_ | refine kA ?_ _)); refine blk_far ?_ NB278_282.out _; (with_reducible repeat (first | refine kN ?_ _ | refine kD ?_ | refine kA ?_ _)); refine blk_far ?_ NB278_282.out _; (with_reducible repeat (first | refine kN ?_ _ | refine kD ?_ | refine kA ?_ _)); refine blk_far ?_ NB278_282.out _; (with_reducible repeat (first | refine kN ?_ _ | refine kD ?_ | refine kA ?_ _)); refine blk_far ?_ NB278_282.out _; (with_reducible repeat (first | refine kN ?_ _ | refine kD ?_ | refine kA ?_ _)); exact BK278.out⟩, ⟨by (with_reducible repeat (first | refine kN ?_ _ | refine kD ?_ | refine kA ?_ _)); refine blk_far ?_ NB279_282.out _; (with_reducible repeat (first | refine kN ?_ _ | refine kD ?_ | refine kA ?_ _)); refine blk_far ?_ NB279_282.out _; (with_reducible repeat (first | refine kN ?_ _ | refine kD ?_ | refine kA ?_ _)); refine blk_far ?_ NB279_282.out _; (with_reducible repeat (first | refine kN ?_ _ | refine kD ?_ | refine kA ?_ _)); refine blk_far ?_ NB279_282.out _; (with_reducible repeat (first | refine kN ?_ _ | refine kD ?_ | refine kA ?_ _)); exact BK279.out⟩, ⟨by (with_reducible repeat (first | refine kN ?_ _ | refine kD ?_ | refine kA ?_ _)); refine blk_far ?_ NB280_282.out _; (with_reducible repeat (first | refine kN ?_ _ | refine kD ?_ | refine kA ?_ _)); refine blk_far ?_ NB280_282.out _; (with_reducible repeat (first | refine kN ?_ _ | refine kD ?_ | refine kA ?_ _)); refine blk_far ?_ NB280_282.out _; (with_reducible repeat (first | refine kN ?_ _ | refine kD ?_ | refine kA ?_ _)); refine blk_far ?_ NB280_282.out _; (with_reducible repeat (first | refine kN ?_ _ | refine kD ?_ | refine kA ?_ _)); exact BK280.out⟩, ⟨by repeat (first | (with_reducible first | exact HB.out | apply bA | apply bN | apply bD | refine bS ?_ GE278.out | refine bS ?_ GE279.out | refine bS ?_ GE280.out | refine bS ?_ GE282.out) | exact HB.out)⟩⟩
      rw [if_neg c15] at H
      have c15b0 : (((rd_T47 l0_1 x14_1).f2.f0) == (-1000000)) = false := beq_eq_false_iff_ne.mpr c15
      have c15b1 : (((rd_T47 l0_1 x14_1).f2.f0) != (-1000000)) = true := bne_iff_ne.mpr c15
      by_cases c21 : x281001_1.length < 5864062014805
      rotate_left
      · rw [if_neg c21] at H
        exact absurd H (by simp)
      rw [if_pos c21] at H
      have LMc21 := mK c21
      clear c21
      obtain ⟨y283, hy283⟩ : ∃ y_ : List (S86), y_ = (x281001_1 ++ [(⟨(rd_T47 l0_1 x14_1).f1, (rd_T47 l0_1 x14_1).f0, wrap64 (-((rd_T47 l0_1 x14_1).f2.f0))⟩ : S86)]) := ⟨_, rfl⟩
      replace H : (if x5_1.length < 17592186044416 then (impl_graphOf.l0 k1 (x5_1 ++ [x14_1]) l0_1 (l0_1.length : Int) (wrap64 (x14_1 + 1)) a0_0 y283) else (none)) = some (r1, r2, r3) := by first | (rw [hy283]; with_reducible exact H) | (have H2_ := (Option.bind_some _ _).symm.trans H; rw [hy283]; with_reducible exact H2_) | (have H2_ := (Option.bind_some _ _).symm.trans H; with_reducible exact H2_) | with_reducible exact H | (rw [hy283]; exact H) | exact H
      have Ny283 := mK hy283
      clear hy283
      by_cases c22 : x5_1.length < 17592186044416
      rotate_left
      · rw [if_neg c22] at H
        exact absurd H (by simp)
      rw [if_pos c22] at H
      have LMc22 := mK c22
      clear c22
      obtain ⟨y286, hy286⟩ : ∃ y_ : List Int, y_ = (x5_1 ++ [x14_1]) := ⟨_, rfl⟩
      replace H : (impl_graphOf.l0 k1 y286 l0_1 (l0_1.length : Int) (wrap64 (x14_1 + 1)) a0_0 y283) = some (r1, r2, r3) := by first | (rw [hy286]; with_reducible exact H) | (have H2_ := (Option.bind_some _ _).symm.trans H; rw [hy286]; with_reducible exact H2_) | (have H2_ := (Option.bind_some _ _).symm.trans H; with_reducible exact H2_) | with_reducible exact H | (rw [hy286]; exact H) | exact H
      have Ny286 := mK hy286
      clear hy286
      have H' := mK H
      clear H
      have p281 : 0 ≤ (x14_1 : Int) := of_decide_eq_true (by first | (with_reducible assumption) | assumption)
      have q281 : x14_1 < (l0_1.length : Int) := of_decide_eq_true (by first | (with_reducible assumption) | assumption)
      obtain ⟨ad281, e281, hx281_0, hx281_1, hx281_2, hx281_3⟩ := at_T47 HR0_1.out x14_1 p281 q281
      cases e281
      replace hx281_0 := (HB.out.cell (World.block_lt_of_cell? w _ hx281_0)).trans hx281_0
      replace hx281_1 := (HB.out.cell (World.block_lt_of_cell? w _ hx281_1)).trans hx281_1
      replace hx281_2 := (HB.out.cell (World.block_lt_of_cell? w _ hx281_2)).trans hx281_2
      replace hx281_3 := (HB.out.cell (World.block_lt_of_cell? w _ hx281_3)).trans hx281_3
      replace p281 := eq_true p281
      replace q281 := eq_true q281
      go_wp2_with (first | ((with_reducible refine gate_dst (N := 7) rfl ?_); refine box_event ?hg (N := 7) ?hd (cs := #[.int .i64 0, .int .i64 0, .int .i64 0, .int .i64 0]) (t := 47) ?hr ?_; (case hd => rfl); (case hg => rfl); (case hr => first | (go_simp; done) | (go_simp; rfl)); intro gb282 hg w23 hbox hb; have n0_ := mK (Kd.R_below (by (with_reducible repeat (first | apply rA | apply rN | apply rD)); exact HO_5.out) hb); have n1_ := mK (Kd.R_below (by (with_reducible repeat (first | apply rA | apply rN | apply rD)); exact HO_281001.out) hb); have n2_ := mK (blk_below (by (with_reducible repeat (first | refine kN ?_ _ | refine kD ?_ | refine kA ?_ _)); exact BK278.out) hb); have n3_ := mK (blk_below (by (with_reducible repeat (first | refine kN ?_ _ | refine kD ?_ | refine kA ?_ _)); exact BK279.out) hb); have n4_ := mK (blk_below (by (with_reducible repeat (first | refine kN ?_ _ | refine kD ?_ | refine kA ?_ _)); exact BK280.out) hb); have n5_ := mK (below_step (by repeat (first | (with_reducible first | exact HB.out | apply bA | apply bN | apply bD | refine bS ?_ GE278.out | refine bS ?_ GE279.out | refine bS ?_ GE280.out) | exact HB.out)) hb); have n6_ := mK (hbox); have n7_ := mK ((by rw [hg]; exact (below_size (by repeat (first | (with_reducible first | exact HB.out | apply bA | apply bN | apply bD | refine bS ?_ GE278.out | refine bS ?_ GE279.out | refine bS ?_ GE280.out) | exact HB.out))) : w.heap.size ≤ gb282)); have n8_ := mK ((by rw [hg]; exact (below_size (by repeat (first | (with_reducible first | exact HB.out | apply bA | apply bN | apply bD | refine bS ?_ GE278.out | refine bS ?_ GE279.out | refine bS ?_ GE280.out) | exact HB.out))) : w.heap.size ≤ gb282)); have n9_ := mK ((by rw [hg]; exact Nat.ne_of_lt (blk_lt (by (with_reducible repeat (first | refine kN ?_ _ | refine kD ?_ | refine kA ?_ _)); exact BK278.out)) : gb278 ≠ gb282)); have n10_ := mK ((by rw [hg]; exact Nat.ne_of_gt (blk_lt (by (with_reducible repeat (first | refine kN ?_ _ | refine kD ?_ | refine kA ?_ _)); exact BK278.out)) : gb282 ≠ gb278)); have n11_ := mK ((by rw [hg]; exact Nat.ne_of_lt (blk_lt (by (with_reducible repeat (first | refine kN ?_ _ | refine kD ?_ | refine kA ?_ _)); exact BK279.out)) : gb279 ≠ gb282)); have n12_ := mK ((by rw [hg]; exact Nat.ne_of_gt (blk_lt (by (with_reducible repeat (first | refine kN ?_ _ | refine kD ?_ | refine kA ?_ _)); exact BK279.out)) : gb282 ≠ gb279)); have n13_ := mK ((by rw [hg]; exact Nat.ne_of_lt (blk_lt (by (with_reducible repeat (first | refine kN ?_ _ | refine kD ?_ | refine kA ?_ _)); exact BK280.out)) : gb280 ≠ gb282)); have n14_ := mK ((by rw [hg]; exact Nat.ne_of_gt (blk_lt (by (with_reducible repeat (first | refine kN ?_ _ | refine kD ?_ | refine kA ?_ _)); exact BK280.out)) : gb282 ≠ gb280)); clear HO_5; clear HO_281001; clear BK278; clear BK279; clear BK280; clear HB; have HO_5 := n0_; have HO_281001 := n1_; have BK278 := n2_; have BK279 := n3_; have BK280 := n4_; have HB := n5_; have BK282 := n6_; have GW282 := n7_; have GE282 := n8_; have NB278_282 := n9_; have NB282_278 := n10_; have NB279_282 := n11_; have NB282_279 := n12_; have NB280_282 := n13_; have NB282_280 := n14_; clear n0_ n1_ n2_ n3_ n4_ n5_ n6_ n7_ n8_ n9_ n10_ n11_ n12_ n13_ n14_; clear hb hbox hg; have hnb24 := NB282_278.out; have hnc24 := NB278_282.out; have hnb25 := NB282_279.out; have hnc25 := NB279_282.out; have hnb26 := NB282_280.out; have hnc26 := NB280_282.out; have hcz27_0 : w23.cell? ⟨gb282, 0, none⟩ = some (.int .i64 0) := (blk_cell BK282.out 0).trans rfl; have hcz27_1 : w23.cell? ⟨gb282, 1, none⟩ = some (.int .i64 0) := (blk_cell BK282.out 1).trans rfl; have hcz27_2 : w23.cell? ⟨gb282, 2, none⟩ = some (.int .i64 0) := (blk_cell BK282.out 2).trans rfl; have hcz27_3 : w23.cell? ⟨gb282, 3, none⟩ = some (.int .i64 0) := (blk_cell BK282.out 3).trans rfl; have hfz27_0 := blk_frozen BK282.out 0; have hfz27_1 := blk_frozen BK282.out 1; have hfz27_2 := blk_frozen BK282.out 2; have hfz27_3 := blk_frozen BK282.out 3; have hnb28 := NB280_278.out; have hnc28 := NB278_280.out; have hnb29 := NB280_279.out; have hnc29 := NB279_280.out; have hcz30_0 : w23.cell? ⟨gb280, 0, none⟩ = some (.int .i64 a0_0) := (blk_cell BK280.out 0).trans rfl; have hcz30_1 : w23.cell? ⟨gb280, 1, none⟩ = some (u281001) := (blk_cell BK280.out 1).trans rfl; have hfz30_0 := blk_frozen BK280.out 0; have hfz30_1 := blk_frozen BK280.out 1) | ((with_reducible refine gate_builtin (b := .append) (xs := #[.tmp 45, .tmp 55]) rfl ?_); at_builtin; refine Kd.R_append k86 (w0 := w) w.heap.size rfl (.tmp 45) (.tmp 55) 51 86 (.agg #[(.int .i64 0), (.int .i64 0), (.int .i64 0)]) 24 rfl Try.underlying51 info86 rfl (by decide) (by omega) u281001 x281001_1 (⟨(rd_T47 l0_1 x14_1).f1, (rd_T47 l0_1 x14_1).f0, wrap64 (-((rd_T47 l0_1 x14_1).f2.f0))⟩ : S86) [.int .i64 ((rd_T47 l0_1 x14_1).f1), .int .i64 ((rd_T47 l0_1 x14_1).f0), .int .i64 (wrap64 (-((rd_T47 l0_1 x14_1).f2.f0)))] (fun _ => True) (fun _ => False) rfl (by first | (go_simp; done) | (go_simp; rfl)) ?aP (fun _ hk => hk.elim) ?aF ?aO ?aB ?aS ?aL ?_; (case aP => exact k86_mkM _ _ _ (⟨(rd_T47 l0_1 x14_1).f1, (rd_T47 l0_1 x14_1).f0, wrap64 (-((rd_T47 l0_1 x14_1).f2.f0))⟩ : S86)); (case aB => exact (by repeat (first | (with_reducible first | exact HB.out | apply bA | apply bN | apply bD | refine bS ?_ GE278.out | refine bS ?_ GE279.out | refine bS ?_ GE280.out | refine bS ?_ GE282.out) | exact HB.out))); (case aF => exact (fun _ _ => trivial)); (case aO => exact (by (with_reducible repeat (first | apply rA | apply rN | apply rD)); exact Kd.R_mono (Kd.R_far (p := ⟨gb282, 3, none⟩) (Kd.R_far (p := ⟨gb282, 2, none⟩) (Kd.R_far (p := ⟨gb282, 1, none⟩) (Kd.R_far (p := ⟨gb282, 0, none⟩) (Kd.R_types HO_281001.out BK282.out (by decide)) (fun _ hk => hk.2) (.int .i64 ((rd_T47 l0_1 x14_1).f0))) (fun _ hk => hk.2) (.int .i64 ((rd_T47 l0_1 x14_1).f1))) (fun _ hk => hk.2) (.int .i64 ((rd_T47 l0_1 x14_1).f2.f0))) (fun _ hk => hk.2) (.int .i64 ((rd_T47 l0_1 x14_1).f2.f1))) (fun _ hk => trivial))); (case aS => exact (below_size (by repeat (first | (with_reducible first | exact HB.out | apply bA | apply bN | apply bD | refine bS ?_ GE278.out | refine bS ?_ GE279.out | refine bS ?_ GE280.out | refine bS ?_ GE282.out) | exact HB.out)))); (case aL => have := LMc21.out; omega); intro v284 w31 ho hb hg hat; rw [← Ny283.out] at ho; have n0_ := mK (Kd.R_over' (by (with_reducible repeat (first | apply rA | apply rN | apply rD)); exact (Kd.R_mono (Kd.R_far (p := ⟨gb282, 3, none⟩) (Kd.R_far (p := ⟨gb282, 2, none⟩) (Kd.R_far (p := ⟨gb282, 1, none⟩) (Kd.R_far (p := ⟨gb282, 0, none⟩) (Kd.R_types HO_5.out BK282.out (by decide)) (fun _ hk => hk.2) (.int .i64 ((rd_T47 l0_1 x14_1).f0))) (fun _ hk => hk.2) (.int .i64 ((rd_T47 l0_1 x14_1).f1))) (fun _ hk => hk.2) (.int .i64 ((rd_T47 l0_1 x14_1).f2.f0))) (fun _ hk => hk.2) (.int .i64 ((rd_T47 l0_1 x14_1).f2.f1))) (fun _ h_ => h_.1))) (Kd.R_typed (by (with_reducible repeat (first | apply rA | apply rN | apply rD)); exact (Kd.R_mono (Kd.R_far (p := ⟨gb282, 3, none⟩) (Kd.R_far (p := ⟨gb282, 2, none⟩) (Kd.R_far (p := ⟨gb282, 1, none⟩) (Kd.R_far (p := ⟨gb282, 0, none⟩) (Kd.R_types HO_281001.out BK282.out (by decide)) (fun _ hk => hk.2) (.int .i64 ((rd_T47 l0_1 x14_1).f0))) (fun _ hk => hk.2) (.int .i64 ((rd_T47 l0_1 x14_1).f1))) (fun _ hk => hk.2) (.int .i64 ((rd_T47 l0_1 x14_1).f2.f0))) (fun _ hk => hk.2) (.int .i64 ((rd_T47 l0_1 x14_1).f2.f1))) (fun _ h_ => h_.1)))) (by decide) hg); have n1_ := mK (blk_grown (g := gb278) (o := .cells #[.int .i64 a0_0, .slice (some ad281) l0_1.length c0_1] 29 (0, 0)) (by (with_reducible repeat (first | refine kN ?_ _ | refine kD ?_ | refine kA ?_ _)); refine blk_far ?_ NB278_282.out _; (with_reducible repeat (first | refine kN ?_ _ | refine kD ?_ | refine kA ?_ _)); refine blk_far ?_ NB278_282.out _; (with_reducible repeat (first | refine kN ?_ _ | refine kD ?_ | refine kA ?_ _)); refine blk_far ?_ NB278_282.out _; (with_reducible repeat (first | refine kN ?_ _ | refine kD ?_ | refine kA ?_ _)); refine blk_far ?_ NB278_282.out _; (with_reducible repeat (first | refine kN ?_ _ | refine kD ?_ | refine kA ?_ _)); exact BK278.out) hg (Kd.R_ne HO_281001.out BK278.out (by decide))); have n2_ := mK (blk_grown (g := gb279) (o := .cells #[.int .i64 0, .slice none 0 0] 53 (0, 0)) (by (with_reducible repeat (first | refine kN ?_ _ | refine kD ?_ | refine kA ?_ _)); refine blk_far ?_ NB279_282.out _; (with_reducible repeat (first | refine kN ?_ _ | refine kD ?_ | refine kA ?_ _)); refine blk_far ?_ NB279_282.out _; (with_reducible repeat (first | refine kN ?_ _ | refine kD ?_ | refine kA ?_ _)); refine blk_far ?_ NB279_282.out _; (with_reducible repeat (first | refine kN ?_ _ | refine kD ?_ | refine kA ?_ _)); refine blk_far ?_ NB279_282.out _; (with_reducible repeat (first | refine kN ?_ _ | refine kD ?_ | refine kA ?_ _)); exact BK279.out) hg (Kd.R_ne HO_281001.out BK279.out (by decide))); have n3_ := mK (blk_grown (g := gb280) (o := .cells #[.int .i64 a0_0, u281001] 53 (0, 0)) (by (with_reducible repeat (first | refine kN ?_ _ | refine kD ?_ | refine kA ?_ _)); refine blk_far ?_ NB280_282.out _; (with_reducible repeat (first | refine kN ?_ _ | refine kD ?_ | refine kA ?_ _)); refine blk_far ?_ NB280_282.out _; (with_reducible repeat (first | refine kN ?_ _ | refine kD ?_ | refine kA ?_ _)); refine blk_far ?_ NB280_282.out _; (with_reducible repeat (first | refine kN ?_ _ | refine kD ?_ | refine kA ?_ _)); refine blk_far ?_ NB280_282.out _; (with_reducible repeat (first | refine kN ?_ _ | refine kD ?_ | refine kA ?_ _)); exact BK280.out) hg (Kd.R_ne HO_281001.out BK280.out (by decide))); have n4_ := mK (blk_grown (g := gb282) (o := .cells #[.int .i64 ((rd_T47 l0_1 x14_1).f0), .int .i64 ((rd_T47 l0_1 x14_1).f1), .int .i64 ((rd_T47 l0_1 x14_1).f2.f0), .int .i64 ((rd_T47 l0_1 x14_1).f2.f1)] 47 (0, 0)) (by (with_reducible repeat (first | refine kN ?_ _ | refine kD ?_ | refine kA ?_ _)); refine blk_put (cs := #[.int .i64 ((rd_T47 l0_1 x14_1).f0), .int .i64 ((rd_T47 l0_1 x14_1).f1), .int .i64 ((rd_T47 l0_1 x14_1).f2.f0), .int .i64 0]) ?_ 3 _ rfl; (with_reducible repeat (first | refine kN ?_ _ | refine kD ?_ | refine kA ?_ _)); refine blk_put (cs := #[.int .i64 ((rd_T47 l0_1 x14_1).f0), .int .i64 ((rd_T47 l0_1 x14_1).f1), .int .i64 0, .int .i64 0]) ?_ 2 _ rfl; (with_reducible repeat (first | refine kN ?_ _ | refine kD ?_ | refine kA ?_ _)); refine blk_put (cs := #[.int .i64 ((rd_T47 l0_1 x14_1).f0), .int .i64 0, .int .i64 0, .int .i64 0]) ?_ 1 _ rfl; (with_reducible repeat (first | refine kN ?_ _ | refine kD ?_ | refine kA ?_ _)); refine blk_put (cs := #[.int .i64 0, .int .i64 0, .int .i64 0, .int .i64 0]) ?_ 0 _ rfl; (with_reducible repeat (first | refine kN ?_ _ | refine kD ?_ | refine kA ?_ _)); exact BK282.out) hg (Kd.R_ne HO_281001.out BK282.out (by decide))); have n5_ := mK (hb); have n6_ := mK (ho); clear HO_5; clear BK278; clear BK279; clear BK280; clear BK282; clear HB; clear HO_281001; have HO_5 := n0_; have BK278 := n1_; have BK279 := n2_; have BK280 := n3_; have BK282 := n4_; have HB := n5_; have HO285 := n6_; clear n0_ n1_ n2_ n3_ n4_ n5_ n6_; clear ho hb hg hat) | ((with_reducible refine gate_builtin (b := .append) (xs := #[.tmp 57, .tmp 59]) rfl ?_); at_builtin; refine Kd.R_append (Kd.int .i64) (w0 := w) w.heap.size rfl (.tmp 57) (.tmp 59) 33 3 (.int .i64 0) 8 rfl Try.underlying33 info3 rfl (by decide) (by omega) u5 x5_1 x14_1 [.int .i64 x14_1] (fun _ => True) (fun _ => False) rfl rfl ?aP (fun _ hk => hk.elim) ?aF ?aO ?aB ?aS ?aL ?_; (case aP => exact rfl); (case aB => exact (by repeat (first | (with_reducible first | exact HB.out | apply bA | apply bN | apply bD | refine bS ?_ GE278.out | refine bS ?_ GE279.out | refine bS ?_ GE280.out | refine bS ?_ GE282.out) | exact HB.out))); (case aF => exact (fun _ _ => trivial)); (case aO => exact (by (with_reducible repeat (first | apply rA | apply rN | apply rD)); exact HO_5.out)); (case aS => exact (below_size (by repeat (first | (with_reducible first | exact HB.out | apply bA | apply bN | apply bD | refine bS ?_ GE278.out | refine bS ?_ GE279.out | refine bS ?_ GE280.out | refine bS ?_ GE282.out) | exact HB.out)))); (case aL => have := LMc22.out; omega); intro v287 w32 ho hb hg hat; rw [← Ny286.out] at ho; have n0_ := mK (blk_grown (by (with_reducible repeat (first | refine kN ?_ _ | refine kD ?_ | refine kA ?_ _)); exact BK278.out) hg (Kd.R_ne HO_5.out BK278.out (by decide))); have n1_ := mK (blk_grown (by (with_reducible repeat (first | refine kN ?_ _ | refine kD ?_ | refine kA ?_ _)); exact BK279.out) hg (Kd.R_ne HO_5.out BK279.out (by decide))); have n2_ := mK (blk_grown (by (with_reducible repeat (first | refine kN ?_ _ | refine kD ?_ | refine kA ?_ _)); exact BK280.out) hg (Kd.R_ne HO_5.out BK280.out (by decide))); have n3_ := mK (blk_grown (by (with_reducible repeat (first | refine kN ?_ _ | refine kD ?_ | refine kA ?_ _)); exact BK282.out) hg (Kd.R_ne HO_5.out BK282.out (by decide))); have n4_ := mK (Kd.R_over' (by (with_reducible repeat (first | apply rA | apply rN | apply rD)); exact HO285.out) (Kd.R_typed (by (with_reducible repeat (first | apply rA | apply rN | apply rD)); exact HO_5.out)) (by decide) hg); have n5_ := mK (hb); have n6_ := mK (ho); clear BK278; clear BK279; clear BK280; clear BK282; clear HO285; clear HB; clear HO_5; have BK278 := n0_; have BK279 := n1_; have BK280 := n2_; have BK282 := n3_; have HO285 := n4_; have HB := n5_; have HO288 := n6_; clear n0_ n1_ n2_ n3_ n4_ n5_ n6_; clear ho hb hg hat; obtain ⟨Ao33, co33, eo33⟩ := Kd.R_slice HO285.out; subst eo33; have hcz34_0 : w32.cell? ⟨gb280, 0, none⟩ = some (.int .i64 a0_0) := (blk_cell BK280.out 0).trans rfl; have hcz34_1 : w32.cell? ⟨gb280, 1, none⟩ = some (u281001) := (blk_cell BK280.out 1).trans rfl; have hfz34_0 := blk_frozen BK280.out 0; have hfz34_1 := blk_frozen BK280.out 1))
      go_roundg k1
      case measure => have := HK1.out; omega
      case rel => exact ⟨(y286), (wrap64 (x14_1 + 1)), (y283), (.slice Ao33 y283.length co33), (by first | rfl | (simp; done) | (simp [*]; done)), H', ⟨by have := HK1.out; omega⟩, ⟨by (with_reducible repeat (first | apply rA | apply rN | apply rD)); exact Kd.R_mono (Kd.R_far (p := ⟨gb280, 1, none⟩) (Kd.R_types HO288.out BK280.out (by decide)) (fun _ hk => hk.2) (.slice Ao33 y283.length co33)) (fun _ hk => trivial)⟩, ⟨by (with_reducible repeat (first | apply rA | apply rN | apply rD)); exact Kd.R_mono (Kd.R_far (p := ⟨gb280, 1, none⟩) (Kd.R_types HO285.out BK280.out (by decide)) (fun _ hk => hk.2) (.slice Ao33 y283.length co33)) (fun _ hk => trivial)⟩, ⟨by (with_reducible repeat (first | refine kN ?_ _ | refine kD ?_ | refine kA ?_ _)); refine blk_far ?_ NB278_280.out _; (with_reducible repeat (first | refine kN ?_ _ | refine kD ?_ | refine kA ?_ _)); exact BK278.out⟩, ⟨by (with_reducible repeat (first | refine kN ?_ _ | refine kD ?_ | refine kA ?_ _)); refine blk_far ?_ NB279_280.out _; (with_reducible repeat (first | refine kN ?_ _ | refine kD ?_ | refine kA ?_ _)); exact BK279.out⟩, ⟨by (with_reducible repeat (first | refine kN ?_ _ | refine kD ?_ | refine kA ?_ _)); refine blk_put (cs := #[.int .i64 a0_0, u281001]) ?_ 1 _ rfl; (with_reducible repeat (first | refine kN ?_ _ | refine kD ?_ | refine kA ?_ _)); exact BK280.out⟩, ⟨by repeat (first | (with_reducible first | exact HB.out | apply bA | apply bN | apply bD | refine bS ?_ GE278.out | refine bS ?_ GE279.out | refine bS ?_ GE280.out | refine bS ?_ GE282.out) | exact HB.out)⟩⟩
    rw [if_neg c14] at H
    have c14b0 : (((rd_T47 l0_1 x14_1).f2.f1) == 1000000) = false := beq_eq_false_iff_ne.mpr c14
    have c14b1 : (((rd_T47 l0_1 x14_1).f2.f1) != 1000000) = true := bne_iff_ne.mpr c14
    by_cases c35 : x281001_1.length < 5864062014805
    rotate_left
    · rw [if_neg c35] at H
      exact absurd H (by simp)
    rw [if_pos c35] at H
    have LMc35 := mK c35
    clear c35
    obtain ⟨y289, hy289⟩ : ∃ y_ : List (S86), y_ = (x281001_1 ++ [(⟨(rd_T47 l0_1 x14_1).f0, (rd_T47 l0_1 x14_1).f1, (rd_T47 l0_1 x14_1).f2.f1⟩ : S86)]) := ⟨_, rfl⟩
    replace H : (if x5_1.length < 17592186044416 then ((some (x5_1 ++ [x14_1] : List Int)).bind fun y292 => (if ((rd_T47 l0_1 x14_1).f2.f0) = (-1000000) then (impl_graphOf.l0 k1 y292 l0_1 (l0_1.length : Int) (wrap64 (x14_1 + 1)) a0_0 y289) else (if y289.length < 5864062014805 then (if y292.length < 17592186044416 then (impl_graphOf.l0 k1 (y292 ++ [x14_1]) l0_1 (l0_1.length : Int) (wrap64 (x14_1 + 1)) a0_0 (y289 ++ [(⟨(rd_T47 l0_1 x14_1).f1, (rd_T47 l0_1 x14_1).f0, wrap64 (-((rd_T47 l0_1 x14_1).f2.f0))⟩ : S86)])) else (none)) else (none)))) else (none)) = some (r1, r2, r3) := by first | (rw [hy289]; with_reducible exact H) | (have H2_ := (Option.bind_some _ _).symm.trans H; rw [hy289]; with_reducible exact H2_) | (have H2_ := (Option.bind_some _ _).symm.trans H; with_reducible exact H2_) | with_reducible exact H | (rw [hy289]; exact H) | exact H
    have Ny289 := mK hy289
    clear hy289
    by_cases c36 : x5_1.length < 17592186044416
    rotate_left
    · rw [if_neg c36] at H
      exact absurd H (by simp)
    rw [if_pos c36] at H
    have LMc36 := mK c36
    clear c36
    obtain ⟨y292, hy292⟩ : ∃ y_ : List Int, y_ = (x5_1 ++ [x14_1]) := ⟨_, rfl⟩
    replace H : (if ((rd_T47 l0_1 x14_1).f2.f0) = (-1000000) then (impl_graphOf.l0 k1 y292 l0_1 (l0_1.length : Int) (wrap64 (x14_1 + 1)) a0_0 y289) else (if y289.length < 5864062014805 then (if y292.length < 17592186044416 then (impl_graphOf.l0 k1 (y292 ++ [x14_1]) l0_1 (l0_1.length : Int) (wrap64 (x14_1 + 1)) a0_0 (y289 ++ [(⟨(rd_T47 l0_1 x14_1).f1, (rd_T47 l0_1 x14_1).f0, wrap64 (-((rd_T47 l0_1 x14_1).f2.f0))⟩ : S86)])) else (none)) else (none))) = some (r1, r2, r3) := by first | (rw [hy292]; with_reducible exact H) | (have H2_ := (Option.bind_some _ _).symm.trans H; rw [hy292]; with_reducible exact H2_) | (have H2_ := (Option.bind_some _ _).symm.trans H; with_reducible exact H2_) | with_reducible exact H | (rw [hy292]; exact H) | exact H
    have Ny292 := mK hy292
    clear hy292
    by_cases c37 : ((rd_T47 l0_1 x14_1).f2.f0) = (-1000000)
    · rw [if_pos c37] at H
      have c37b0 : (((rd_T47 l0_1 x14_1).f2.f0) == (-1000000)) = true := beq_iff_eq.mpr c37
      have c37b1 : (((rd_T47 l0_1 x14_1).f2.f0) != (-1000000)) = false := bne_eq_false_iff_eq.mpr c37
      clear c37
      have H' := mK H
      clear H
      have p281 : 0 ≤ (x14_1 : Int) := of_decide_eq_true (by first | (with_reducible assumption) | assumption)
      have q281 : x14_1 < (l0_1.length : Int) := of_decide_eq_true (by first | (with_reducible assumption) | assumption)
      obtain ⟨ad281, e281, hx281_0, hx281_1, hx281_2, hx281_3⟩ := at_T47 HR0_1.out x14_1 p281 q281
      cases e281
      replace hx281_0 := (HB.out.cell (World.block_lt_of_cell? w _ hx281_0)).trans hx281_0
      replace hx281_1 := (HB.out.cell (World.block_lt_of_cell? w _ hx281_1)).trans hx281_1
      replace hx281_2 := (HB.out.cell (World.block_lt_of_cell? w _ hx281_2)).trans hx281_2
      replace hx281_3 := (HB.out.cell (World.block_lt_of_cell? w _ hx281_3)).trans hx281_3
      replace p281 := eq_true p281
      replace q281 := eq_true q281
      go_wp2_with (first | ((with_reducible refine gate_dst (N := 7) rfl ?_); refine box_event ?hg (N := 7) ?hd (cs := #[.int .i64 0, .int .i64 0, .int .i64 0, .int .i64 0]) (t := 47) ?hr ?_; (case hd => rfl); (case hg => rfl); (case hr => first | (go_simp; done) | (go_simp; rfl)); intro gb282 hg w38 hbox hb; have n0_ := mK (Kd.R_below (by (with_reducible repeat (first | apply rA | apply rN | apply rD)); exact HO_5.out) hb); have n1_ := mK (Kd.R_below (by (with_reducible repeat (first | apply rA | apply rN | apply rD)); exact HO_281001.out) hb); have n2_ := mK (blk_below (by (with_reducible repeat (first | refine kN ?_ _ | refine kD ?_ | refine kA ?_ _)); exact BK278.out) hb); have n3_ := mK (blk_below (by (with_reducible repeat (first | refine kN ?_ _ | refine kD ?_ | refine kA ?_ _)); exact BK279.out) hb); have n4_ := mK (blk_below (by (with_reducible repeat (first | refine kN ?_ _ | refine kD ?_ | refine kA ?_ _)); exact BK280.out) hb); have n5_ := mK (below_step (by repeat (first | (with_reducible first | exact HB.out | apply bA | apply bN | apply bD | refine bS ?_ GE278.out | refine bS ?_ GE279.out | refine bS ?_ GE280.out) | exact HB.out)) hb); have n6_ := mK (hbox); have n7_ := mK ((by rw [hg]; exact (below_size (by repeat (first | (with_reducible first | exact HB.out | apply bA | apply bN | apply bD | refine bS ?_ GE278.out | refine bS ?_ GE279.out | refine bS ?_ GE280.out) | exact HB.out))) : w.heap.size ≤ gb282)); have n8_ := mK ((by rw [hg]; exact (below_size (by repeat (first | (with_reducible first | exact HB.out | apply bA | apply bN | apply bD | refine bS ?_ GE278.out | refine bS ?_ GE279.out | refine bS ?_ GE280.out) | exact HB.out))) : w.heap.size ≤ gb282)); have n9_ := mK ((by rw [hg]; exact Nat.ne_of_lt (blk_lt (by (with_reducible repeat (first | refine kN ?_ _ | refine kD ?_ | refine kA ?_ _)); exact BK278.out)) : gb278 ≠ gb282)); have n10_ := mK ((by rw [hg]; exact Nat.ne_of_gt (blk_lt (by (with_reducible repeat (first | refine kN ?_ _ | refine kD ?_ | refine kA ?_ _)); exact BK278.out)) : gb282 ≠ gb278)); have n11_ := mK ((by rw [hg]; exact Nat.ne_of_lt (blk_lt (by (with_reducible repeat (first | refine kN ?_ _ | refine kD ?_ | refine kA ?_ _)); exact BK279.out)) : gb279 ≠ gb282)); have n12_ := mK ((by rw [hg]; exact Nat.ne_of_gt (blk_lt (by (with_reducible repeat (first | refine kN ?_ _ | refine kD ?_ | refine kA ?_ _)); exact BK279.out)) : gb282 ≠ gb279)); have n13_ := mK ((by rw [hg]; exact Nat.ne_of_lt (blk_lt (by (with_reducible repeat (first | refine kN ?_ _ | refine kD ?_ | refine kA ?_ _)); exact BK280.out)) : gb280 ≠ gb282)); have n14_ := mK ((by rw [hg]; exact Nat.ne_of_gt (blk_lt (by (with_reducible repeat (first | refine kN ?_ _ | refine kD ?_ | refine kA ?_ _)); exact BK280.out)) : gb282 ≠ gb280)); clear HO_5; clear HO_281001; clear BK278; clear BK279; clear BK280; clear HB; have HO_5 := n0_; have HO_281001 := n1_; have BK278 := n2_; have BK279 := n3_; have BK280 := n4_; have HB := n5_; have BK282 := n6_; have GW282 := n7_; have GE282 := n8_; have NB278_282 := n9_; have NB282_278 := n10_; have NB279_282 := n11_; have NB282_279 := n12_; have NB280_282 := n13_; have NB282_280 := n14_; clear n0_ n1_ n2_ n3_ n4_ n5_ n6_ n7_ n8_ n9_ n10_ n11_ n12_ n13_ n14_; clear hb hbox hg; have hnb39 := NB282_278.out; have hnc39 := NB278_282.out; have hnb40 := NB282_279.out; have hnc40 := NB279_282.out; have hnb41 := NB282_280.out; have hnc41 := NB280_282.out; have hcz42_0 : w38.cell? ⟨gb282, 0, none⟩ = some (.int .i64 0) := (blk_cell BK282.out 0).trans rfl; have hcz42_1 : w38.cell? ⟨gb282, 1, none⟩ = some (.int .i64 0) := (blk_cell BK282.out 1).trans rfl; have hcz42_2 : w38.cell? ⟨gb282, 2, none⟩ = some (.int .i64 0) := (blk_cell BK282.out 2).trans rfl; have hcz42_3 : w38.cell? ⟨gb282, 3, none⟩ = some (.int .i64 0) := (blk_cell BK282.out 3).trans rfl; have hfz42_0 := blk_frozen BK282.out 0; have hfz42_1 := blk_frozen BK282.out 1; have hfz42_2 := blk_frozen BK282.out 2; have hfz42_3 := blk_frozen BK282.out 3; have hnb43 := NB280_278.out; have hnc43 := NB278_280.out; have hnb44 := NB280_279.out; have hnc44 := NB279_280.out; have hcz45_0 : w38.cell? ⟨gb280, 0, none⟩ = some (.int .i64 a0_0) := (blk_cell BK280.out 0).trans rfl; have hcz45_1 : w38.cell? ⟨gb280, 1, none⟩ = some (u281001) := (blk_cell BK280.out 1).trans rfl; have hfz45_0 := blk_frozen BK280.out 0; have hfz45_1 := blk_frozen BK280.out 1) | ((with_reducible refine gate_builtin (b := .append) (xs := #[.tmp 24, .tmp 33]) rfl ?_); at_builtin; refine Kd.R_append k86 (w0 := w) w.heap.size rfl (.tmp 24) (.tmp 33) 51 86 (.agg #[(.int .i64 0), (.int .i64 0), (.int .i64 0)]) 24 rfl Try.underlying51 info86 rfl (by decide) (by omega) u281001 x281001_1 (⟨(rd_T47 l0_1 x14_1).f0, (rd_T47 l0_1 x14_1).f1, (rd_T47 l0_1 x14_1).f2.f1⟩ : S86) [.int .i64 ((rd_T47 l0_1 x14_1).f0), .int .i64 ((rd_T47 l0_1 x14_1).f1), .int .i64 ((rd_T47 l0_1 x14_1).f2.f1)] (fun _ => True) (fun _ => False) rfl (by first | (go_simp; done) | (go_simp; rfl)) ?aP (fun _ hk => hk.elim) ?aF ?aO ?aB ?aS ?aL ?_; (case aP => exact k86_mkM _ _ _ (⟨(rd_T47 l0_1 x14_1).f0, (rd_T47 l0_1 x14_1).f1, (rd_T47 l0_1 x14_1).f2.f1⟩ : S86)); (case aB => exact (by repeat (first | (with_reducible first | exact HB.out | apply bA | apply bN | apply bD | refine bS ?_ GE278.out | refine bS ?_ GE279.out | refine bS ?_ GE280.out | refine bS ?_ GE282.out) | exact HB.out))); (case aF => exact (fun _ _ => trivial)); (case aO => exact (by (with_reducible repeat (first | apply rA | apply rN | apply rD)); exact Kd.R_mono (Kd.R_far (p := ⟨gb282, 3, none⟩) (Kd.R_far (p := ⟨gb282, 2, none⟩) (Kd.R_far (p := ⟨gb282, 1, none⟩) (Kd.R_far (p := ⟨gb282, 0, none⟩) (Kd.R_types HO_281001.out BK282.out (by decide)) (fun _ hk => hk.2) (.int .i64 ((rd_T47 l0_1 x14_1).f0))) (fun _ hk => hk.2) (.int .i64 ((rd_T47 l0_1 x14_1).f1))) (fun _ hk => hk.2) (.int .i64 ((rd_T47 l0_1 x14_1).f2.f0))) (fun _ hk => hk.2) (.int .i64 ((rd_T47 l0_1 x14_1).f2.f1))) (fun _ hk => trivial))); (case aS => exact (below_size (by repeat (first | (with_reducible first | exact HB.out | apply bA | apply bN | apply bD | refine bS ?_ GE278.out | refine bS ?_ GE279.out | refine bS ?_ GE280.out | refine bS ?_ GE282.out) | exact HB.out)))); (case aL => have := LMc35.out; omega); intro v290 w46 ho hb hg hat; rw [← Ny289.out] at ho; have n0_ := mK (Kd.R_over' (by (with_reducible repeat (first | apply rA | apply rN | apply rD)); exact (Kd.R_mono (Kd.R_far (p := ⟨gb282, 3, none⟩) (Kd.R_far (p := ⟨gb282, 2, none⟩) (Kd.R_far (p := ⟨gb282, 1, none⟩) (Kd.R_far (p := ⟨gb282, 0, none⟩) (Kd.R_types HO_5.out BK282.out (by decide)) (fun _ hk => hk.2) (.int .i64 ((rd_T47 l0_1 x14_1).f0))) (fun _ hk => hk.2) (.int .i64 ((rd_T47 l0_1 x14_1).f1))) (fun _ hk => hk.2) (.int .i64 ((rd_T47 l0_1 x14_1).f2.f0))) (fun _ hk => hk.2) (.int .i64 ((rd_T47 l0_1 x14_1).f2.f1))) (fun _ h_ => h_.1))) (Kd.R_typed (by (with_reducible repeat (first | apply rA | apply rN | apply rD)); exact (Kd.R_mono (Kd.R_far (p := ⟨gb282, 3, none⟩) (Kd.R_far (p := ⟨gb282, 2, none⟩) (Kd.R_far (p := ⟨gb282, 1, none⟩) (Kd.R_far (p := ⟨gb282, 0, none⟩) (Kd.R_types HO_281001.out BK282.out (by decide)) (fun _ hk => hk.2) (.int .i64 ((rd_T47 l0_1 x14_1).f0))) (fun _ hk => hk.2) (.int .i64 ((rd_T47 l0_1 x14_1).f1))) (fun _ hk => hk.2) (.int .i64 ((rd_T47 l0_1 x14_1).f2.f0))) (fun _ hk => hk.2) (.int .i64 ((rd_T47 l0_1 x14_1).f2.f1))) (fun _ h_ => h_.1)))) (by decide) hg); have n1_ := mK (blk_grown (g := gb278) (o := .cells #[.int .i64 a0_0, .slice (some ad281) l0_1.length c0_1] 29 (0, 0)) (by (with_reducible repeat (first | refine kN ?_ _ | refine kD ?_ | refine kA ?_ _)); refine blk_far ?_ NB278_282.out _; (with_reducible repeat (first | refine kN ?_ _ | refine kD ?_ | refine kA ?_ _)); refine blk_far ?_ NB278_282.out _; (with_reducible repeat (first | refine kN ?_ _ | refine kD ?_ | refine kA ?_ _)); refine blk_far ?_ NB278_282.out _; (with_reducible repeat (first | refine kN ?_ _ | refine kD ?_ | refine kA ?_ _)); refine blk_far ?_ NB278_282.out _; (with_reducible repeat (first | refine kN ?_ _ | refine kD ?_ | refine kA ?_ _)); exact BK278.out) hg (Kd.R_ne HO_281001.out BK278.out (by decide))); have n2_ := mK (blk_grown (g := gb279) (o := .cells #[.int .i64 0, .slice none 0 0] 53 (0, 0)) (by (with_reducible repeat (first | refine kN ?_ _ | refine kD ?_ | refine kA ?_ _)); refine blk_far ?_ NB279_282.out _; (with_reducible repeat (first | refine kN ?_ _ | refine kD ?_ | refine kA ?_ _)); refine blk_far ?_ NB279_282.out _; (with_reducible repeat (first | refine kN ?_ _ | refine kD ?_ | refine kA ?_ _)); refine blk_far ?_ NB279_282.out _; (with_reducible repeat (first | refine kN ?_ _ | refine kD ?_ | refine kA ?_ _)); refine blk_far ?_ NB279_282.out _; (with_reducible repeat (first | refine kN ?_ _ | refine kD ?_ | refine kA ?_ _)); exact BK279.out) hg (Kd.R_ne HO_281001.out BK279.out (by decide))); have n3_ := mK (blk_grown (g := gb280) (o := .cells #[.int .i64 a0_0, u281001] 53 (0, 0)) (by (with_reducible repeat (first | refine kN ?_ _ | refine kD ?_ | refine kA ?_ _)); refine blk_far ?_ NB280_282.out _; (with_reducible repeat (first | refine kN ?_ _ | refine kD ?_ | refine kA ?_ _)); refine blk_far ?_ NB280_282.out _; (with_reducible repeat (first | refine kN ?_ _ | refine kD ?_ | refine kA ?_ _)); refine blk_far ?_ NB280_282.out _; (with_reducible repeat (first | refine kN ?_ _ | refine kD ?_ | refine kA ?_ _)); refine blk_far ?_ NB280_282.out _; (with_reducible repeat (first | refine kN ?_ _ | refine kD ?_ | refine kA ?_ _)); exact BK280.out) hg (Kd.R_ne HO_281001.out BK280.out (by decide))); have n4_ := mK (blk_grown (g := gb282) (o := .cells #[.int .i64 ((rd_T47 l0_1 x14_1).f0), .int .i64 ((rd_T47 l0_1 x14_1).f1), .int .i64 ((rd_T47 l0_1 x14_1).f2.f0), .int .i64 ((rd_T47 l0_1 x14_1).f2.f1)] 47 (0, 0)) (by (with_reducible repeat (first | refine kN ?_ _ | refine kD ?_ | refine kA ?_ _)); refine blk_put (cs := #[.int .i64 ((rd_T47 l0_1 x14_1).f0), .int .i64 ((rd_T47 l0_1 x14_1).f1), .int .i64 ((rd_T47 l0_1 x14_1).f2.f0), .int .i64 0]) ?_ 3 _ rfl; (with_reducible repeat (first | refine kN ?_ _ | refine kD ?_ | refine kA ?_ _)); refine blk_put (cs := #[.int .i64 ((rd_T47 l0_1 x14_1).f0), .int .i64 ((rd_T47 l0_1 x14_1).f1), .int .i64 0, .int .i64 0]) ?_ 2 _ rfl; (with_reducible repeat (first | refine kN ?_ _ | refine kD ?_ | refine kA ?_ _)); refine blk_put (cs := #[.int .i64 ((rd_T47 l0_1 x14_1).f0), .int .i64 0, .int .i64 0, .int .i64 0]) ?_ 1 _ rfl; (with_reducible repeat (first | refine kN ?_ _ | refine kD ?_ | refine kA ?_ _)); refine blk_put (cs := #[.int .i64 0, .int .i64 0, .int .i64 0, .int .i64 0]) ?_ 0 _ rfl; (with_reducible repeat (first | refine kN ?_ _ | refine kD ?_ | refine kA ?_ _)); exact BK282.out) hg (Kd.R_ne HO_281001.out BK282.out (by decide))); have n5_ := mK (hb); have n6_ := mK (ho); clear HO_5; clear BK278; clear BK279; clear BK280; clear BK282; clear HB; clear HO_281001; have HO_5 := n0_; have BK278 := n1_; have BK279 := n2_; have BK280 := n3_; have BK282 := n4_; have HB := n5_; have HO291 := n6_; clear n0_ n1_ n2_ n3_ n4_ n5_ n6_; clear ho hb hg hat) | ((with_reducible refine gate_builtin (b := .append) (xs := #[.tmp 35, .tmp 37]) rfl ?_); at_builtin; refine Kd.R_append (Kd.int .i64) (w0 := w) w.heap.size rfl (.tmp 35) (.tmp 37) 33 3 (.int .i64 0) 8 rfl Try.underlying33 info3 rfl (by decide) (by omega) u5 x5_1 x14_1 [.int .i64 x14_1] (fun _ => True) (fun _ => False) rfl rfl ?aP (fun _ hk => hk.elim) ?aF ?aO ?aB ?aS ?aL ?_; (case aP => exact rfl); (case aB => exact (by repeat (first | (with_reducible first | exact HB.out | apply bA | apply bN | apply bD | refine bS ?_ GE278.out | refine bS ?_ GE279.out | refine bS ?_ GE280.out | refine bS ?_ GE282.out) | exact HB.out))); (case aF => exact (fun _ _ => trivial)); (case aO => exact (by (with_reducible repeat (first | apply rA | apply rN | apply rD)); exact HO_5.out)); (case aS => exact (below_size (by repeat (first | (with_reducible first | exact HB.out | apply bA | apply bN | apply bD | refine bS ?_ GE278.out | refine bS ?_ GE279.out | refine bS ?_ GE280.out | refine bS ?_ GE282.out) | exact HB.out)))); (case aL => have := LMc36.out; omega); intro v293 w47 ho hb hg hat; rw [← Ny292.out] at ho; have n0_ := mK (blk_grown (by (with_reducible repeat (first | refine kN ?_ _ | refine kD ?_ | refine kA ?_ _)); exact BK278.out) hg (Kd.R_ne HO_5.out BK278.out (by decide))); have n1_ := mK (blk_grown (by (with_reducible repeat (first | refine kN ?_ _ | refine kD ?_ | refine kA ?_ _)); exact BK279.out) hg (Kd.R_ne HO_5.out BK279.out (by decide))); have n2_ := mK (blk_grown (by (with_reducible repeat (first | refine kN ?_ _ | refine kD ?_ | refine kA ?_ _)); exact BK280.out) hg (Kd.R_ne HO_5.out BK280.out (by decide))); have n3_ := mK (blk_grown (by (with_reducible repeat (first | refine kN ?_ _ | refine kD ?_ | refine kA ?_ _)); exact BK282.out) hg (Kd.R_ne HO_5.out BK282.out (by decide))); have n4_ := mK (Kd.R_over' (by (with_reducible repeat (first | apply rA | apply rN | apply rD)); exact HO291.out) (Kd.R_typed (by (with_reducible repeat (first | apply rA | apply rN | apply rD)); exact HO_5.out)) (by decide) hg); have n5_ := mK (hb); have n6_ := mK (ho); clear BK278; clear BK279; clear BK280; clear BK282; clear HO291; clear HB; clear HO_5; have BK278 := n0_; have BK279 := n1_; have BK280 := n2_; have BK282 := n3_; have HO291 := n4_; have HB := n5_; have HO294 := n6_; clear n0_ n1_ n2_ n3_ n4_ n5_ n6_; clear ho hb hg hat; obtain ⟨Ao48, co48, eo48⟩ := Kd.R_slice HO291.out; subst eo48; have hcz49_0 : w47.cell? ⟨gb280, 0, none⟩ = some (.int .i64 a0_0) := (blk_cell BK280.out 0).trans rfl; have hcz49_1 : w47.cell? ⟨gb280, 1, none⟩ = some (u281001) := (blk_cell BK280.out 1).trans rfl; have hfz49_0 := blk_frozen BK280.out 0; have hfz49_1 := blk_frozen BK280.out 1; have hcz50_0 : w47.cell? ⟨gb282, 0, none⟩ = some (.int .i64 ((rd_T47 l0_1 x14_1).f0)) := (blk_cell BK282.out 0).trans rfl; have hcz50_1 : w47.cell? ⟨gb282, 1, none⟩ = some (.int .i64 ((rd_T47 l0_1 x14_1).f1)) := (blk_cell BK282.out 1).trans rfl; have hcz50_2 : w47.cell? ⟨gb282, 2, none⟩ = some (.int .i64 ((rd_T47 l0_1 x14_1).f2.f0)) := (blk_cell BK282.out 2).trans rfl; have hcz50_3 : w47.cell? ⟨gb282, 3, none⟩ = some (.int .i64 ((rd_T47 l0_1 x14_1).f2.f1)) := (blk_cell BK282.out 3).trans rfl; have hfz50_0 := blk_frozen BK282.out 0; have hfz50_1 := blk_frozen BK282.out 1; have hfz50_2 := blk_frozen BK282.out 2; have hfz50_3 := blk_frozen BK282.out 3))
      go_roundg k1
      case measure => have := HK1.out; omega
      case rel => exact ⟨(y292), (wrap64 (x14_1 + 1)), (y289), (.slice Ao48 y289.length co48), (by first | rfl | (simp; done) | (simp [*]; done)), H', ⟨by have := HK1.out; omega⟩, ⟨by (with_reducible repeat (first | apply rA | apply rN | apply rD)); exact Kd.R_mono (Kd.R_far (p := ⟨gb280, 1, none⟩) (Kd.R_types HO294.out BK280.out (by decide)) (fun _ hk => hk.2) (.slice Ao48 y289.length co48)) (fun _ hk => trivial)⟩, ⟨by (with_reducible repeat (first | apply rA | apply rN | apply rD)); exact Kd.R_mono (Kd.R_far (p := ⟨gb280, 1, none⟩) (Kd.R_types HO291.out BK280.out (by decide)) (fun _ hk => hk.2) (.slice Ao48 y289.length co48)) (fun _ hk => trivial)⟩, ⟨by (with_reducible repeat (first | refine kN ?_ _ | refine kD ?_ | refine kA ?_ _)); refine blk_far ?_ NB278_280.out _; (with_reducible repeat (first | refine kN ?_ _ | refine kD ?_ | refine kA ?_ _)); exact BK278.out⟩, ⟨by (with_reducible repeat (first | refine kN ?_ _ | refine kD ?_ | refine kA ?_ _)); refine blk_far ?_ NB279_280.out _; (with_reducible repeat (first | refine kN ?_ _ | refine kD ?_ | refine kA ?_ _)); exact BK279.out⟩, ⟨by (with_reducible repeat (first | refine kN ?_ _ | refine kD ?_ | refine kA ?_ _)); refine blk_put (cs := #[.int .i64 a0_0, u281001]) ?_ 1 _ rfl; (with_reducible repeat (first | refine kN ?_ _ | refine kD ?_ | refine kA ?_ _)); exact BK280.out⟩, ⟨by repeat (first | (with_reducible first | exact HB.out | apply bA | apply bN | apply bD | refine bS ?_ GE278.out | refine bS ?_ GE279.out | refine bS ?_ GE280.out | refine bS ?_ GE282.out) | exact HB.out)⟩⟩
    rw [if_neg c37] at H
    have c37b0 : (((rd_T47 l0_1 x14_1).f2.f0) == (-1000000)) = false := beq_eq_false_iff_ne.mpr c37
    have c37b1 : (((rd_T47 l0_1 x14_1).f2.f0) != (-1000000)) = true := bne_iff_ne.mpr c37
    by_cases c51 : y289.length < 5864062014805
    rotate_left
    · rw [if_neg c51] at H
      exact absurd H (by simp)
    rw [if_pos c51] at H
    have LMc51 := mK c51
    clear c51
    obtain ⟨y295, hy295⟩ : ∃ y_ : List (S86), y_ = (y289 ++ [(⟨(rd_T47 l0_1 x14_1).f1, (rd_T47 l0_1 x14_1).f0, wrap64 (-((rd_T47 l0_1 x14_1).f2.f0))⟩ : S86)]) := ⟨_, rfl⟩
    replace H : (if y292.length < 17592186044416 then (impl_graphOf.l0 k1 (y292 ++ [x14_1]) l0_1 (l0_1.length : Int) (wrap64 (x14_1 + 1)) a0_0 y295) else (none)) = some (r1, r2, r3) := by first | (rw [hy295]; with_reducible exact H) | (have H2_ := (Option.bind_some _ _).symm.trans H; rw [hy295]; with_reducible exact H2_) | (have H2_ := (Option.bind_some _ _).symm.trans H; with_reducible exact H2_) | with_reducible exact H | (rw [hy295]; exact H) | exact H
    have Ny295 := mK hy295
    clear hy295
    by_cases c52 : y292.length < 17592186044416
    rotate_left
    · rw [if_neg c52] at H
      exact absurd H (by simp)
    rw [if_pos c52] at H
    have LMc52 := mK c52
    clear c52
    obtain ⟨y298, hy298⟩ : ∃ y_ : List Int, y_ = (y292 ++ [x14_1]) := ⟨_, rfl⟩
    replace H : (impl_graphOf.l0 k1 y298 l0_1 (l0_1.length : Int) (wrap64 (x14_1 + 1)) a0_0 y295) = some (r1, r2, r3) := by first | (rw [hy298]; with_reducible exact H) | (have H2_ := (Option.bind_some _ _).symm.trans H; rw [hy298]; with_reducible exact H2_) | (have H2_ := (Option.bind_some _ _).symm.trans H; with_reducible exact H2_) | with_reducible exact H | (rw [hy298]; exact H) | exact H
    have Ny298 := mK hy298
    clear hy298
    have H' := mK H
    clear H
    have p281 : 0 ≤ (x14_1 : Int) := of_decide_eq_true (by first | (with_reducible assumption) | assumption)
    have q281 : x14_1 < (l0_1.length : Int) := of_decide_eq_true (by first | (with_reducible assumption) | assumption)
    obtain ⟨ad281, e281, hx281_0, hx281_1, hx281_2, hx281_3⟩ := at_T47 HR0_1.out x14_1 p281 q281
    cases e281
    replace hx281_0 := (HB.out.cell (World.block_lt_of_cell? w _ hx281_0)).trans hx281_0
    replace hx281_1 := (HB.out.cell (World.block_lt_of_cell? w _ hx281_1)).trans hx281_1
    replace hx281_2 := (HB.out.cell (World.block_lt_of_cell? w _ hx281_2)).trans hx281_2
    replace hx281_3 := (HB.out.cell (World.block_lt_of_cell? w _ hx281_3)).trans hx281_3
    replace p281 := eq_true p281
    replace q281 := eq_true q281
    go_wp2_with (first | ((with_reducible refine gate_dst (N := 7) rfl ?_); refine box_event ?hg (N := 7) ?hd (cs := #[.int .i64 0, .int .i64 0, .int .i64 0, .int .i64 0]) (t := 47) ?hr ?_; (case hd => rfl); (case hg => rfl); (case hr => first | (go_simp; done) | (go_simp; rfl)); intro gb282 hg w53 hbox hb; have n0_ := mK (Kd.R_below (by (with_reducible repeat (first | apply rA | apply rN | apply rD)); exact HO_5.out) hb); have n1_ := mK (Kd.R_below (by (with_reducible repeat (first | apply rA | apply rN | apply rD)); exact HO_281001.out) hb); have n2_ := mK (blk_below (by (with_reducible repeat (first | refine kN ?_ _ | refine kD ?_ | refine kA ?_ _)); exact BK278.out) hb); have n3_ := mK (blk_below (by (with_reducible repeat (first | refine kN ?_ _ | refine kD ?_ | refine kA ?_ _)); exact BK279.out) hb); have n4_ := mK (blk_below (by (with_reducible repeat (first | refine kN ?_ _ | refine kD ?_ | refine kA ?_ _)); exact BK280.out) hb); have n5_ := mK (below_step (by repeat (first | (with_reducible first | exact HB.out | apply bA | apply bN | apply bD | refine bS ?_ GE278.out | refine bS ?_ GE279.out | refine bS ?_ GE280.out) | exact HB.out)) hb); have n6_ := mK (hbox); have n7_ := mK ((by rw [hg]; exact (below_size (by repeat (first | (with_reducible first | exact HB.out | apply bA | apply bN | apply bD | refine bS ?_ GE278.out | refine bS ?_ GE279.out | refine bS ?_ GE280.out) | exact HB.out))) : w.heap.size ≤ gb282)); have n8_ := mK ((by rw [hg]; exact (below_size (by repeat (first | (with_reducible first | exact HB.out | apply bA | apply bN | apply bD | refine bS ?_ GE278.out | refine bS ?_ GE279.out | refine bS ?_ GE280.out) | exact HB.out))) : w.heap.size ≤ gb282)); have n9_ := mK ((by rw [hg]; exact Nat.ne_of_lt (blk_lt (by (with_reducible repeat (first | refine kN ?_ _ | refine kD ?_ | refine kA ?_ _)); exact BK278.out)) : gb278 ≠ gb282)); have n10_ := mK ((by rw [hg]; exact Nat.ne_of_gt (blk_lt (by (with_reducible repeat (first | refine kN ?_ _ | refine kD ?_ | refine kA ?_ _)); exact BK278.out)) : gb282 ≠ gb278)); have n11_ := mK ((by rw [hg]; exact Nat.ne_of_lt (blk_lt (by (with_reducible repeat (first | refine kN ?_ _ | refine kD ?_ | refine kA ?_ _)); exact BK279.out)) : gb279 ≠ gb282)); have n12_ := mK ((by rw [hg]; exact Nat.ne_of_gt (blk_lt (by (with_reducible repeat (first | refine kN ?_ _ | refine kD ?_ | refine kA ?_ _)); exact BK279.out)) : gb282 ≠ gb279)); have n13_ := mK ((by rw [hg]; exact Nat.ne_of_lt (blk_lt (by (with_reducible repeat (first | refine kN ?_ _ | refine kD ?_ | refine kA ?_ _)); exact BK280.out)) : gb280 ≠ gb282)); have n14_ := mK ((by rw [hg]; exact Nat.ne_of_gt (blk_lt (by (with_reducible repeat (first | refine kN ?_ _ | refine kD ?_ | refine kA ?_ _)); exact BK280.out)) : gb282 ≠ gb280)); clear HO_5; clear HO_281001; clear BK278; clear BK279; clear BK280; clear HB; have HO_5 := n0_; have HO_281001 := n1_; have BK278 := n2_; have BK279 := n3_; have BK280 := n4_; have HB := n5_; have BK282 := n6_; have GW282 := n7_; have GE282 := n8_; have NB278_282 := n9_; have NB282_278 := n10_; have NB279_282 := n11_; have NB282_279 := n12_; have NB280_282 := n13_; have NB282_280 := n14_; clear n0_ n1_ n2_ n3_ n4_ n5_ n6_ n7_ n8_ n9_ n10_ n11_ n12_ n13_ n14_; clear hb hbox hg; have hnb54 := NB282_278.out; have hnc54 := NB278_282.out; have hnb55 := NB282_279.out; have hnc55 := NB279_282.out; have hnb56 := NB282_280.out; have hnc56 := NB280_282.out; have hcz57_0 : w53.cell? ⟨gb282, 0, none⟩ = some (.int .i64 0) := (blk_cell BK282.out 0).trans rfl; have hcz57_1 : w53.cell? ⟨gb282, 1, none⟩ = some (.int .i64 0) := (blk_cell BK282.out 1).trans rfl; have hcz57_2 : w53.cell? ⟨gb282, 2, none⟩ = some (.int .i64 0) := (blk_cell BK282.out 2).trans rfl; have hcz57_3 : w53.cell? ⟨gb282, 3, none⟩ = some (.int .i64 0) := (blk_cell BK282.out 3).trans rfl; have hfz57_0 := blk_frozen BK282.out 0; have hfz57_1 := blk_frozen BK282.out 1; have hfz57_2 := blk_frozen BK282.out 2; have hfz57_3 := blk_frozen BK282.out 3; have hnb58 := NB280_278.out; have hnc58 := NB278_280.out; have hnb59 := NB280_279.out; have hnc59 := NB279_280.out; have hcz60_0 : w53.cell? ⟨gb280, 0, none⟩ = some (.int .i64 a0_0) := (blk_cell BK280.out 0).trans rfl; have hcz60_1 : w53.cell? ⟨gb280, 1, none⟩ = some (u281001) := (blk_cell BK280.out 1).trans rfl; have hfz60_0 := blk_frozen BK280.out 0; have hfz60_1 := blk_frozen BK280.out 1) | ((with_reducible refine gate_builtin (b := .append) (xs := #[.tmp 24, .tmp 33]) rfl ?_); at_builtin; refine Kd.R_append k86 (w0 := w) w.heap.size rfl (.tmp 24) (.tmp 33) 51 86 (.agg #[(.int .i64 0), (.int .i64 0), (.int .i64 0)]) 24 rfl Try.underlying51 info86 rfl (by decide) (by omega) u281001 x281001_1 (⟨(rd_T47 l0_1 x14_1).f0, (rd_T47 l0_1 x14_1).f1, (rd_T47 l0_1 x14_1).f2.f1⟩ : S86) [.int .i64 ((rd_T47 l0_1 x14_1).f0), .int .i64 ((rd_T47 l0_1 x14_1).f1), .int .i64 ((rd_T47 l0_1 x14_1).f2.f1)] (fun _ => True) (fun _ => False) rfl (by first | (go_simp; done) | (go_simp; rfl)) ?aP (fun _ hk => hk.elim) ?aF ?aO ?aB ?aS ?aL ?_; (case aP => exact k86_mkM _ _ _ (⟨(rd_T47 l0_1 x14_1).f0, (rd_T47 l0_1 x14_1).f1, (rd_T47 l0_1 x14_1).f2.f1⟩ : S86)); (case aB => exact (by repeat (first | (with_reducible first | exact HB.out | apply bA | apply bN | apply bD | refine bS ?_ GE278.out | refine bS ?_ GE279.out | refine bS ?_ GE280.out | refine bS ?_ GE282.out) | exact HB.out))); (case aF => exact (fun _ _ => trivial)); (case aO => exact (by (with_reducible repeat (first | apply rA | apply rN | apply rD)); exact Kd.R_mono (Kd.R_far (p := ⟨gb282, 3, none⟩) (Kd.R_far (p := ⟨gb282, 2, none⟩) (Kd.R_far (p := ⟨gb282, 1, none⟩) (Kd.R_far (p := ⟨gb282, 0, none⟩) (Kd.R_types HO_281001.out BK282.out (by decide)) (fun _ hk => hk.2) (.int .i64 ((rd_T47 l0_1 x14_1).f0))) (fun _ hk => hk.2) (.int .i64 ((rd_T47 l0_1 x14_1).f1))) (fun _ hk => hk.2) (.int .i64 ((rd_T47 l0_1 x14_1).f2.f0))) (fun _ hk => hk.2) (.int .i64 ((rd_T47 l0_1 x14_1).f2.f1))) (fun _ hk => trivial))); (case aS => exact (below_size (by repeat (first | (with_reducible first | exact HB.out | apply bA | apply bN | apply bD | refine bS ?_ GE278.out | refine bS ?_ GE279.out | refine bS ?_ GE280.out | refine bS ?_ GE282.out) | exact HB.out)))); (case aL => have := LMc35.out; omega); intro v290 w61 ho hb hg hat; rw [← Ny289.out] at ho; have n0_ := mK (Kd.R_over' (by (with_reducible repeat (first | apply rA | apply rN | apply rD)); exact (Kd.R_mono (Kd.R_far (p := ⟨gb282, 3, none⟩) (Kd.R_far (p := ⟨gb282, 2, none⟩) (Kd.R_far (p := ⟨gb282, 1, none⟩) (Kd.R_far (p := ⟨gb282, 0, none⟩) (Kd.R_types HO_5.out BK282.out (by decide)) (fun _ hk => hk.2) (.int .i64 ((rd_T47 l0_1 x14_1).f0))) (fun _ hk => hk.2) (.int .i64 ((rd_T47 l0_1 x14_1).f1))) (fun _ hk => hk.2) (.int .i64 ((rd_T47 l0_1 x14_1).f2.f0))) (fun _ hk => hk.2) (.int .i64 ((rd_T47 l0_1 x14_1).f2.f1))) (fun _ h_ => h_.1))) (Kd.R_typed (by (with_reducible repeat (first | apply rA | apply rN | apply rD)); exact (Kd.R_mono (Kd.R_far (p := ⟨gb282, 3, none⟩) (Kd.R_far (p := ⟨gb282, 2, none⟩) (Kd.R_far (p := ⟨gb282, 1, none⟩) (Kd.R_far (p := ⟨gb282, 0, none⟩) (Kd.R_types HO_281001.out BK282.out (by decide)) (fun _ hk => hk.2) (.int .i64 ((rd_T47 l0_1 x14_1).f0))) (fun _ hk => hk.2) (.int .i64 ((rd_T47 l0_1 x14_1).f1))) (fun _ hk => hk.2) (.int .i64 ((rd_T47 l0_1 x14_1).f2.f0))) (fun _ hk => hk.2) (.int .i64 ((rd_T47 l0_1 x14_1).f2.f1))) (fun _ h_ => h_.1)))) (by decide) hg); have n1_ := mK (blk_grown (g := gb278) (o := .cells #[.int .i64 a0_0, .slice (some ad281) l0_1.length c0_1] 29 (0, 0)) (by (with_reducible repeat (first | refine kN ?_ _ | refine kD ?_ | refine kA ?_ _)); refine blk_far ?_ NB278_282.out _; (with_reducible repeat (first | refine kN ?_ _ | refine kD ?_ | refine kA ?_ _)); refine blk_far ?_ NB278_282.out _; (with_reducible repeat (first | refine kN ?_ _ | refine kD ?_ | refine kA ?_ _)); refine blk_far ?_ NB278_282.out _; (with_reducible repeat (first | refine kN ?_ _ | refine kD ?_ | refine kA ?_ _)); refine blk_far ?_ NB278_282.out _; (with_reducible repeat (first | refine kN ?_ _ | refine kD ?_ | refine kA ?_ _)); exact BK278.out) hg (Kd.R_ne HO_281001.out BK278.out (by decide))); have n2_ := mK (blk_grown (g := gb279) (o := .cells #[.int .i64 0, .slice none 0 0] 53 (0, 0)) (by (with_reducible repeat (first | refine kN ?_ _ | refine kD ?_ | refine kA ?_ _)); refine blk_far ?_ NB279_282.out _; (with_reducible repeat (first | refine kN ?_ _ | refine kD ?_ | refine kA ?_ _)); refine blk_far ?_ NB279_282.out _; (with_reducible repeat (first | refine kN ?_ _ | refine kD ?_ | refine kA ?_ _)); refine blk_far ?_ NB279_282.out _; (with_reducible repeat (first | refine kN ?_ _ | refine kD ?_ | refine kA ?_ _)); refine blk_far ?_ NB279_282.out _; (with_reducible repeat (first | refine kN ?_ _ | refine kD ?_ | refine kA ?_ _)); exact BK279.out) hg (Kd.R_ne HO_281001.out BK279.out (by decide))); have n3_ := mK (blk_grown (g := gb280) (o := .cells #[.int .i64 a0_0, u281001] 53 (0, 0)) (by (with_reducible repeat (first | refine kN ?_ _ | refine kD ?_ | refine kA ?_ _)); refine blk_far ?_ NB280_282.out _; (with_reducible repeat (first | refine kN ?_ _ | refine kD ?_ | refine kA ?_ _)); refine blk_far ?_ NB280_282.out _; (with_reducible repeat (first | refine kN ?_ _ | refine kD ?_ | refine kA ?_ _)); refine blk_far ?_ NB280_282.out _; (with_reducible repeat (first | refine kN ?_ _ | refine kD ?_ | refine kA ?_ _)); refine blk_far ?_ NB280_282.out _; (with_reducible repeat (first | refine kN ?_ _ | refine kD ?_ | refine kA ?_ _)); exact BK280.out) hg (Kd.R_ne HO_281001.out BK280.out (by decide))); have n4_ := mK (blk_grown (g := gb282) (o := .cells #[.int .i64 ((rd_T47 l0_1 x14_1).f0), .int .i64 ((rd_T47 l0_1 x14_1).f1), .int .i64 ((rd_T47 l0_1 x14_1).f2.f0), .int .i64 ((rd_T47 l0_1 x14_1).f2.f1)] 47 (0, 0)) (by (with_reducible repeat (first | refine kN ?_ _ | refine kD ?_ | refine kA ?_ _)); refine blk_put (cs := #[.int .i64 ((rd_T47 l0_1 x14_1).f0), .int .i64 ((rd_T47 l0_1 x14_1).f1), .int .i64 ((rd_T47 l0_1 x14_1).f2.f0), .int .i64 0]) ?_ 3 _ rfl; (with_reducible repeat (first | refine kN ?_ _ | refine kD ?_ | refine kA ?_ _)); refine blk_put (cs := #[.int .i64 ((rd_T47 l0_1 x14_1).f0), .int .i64 ((rd_T47 l0_1 x14_1).f1), .int .i64 0, .int .i64 0]) ?_ 2 _ rfl; (with_reducible repeat (first | refine kN ?_ _ | refine kD ?_ | refine kA ?_ _)); refine blk_put (cs := #[.int .i64 ((rd_T47 l0_1 x14_1).f0), .int .i64 0, .int .i64 0, .int .i64 0]) ?_ 1 _ rfl; (with_reducible repeat (first | refine kN ?_ _ | refine kD ?_ | refine kA ?_ _)); refine blk_put (cs := #[.int .i64 0, .int .i64 0, .int .i64 0, .int .i64 0]) ?_ 0 _ rfl; (with_reducible repeat (first | refine kN ?_ _ | refine kD ?_ | refine kA ?_ _)); exact BK282.out) hg (Kd.R_ne HO_281001.out BK282.out (by decide))); have n5_ := mK (hb); have n6_ := mK (ho); clear HO_5; clear BK278; clear BK279; clear BK280; clear BK282; clear HB; clear HO_281001; have HO_5 := n0_; have BK278 := n1_; have BK279 := n2_; have BK280 := n3_; have BK282 := n4_; have HB := n5_; have HO291 := n6_; clear n0_ n1_ n2_ n3_ n4_ n5_ n6_; clear ho hb hg hat) | ((with_reducible refine gate_builtin (b := .append) (xs := #[.tmp 35, .tmp 37]) rfl ?_); at_builtin; refine Kd.R_append (Kd.int .i64) (w0 := w) w.heap.size rfl (.tmp 35) (.tmp 37) 33 3 (.int .i64 0) 8 rfl Try.underlying33 info3 rfl (by decide) (by omega) u5 x5_1 x14_1 [.int .i64 x14_1] (fun _ => True) (fun _ => False) rfl rfl ?aP (fun _ hk => hk.elim) ?aF ?aO ?aB ?aS ?aL ?_; (case aP => exact rfl); (case aB => exact (by repeat (first | (with_reducible first | exact HB.out | apply bA | apply bN | apply bD | refine bS ?_ GE278.out | refine bS ?_ GE279.out | refine bS ?_ GE280.out | refine bS ?_ GE282.out) | exact HB.out))); (case aF => exact (fun _ _ => trivial)); (case aO => exact (by (with_reducible repeat (first | apply rA | apply rN | apply rD)); exact HO_5.out)); (case aS => exact (below_size (by repeat (first | (with_reducible first | exact HB.out | apply bA | apply bN | apply bD | refine bS ?_ GE278.out | refine bS ?_ GE279.out | refine bS ?_ GE280.out | refine bS ?_ GE282.out) | exact HB.out)))); (case aL => have := LMc36.out; omega); intro v293 w62 ho hb hg hat; rw [← Ny292.out] at ho; have n0_ := mK (blk_grown (by (with_reducible repeat (first | refine kN ?_ _ | refine kD ?_ | refine kA ?_ _)); exact BK278.out) hg (Kd.R_ne HO_5.out BK278.out (by decide))); have n1_ := mK (blk_grown (by (with_reducible repeat (first | refine kN ?_ _ | refine kD ?_ | refine kA ?_ _)); exact BK279.out) hg (Kd.R_ne HO_5.out BK279.out (by decide))); have n2_ := mK (blk_grown (by (with_reducible repeat (first | refine kN ?_ _ | refine kD ?_ | refine kA ?_ _)); exact BK280.out) hg (Kd.R_ne HO_5.out BK280.out (by decide))); have n3_ := mK (blk_grown (by (with_reducible repeat (first | refine kN ?_ _ | refine kD ?_ | refine kA ?_ _)); exact BK282.out) hg (Kd.R_ne HO_5.out BK282.out (by decide))); have n4_ := mK (Kd.R_over' (by (with_reducible repeat (first | apply rA | apply rN | apply rD)); exact HO291.out) (Kd.R_typed (by (with_reducible repeat (first | apply rA | apply rN | apply rD)); exact HO_5.out)) (by decide) hg); have n5_ := mK (hb); have n6_ := mK (ho); clear BK278; clear BK279; clear BK280; clear BK282; clear HO291; clear HB; clear HO_5; have BK278 := n0_; have BK279 := n1_; have BK280 := n2_; have BK282 := n3_; have HO291 := n4_; have HB := n5_; have HO294 := n6_; clear n0_ n1_ n2_ n3_ n4_ n5_ n6_; clear ho hb hg hat; obtain ⟨Ao63, co63, eo63⟩ := Kd.R_slice HO291.out; subst eo63; have hcz64_0 : w62.cell? ⟨gb280, 0, none⟩ = some (.int .i64 a0_0) := (blk_cell BK280.out 0).trans rfl; have hcz64_1 : w62.cell? ⟨gb280, 1, none⟩ = some (u281001) := (blk_cell BK280.out 1).trans rfl; have hfz64_0 := blk_frozen BK280.out 0; have hfz64_1 := blk_frozen BK280.out 1; have hcz65_0 : w62.cell? ⟨gb282, 0, none⟩ = some (.int .i64 ((rd_T47 l0_1 x14_1).f0)) := (blk_cell BK282.out 0).trans rfl; have hcz65_1 : w62.cell? ⟨gb282, 1, none⟩ = some (.int .i64 ((rd_T47 l0_1 x14_1).f1)) := (blk_cell BK282.out 1).trans rfl; have hcz65_2 : w62.cell? ⟨gb282, 2, none⟩ = some (.int .i64 ((rd_T47 l0_1 x14_1).f2.f0)) := (blk_cell BK282.out 2).trans rfl; have hcz65_3 : w62.cell? ⟨gb282, 3, none⟩ = some (.int .i64 ((rd_T47 l0_1 x14_1).f2.f1)) := (blk_cell BK282.out 3).trans rfl; have hfz65_0 := blk_frozen BK282.out 0; have hfz65_1 := blk_frozen BK282.out 1; have hfz65_2 := blk_frozen BK282.out 2; have hfz65_3 := blk_frozen BK282.out 3) | ((with_reducible refine gate_builtin (b := .append) (xs := #[.tmp 45, .tmp 55]) rfl ?_); at_builtin; refine Kd.R_append k86 (w0 := w) w.heap.size rfl (.tmp 45) (.tmp 55) 51 86 (.agg #[(.int .i64 0), (.int .i64 0), (.int .i64 0)]) 24 rfl Try.underlying51 info86 rfl (by decide) (by omega) (.slice Ao63 y289.length co63) y289 (⟨(rd_T47 l0_1 x14_1).f1, (rd_T47 l0_1 x14_1).f0, wrap64 (-((rd_T47 l0_1 x14_1).f2.f0))⟩ : S86) [.int .i64 ((rd_T47 l0_1 x14_1).f1), .int .i64 ((rd_T47 l0_1 x14_1).f0), .int .i64 (wrap64 (-((rd_T47 l0_1 x14_1).f2.f0)))] (fun _ => True) (fun _ => False) rfl (by first | (go_simp; done) | (go_simp; rfl)) ?aP (fun _ hk => hk.elim) ?aF ?aO ?aB ?aS ?aL ?_; (case aP => exact k86_mkM _ _ _ (⟨(rd_T47 l0_1 x14_1).f1, (rd_T47 l0_1 x14_1).f0, wrap64 (-((rd_T47 l0_1 x14_1).f2.f0))⟩ : S86)); (case aB => exact (by repeat (first | (with_reducible first | exact HB.out | apply bA | apply bN | apply bD | refine bS ?_ GE278.out | refine bS ?_ GE279.out | refine bS ?_ GE280.out | refine bS ?_ GE282.out) | exact HB.out))); (case aF => exact (fun _ _ => trivial)); (case aO => exact (by (with_reducible repeat (first | apply rA | apply rN | apply rD)); exact Kd.R_mono (Kd.R_far (p := ⟨gb280, 1, none⟩) (Kd.R_types HO291.out BK280.out (by decide)) (fun _ hk => hk.2) (.slice Ao63 y289.length co63)) (fun _ hk => trivial))); (case aS => exact (below_size (by repeat (first | (with_reducible first | exact HB.out | apply bA | apply bN | apply bD | refine bS ?_ GE278.out | refine bS ?_ GE279.out | refine bS ?_ GE280.out | refine bS ?_ GE282.out) | exact HB.out)))); (case aL => have := LMc51.out; omega); intro v296 w66 ho hb hg hat; rw [← Ny295.out] at ho; have n0_ := mK (blk_grown (g := gb278) (o := .cells #[.int .i64 a0_0, .slice (some ad281) l0_1.length c0_1] 29 (0, 0)) (by (with_reducible repeat (first | refine kN ?_ _ | refine kD ?_ | refine kA ?_ _)); refine blk_far ?_ NB278_280.out _; (with_reducible repeat (first | refine kN ?_ _ | refine kD ?_ | refine kA ?_ _)); exact BK278.out) hg (Kd.R_ne HO291.out BK278.out (by decide))); have n1_ := mK (blk_grown (g := gb279) (o := .cells #[.int .i64 0, .slice none 0 0] 53 (0, 0)) (by (with_reducible repeat (first | refine kN ?_ _ | refine kD ?_ | refine kA ?_ _)); refine blk_far ?_ NB279_280.out _; (with_reducible repeat (first | refine kN ?_ _ | refine kD ?_ | refine kA ?_ _)); exact BK279.out) hg (Kd.R_ne HO291.out BK279.out (by decide))); have n2_ := mK (blk_grown (g := gb280) (o := .cells #[.int .i64 a0_0, .slice Ao63 y289.length co63] 53 (0, 0)) (by (with_reducible repeat (first | refine kN ?_ _ | refine kD ?_ | refine kA ?_ _)); refine blk_put (cs := #[.int .i64 a0_0, u281001]) ?_ 1 _ rfl; (with_reducible repeat (first | refine kN ?_ _ | refine kD ?_ | refine kA ?_ _)); exact BK280.out) hg (Kd.R_ne HO291.out BK280.out (by decide))); have n3_ := mK (blk_grown (g := gb282) (o := .cells #[.int .i64 ((rd_T47 l0_1 x14_1).f0), .int .i64 ((rd_T47 l0_1 x14_1).f1), .int .i64 ((rd_T47 l0_1 x14_1).f2.f0), .int .i64 ((rd_T47 l0_1 x14_1).f2.f1)] 47 (0, 0)) (by (with_reducible repeat (first | refine kN ?_ _ | refine kD ?_ | refine kA ?_ _)); refine blk_far ?_ NB282_280.out _; (with_reducible repeat (first | refine kN ?_ _ | refine kD ?_ | refine kA ?_ _)); exact BK282.out) hg (Kd.R_ne HO291.out BK282.out (by decide))); have n4_ := mK (Kd.R_over' (by (with_reducible repeat (first | apply rA | apply rN | apply rD)); exact (Kd.R_mono (Kd.R_far (p := ⟨gb280, 1, none⟩) (Kd.R_types HO294.out BK280.out (by decide)) (fun _ hk => hk.2) (.slice Ao63 y289.length co63)) (fun _ h_ => h_.1))) (Kd.R_typed (by (with_reducible repeat (first | apply rA | apply rN | apply rD)); exact (Kd.R_mono (Kd.R_far (p := ⟨gb280, 1, none⟩) (Kd.R_types HO291.out BK280.out (by decide)) (fun _ hk => hk.2) (.slice Ao63 y289.length co63)) (fun _ h_ => h_.1)))) (by decide) hg); have n5_ := mK (hb); have n6_ := mK (ho); clear BK278; clear BK279; clear BK280; clear BK282; clear HO294; clear HB; clear HO291; have BK278 := n0_; have BK279 := n1_; have BK280 := n2_; have BK282 := n3_; have HO294 := n4_; have HB := n5_; have HO297 := n6_; clear n0_ n1_ n2_ n3_ n4_ n5_ n6_; clear ho hb hg hat) | ((with_reducible refine gate_builtin (b := .append) (xs := #[.tmp 57, .tmp 59]) rfl ?_); at_builtin; refine Kd.R_append (Kd.int .i64) (w0 := w) w.heap.size rfl (.tmp 57) (.tmp 59) 33 3 (.int .i64 0) 8 rfl Try.underlying33 info3 rfl (by decide) (by omega) v293 y292 x14_1 [.int .i64 x14_1] (fun _ => True) (fun _ => False) rfl rfl ?aP (fun _ hk => hk.elim) ?aF ?aO ?aB ?aS ?aL ?_; (case aP => exact rfl); (case aB => exact (by repeat (first | (with_reducible first | exact HB.out | apply bA | apply bN | apply bD | refine bS ?_ GE278.out | refine bS ?_ GE279.out | refine bS ?_ GE280.out | refine bS ?_ GE282.out) | exact HB.out))); (case aF => exact (fun _ _ => trivial)); (case aO => exact (by (with_reducible repeat (first | apply rA | apply rN | apply rD)); exact HO294.out)); (case aS => exact (below_size (by repeat (first | (with_reducible first | exact HB.out | apply bA | apply bN | apply bD | refine bS ?_ GE278.out | refine bS ?_ GE279.out | refine bS ?_ GE280.out | refine bS ?_ GE282.out) | exact HB.out)))); (case aL => have := LMc52.out; omega); intro v299 w67 ho hb hg hat; rw [← Ny298.out] at ho; have n0_ := mK (blk_grown (by (with_reducible repeat (first | refine kN ?_ _ | refine kD ?_ | refine kA ?_ _)); exact BK278.out) hg (Kd.R_ne HO294.out BK278.out (by decide))); have n1_ := mK (blk_grown (by (with_reducible repeat (first | refine kN ?_ _ | refine kD ?_ | refine kA ?_ _)); exact BK279.out) hg (Kd.R_ne HO294.out BK279.out (by decide))); have n2_ := mK (blk_grown (by (with_reducible repeat (first | refine kN ?_ _ | refine kD ?_ | refine kA ?_ _)); exact BK280.out) hg (Kd.R_ne HO294.out BK280.out (by decide))); have n3_ := mK (blk_grown (by (with_reducible repeat (first | refine kN ?_ _ | refine kD ?_ | refine kA ?_ _)); exact BK282.out) hg (Kd.R_ne HO294.out BK282.out (by decide))); have n4_ := mK (Kd.R_over' (by (with_reducible repeat (first | apply rA | apply rN | apply rD)); exact HO297.out) (Kd.R_typed (by (with_reducible repeat (first | apply rA | apply rN | apply rD)); exact HO294.out)) (by decide) hg); have n5_ := mK (hb); have n6_ := mK (ho); clear BK278; clear BK279; clear BK280; clear BK282; clear HO297; clear HB; clear HO294; have BK278 := n0_; have BK279 := n1_; have BK280 := n2_; have BK282 := n3_; have HO297 := n4_; have HB := n5_; have HO300 := n6_; clear n0_ n1_ n2_ n3_ n4_ n5_ n6_; clear ho hb hg hat; obtain ⟨Ao68, co68, eo68⟩ := Kd.R_slice HO297.out; subst eo68; have hcz69_0 : w67.cell? ⟨gb280, 0, none⟩ = some (.int .i64 a0_0) := (blk_cell BK280.out 0).trans rfl; have hcz69_1 : w67.cell? ⟨gb280, 1, none⟩ = some (.slice Ao63 y289.length co63) := (blk_cell BK280.out 1).trans rfl; have hfz69_0 := blk_frozen BK280.out 0; have hfz69_1 := blk_frozen BK280.out 1))
    go_roundg k1
    case measure => have := HK1.out; omega
    case rel => exact ⟨(y298), (wrap64 (x14_1 + 1)), (y295), (.slice Ao68 y295.length co68), (by first | rfl | (simp; done) | (simp [*]; done)), H', ⟨by have := HK1.out; omega⟩, ⟨by (with_reducible repeat (first | apply rA | apply rN | apply rD)); exact Kd.R_mono (Kd.R_far (p := ⟨gb280, 1, none⟩) (Kd.R_types HO300.out BK280.out (by decide)) (fun _ hk => hk.2) (.slice Ao68 y295.length co68)) (fun _ hk => trivial)⟩, ⟨by (with_reducible repeat (first | apply rA | apply rN | apply rD)); exact Kd.R_mono (Kd.R_far (p := ⟨gb280, 1, none⟩) (Kd.R_types HO297.out BK280.out (by decide)) (fun _ hk => hk.2) (.slice Ao68 y295.length co68)) (fun _ hk => trivial)⟩, ⟨by (with_reducible repeat (first | refine kN ?_ _ | refine kD ?_ | refine kA ?_ _)); refine blk_far ?_ NB278_280.out _; (with_reducible repeat (first | refine kN ?_ _ | refine kD ?_ | refine kA ?_ _)); exact BK278.out⟩, ⟨by (with_reducible repeat (first | refine kN ?_ _ | refine kD ?_ | refine kA ?_ _)); refine blk_far ?_ NB279_280.out _; (with_reducible repeat (first | refine kN ?_ _ | refine kD ?_ | refine kA ?_ _)); exact BK279.out⟩, ⟨by (with_reducible repeat (first | refine kN ?_ _ | refine kD ?_ | refine kA ?_ _)); refine blk_put (cs := #[.int .i64 a0_0, .slice Ao63 y289.length co63]) ?_ 1 _ rfl; (with_reducible repeat (first | refine kN ?_ _ | refine kD ?_ | refine kA ?_ _)); exact BK280.out⟩, ⟨by repeat (first | (with_reducible first | exact HB.out | apply bA | apply bN | apply bD | refine bS ?_ GE278.out | refine bS ?_ GE279.out | refine bS ?_ GE280.out | refine bS ?_ GE282.out) | exact HB.out)⟩⟩

/-! ### impl_Edge_84: function 84 -/
section
open Go.Shelf Go.Lib
instance : Inhabited S86 := ⟨z86⟩
def encEdge (x : S86) : List Value := [.int .i64 x.f0, .int .i64 x.f1, .int .i64 x.f2]
set_option maxHeartbeats 2000000 in
theorem idxEdge_calls (p : S86 → Bool) (g : Nat) (lb : Array Value) (eg : ∀ args w, (callFunc g args).run Try.prog w = .ok (.enter g args) w) (b off n c : Nat) (zs : List S86) (w : World)
    (hp : ∀ (W : World) (x : S86), x ∈ zs → Below w.heap.size w W → Calls Try.prog g (#[(.agg #[.int .i64 x.f0, .int .i64 x.f1, .int .i64 x.f2])] ++ lb) W fun e w' => e = .returned (.bool (p x)) ∧ Below w.heap.size w w') (hz : n ≤ zs.length) (hbig : n ≤ 9223372036854775807) (hb : b < w.heap.size)
    (hc : ∀ j, j < zs.length → ∀ i v, (encEdge zs[j]!)[i]? = some v → w.cell? ⟨b, off + j * 3 + i, none⟩ = some v) :
    Calls Try.prog 84 #[.slice (some ⟨b, off, none⟩) n c, .func (.func g) #[] lb] w fun e w' => e = .returned (.int .i64 (Lib.idxBy (fun _ y => p y) (zs.take n) default)) ∧ Below w.heap.size w w' := by
  have hrow : ∀ (W : World), Below w.heap.size w W → ∀ j, j < zs.length → W.cell? ⟨b, off + j * 3, none⟩ = some (.int .i64 zs[j]!.f0) ∧ W.cell? ⟨b, off + j * 3 + 1, none⟩ = some (.int .i64 zs[j]!.f1) ∧ W.cell? ⟨b, off + j * 3 + 2, none⟩ = some (.int .i64 zs[j]!.f2) := fun W hW j hj =>
   ⟨(hW.cell (p := ⟨b, off + j * 3, none⟩) hb).trans (hc j hj 0 _ rfl), (hW.cell (p := ⟨b, off + j * 3 + 1, none⟩) hb).trans (hc j hj 1 _ rfl), (hW.cell (p := ⟨b, off + j * 3 + 2, none⟩) hb).trans (hc j hj 2 _ rfl)⟩
  clear hc
  go_enter Try.func84, Try.ntmps84
  go_wp2
  go_loopg [5, 8] n (fun gg _ s8 wr => ∃ kk : Nat, kk ≤ n ∧ n - kk ≤ gg ∧ s8 = .int .i64 kk ∧ Aside (Below w.heap.size w wr) ∧ Aside (∀ j, j < kk → p zs[j]! = false))
  case atStart => exact ⟨0, Nat.zero_le _, by omega, rfl, Below.refl _ w, fun j hj => absurd hj (Nat.not_lt_zero _)⟩
  case round =>
   obtain ⟨kk, hkk, hg, rfl, BW, A⟩ := hrel
   by_cases hlt : kk < n
   rotate_left
   · have hltz : ¬ (kk : Int) < (n : Int) := by omega
     have : kk = n := by omega
     subst this
     go_wp2
     go_ret
     refine ⟨?_, BW.out⟩
     rw [Lib.idxBy_miss (fun _ y => p y) zs kk default A.out]
     rfl
   have hltz : (kk : Int) < (n : Int) := by omega
   obtain ⟨l0, l1, l2⟩ := hrow wr BW.out kk (by omega)
   have hcall := hp wr zs[kk]! (by rw [getElem!_pos zs kk (by omega)]; exact List.getElem_mem _) BW.out
   clear hrow hp
   generalize hy : zs[kk]! = y at l0 l1 l2 hcall
   have B : Aside (zs[kk]! = y) := hy
   clear hy
   cases hq : p y with
   | true =>
    rw [hq] at hcall
    go_wp2_with (go_at_fn g; refine hcall.mono ?_; rintro e w' ⟨rfl, hb'⟩)
    go_ret
    refine ⟨?_, hb'⟩
    rw [Lib.idxBy_hit (fun _ y => p y) zs n kk default hlt hz (by show p zs[kk]! = true; rw [B.out]; exact hq) A.out]
    rfl
   | false =>
    rw [hq] at hcall
    go_wp2_with (go_at_fn g; refine hcall.mono ?_; rintro e w' ⟨rfl, hb'⟩)
    go_roundg (n - (kk + 1))
    case measure => omega
    case rel =>
     refine ⟨kk + 1, by omega, by omega, by go_num, hb', (show Aside _ from fun j hj => ?_)⟩
     by_cases e : j = kk
     rotate_left
     · exact A.out j (by omega)
     subst e
     rw [B.out]; exact hq
theorem idxEdge_empty (a : Option Addr) (c : Nat) (fv : Value) (w : World) :
    Calls Try.prog 84 #[.slice a 0 c, fv] w fun e w' => e = .returned (.int .i64 (-1)) ∧ w' = w := by
  go_enter Try.func84, Try.ntmps84
  go_wp2
  go_loopg [5, 8] 0 (fun _ _ s8 wr => s8 = .int .i64 0 ∧ wr = w)
  case atStart => exact ⟨rfl, rfl⟩
  case round =>
   obtain ⟨rfl, rfl⟩ := hrel
   go_wp2
   go_ret
   exact ⟨rfl, rfl⟩
theorem addrEdge_of {W : World} {a : Addr} {v : Value} (h : W.cell? a = some v) : ∃ b o, a = ⟨b, o, none⟩ ∧ b < W.heap.size := by
  obtain ⟨b, o, s⟩ := a
  have hlt := World.block_lt_of_cell? W _ h
  cases s with
  | none => exact ⟨b, o, rfl, hlt⟩
  | some s =>
   unfold World.cell? at h
   split at h
   · simp at h
   · simp at h
theorem idxEdge_at (p : S86 → Bool) (g : Nat) (lb : Array Value) (eg : ∀ args w, (callFunc g args).run Try.prog w = .ok (.enter g args) w) (A : Option Addr) (c : Nat) (l : List S86) (w : World)
    (hp : ∀ (W : World) (x : S86), x ∈ l → Below w.heap.size w W → Calls Try.prog g (#[(.agg #[.int .i64 x.f0, .int .i64 x.f1, .int .i64 x.f2])] ++ lb) W fun e w' => e = .returned (.bool (p x)) ∧ Below w.heap.size w w') (hr : Kd.C k86 w A l.length l) :
    Calls Try.prog 84 #[.slice A l.length c, .func (.func g) #[] lb] w fun e w' => e = .returned (.int .i64 (Lib.idxBy (fun _ y => p y) l default)) ∧ Below w.heap.size w w' := by
  cases l with
  | nil => exact (idxEdge_empty A c _ w).mono fun e w' ⟨he, hw⟩ => by subst hw; exact ⟨he, Below.refl _ _⟩
  | cons x l' =>
   have hrow : ∀ j, j < (x :: l').length → ∃ ad, A = some ad ∧ ∀ i v, (encEdge (x :: l')[j]!)[i]? = some v → w.cell? (ad.add (j * 3 + i)) = some v := by
    intro j hj
    obtain ⟨ad, cs, e, _, hK, hc0⟩ := Kd.C_get hr z86 j (by omega) (by omega)
    have hcs : cs = encEdge ((x :: l').getD j z86) := k86_open (by simpa using hK)
    refine ⟨ad, e, fun i v hi => ?_⟩
    have e1 : (x :: l')[j]! = (x :: l').getD j z86 := by rw [List.getD_eq_getElem?_getD, List.getElem!_eq_getElem?_getD]; rfl
    have := hc0 i v (by rw [hcs, ← e1]; exact hi)
    simpa [k86, Kd.iso, Kd.pair, Kd.int, Kd.scalar] using this
   obtain ⟨ad, rfl, h0⟩ := hrow 0 (by simp)
   obtain ⟨b, o, rfl, hb⟩ := addrEdge_of (h0 0 _ rfl)
   have hcon := idxEdge_calls p g lb eg b o (x :: l').length c (x :: l') w
     hp (Nat.le_refl _) (Kd.C_max hr) hb (fun j hj i v hi => by
       obtain ⟨ad', e, h⟩ := hrow j hj
       obtain rfl := Option.some.inj e
       have := h i v hi
       rw [Addr.add_lit] at this
       rw [← this, Nat.add_assoc])
   rw [List.take_length] at hcon
   exact hcon
end

/-! ### impl_Edge_80: function 80 -/
section
open Go.Shelf Go.Lib
theorem anyEdge_at (p : S86 → Bool) (g : Nat) (lb : Array Value) (eg : ∀ args w, (callFunc g args).run Try.prog w = .ok (.enter g args) w) (A : Option Addr) (c : Nat) (l : List S86) (w : World)
    (hp : ∀ (W : World) (x : S86), x ∈ l → Below w.heap.size w W → Calls Try.prog g (#[(.agg #[.int .i64 x.f0, .int .i64 x.f1, .int .i64 x.f2])] ++ lb) W fun e w' => e = .returned (.bool (p x)) ∧ Below w.heap.size w w') (hr : Kd.C k86 w A l.length l) :
    Calls Try.prog 80 #[.slice A l.length c, .func (.func g) #[] lb] w fun e w' => e = .returned (.bool (l.any p)) ∧ Below w.heap.size w w' := by
  rw [show l.any p = decide (0 ≤ Lib.idxBy (fun _ y => p y) l default) from (Lib.idxBy_nonneg_iff (fun _ y => p y) l default).symm]
  have hcon := idxEdge_at p g lb eg A c l w hp hr
  generalize Lib.idxBy (fun _ y => p y) l default = r at hcon ⊢
  go_enter Try.func80, Try.ntmps80
  go_wp2_with (go_at_call 84; refine hcon.mono ?_; rintro e w' ⟨rfl, hb'⟩)
  go_ret
  exact ⟨by simp, hb'⟩
end

end Go.Proofs.Ytolecnichpnhnaa.QFnExactConflictOf
