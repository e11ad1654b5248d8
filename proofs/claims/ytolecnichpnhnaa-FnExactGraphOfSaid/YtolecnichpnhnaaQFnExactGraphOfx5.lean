-- Written by this session's program wip/tools/mk.py out of the translation; Lean checks it.
import Derived.Test.YtolecnichpnhnaaQFnExactGraphOfx0
import Derived.Test.YtolecnichpnhnaaQFnExactGraphOfx1
import Derived.Test.YtolecnichpnhnaaQFnExactGraphOfx2
import Derived.Test.YtolecnichpnhnaaQFnExactGraphOfx3
import Derived.Test.YtolecnichpnhnaaQFnExactGraphOfx4
namespace Go.Proofs.Ytolecnichpnhnaa.QFnExactGraphOf
open Go.RowKit Go.Proofs.YtolecnichpnhnaaW.PrintWords Go.Proofs.YtolecnichpnhnaaW.PrintLast Go.Proofs.YtolecnichpnhnaaW.PrintMore
attribute [local go_sem] max2_int min2_int max_two min_two max_three min_three max_four min_four   -- for this text's walks alone
set_option linter.unusedVariables false
set_option linter.unusedSimpArgs false

/-! ### laws_FnExactGraphOf: function 8 -/
def laws_FnExactGraphOf.j0 : Nat → Bool → Int → List (S42) → Int → List (S86) → Int → List (S86) → Option (Bool)
  | 0, _, _, _, _, _, _, _ => none
  | k + 1, x42, x243000, x243001, x253000, x253001, x263000, x263001 => if x42 = true then (some false) else ((laws_markGraph.f k x263000 x263001 1).bind fun bt272 => ((laws_heldGraph.f k x263000 bt272.2 1).bind fun t274 => (if t274 < 0 then (some false) else (if t274 = bt272.1 then ((laws_toSimple.f k x243000 x243001).bind fun bt275 => ((impl_GraphOf.f k bt275.1 bt275.2).bind fun bt279 => ((laws_eqGraph.f k bt279.1 bt279.2 x253000 x253001).bind fun t284 => (if t284 = true then ((laws_heldGraph.f k x263000 bt272.2 1).bind fun t285 => (if t285 < 0 then (some false) else (if t285 = bt272.1 then (some true) else (some false)))) else (some false))))) else (some false)))))
def laws_FnExactGraphOf.f (k : Nat) (a0_0 : Int) (l0_1 : List (S42)) : Option (Bool) := (laws_szSimple.f a0_0 l0_1 1048576).bind fun t243 => (if t243 < 0 then (some true) else ((laws_toSimple.f k a0_0 l0_1).bind fun bt244 => ((spec_GraphOf.f k bt244.1 bt244.2).bind fun bt248 => ((laws_toSimple.f k a0_0 l0_1).bind fun bt253 => ((impl_GraphOf.f k bt253.1 bt253.2).bind fun bt258 => ((laws_eqGraph.f k bt258.1 bt258.2 bt248.1 bt248.2).bind fun t263 => (if t263 = true then ((laws_toSimple.f k a0_0 l0_1).bind fun bt264 => ((laws_eqSimple.f k bt253.1 bt253.2 bt264.1 bt264.2).bind fun t268 => (if t268 = true then ((laws_markSimple.f k bt253.1 bt253.2 1).bind fun bt269 => (if bt269.1 < 0 then (laws_FnExactGraphOf.j0 k true a0_0 l0_1 bt248.1 bt248.2 bt258.1 bt258.2) else ((laws_eqGraph.f k bt258.1 bt258.2 bt248.1 bt248.2).bind fun t271 => (laws_FnExactGraphOf.j0 k (!t271) a0_0 l0_1 bt248.1 bt248.2 bt258.1 bt258.2)))) else (some false)))) else (some false))))))))
theorem laws_FnExactGraphOf.mono_l : ∀ k, (∀ y0 y1 y2 y3 y4 y5 y6, LeO (laws_FnExactGraphOf.j0 k y0 y1 y2 y3 y4 y5 y6) (laws_FnExactGraphOf.j0 (k + 1) y0 y1 y2 y3 y4 y5 y6))
  | 0 => fun _ _ _ _ _ _ _ r h => by simp [laws_FnExactGraphOf.j0] at h
  | k + 1 => by
    have ih0 := laws_FnExactGraphOf.mono_l k
    · intro y0 y1 y2 y3 y4 y5 y6
      unfold laws_FnExactGraphOf.j0
      repeat' first
      | (with_reducible exact ih0 _ _ _ _ _ _ _)
      | (with_reducible exact impl_GraphOf.mono _ _ _)
      | (with_reducible exact laws_eqGraph.mono _ _ _ _ _)
      | (with_reducible exact laws_eqSimple.mono _ _ _ _ _)
      | (with_reducible exact laws_heldGraph.mono _ _ _ _)
      | (with_reducible exact laws_markGraph.mono _ _ _ _)
      | (with_reducible exact laws_markSimple.mono _ _ _ _)
      | (with_reducible exact laws_toSimple.mono _ _ _)
      | (with_reducible exact spec_GraphOf.mono _ _ _)
      | (with_reducible exact LeO.refl _)
      | (with_reducible exact LeO.none _)
      | (with_reducible refine LeO.ite ?_ ?_)
      | (with_reducible refine LeO.bind ?_ (fun _ => ?_))
      | exact ih0 _ _ _ _ _ _ _
      | exact impl_GraphOf.mono _ _ _
      | exact laws_eqGraph.mono _ _ _ _ _
      | exact laws_eqSimple.mono _ _ _ _ _
      | exact laws_heldGraph.mono _ _ _ _
      | exact laws_markGraph.mono _ _ _ _
      | exact laws_markSimple.mono _ _ _ _
      | exact laws_toSimple.mono _ _ _
      | exact spec_GraphOf.mono _ _ _
      | exact LeO.none _
      | refine LeO.ite ?_ ?_
      | refine LeO.bind ?_ (fun _ => ?_)
theorem laws_FnExactGraphOf.mono : ∀ a0 a1 k, LeO (laws_FnExactGraphOf.f k a0 a1) (laws_FnExactGraphOf.f (k + 1) a0 a1) := by
  intro a0 a1 k
  have ih0 := laws_FnExactGraphOf.mono_l k
  unfold laws_FnExactGraphOf.f
  repeat' first
      | (with_reducible exact ih0 _ _ _ _ _ _ _)
      | (with_reducible exact impl_GraphOf.mono _ _ _)
      | (with_reducible exact laws_eqGraph.mono _ _ _ _ _)
      | (with_reducible exact laws_eqSimple.mono _ _ _ _ _)
      | (with_reducible exact laws_heldGraph.mono _ _ _ _)
      | (with_reducible exact laws_markGraph.mono _ _ _ _)
      | (with_reducible exact laws_markSimple.mono _ _ _ _)
      | (with_reducible exact laws_toSimple.mono _ _ _)
      | (with_reducible exact spec_GraphOf.mono _ _ _)
      | (with_reducible exact LeO.refl _)
      | (with_reducible exact LeO.none _)
      | (with_reducible refine LeO.ite ?_ ?_)
      | (with_reducible refine LeO.bind ?_ (fun _ => ?_))
      | exact ih0 _ _ _ _ _ _ _
      | exact impl_GraphOf.mono _ _ _
      | exact laws_eqGraph.mono _ _ _ _ _
      | exact laws_eqSimple.mono _ _ _ _ _
      | exact laws_heldGraph.mono _ _ _ _
      | exact laws_markGraph.mono _ _ _ _
      | exact laws_markSimple.mono _ _ _ _
      | exact laws_toSimple.mono _ _ _
      | exact spec_GraphOf.mono _ _ _
      | exact LeO.none _
      | refine LeO.ite ?_ ?_
      | refine LeO.bind ?_ (fun _ => ?_)
set_option maxHeartbeats 8000000 in
set_option maxRecDepth 100000 in
theorem laws_FnExactGraphOf.calls (k : Nat) (a0_0 : Int) (A0_1 : Option Addr) (c0_1 : Nat) (l0_1 : List (S42)) (r : Bool) (w : World) (hr0_1 : Kd.C k42 w A0_1 l0_1.length l0_1) (hc0_1 : l0_1.length ≤ c0_1) (h : laws_FnExactGraphOf.f k a0_0 l0_1 = some r) (hr_ : r = true) :
    Calls Try.prog 8 #[.agg #[.int .i64 a0_0, .slice A0_1 l0_1.length c0_1]] w fun e w' => e = .returned (.bool r) ∧ Below w.heap.size w w' := by
  have hu24 := Try.underlying24
  have hu53 := Try.underlying53
  have hu29 := Try.underlying29
  have HR0_1 := Aside0.mk hr0_1
  have HC0_1 := Aside0.mk hc0_1
  clear hr0_1 hc0_1
  have HB := Aside0.mk (Below.refl w.heap.size w)
  have H : ((laws_szSimple.f a0_0 l0_1 1048576).bind fun t243 => (if t243 < 0 then (some true) else ((laws_toSimple.f k a0_0 l0_1).bind fun bt244 => ((spec_GraphOf.f k bt244.1 bt244.2).bind fun bt248 => ((laws_toSimple.f k a0_0 l0_1).bind fun bt253 => ((impl_GraphOf.f k bt253.1 bt253.2).bind fun bt258 => ((laws_eqGraph.f k bt258.1 bt258.2 bt248.1 bt248.2).bind fun t263 => (if t263 = true then ((laws_toSimple.f k a0_0 l0_1).bind fun bt264 => ((laws_eqSimple.f k bt253.1 bt253.2 bt264.1 bt264.2).bind fun t268 => (if t268 = true then ((laws_markSimple.f k bt253.1 bt253.2 1).bind fun bt269 => (if bt269.1 < 0 then (laws_FnExactGraphOf.j0 k true a0_0 l0_1 bt248.1 bt248.2 bt258.1 bt258.2) else ((laws_eqGraph.f k bt258.1 bt258.2 bt248.1 bt248.2).bind fun t271 => (laws_FnExactGraphOf.j0 k (!t271) a0_0 l0_1 bt248.1 bt248.2 bt258.1 bt258.2)))) else (some false)))) else (some false))))))))) = some r := h
  clear h
  replace H := Option.bind_eq_some_iff.mp H
  obtain ⟨t243, A20, H⟩ := H
  replace H : (if t243 < 0 then (some true) else ((laws_toSimple.f k a0_0 l0_1).bind fun bt244 => ((spec_GraphOf.f k bt244.1 bt244.2).bind fun bt248 => ((laws_toSimple.f k a0_0 l0_1).bind fun bt253 => ((impl_GraphOf.f k bt253.1 bt253.2).bind fun bt258 => ((laws_eqGraph.f k bt258.1 bt258.2 bt248.1 bt248.2).bind fun t263 => (if t263 = true then ((laws_toSimple.f k a0_0 l0_1).bind fun bt264 => ((laws_eqSimple.f k bt253.1 bt253.2 bt264.1 bt264.2).bind fun t268 => (if t268 = true then ((laws_markSimple.f k bt253.1 bt253.2 1).bind fun bt269 => (if bt269.1 < 0 then (laws_FnExactGraphOf.j0 k true a0_0 l0_1 bt248.1 bt248.2 bt258.1 bt258.2) else ((laws_eqGraph.f k bt258.1 bt258.2 bt248.1 bt248.2).bind fun t271 => (laws_FnExactGraphOf.j0 k (!t271) a0_0 l0_1 bt248.1 bt248.2 bt258.1 bt258.2)))) else (some false)))) else (some false)))))))) = some r := H
  have A2 := Aside0.mk A20
  clear A20
  by_cases c3 : t243 < 0
  · rw [if_pos c3] at H
    have c3b0 : decide (t243 < 0) = true := decide_eq_true c3
    clear c3
    obtain rfl := Option.some.inj H
    clear hr_
    go_enter Try.func8, Try.ntmps8
    go_wp2_with (first | ((with_reducible refine gate_dst (N := 1) rfl ?_); refine box_event ?hg (N := 1) ?hd (cs := #[.int .i64 a0_0, .slice A0_1 l0_1.length c0_1]) (t := 24) ?hr ?_; (case hd => rfl); (case hg => rfl); (case hr => first | (go_simp; done) | (go_simp; rfl)); intro gb242 hg w4 hbox hb; have n0_ := Aside0.mk (below_step (by repeat (first | (with_reducible first | exact HB.out | apply below_alloc | apply pw_below_drewN | apply below_drew1) | exact HB.out)) hb); have n1_ := Aside0.mk (hbox); have n2_ := Aside0.mk ((by rw [hg]; exact (below_size (by repeat (first | (with_reducible first | exact HB.out | apply below_alloc | apply pw_below_drewN | apply below_drew1) | exact HB.out))) : w.heap.size ≤ gb242)); have n3_ := Aside0.mk ((by rw [hg]; exact (below_size (by repeat (first | (with_reducible first | exact HB.out | apply below_alloc | apply pw_below_drewN | apply below_drew1) | exact HB.out))) : w.heap.size ≤ gb242)); clear HB; have HB := n0_; have BK242 := n1_; have GW242 := n2_; have GE242 := n3_; clear n0_ n1_ n2_ n3_; clear hb hbox hg; have hcz5_0 : w4.cell? ⟨gb242, 0, none⟩ = some (.int .i64 a0_0) := (blk_cell BK242.out 0).trans rfl; have hcz5_1 : w4.cell? ⟨gb242, 1, none⟩ = some (.slice A0_1 l0_1.length c0_1) := (blk_cell BK242.out 1).trans rfl; have hfz5_0 := blk_frozen BK242.out 0; have hfz5_1 := blk_frozen BK242.out 1) | ((with_reducible refine gate_callee (f := 11) rfl ?_); refine goesL_ (some 13) rfl rfl Try.func11 (by kernel_rfl) rfl #[.agg #[.int .i64 a0_0, .slice A0_1 l0_1.length c0_1], .int .i64 1048576] rfl (by (try simp only [List.map_toArray, List.map_cons, List.map_nil]); first | done | rfl | (simp only [List.length_drop, List.length_take]; rfl)) ?_; (with_reducible refine (laws_szSimple.calls a0_0 _ _ l0_1 1048576 t243 _ ?side1 ?side2 A2.out).mono ?_); (case side1 => repeat (first | exact (Kd.C_below HR0_1.out HB.out) | (with_reducible refine Kd.C_alloc ?_ _) | (with_reducible refine Kd.C_drewN ?_ _) | (with_reducible refine Kd.C_drew ?_))); (case side2 => exact HC0_1.out); rintro e w6 ⟨rfl, hb⟩; refine ⟨_, rfl, ?_⟩; have n0_ := Aside0.mk (blk_below (g := gb242) (o := .cells #[.int .i64 a0_0, .slice A0_1 l0_1.length c0_1] 24 (0, 0)) (by (with_reducible repeat (first | refine blk_drewN ?_ _ | refine blk_drew ?_ | refine blk_alloc ?_ _)); exact BK242.out) hb); have n1_ := Aside0.mk (below_step (by repeat (first | (with_reducible first | exact HB.out | apply below_alloc | apply pw_below_drewN | apply below_drew1 | refine below_set ?_ GE242.out) | exact HB.out)) hb); clear BK242; clear HB; have BK242 := n0_; have HB := n1_; clear n0_ n1_; (try clear hb); (try clear hb2); (try clear hk); (try clear hi)))
    go_ret
    exact ⟨by first | rfl | (simp [errW_none, errW_some] <;> rfl) | (simp [*, errW_none, errW_some] <;> rfl), by repeat (first | (with_reducible first | exact HB.out | apply below_alloc | apply pw_below_drewN | apply below_drew1 | refine below_set ?_ GE242.out) | exact HB.out)⟩
  rw [if_neg c3] at H
  have c3b0 : decide (t243 < 0) = false := decide_eq_false c3
  clear c3
  replace H := Option.bind_eq_some_iff.mp H
  obtain ⟨⟨t244, t245⟩, A70, H⟩ := H
  replace H : ((spec_GraphOf.f k t244 t245).bind fun bt248 => ((laws_toSimple.f k a0_0 l0_1).bind fun bt253 => ((impl_GraphOf.f k bt253.1 bt253.2).bind fun bt258 => ((laws_eqGraph.f k bt258.1 bt258.2 bt248.1 bt248.2).bind fun t263 => (if t263 = true then ((laws_toSimple.f k a0_0 l0_1).bind fun bt264 => ((laws_eqSimple.f k bt253.1 bt253.2 bt264.1 bt264.2).bind fun t268 => (if t268 = true then ((laws_markSimple.f k bt253.1 bt253.2 1).bind fun bt269 => (if bt269.1 < 0 then (laws_FnExactGraphOf.j0 k true a0_0 l0_1 bt248.1 bt248.2 bt258.1 bt258.2) else ((laws_eqGraph.f k bt258.1 bt258.2 bt248.1 bt248.2).bind fun t271 => (laws_FnExactGraphOf.j0 k (!t271) a0_0 l0_1 bt248.1 bt248.2 bt258.1 bt258.2)))) else (some false)))) else (some false)))))) = some r := H
  have A7 := Aside0.mk A70
  clear A70
  replace H := Option.bind_eq_some_iff.mp H
  obtain ⟨⟨t248, t249⟩, A80, H⟩ := H
  replace H : ((laws_toSimple.f k a0_0 l0_1).bind fun bt253 => ((impl_GraphOf.f k bt253.1 bt253.2).bind fun bt258 => ((laws_eqGraph.f k bt258.1 bt258.2 t248 t249).bind fun t263 => (if t263 = true then ((laws_toSimple.f k a0_0 l0_1).bind fun bt264 => ((laws_eqSimple.f k bt253.1 bt253.2 bt264.1 bt264.2).bind fun t268 => (if t268 = true then ((laws_markSimple.f k bt253.1 bt253.2 1).bind fun bt269 => (if bt269.1 < 0 then (laws_FnExactGraphOf.j0 k true a0_0 l0_1 t248 t249 bt258.1 bt258.2) else ((laws_eqGraph.f k bt258.1 bt258.2 t248 t249).bind fun t271 => (laws_FnExactGraphOf.j0 k (!t271) a0_0 l0_1 t248 t249 bt258.1 bt258.2)))) else (some false)))) else (some false))))) = some r := H
  have A8 := Aside0.mk A80
  clear A80
  replace H := Option.bind_eq_some_iff.mp H
  obtain ⟨⟨t253, t254⟩, A90, H⟩ := H
  replace H : ((impl_GraphOf.f k t253 t254).bind fun bt258 => ((laws_eqGraph.f k bt258.1 bt258.2 t248 t249).bind fun t263 => (if t263 = true then ((laws_toSimple.f k a0_0 l0_1).bind fun bt264 => ((laws_eqSimple.f k t253 t254 bt264.1 bt264.2).bind fun t268 => (if t268 = true then ((laws_markSimple.f k t253 t254 1).bind fun bt269 => (if bt269.1 < 0 then (laws_FnExactGraphOf.j0 k true a0_0 l0_1 t248 t249 bt258.1 bt258.2) else ((laws_eqGraph.f k bt258.1 bt258.2 t248 t249).bind fun t271 => (laws_FnExactGraphOf.j0 k (!t271) a0_0 l0_1 t248 t249 bt258.1 bt258.2)))) else (some false)))) else (some false)))) = some r := H
  have A9 := Aside0.mk A90
  clear A90
  replace H := Option.bind_eq_some_iff.mp H
  obtain ⟨⟨t258, t259⟩, A100, H⟩ := H
  replace H : ((laws_eqGraph.f k t258 t259 t248 t249).bind fun t263 => (if t263 = true then ((laws_toSimple.f k a0_0 l0_1).bind fun bt264 => ((laws_eqSimple.f k t253 t254 bt264.1 bt264.2).bind fun t268 => (if t268 = true then ((laws_markSimple.f k t253 t254 1).bind fun bt269 => (if bt269.1 < 0 then (laws_FnExactGraphOf.j0 k true a0_0 l0_1 t248 t249 t258 t259) else ((laws_eqGraph.f k t258 t259 t248 t249).bind fun t271 => (laws_FnExactGraphOf.j0 k (!t271) a0_0 l0_1 t248 t249 t258 t259)))) else (some false)))) else (some false))) = some r := H
  have A10 := Aside0.mk A100
  clear A100
  replace H := Option.bind_eq_some_iff.mp H
  obtain ⟨t263, A110, H⟩ := H
  replace H : (if t263 = true then ((laws_toSimple.f k a0_0 l0_1).bind fun bt264 => ((laws_eqSimple.f k t253 t254 bt264.1 bt264.2).bind fun t268 => (if t268 = true then ((laws_markSimple.f k t253 t254 1).bind fun bt269 => (if bt269.1 < 0 then (laws_FnExactGraphOf.j0 k true a0_0 l0_1 t248 t249 t258 t259) else ((laws_eqGraph.f k t258 t259 t248 t249).bind fun t271 => (laws_FnExactGraphOf.j0 k (!t271) a0_0 l0_1 t248 t249 t258 t259)))) else (some false)))) else (some false)) = some r := H
  have A11 := Aside0.mk A110
  clear A110
  by_cases c12 : t263 = true
  rotate_left
  · replace c12 := Bool.eq_false_iff.mpr c12
    subst c12
    have H1 : (some false) = some r := by rw [if_neg (show ¬ (false = true) by decide)] at H; exact H
    clear H
    have H := H1
    clear H1
    obtain rfl := Option.some.inj H
    exact absurd hr_ (by decide)
  subst c12
  have H1 : ((laws_toSimple.f k a0_0 l0_1).bind fun bt264 => ((laws_eqSimple.f k t253 t254 bt264.1 bt264.2).bind fun t268 => (if t268 = true then ((laws_markSimple.f k t253 t254 1).bind fun bt269 => (if bt269.1 < 0 then (laws_FnExactGraphOf.j0 k true a0_0 l0_1 t248 t249 t258 t259) else ((laws_eqGraph.f k t258 t259 t248 t249).bind fun t271 => (laws_FnExactGraphOf.j0 k (!t271) a0_0 l0_1 t248 t249 t258 t259)))) else (some false)))) = some r := by rw [if_pos rfl] at H; exact H
  clear H
  have H := H1
  clear H1
  replace H := Option.bind_eq_some_iff.mp H
  obtain ⟨⟨t264, t265⟩, A130, H⟩ := H
  replace H : ((laws_eqSimple.f k t253 t254 t264 t265).bind fun t268 => (if t268 = true then ((laws_markSimple.f k t253 t254 1).bind fun bt269 => (if bt269.1 < 0 then (laws_FnExactGraphOf.j0 k true a0_0 l0_1 t248 t249 t258 t259) else ((laws_eqGraph.f k t258 t259 t248 t249).bind fun t271 => (laws_FnExactGraphOf.j0 k (!t271) a0_0 l0_1 t248 t249 t258 t259)))) else (some false))) = some r := H
  have A13 := Aside0.mk A130
  clear A130
  replace H := Option.bind_eq_some_iff.mp H
  obtain ⟨t268, A140, H⟩ := H
  replace H : (if t268 = true then ((laws_markSimple.f k t253 t254 1).bind fun bt269 => (if bt269.1 < 0 then (laws_FnExactGraphOf.j0 k true a0_0 l0_1 t248 t249 t258 t259) else ((laws_eqGraph.f k t258 t259 t248 t249).bind fun t271 => (laws_FnExactGraphOf.j0 k (!t271) a0_0 l0_1 t248 t249 t258 t259)))) else (some false)) = some r := H
  have A14 := Aside0.mk A140
  clear A140
  by_cases c15 : t268 = true
  rotate_left
  · replace c15 := Bool.eq_false_iff.mpr c15
    subst c15
    have H1 : (some false) = some r := by rw [if_neg (show ¬ (false = true) by decide)] at H; exact H
    clear H
    have H := H1
    clear H1
    obtain rfl := Option.some.inj H
    exact absurd hr_ (by decide)
  subst c15
  have H1 : ((laws_markSimple.f k t253 t254 1).bind fun bt269 => (if bt269.1 < 0 then (laws_FnExactGraphOf.j0 k true a0_0 l0_1 t248 t249 t258 t259) else ((laws_eqGraph.f k t258 t259 t248 t249).bind fun t271 => (laws_FnExactGraphOf.j0 k (!t271) a0_0 l0_1 t248 t249 t258 t259)))) = some r := by rw [if_pos rfl] at H; exact H
  clear H
  have H := H1
  clear H1
  replace H := Option.bind_eq_some_iff.mp H
  obtain ⟨⟨t269, t270⟩, A160, H⟩ := H
  replace H : (if t269 < 0 then (laws_FnExactGraphOf.j0 k true a0_0 l0_1 t248 t249 t258 t259) else ((laws_eqGraph.f k t258 t259 t248 t249).bind fun t271 => (laws_FnExactGraphOf.j0 k (!t271) a0_0 l0_1 t248 t249 t258 t259))) = some r := H
  have A16 := Aside0.mk A160
  clear A160
  have HC17 := Aside0.mk H
  clear H
  go_enter Try.func8, Try.ntmps8
  try go_wp2_with (first | ((with_reducible refine gate_dst (N := 1) rfl ?_); refine box_event ?hg (N := 1) ?hd (cs := #[.int .i64 a0_0, .slice A0_1 l0_1.length c0_1]) (t := 24) ?hr ?_; (case hd => rfl); (case hg => rfl); (case hr => first | (go_simp; done) | (go_simp; rfl)); intro gb242 hg w18 hbox hb; have n0_ := Aside0.mk (below_step (by repeat (first | (with_reducible first | exact HB.out | apply below_alloc | apply pw_below_drewN | apply below_drew1) | exact HB.out)) hb); have n1_ := Aside0.mk (hbox); have n2_ := Aside0.mk ((by rw [hg]; exact (below_size (by repeat (first | (with_reducible first | exact HB.out | apply below_alloc | apply pw_below_drewN | apply below_drew1) | exact HB.out))) : w.heap.size ≤ gb242)); have n3_ := Aside0.mk ((by rw [hg]; exact (below_size (by repeat (first | (with_reducible first | exact HB.out | apply below_alloc | apply pw_below_drewN | apply below_drew1) | exact HB.out))) : w.heap.size ≤ gb242)); clear HB; have HB := n0_; have BK242 := n1_; have GW242 := n2_; have GE242 := n3_; clear n0_ n1_ n2_ n3_; clear hb hbox hg; have hcz19_0 : w18.cell? ⟨gb242, 0, none⟩ = some (.int .i64 a0_0) := (blk_cell BK242.out 0).trans rfl; have hcz19_1 : w18.cell? ⟨gb242, 1, none⟩ = some (.slice A0_1 l0_1.length c0_1) := (blk_cell BK242.out 1).trans rfl; have hfz19_0 := blk_frozen BK242.out 0; have hfz19_1 := blk_frozen BK242.out 1) | ((with_reducible refine gate_callee (f := 11) rfl ?_); refine goesL_ (some 13) rfl rfl Try.func11 (by kernel_rfl) rfl #[.agg #[.int .i64 a0_0, .slice A0_1 l0_1.length c0_1], .int .i64 1048576] rfl (by (try simp only [List.map_toArray, List.map_cons, List.map_nil]); first | done | rfl | (simp only [List.length_drop, List.length_take]; rfl)) ?_; (with_reducible refine (laws_szSimple.calls a0_0 _ _ l0_1 1048576 t243 _ ?side1 ?side2 A2.out).mono ?_); (case side1 => repeat (first | exact (Kd.C_below HR0_1.out HB.out) | (with_reducible refine Kd.C_alloc ?_ _) | (with_reducible refine Kd.C_drewN ?_ _) | (with_reducible refine Kd.C_drew ?_))); (case side2 => exact HC0_1.out); rintro e w20 ⟨rfl, hb⟩; refine ⟨_, rfl, ?_⟩; have n0_ := Aside0.mk (blk_below (g := gb242) (o := .cells #[.int .i64 a0_0, .slice A0_1 l0_1.length c0_1] 24 (0, 0)) (by (with_reducible repeat (first | refine blk_drewN ?_ _ | refine blk_drew ?_ | refine blk_alloc ?_ _)); exact BK242.out) hb); have n1_ := Aside0.mk (below_step (by repeat (first | (with_reducible first | exact HB.out | apply below_alloc | apply pw_below_drewN | apply below_drew1 | refine below_set ?_ GE242.out) | exact HB.out)) hb); clear BK242; clear HB; have BK242 := n0_; have HB := n1_; clear n0_ n1_; (try clear hb); (try clear hb2); (try clear hk); (try clear hi); have hcz21_0 : w20.cell? ⟨gb242, 0, none⟩ = some (.int .i64 a0_0) := (blk_cell BK242.out 0).trans rfl; have hcz21_1 : w20.cell? ⟨gb242, 1, none⟩ = some (.slice A0_1 l0_1.length c0_1) := (blk_cell BK242.out 1).trans rfl; have hfz21_0 := blk_frozen BK242.out 0; have hfz21_1 := blk_frozen BK242.out 1) | ((with_reducible refine gate_callee (f := 13) rfl ?_); refine goesL_ (some 17) rfl rfl Try.func13 (by kernel_rfl) rfl #[.agg #[.int .i64 a0_0, .slice A0_1 l0_1.length c0_1]] rfl (by (try simp only [List.map_toArray, List.map_cons, List.map_nil]); first | done | rfl | (simp only [List.length_drop, List.length_take]; rfl)) ?_; (with_reducible refine (laws_toSimple.calls k a0_0 _ _ l0_1 t244 t245 _ ?side1 ?side2 A7.out).mono ?_); (case side1 => repeat (first | exact (Kd.C_below HR0_1.out HB.out) | (with_reducible refine Kd.C_alloc ?_ _) | (with_reducible refine Kd.C_drewN ?_ _) | (with_reducible refine Kd.C_drew ?_))); (case side2 => exact HC0_1.out); rintro e w22 ⟨v246, rfl, ho0, hb⟩; refine ⟨_, rfl, ?_⟩; have n0_ := Aside0.mk (Kd.R_lower ho0 (below_size (by repeat (first | (with_reducible first | exact HB.out | apply below_alloc | apply pw_below_drewN | apply below_drew1 | refine below_set ?_ GE242.out) | exact HB.out)))); have n1_ := Aside0.mk (blk_below (g := gb242) (o := .cells #[.int .i64 a0_0, .slice A0_1 l0_1.length c0_1] 24 (0, 0)) (by (with_reducible repeat (first | refine blk_drewN ?_ _ | refine blk_drew ?_ | refine blk_alloc ?_ _)); exact BK242.out) hb); have n2_ := Aside0.mk (below_step (by repeat (first | (with_reducible first | exact HB.out | apply below_alloc | apply pw_below_drewN | apply below_drew1 | refine below_set ?_ GE242.out) | exact HB.out)) hb); clear BK242; clear HB; have HO247 := n0_; have BK242 := n1_; have HB := n2_; clear n0_ n1_ n2_; (try clear hb); (try clear hb2); (try clear hk); (try clear hi); (try clear ho0); obtain ⟨Ao23, co23, eo23⟩ := Kd.R_slice HO247.out; subst eo23) | ((with_reducible refine gate_callee (f := 29) rfl ?_); refine goesL_ (some 18) rfl rfl Try.func29 (by kernel_rfl) rfl #[.agg #[.int .i64 t244, .slice Ao23 t245.length co23]] rfl (by (try simp only [List.map_toArray, List.map_cons, List.map_nil]); first | done | rfl | (simp only [List.length_drop, List.length_take]; rfl)) ?_; (with_reducible refine (spec_GraphOf.calls k t244 _ _ t245 t248 t249 _ ?side1 ?side2 A8.out).mono ?_); (case side1 => repeat (first | exact (Kd.R_reads' HO247.out).2.2 | (with_reducible refine Kd.C_alloc ?_ _) | (with_reducible refine Kd.C_drewN ?_ _) | (with_reducible refine Kd.C_drew ?_))); (case side2 => exact (Kd.R_reads' HO247.out).2.1); rintro e w24 ⟨v250, rfl, ho0, hb⟩; refine ⟨_, rfl, ?_⟩; have n0_ := Aside0.mk (Kd.R_below (by (with_reducible repeat (first | apply Kd.R_alloc | apply Kd.R_drewN | apply Kd.R_drew)); exact HO247.out) hb); have n1_ := Aside0.mk (Kd.R_lower ho0 (below_size (by repeat (first | (with_reducible first | exact HB.out | apply below_alloc | apply pw_below_drewN | apply below_drew1 | refine below_set ?_ GE242.out) | exact HB.out)))); have n2_ := Aside0.mk (blk_below (g := gb242) (o := .cells #[.int .i64 a0_0, .slice A0_1 l0_1.length c0_1] 24 (0, 0)) (by (with_reducible repeat (first | refine blk_drewN ?_ _ | refine blk_drew ?_ | refine blk_alloc ?_ _)); exact BK242.out) hb); have n3_ := Aside0.mk (below_step (by repeat (first | (with_reducible first | exact HB.out | apply below_alloc | apply pw_below_drewN | apply below_drew1 | refine below_set ?_ GE242.out) | exact HB.out)) hb); clear HO247; clear BK242; clear HB; have HO247 := n0_; have HO251 := n1_; have BK242 := n2_; have HB := n3_; clear n0_ n1_ n2_ n3_; (try clear hb); (try clear hb2); (try clear hk); (try clear hi); (try clear ho0)) | ((with_reducible refine gate_dst (N := 4) rfl ?_); refine box_event ?hg (N := 4) ?hd (cs := #[.int .i64 0, .slice none 0 0]) (t := 53) ?hr ?_; (case hd => rfl); (case hg => rfl); (case hr => first | (go_simp; done) | (go_simp; rfl)); intro gb252 hg w25 hbox hb; have n0_ := Aside0.mk (Kd.R_below (by (with_reducible repeat (first | apply Kd.R_alloc | apply Kd.R_drewN | apply Kd.R_drew)); exact HO247.out) hb); have n1_ := Aside0.mk (Kd.R_below (by (with_reducible repeat (first | apply Kd.R_alloc | apply Kd.R_drewN | apply Kd.R_drew)); exact HO251.out) hb); have n2_ := Aside0.mk (blk_below (g := gb242) (o := .cells #[.int .i64 a0_0, .slice A0_1 l0_1.length c0_1] 24 (0, 0)) (by (with_reducible repeat (first | refine blk_drewN ?_ _ | refine blk_drew ?_ | refine blk_alloc ?_ _)); exact BK242.out) hb); have n3_ := Aside0.mk (below_step (by repeat (first | (with_reducible first | exact HB.out | apply below_alloc | apply pw_below_drewN | apply below_drew1 | refine below_set ?_ GE242.out) | exact HB.out)) hb); have n4_ := Aside0.mk (hbox); have n5_ := Aside0.mk ((by rw [hg]; exact (below_size (by repeat (first | (with_reducible first | exact HB.out | apply below_alloc | apply pw_below_drewN | apply below_drew1 | refine below_set ?_ GE242.out) | exact HB.out))) : w.heap.size ≤ gb252)); have n6_ := Aside0.mk ((by rw [hg]; exact (below_size (by repeat (first | (with_reducible first | exact HB.out | apply below_alloc | apply pw_below_drewN | apply below_drew1 | refine below_set ?_ GE242.out) | exact HB.out))) : w.heap.size ≤ gb252)); have n7_ := Aside0.mk ((by rw [hg]; exact Nat.ne_of_lt (blk_lt (g := gb242) (o := .cells #[.int .i64 a0_0, .slice A0_1 l0_1.length c0_1] 24 (0, 0)) (by (with_reducible repeat (first | refine blk_drewN ?_ _ | refine blk_drew ?_ | refine blk_alloc ?_ _)); exact BK242.out)) : gb242 ≠ gb252)); have n8_ := Aside0.mk ((by rw [hg]; exact Nat.ne_of_gt (blk_lt (g := gb242) (o := .cells #[.int .i64 a0_0, .slice A0_1 l0_1.length c0_1] 24 (0, 0)) (by (with_reducible repeat (first | refine blk_drewN ?_ _ | refine blk_drew ?_ | refine blk_alloc ?_ _)); exact BK242.out)) : gb252 ≠ gb242)); clear HO247; clear HO251; clear BK242; clear HB; have HO247 := n0_; have HO251 := n1_; have BK242 := n2_; have HB := n3_; have BK252 := n4_; have GW252 := n5_; have GE252 := n6_; have NB242_252 := n7_; have NB252_242 := n8_; clear n0_ n1_ n2_ n3_ n4_ n5_ n6_ n7_ n8_; clear hb hbox hg; have hnb26 := NB252_242.out; have hnc26 := NB242_252.out; have hcz27_0 : w25.cell? ⟨gb252, 0, none⟩ = some (.int .i64 0) := (blk_cell BK252.out 0).trans rfl; have hcz27_1 : w25.cell? ⟨gb252, 1, none⟩ = some (.slice none 0 0) := (blk_cell BK252.out 1).trans rfl; have hfz27_0 := blk_frozen BK252.out 0; have hfz27_1 := blk_frozen BK252.out 1; obtain ⟨Ao28, co28, eo28⟩ := Kd.R_slice HO251.out; subst eo28; have hcz29_0 : w25.cell? ⟨gb242, 0, none⟩ = some (.int .i64 a0_0) := (blk_cell BK242.out 0).trans rfl; have hcz29_1 : w25.cell? ⟨gb242, 1, none⟩ = some (.slice A0_1 l0_1.length c0_1) := (blk_cell BK242.out 1).trans rfl; have hfz29_0 := blk_frozen BK242.out 0; have hfz29_1 := blk_frozen BK242.out 1) | ((with_reducible refine gate_callee (f := 13) rfl ?_); refine goesL_ (some 20) rfl rfl Try.func13 (by kernel_rfl) rfl #[.agg #[.int .i64 a0_0, .slice A0_1 l0_1.length c0_1]] rfl (by (try simp only [List.map_toArray, List.map_cons, List.map_nil]); first | done | rfl | (simp only [List.length_drop, List.length_take]; rfl)) ?_; (with_reducible refine (laws_toSimple.calls k a0_0 _ _ l0_1 t253 t254 _ ?side1 ?side2 A9.out).mono ?_); (case side1 => exact Kd.C_below HR0_1.out (by repeat (first | (with_reducible first | exact HB.out | apply below_alloc | apply pw_below_drewN | apply below_drew1 | refine below_set ?_ GE242.out | refine below_set ?_ GE252.out) | exact HB.out))); (case side2 => exact HC0_1.out); rintro e w30 ⟨v255, rfl, ho0, hb⟩; refine ⟨_, rfl, ?_⟩; have n0_ := Aside0.mk (Kd.R_elder' (by (with_reducible repeat (first | apply Kd.R_alloc | apply Kd.R_drewN | apply Kd.R_drew)); exact (Kd.R_mono (Kd.R_far (p := ⟨gb252, 1, none⟩) (Kd.R_far (p := ⟨gb252, 0, none⟩) (Kd.R_types HO247.out BK252.out (by decide)) (fun _ hk => hk.2) (.int .i64 t248)) (fun _ hk => hk.2) (.slice Ao28 t249.length co28)) (fun _ h_ => h_.1))) (Kd.R_base ho0) hb); have n1_ := Aside0.mk (Kd.R_below (by (with_reducible repeat (first | apply Kd.R_alloc | apply Kd.R_drewN | apply Kd.R_drew)); exact (Kd.R_mono (Kd.R_far (p := ⟨gb252, 1, none⟩) (Kd.R_far (p := ⟨gb252, 0, none⟩) (Kd.R_types HO251.out BK252.out (by decide)) (fun _ hk => hk.2) (.int .i64 t248)) (fun _ hk => hk.2) (.slice Ao28 t249.length co28)) (fun _ h_ => h_.1))) hb); have n2_ := Aside0.mk (Kd.R_lower (Kd.R_new' ho0 (Kd.R_lt (by (with_reducible repeat (first | apply Kd.R_alloc | apply Kd.R_drewN | apply Kd.R_drew)); exact (Kd.R_mono (Kd.R_far (p := ⟨gb252, 1, none⟩) (Kd.R_far (p := ⟨gb252, 0, none⟩) (Kd.R_types HO247.out BK252.out (by decide)) (fun _ hk => hk.2) (.int .i64 t248)) (fun _ hk => hk.2) (.slice Ao28 t249.length co28)) (fun _ h_ => h_.1))))) (below_size (by repeat (first | (with_reducible first | exact HB.out | apply below_alloc | apply pw_below_drewN | apply below_drew1 | refine below_set ?_ GE242.out | refine below_set ?_ GE252.out) | exact HB.out)))); have n3_ := Aside0.mk (blk_below (g := gb242) (o := .cells #[.int .i64 a0_0, .slice A0_1 l0_1.length c0_1] 24 (0, 0)) (by (with_reducible repeat (first | refine blk_drewN ?_ _ | refine blk_drew ?_ | refine blk_alloc ?_ _)); refine blk_far ?_ NB242_252.out _; (with_reducible repeat (first | refine blk_drewN ?_ _ | refine blk_drew ?_ | refine blk_alloc ?_ _)); refine blk_far ?_ NB242_252.out _; (with_reducible repeat (first | refine blk_drewN ?_ _ | refine blk_drew ?_ | refine blk_alloc ?_ _)); exact BK242.out) hb); have n4_ := Aside0.mk (blk_below (g := gb252) (o := .cells #[.int .i64 t248, .slice Ao28 t249.length co28] 53 (0, 0)) (by (with_reducible repeat (first | refine blk_drewN ?_ _ | refine blk_drew ?_ | refine blk_alloc ?_ _)); refine blk_put (cs := #[.int .i64 t248, .slice none 0 0]) ?_ 1 _ rfl; (with_reducible repeat (first | refine blk_drewN ?_ _ | refine blk_drew ?_ | refine blk_alloc ?_ _)); refine blk_put (cs := #[.int .i64 0, .slice none 0 0]) ?_ 0 _ rfl; (with_reducible repeat (first | refine blk_drewN ?_ _ | refine blk_drew ?_ | refine blk_alloc ?_ _)); exact BK252.out) hb); have n5_ := Aside0.mk (below_step (by repeat (first | (with_reducible first | exact HB.out | apply below_alloc | apply pw_below_drewN | apply below_drew1 | refine below_set ?_ GE242.out | refine below_set ?_ GE252.out) | exact HB.out)) hb); clear HO247; clear HO251; clear BK242; clear BK252; clear HB; have HO247 := n0_; have HO251 := n1_; have HO256 := n2_; have BK242 := n3_; have BK252 := n4_; have HB := n5_; clear n0_ n1_ n2_ n3_ n4_ n5_; (try clear hb); (try clear hb2); (try clear hk); (try clear hi); (try clear ho0)) | ((with_reducible refine gate_dst (N := 5) rfl ?_); refine box_event ?hg (N := 5) ?hd (cs := #[.int .i64 0, .slice none 0 0]) (t := 29) ?hr ?_; (case hd => rfl); (case hg => rfl); (case hr => first | (go_simp; done) | (go_simp; rfl)); intro gb257 hg w31 hbox hb; have n0_ := Aside0.mk (Kd.R_below (by (with_reducible repeat (first | apply Kd.R_alloc | apply Kd.R_drewN | apply Kd.R_drew)); exact HO247.out) hb); have n1_ := Aside0.mk (Kd.R_below (by (with_reducible repeat (first | apply Kd.R_alloc | apply Kd.R_drewN | apply Kd.R_drew)); exact HO251.out) hb); have n2_ := Aside0.mk (Kd.R_below (by (with_reducible repeat (first | apply Kd.R_alloc | apply Kd.R_drewN | apply Kd.R_drew)); exact HO256.out) hb); have n3_ := Aside0.mk (blk_below (g := gb242) (o := .cells #[.int .i64 a0_0, .slice A0_1 l0_1.length c0_1] 24 (0, 0)) (by (with_reducible repeat (first | refine blk_drewN ?_ _ | refine blk_drew ?_ | refine blk_alloc ?_ _)); exact BK242.out) hb); have n4_ := Aside0.mk (blk_below (g := gb252) (o := .cells #[.int .i64 t248, .slice Ao28 t249.length co28] 53 (0, 0)) (by (with_reducible repeat (first | refine blk_drewN ?_ _ | refine blk_drew ?_ | refine blk_alloc ?_ _)); exact BK252.out) hb); have n5_ := Aside0.mk (below_step (by repeat (first | (with_reducible first | exact HB.out | apply below_alloc | apply pw_below_drewN | apply below_drew1 | refine below_set ?_ GE242.out | refine below_set ?_ GE252.out) | exact HB.out)) hb); have n6_ := Aside0.mk (hbox); have n7_ := Aside0.mk ((by rw [hg]; exact (below_size (by repeat (first | (with_reducible first | exact HB.out | apply below_alloc | apply pw_below_drewN | apply below_drew1 | refine below_set ?_ GE242.out | refine below_set ?_ GE252.out) | exact HB.out))) : w.heap.size ≤ gb257)); have n8_ := Aside0.mk ((by rw [hg]; exact (below_size (by repeat (first | (with_reducible first | exact HB.out | apply below_alloc | apply pw_below_drewN | apply below_drew1 | refine below_set ?_ GE242.out | refine below_set ?_ GE252.out) | exact HB.out))) : w.heap.size ≤ gb257)); have n9_ := Aside0.mk ((by rw [hg]; exact Nat.ne_of_lt (blk_lt (g := gb242) (o := .cells #[.int .i64 a0_0, .slice A0_1 l0_1.length c0_1] 24 (0, 0)) (by (with_reducible repeat (first | refine blk_drewN ?_ _ | refine blk_drew ?_ | refine blk_alloc ?_ _)); exact BK242.out)) : gb242 ≠ gb257)); have n10_ := Aside0.mk ((by rw [hg]; exact Nat.ne_of_gt (blk_lt (g := gb242) (o := .cells #[.int .i64 a0_0, .slice A0_1 l0_1.length c0_1] 24 (0, 0)) (by (with_reducible repeat (first | refine blk_drewN ?_ _ | refine blk_drew ?_ | refine blk_alloc ?_ _)); exact BK242.out)) : gb257 ≠ gb242)); have n11_ := Aside0.mk ((by rw [hg]; exact Nat.ne_of_lt (blk_lt (g := gb252) (o := .cells #[.int .i64 t248, .slice Ao28 t249.length co28] 53 (0, 0)) (by (with_reducible repeat (first | refine blk_drewN ?_ _ | refine blk_drew ?_ | refine blk_alloc ?_ _)); exact BK252.out)) : gb252 ≠ gb257)); have n12_ := Aside0.mk ((by rw [hg]; exact Nat.ne_of_gt (blk_lt (g := gb252) (o := .cells #[.int .i64 t248, .slice Ao28 t249.length co28] 53 (0, 0)) (by (with_reducible repeat (first | refine blk_drewN ?_ _ | refine blk_drew ?_ | refine blk_alloc ?_ _)); exact BK252.out)) : gb257 ≠ gb252)); clear HO247; clear HO251; clear HO256; clear BK242; clear BK252; clear HB; have HO247 := n0_; have HO251 := n1_; have HO256 := n2_; have BK242 := n3_; have BK252 := n4_; have HB := n5_; have BK257 := n6_; have GW257 := n7_; have GE257 := n8_; have NB242_257 := n9_; have NB257_242 := n10_; have NB252_257 := n11_; have NB257_252 := n12_; clear n0_ n1_ n2_ n3_ n4_ n5_ n6_ n7_ n8_ n9_ n10_ n11_ n12_; clear hb hbox hg; have hnb32 := NB257_242.out; have hnc32 := NB242_257.out; have hnb33 := NB257_252.out; have hnc33 := NB252_257.out; have hcz34_0 : w31.cell? ⟨gb257, 0, none⟩ = some (.int .i64 0) := (blk_cell BK257.out 0).trans rfl; have hcz34_1 : w31.cell? ⟨gb257, 1, none⟩ = some (.slice none 0 0) := (blk_cell BK257.out 1).trans rfl; have hfz34_0 := blk_frozen BK257.out 0; have hfz34_1 := blk_frozen BK257.out 1; obtain ⟨Ao35, co35, eo35⟩ := Kd.R_slice HO256.out; subst eo35) | ((with_reducible refine gate_callee (f := 30) rfl ?_); refine goesL_ (some 22) rfl rfl Try.func30 (by kernel_rfl) rfl #[.agg #[.int .i64 t253, .slice Ao35 t254.length co35]] rfl (by (try simp only [List.map_toArray, List.map_cons, List.map_nil]); first | done | rfl | (simp only [List.length_drop, List.length_take]; rfl)) ?_; (with_reducible refine (impl_GraphOf.calls k t253 _ _ t254 t258 t259 _ ?side1 ?side2 A10.out).mono ?_); (case side1 => refine (Kd.R_reads' (e := 47) (base := w.heap.size) (ok := fun k_ => (True ∧ some k_ ≠ (.slice Ao23 t245.length co23 : Value).ownBlock)) (n := t254.length) (c := co35) ?_).2.2; exact (by (with_reducible repeat (first | apply Kd.R_alloc | apply Kd.R_drewN | apply Kd.R_drew)); exact (Kd.R_mono (Kd.R_far (p := ⟨gb257, 1, none⟩) (Kd.R_far (p := ⟨gb257, 0, none⟩) (Kd.R_types HO256.out BK257.out (by decide)) (fun _ hk => hk.2) (.int .i64 t253)) (fun _ hk => hk.2) (.slice Ao35 t254.length co35)) (fun _ h_ => h_.1)))); (case side2 => exact (Kd.R_reads' HO256.out).2.1); rintro e w36 ⟨v260, rfl, ho0, hb⟩; refine ⟨_, rfl, ?_⟩; have n0_ := Aside0.mk (Kd.R_below (by (with_reducible repeat (first | apply Kd.R_alloc | apply Kd.R_drewN | apply Kd.R_drew)); exact (Kd.R_mono (Kd.R_far (p := ⟨gb257, 1, none⟩) (Kd.R_far (p := ⟨gb257, 0, none⟩) (Kd.R_types HO247.out BK257.out (by decide)) (fun _ hk => hk.2) (.int .i64 t253)) (fun _ hk => hk.2) (.slice Ao35 t254.length co35)) (fun _ h_ => h_.1))) hb); have n1_ := Aside0.mk (Kd.R_elder' (by (with_reducible repeat (first | apply Kd.R_alloc | apply Kd.R_drewN | apply Kd.R_drew)); exact (Kd.R_mono (Kd.R_far (p := ⟨gb257, 1, none⟩) (Kd.R_far (p := ⟨gb257, 0, none⟩) (Kd.R_types HO251.out BK257.out (by decide)) (fun _ hk => hk.2) (.int .i64 t253)) (fun _ hk => hk.2) (.slice Ao35 t254.length co35)) (fun _ h_ => h_.1))) (Kd.R_base ho0) hb); have n2_ := Aside0.mk (Kd.R_below (by (with_reducible repeat (first | apply Kd.R_alloc | apply Kd.R_drewN | apply Kd.R_drew)); exact (Kd.R_mono (Kd.R_far (p := ⟨gb257, 1, none⟩) (Kd.R_far (p := ⟨gb257, 0, none⟩) (Kd.R_types HO256.out BK257.out (by decide)) (fun _ hk => hk.2) (.int .i64 t253)) (fun _ hk => hk.2) (.slice Ao35 t254.length co35)) (fun _ h_ => h_.1))) hb); have n3_ := Aside0.mk (Kd.R_lower (Kd.R_new' ho0 (Kd.R_lt (by (with_reducible repeat (first | apply Kd.R_alloc | apply Kd.R_drewN | apply Kd.R_drew)); exact (Kd.R_mono (Kd.R_far (p := ⟨gb257, 1, none⟩) (Kd.R_far (p := ⟨gb257, 0, none⟩) (Kd.R_types HO251.out BK257.out (by decide)) (fun _ hk => hk.2) (.int .i64 t253)) (fun _ hk => hk.2) (.slice Ao35 t254.length co35)) (fun _ h_ => h_.1))))) (below_size (by repeat (first | (with_reducible first | exact HB.out | apply below_alloc | apply pw_below_drewN | apply below_drew1 | refine below_set ?_ GE242.out | refine below_set ?_ GE252.out | refine below_set ?_ GE257.out) | exact HB.out)))); have n4_ := Aside0.mk (blk_below (g := gb242) (o := .cells #[.int .i64 a0_0, .slice A0_1 l0_1.length c0_1] 24 (0, 0)) (by (with_reducible repeat (first | refine blk_drewN ?_ _ | refine blk_drew ?_ | refine blk_alloc ?_ _)); refine blk_far ?_ NB242_257.out _; (with_reducible repeat (first | refine blk_drewN ?_ _ | refine blk_drew ?_ | refine blk_alloc ?_ _)); refine blk_far ?_ NB242_257.out _; (with_reducible repeat (first | refine blk_drewN ?_ _ | refine blk_drew ?_ | refine blk_alloc ?_ _)); exact BK242.out) hb); have n5_ := Aside0.mk (blk_below (g := gb252) (o := .cells #[.int .i64 t248, .slice Ao28 t249.length co28] 53 (0, 0)) (by (with_reducible repeat (first | refine blk_drewN ?_ _ | refine blk_drew ?_ | refine blk_alloc ?_ _)); refine blk_far ?_ NB252_257.out _; (with_reducible repeat (first | refine blk_drewN ?_ _ | refine blk_drew ?_ | refine blk_alloc ?_ _)); refine blk_far ?_ NB252_257.out _; (with_reducible repeat (first | refine blk_drewN ?_ _ | refine blk_drew ?_ | refine blk_alloc ?_ _)); exact BK252.out) hb); have n6_ := Aside0.mk (blk_below (g := gb257) (o := .cells #[.int .i64 t253, .slice Ao35 t254.length co35] 29 (0, 0)) (by (with_reducible repeat (first | refine blk_drewN ?_ _ | refine blk_drew ?_ | refine blk_alloc ?_ _)); refine blk_put (cs := #[.int .i64 t253, .slice none 0 0]) ?_ 1 _ rfl; (with_reducible repeat (first | refine blk_drewN ?_ _ | refine blk_drew ?_ | refine blk_alloc ?_ _)); refine blk_put (cs := #[.int .i64 0, .slice none 0 0]) ?_ 0 _ rfl; (with_reducible repeat (first | refine blk_drewN ?_ _ | refine blk_drew ?_ | refine blk_alloc ?_ _)); exact BK257.out) hb); have n7_ := Aside0.mk (below_step (by repeat (first | (with_reducible first | exact HB.out | apply below_alloc | apply pw_below_drewN | apply below_drew1 | refine below_set ?_ GE242.out | refine below_set ?_ GE252.out | refine below_set ?_ GE257.out) | exact HB.out)) hb); clear HO247; clear HO251; clear HO256; clear BK242; clear BK252; clear BK257; clear HB; have HO247 := n0_; have HO251 := n1_; have HO256 := n2_; have HO261 := n3_; have BK242 := n4_; have BK252 := n5_; have BK257 := n6_; have HB := n7_; clear n0_ n1_ n2_ n3_ n4_ n5_ n6_ n7_; (try clear hb); (try clear hb2); (try clear hk); (try clear hi); (try clear ho0)) | ((with_reducible refine gate_dst (N := 6) rfl ?_); refine box_event ?hg (N := 6) ?hd (cs := #[.int .i64 0, .slice none 0 0]) (t := 53) ?hr ?_; (case hd => rfl); (case hg => rfl); (case hr => first | (go_simp; done) | (go_simp; rfl)); intro gb262 hg w37 hbox hb; have n0_ := Aside0.mk (Kd.R_below (by (with_reducible repeat (first | apply Kd.R_alloc | apply Kd.R_drewN | apply Kd.R_drew)); exact HO247.out) hb); have n1_ := Aside0.mk (Kd.R_below (by (with_reducible repeat (first | apply Kd.R_alloc | apply Kd.R_drewN | apply Kd.R_drew)); exact HO251.out) hb); have n2_ := Aside0.mk (Kd.R_below (by (with_reducible repeat (first | apply Kd.R_alloc | apply Kd.R_drewN | apply Kd.R_drew)); exact HO256.out) hb); have n3_ := Aside0.mk (Kd.R_below (by (with_reducible repeat (first | apply Kd.R_alloc | apply Kd.R_drewN | apply Kd.R_drew)); exact HO261.out) hb); have n4_ := Aside0.mk (blk_below (g := gb242) (o := .cells #[.int .i64 a0_0, .slice A0_1 l0_1.length c0_1] 24 (0, 0)) (by (with_reducible repeat (first | refine blk_drewN ?_ _ | refine blk_drew ?_ | refine blk_alloc ?_ _)); exact BK242.out) hb); have n5_ := Aside0.mk (blk_below (g := gb252) (o := .cells #[.int .i64 t248, .slice Ao28 t249.length co28] 53 (0, 0)) (by (with_reducible repeat (first | refine blk_drewN ?_ _ | refine blk_drew ?_ | refine blk_alloc ?_ _)); exact BK252.out) hb); have n6_ := Aside0.mk (blk_below (g := gb257) (o := .cells #[.int .i64 t253, .slice Ao35 t254.length co35] 29 (0, 0)) (by (with_reducible repeat (first | refine blk_drewN ?_ _ | refine blk_drew ?_ | refine blk_alloc ?_ _)); exact BK257.out) hb); have n7_ := Aside0.mk (below_step (by repeat (first | (with_reducible first | exact HB.out | apply below_alloc | apply pw_below_drewN | apply below_drew1 | refine below_set ?_ GE242.out | refine below_set ?_ GE252.out | refine below_set ?_ GE257.out) | exact HB.out)) hb); have n8_ := Aside0.mk (hbox); have n9_ := Aside0.mk ((by rw [hg]; exact (below_size (by repeat (first | (with_reducible first | exact HB.out | apply below_alloc | apply pw_below_drewN | apply below_drew1 | refine below_set ?_ GE242.out | refine below_set ?_ GE252.out | refine below_set ?_ GE257.out) | exact HB.out))) : w.heap.size ≤ gb262)); have n10_ := Aside0.mk ((by rw [hg]; exact (below_size (by repeat (first | (with_reducible first | exact HB.out | apply below_alloc | apply pw_below_drewN | apply below_drew1 | refine below_set ?_ GE242.out | refine below_set ?_ GE252.out | refine below_set ?_ GE257.out) | exact HB.out))) : w.heap.size ≤ gb262)); have n11_ := Aside0.mk ((by rw [hg]; exact Nat.ne_of_lt (blk_lt (g := gb242) (o := .cells #[.int .i64 a0_0, .slice A0_1 l0_1.length c0_1] 24 (0, 0)) (by (with_reducible repeat (first | refine blk_drewN ?_ _ | refine blk_drew ?_ | refine blk_alloc ?_ _)); exact BK242.out)) : gb242 ≠ gb262)); have n12_ := Aside0.mk ((by rw [hg]; exact Nat.ne_of_gt (blk_lt (g := gb242) (o := .cells #[.int .i64 a0_0, .slice A0_1 l0_1.length c0_1] 24 (0, 0)) (by (with_reducible repeat (first | refine blk_drewN ?_ _ | refine blk_drew ?_ | refine blk_alloc ?_ _)); exact BK242.out)) : gb262 ≠ gb242)); have n13_ := Aside0.mk ((by rw [hg]; exact Nat.ne_of_lt (blk_lt (g := gb252) (o := .cells #[.int .i64 t248, .slice Ao28 t249.length co28] 53 (0, 0)) (by (with_reducible repeat (first | refine blk_drewN ?_ _ | refine blk_drew ?_ | refine blk_alloc ?_ _)); exact BK252.out)) : gb252 ≠ gb262)); have n14_ := Aside0.mk ((by rw [hg]; exact Nat.ne_of_gt (blk_lt (g := gb252) (o := .cells #[.int .i64 t248, .slice Ao28 t249.length co28] 53 (0, 0)) (by (with_reducible repeat (first | refine blk_drewN ?_ _ | refine blk_drew ?_ | refine blk_alloc ?_ _)); exact BK252.out)) : gb262 ≠ gb252)); have n15_ := Aside0.mk ((by rw [hg]; exact Nat.ne_of_lt (blk_lt (g := gb257) (o := .cells #[.int .i64 t253, .slice Ao35 t254.length co35] 29 (0, 0)) (by (with_reducible repeat (first | refine blk_drewN ?_ _ | refine blk_drew ?_ | refine blk_alloc ?_ _)); exact BK257.out)) : gb257 ≠ gb262)); have n16_ := Aside0.mk ((by rw [hg]; exact Nat.ne_of_gt (blk_lt (g := gb257) (o := .cells #[.int .i64 t253, .slice Ao35 t254.length co35] 29 (0, 0)) (by (with_reducible repeat (first | refine blk_drewN ?_ _ | refine blk_drew ?_ | refine blk_alloc ?_ _)); exact BK257.out)) : gb262 ≠ gb257)); clear HO247; clear HO251; clear HO256; clear HO261; clear BK242; clear BK252; clear BK257; clear HB; have HO247 := n0_; have HO251 := n1_; have HO256 := n2_; have HO261 := n3_; have BK242 := n4_; have BK252 := n5_; have BK257 := n6_; have HB := n7_; have BK262 := n8_; have GW262 := n9_; have GE262 := n10_; have NB242_262 := n11_; have NB262_242 := n12_; have NB252_262 := n13_; have NB262_252 := n14_; have NB257_262 := n15_; have NB262_257 := n16_; clear n0_ n1_ n2_ n3_ n4_ n5_ n6_ n7_ n8_ n9_ n10_ n11_ n12_ n13_ n14_ n15_ n16_; clear hb hbox hg; have hnb38 := NB262_242.out; have hnc38 := NB242_262.out; have hnb39 := NB262_252.out; have hnc39 := NB252_262.out; have hnb40 := NB262_257.out; have hnc40 := NB257_262.out; have hcz41_0 : w37.cell? ⟨gb262, 0, none⟩ = some (.int .i64 0) := (blk_cell BK262.out 0).trans rfl; have hcz41_1 : w37.cell? ⟨gb262, 1, none⟩ = some (.slice none 0 0) := (blk_cell BK262.out 1).trans rfl; have hfz41_0 := blk_frozen BK262.out 0; have hfz41_1 := blk_frozen BK262.out 1; obtain ⟨Ao42, co42, eo42⟩ := Kd.R_slice HO261.out; subst eo42; have hcz43_0 : w37.cell? ⟨gb252, 0, none⟩ = some (.int .i64 t248) := (blk_cell BK252.out 0).trans rfl; have hcz43_1 : w37.cell? ⟨gb252, 1, none⟩ = some (.slice Ao28 t249.length co28) := (blk_cell BK252.out 1).trans rfl; have hfz43_0 := blk_frozen BK252.out 0; have hfz43_1 := blk_frozen BK252.out 1) | ((with_reducible refine gate_callee (f := 31) rfl ?_); refine goesL_ (some 25) rfl rfl Try.func31 (by kernel_rfl) rfl #[.agg #[.int .i64 t258, .slice Ao42 t259.length co42], .agg #[.int .i64 t248, .slice Ao28 t249.length co28]] rfl (by (try simp only [List.map_toArray, List.map_cons, List.map_nil]); first | done | rfl | (simp only [List.length_drop, List.length_take]; rfl)) ?_; (with_reducible refine (laws_eqGraph.calls k t258 _ _ t259 t248 _ _ t249 true _ ?side1 ?side2 ?side3 ?side4 A11.out).mono ?_); (case side1 => refine (Kd.R_reads' (e := 86) (base := w.heap.size) (ok := fun k_ => (True ∧ some k_ ≠ (.slice Ao28 t249.length co28 : Value).ownBlock)) (n := t259.length) (c := co42) ?_).2.2; exact (by (with_reducible repeat (first | apply Kd.R_alloc | apply Kd.R_drewN | apply Kd.R_drew)); exact (Kd.R_mono (Kd.R_far (p := ⟨gb262, 1, none⟩) (Kd.R_far (p := ⟨gb262, 0, none⟩) (Kd.R_types HO261.out BK262.out (by decide)) (fun _ hk => hk.2) (.int .i64 t258)) (fun _ hk => hk.2) (.slice Ao42 t259.length co42)) (fun _ h_ => h_.1)))); (case side2 => exact (Kd.R_reads' HO261.out).2.1); (case side3 => refine (Kd.R_reads' (e := 86) (base := w.heap.size) (ok := fun k_ => (True ∧ some k_ ≠ (.slice Ao42 t259.length co42 : Value).ownBlock)) (n := t249.length) (c := co28) ?_).2.2; exact (by (with_reducible repeat (first | apply Kd.R_alloc | apply Kd.R_drewN | apply Kd.R_drew)); exact (Kd.R_mono (Kd.R_far (p := ⟨gb262, 1, none⟩) (Kd.R_far (p := ⟨gb262, 0, none⟩) (Kd.R_types HO251.out BK262.out (by decide)) (fun _ hk => hk.2) (.int .i64 t258)) (fun _ hk => hk.2) (.slice Ao42 t259.length co42)) (fun _ h_ => h_.1)))); (case side4 => exact (Kd.R_reads' HO251.out).2.1); rintro e w44 ⟨rfl, hb⟩; refine ⟨_, rfl, ?_⟩; have n0_ := Aside0.mk (Kd.R_below (by (with_reducible repeat (first | apply Kd.R_alloc | apply Kd.R_drewN | apply Kd.R_drew)); exact (Kd.R_mono (Kd.R_far (p := ⟨gb262, 1, none⟩) (Kd.R_far (p := ⟨gb262, 0, none⟩) (Kd.R_types HO247.out BK262.out (by decide)) (fun _ hk => hk.2) (.int .i64 t258)) (fun _ hk => hk.2) (.slice Ao42 t259.length co42)) (fun _ h_ => h_.1))) hb); have n1_ := Aside0.mk (Kd.R_below (by (with_reducible repeat (first | apply Kd.R_alloc | apply Kd.R_drewN | apply Kd.R_drew)); exact (Kd.R_mono (Kd.R_far (p := ⟨gb262, 1, none⟩) (Kd.R_far (p := ⟨gb262, 0, none⟩) (Kd.R_types HO251.out BK262.out (by decide)) (fun _ hk => hk.2) (.int .i64 t258)) (fun _ hk => hk.2) (.slice Ao42 t259.length co42)) (fun _ h_ => h_.1))) hb); have n2_ := Aside0.mk (Kd.R_below (by (with_reducible repeat (first | apply Kd.R_alloc | apply Kd.R_drewN | apply Kd.R_drew)); exact (Kd.R_mono (Kd.R_far (p := ⟨gb262, 1, none⟩) (Kd.R_far (p := ⟨gb262, 0, none⟩) (Kd.R_types HO256.out BK262.out (by decide)) (fun _ hk => hk.2) (.int .i64 t258)) (fun _ hk => hk.2) (.slice Ao42 t259.length co42)) (fun _ h_ => h_.1))) hb); have n3_ := Aside0.mk (Kd.R_below (by (with_reducible repeat (first | apply Kd.R_alloc | apply Kd.R_drewN | apply Kd.R_drew)); exact (Kd.R_mono (Kd.R_far (p := ⟨gb262, 1, none⟩) (Kd.R_far (p := ⟨gb262, 0, none⟩) (Kd.R_types HO261.out BK262.out (by decide)) (fun _ hk => hk.2) (.int .i64 t258)) (fun _ hk => hk.2) (.slice Ao42 t259.length co42)) (fun _ h_ => h_.1))) hb); have n4_ := Aside0.mk (blk_below (g := gb242) (o := .cells #[.int .i64 a0_0, .slice A0_1 l0_1.length c0_1] 24 (0, 0)) (by (with_reducible repeat (first | refine blk_drewN ?_ _ | refine blk_drew ?_ | refine blk_alloc ?_ _)); refine blk_far ?_ NB242_262.out _; (with_reducible repeat (first | refine blk_drewN ?_ _ | refine blk_drew ?_ | refine blk_alloc ?_ _)); refine blk_far ?_ NB242_262.out _; (with_reducible repeat (first | refine blk_drewN ?_ _ | refine blk_drew ?_ | refine blk_alloc ?_ _)); exact BK242.out) hb); have n5_ := Aside0.mk (blk_below (g := gb252) (o := .cells #[.int .i64 t248, .slice Ao28 t249.length co28] 53 (0, 0)) (by (with_reducible repeat (first | refine blk_drewN ?_ _ | refine blk_drew ?_ | refine blk_alloc ?_ _)); refine blk_far ?_ NB252_262.out _; (with_reducible repeat (first | refine blk_drewN ?_ _ | refine blk_drew ?_ | refine blk_alloc ?_ _)); refine blk_far ?_ NB252_262.out _; (with_reducible repeat (first | refine blk_drewN ?_ _ | refine blk_drew ?_ | refine blk_alloc ?_ _)); exact BK252.out) hb); have n6_ := Aside0.mk (blk_below (g := gb257) (o := .cells #[.int .i64 t253, .slice Ao35 t254.length co35] 29 (0, 0)) (by (with_reducible repeat (first | refine blk_drewN ?_ _ | refine blk_drew ?_ | refine blk_alloc ?_ _)); refine blk_far ?_ NB257_262.out _; (with_reducible repeat (first | refine blk_drewN ?_ _ | refine blk_drew ?_ | refine blk_alloc ?_ _)); refine blk_far ?_ NB257_262.out _; (with_reducible repeat (first | refine blk_drewN ?_ _ | refine blk_drew ?_ | refine blk_alloc ?_ _)); exact BK257.out) hb); have n7_ := Aside0.mk (blk_below (g := gb262) (o := .cells #[.int .i64 t258, .slice Ao42 t259.length co42] 53 (0, 0)) (by (with_reducible repeat (first | refine blk_drewN ?_ _ | refine blk_drew ?_ | refine blk_alloc ?_ _)); refine blk_put (cs := #[.int .i64 t258, .slice none 0 0]) ?_ 1 _ rfl; (with_reducible repeat (first | refine blk_drewN ?_ _ | refine blk_drew ?_ | refine blk_alloc ?_ _)); refine blk_put (cs := #[.int .i64 0, .slice none 0 0]) ?_ 0 _ rfl; (with_reducible repeat (first | refine blk_drewN ?_ _ | refine blk_drew ?_ | refine blk_alloc ?_ _)); exact BK262.out) hb); have n8_ := Aside0.mk (below_step (by repeat (first | (with_reducible first | exact HB.out | apply below_alloc | apply pw_below_drewN | apply below_drew1 | refine below_set ?_ GE242.out | refine below_set ?_ GE252.out | refine below_set ?_ GE257.out | refine below_set ?_ GE262.out) | exact HB.out)) hb); clear HO247; clear HO251; clear HO256; clear HO261; clear BK242; clear BK252; clear BK257; clear BK262; clear HB; have HO247 := n0_; have HO251 := n1_; have HO256 := n2_; have HO261 := n3_; have BK242 := n4_; have BK252 := n5_; have BK257 := n6_; have BK262 := n7_; have HB := n8_; clear n0_ n1_ n2_ n3_ n4_ n5_ n6_ n7_ n8_; (try clear hb); (try clear hb2); (try clear hk); (try clear hi)))
  have n0_ := Aside0.mk (Kd.R_drew HO247.out)
  have n1_ := Aside0.mk (Kd.R_drew HO251.out)
  have n2_ := Aside0.mk (Kd.R_drew HO256.out)
  have n3_ := Aside0.mk (Kd.R_drew HO261.out)
  have n4_ := Aside0.mk (blk_drew BK242.out)
  have n5_ := Aside0.mk (blk_drew BK252.out)
  have n6_ := Aside0.mk (blk_drew BK257.out)
  have n7_ := Aside0.mk (blk_drew BK262.out)
  have n8_ := Aside0.mk (below_drew1 HB.out)
  clear HO247
  clear HO251
  clear HO256
  clear HO261
  clear BK242
  clear BK252
  clear BK257
  clear BK262
  clear HB
  have HO247 := n0_
  have HO251 := n1_
  have HO256 := n2_
  have HO261 := n3_
  have BK242 := n4_
  have BK252 := n5_
  have BK257 := n6_
  have BK262 := n7_
  have HB := n8_
  clear n0_ n1_ n2_ n3_ n4_ n5_ n6_ n7_ n8_
  refine start_ (n := 5) (S := fun w' => w'.cell? ⟨gb257, 0, none⟩ = some (.int .i64 t253) ∧ w'.cell? ⟨gb257, 1, none⟩ = some (.slice Ao35 t254.length co35) ∧ w'.cell? ⟨gb242, 0, none⟩ = some (.int .i64 a0_0) ∧ w'.cell? ⟨gb242, 1, none⟩ = some (.slice A0_1 l0_1.length c0_1)) (ds := []) #[false, false, false, false, false] (by kernel_rfl) rfl rfl ⟨(blk_cell BK257.out 0).trans rfl, (blk_cell BK257.out 1).trans rfl, (blk_cell BK242.out 0).trans rfl, (blk_cell BK242.out 1).trans rfl⟩ (fun hHeld => ?_)
  generalize w44.drew = w45 at HO247 HO251 HO256 HO261 BK242 BK252 BK257 BK262 HB hHeld ⊢
  refine take_ (i := 0) (N := some 27) (v := ?_) (a' := ?_) #[true, false, false, false, false] rfl rfl (by kernel_rfl) (fun _ _ _ h => h) (Or.inl ⟨by rfl, ?_⟩) hHeld ?_ ?_
  rotate_left
  · rintro w' ⟨s0, s1, s2, s3⟩
    go_simp
    with_reducible rfl
  rotate_left
  · simp only [Act.put, List.setIfInBounds_toArray, List.set_cons_zero, List.set_cons_succ, i64_w, i32_w]
    rfl
  refine take_ (i := 1) (N := some 28) (v := ?_) (a' := ?_) #[true, true, false, false, false] rfl rfl (by kernel_rfl) (fun _ _ _ h => h) (Or.inl ⟨by rfl, ?_⟩) hHeld ?_ ?_
  rotate_left
  · rintro w' ⟨s0, s1, s2, s3⟩
    go_simp
    with_reducible rfl
  rotate_left
  · simp only [Act.put, List.setIfInBounds_toArray, List.set_cons_zero, List.set_cons_succ, i64_w, i32_w]
    rfl
  refine one_ (i := 2) (N := some 29) #[true, true, true, false, false] rfl rfl (by kernel_rfl) (by decide) (fun K hK => ?_)
  refine goes_ Try.func13 (by kernel_rfl) rfl #[.agg #[.int .i64 a0_0, .slice A0_1 l0_1.length c0_1]] (by rfl) rfl rfl (by (try simp only [List.map_toArray, List.map_cons, List.map_nil]); first | done | rfl | (simp only [List.length_drop, List.length_take]; rfl)) ?_
  with_reducible refine (laws_toSimple.calls k a0_0 _ _ l0_1 t264 t265 _ ?side1 ?side2 A13.out).mono ?_
  (case side1 => repeat (first | exact (Kd.C_below HR0_1.out HB.out) | (with_reducible refine Kd.C_alloc ?_ _) | (with_reducible refine Kd.C_drewN ?_ _) | (with_reducible refine Kd.C_drew ?_)))
  (case side2 => exact HC0_1.out)
  rintro e w46 ⟨v266, rfl, ho0, hb⟩
  refine ⟨_, rfl, ?_⟩
  have n0_ := Aside0.mk (Kd.R_elder' (by (with_reducible repeat (first | apply Kd.R_alloc | apply Kd.R_drewN | apply Kd.R_drew)); exact HO247.out) (Kd.R_base ho0) hb)
  have n1_ := Aside0.mk (Kd.R_below (by (with_reducible repeat (first | apply Kd.R_alloc | apply Kd.R_drewN | apply Kd.R_drew)); exact HO251.out) hb)
  have n2_ := Aside0.mk (Kd.R_elder' (by (with_reducible repeat (first | apply Kd.R_alloc | apply Kd.R_drewN | apply Kd.R_drew)); exact HO256.out) (Kd.R_base ho0) hb)
  have n3_ := Aside0.mk (Kd.R_below (by (with_reducible repeat (first | apply Kd.R_alloc | apply Kd.R_drewN | apply Kd.R_drew)); exact HO261.out) hb)
  have n4_ := Aside0.mk (Kd.R_lower (Kd.R_new' (Kd.R_new' ho0 (Kd.R_lt (by (with_reducible repeat (first | apply Kd.R_alloc | apply Kd.R_drewN | apply Kd.R_drew)); exact HO247.out))) (Kd.R_lt (by (with_reducible repeat (first | apply Kd.R_alloc | apply Kd.R_drewN | apply Kd.R_drew)); exact HO256.out))) (below_size (by repeat (first | (with_reducible first | exact HB.out | apply below_alloc | apply pw_below_drewN | apply below_drew1 | refine below_set ?_ GE242.out | refine below_set ?_ GE252.out | refine below_set ?_ GE257.out | refine below_set ?_ GE262.out) | exact HB.out))))
  have n5_ := Aside0.mk (blk_below (g := gb242) (o := .cells #[.int .i64 a0_0, .slice A0_1 l0_1.length c0_1] 24 (0, 0)) (by (with_reducible repeat (first | refine blk_drewN ?_ _ | refine blk_drew ?_ | refine blk_alloc ?_ _)); exact BK242.out) hb)
  have n6_ := Aside0.mk (blk_below (g := gb252) (o := .cells #[.int .i64 t248, .slice Ao28 t249.length co28] 53 (0, 0)) (by (with_reducible repeat (first | refine blk_drewN ?_ _ | refine blk_drew ?_ | refine blk_alloc ?_ _)); exact BK252.out) hb)
  have n7_ := Aside0.mk (blk_below (g := gb257) (o := .cells #[.int .i64 t253, .slice Ao35 t254.length co35] 29 (0, 0)) (by (with_reducible repeat (first | refine blk_drewN ?_ _ | refine blk_drew ?_ | refine blk_alloc ?_ _)); exact BK257.out) hb)
  have n8_ := Aside0.mk (blk_below (g := gb262) (o := .cells #[.int .i64 t258, .slice Ao42 t259.length co42] 53 (0, 0)) (by (with_reducible repeat (first | refine blk_drewN ?_ _ | refine blk_drew ?_ | refine blk_alloc ?_ _)); exact BK262.out) hb)
  have n9_ := Aside0.mk (below_step (by repeat (first | (with_reducible first | exact HB.out | apply below_alloc | apply pw_below_drewN | apply below_drew1 | refine below_set ?_ GE242.out | refine below_set ?_ GE252.out | refine below_set ?_ GE257.out | refine below_set ?_ GE262.out) | exact HB.out)) hb)
  clear HO247
  clear HO251
  clear HO256
  clear HO261
  clear BK242
  clear BK252
  clear BK257
  clear BK262
  clear HB
  have HO247 := n0_
  have HO251 := n1_
  have HO256 := n2_
  have HO261 := n3_
  have HO267 := n4_
  have BK242 := n5_
  have BK252 := n6_
  have BK257 := n7_
  have BK262 := n8_
  have HB := n9_
  clear n0_ n1_ n2_ n3_ n4_ n5_ n6_ n7_ n8_ n9_
  (try clear hb)
  (try clear hb2)
  (try clear hk)
  (try clear hi)
  (try clear ho0)
  obtain ⟨Ao47, co47, eo47⟩ := Kd.R_slice HO267.out
  (first | subst eo47 | (injection eo47 with f1_ f2_ f3_; have f4_ := f1_.symm; have f5_ := f3_.symm; clear f1_ f2_ f3_; subst f4_; subst f5_))
  refine hK.out _ _ ⟨(blk_cell BK257.out 0).trans rfl, (blk_cell BK257.out 1).trans rfl, (blk_cell BK242.out 0).trans rfl, (blk_cell BK242.out 1).trans rfl⟩ (fun hHeld => ?_)
  clear hK K
  refine norm_ (a' := ?_) ?_ ?_
  rotate_left
  · show Act.put _ (some 29) _ = _
    simp only [Act.put, List.setIfInBounds_toArray, List.set_cons_zero, List.set_cons_succ, i64_w, i32_w]
    rfl
  refine one_ (i := 3) (N := some 30) #[true, true, true, true, false] rfl rfl (by kernel_rfl) (by decide) (fun K hK => ?_)
  refine goes_ Try.func15 (by kernel_rfl) rfl #[.agg #[.int .i64 t253, .slice Ao35 t254.length co35], .agg #[.int .i64 t264, .slice Ao47 t265.length co47]] (by rfl) rfl rfl (by (try simp only [List.map_toArray, List.map_cons, List.map_nil]); first | done | rfl | (simp only [List.length_drop, List.length_take]; rfl)) ?_
  with_reducible refine (laws_eqSimple.calls k t253 _ _ t254 t264 _ _ t265 true _ ?side1 ?side2 ?side3 ?side4 A14.out).mono ?_
  (case side1 => repeat (first | exact (Kd.R_reads' HO256.out).2.2 | (with_reducible refine Kd.C_alloc ?_ _) | (with_reducible refine Kd.C_drewN ?_ _) | (with_reducible refine Kd.C_drew ?_)))
  (case side2 => exact (Kd.R_reads' HO256.out).2.1)
  (case side3 => repeat (first | exact (Kd.R_reads' HO267.out).2.2 | (with_reducible refine Kd.C_alloc ?_ _) | (with_reducible refine Kd.C_drewN ?_ _) | (with_reducible refine Kd.C_drew ?_)))
  (case side4 => exact (Kd.R_reads' HO267.out).2.1)
  rintro e w48 ⟨rfl, hb⟩
  refine ⟨_, rfl, ?_⟩
  have n0_ := Aside0.mk (Kd.R_below (by (with_reducible repeat (first | apply Kd.R_alloc | apply Kd.R_drewN | apply Kd.R_drew)); exact HO247.out) hb)
  have n1_ := Aside0.mk (Kd.R_below (by (with_reducible repeat (first | apply Kd.R_alloc | apply Kd.R_drewN | apply Kd.R_drew)); exact HO251.out) hb)
  have n2_ := Aside0.mk (Kd.R_below (by (with_reducible repeat (first | apply Kd.R_alloc | apply Kd.R_drewN | apply Kd.R_drew)); exact HO256.out) hb)
  have n3_ := Aside0.mk (Kd.R_below (by (with_reducible repeat (first | apply Kd.R_alloc | apply Kd.R_drewN | apply Kd.R_drew)); exact HO261.out) hb)
  have n4_ := Aside0.mk (Kd.R_below (by (with_reducible repeat (first | apply Kd.R_alloc | apply Kd.R_drewN | apply Kd.R_drew)); exact HO267.out) hb)
  have n5_ := Aside0.mk (blk_below (g := gb242) (o := .cells #[.int .i64 a0_0, .slice A0_1 l0_1.length c0_1] 24 (0, 0)) (by (with_reducible repeat (first | refine blk_drewN ?_ _ | refine blk_drew ?_ | refine blk_alloc ?_ _)); exact BK242.out) hb)
  have n6_ := Aside0.mk (blk_below (g := gb252) (o := .cells #[.int .i64 t248, .slice Ao28 t249.length co28] 53 (0, 0)) (by (with_reducible repeat (first | refine blk_drewN ?_ _ | refine blk_drew ?_ | refine blk_alloc ?_ _)); exact BK252.out) hb)
  have n7_ := Aside0.mk (blk_below (g := gb257) (o := .cells #[.int .i64 t253, .slice Ao35 t254.length co35] 29 (0, 0)) (by (with_reducible repeat (first | refine blk_drewN ?_ _ | refine blk_drew ?_ | refine blk_alloc ?_ _)); exact BK257.out) hb)
  have n8_ := Aside0.mk (blk_below (g := gb262) (o := .cells #[.int .i64 t258, .slice Ao42 t259.length co42] 53 (0, 0)) (by (with_reducible repeat (first | refine blk_drewN ?_ _ | refine blk_drew ?_ | refine blk_alloc ?_ _)); exact BK262.out) hb)
  have n9_ := Aside0.mk (below_step (by repeat (first | (with_reducible first | exact HB.out | apply below_alloc | apply pw_below_drewN | apply below_drew1 | refine below_set ?_ GE242.out | refine below_set ?_ GE252.out | refine below_set ?_ GE257.out | refine below_set ?_ GE262.out) | exact HB.out)) hb)
  clear HO247
  clear HO251
  clear HO256
  clear HO261
  clear HO267
  clear BK242
  clear BK252
  clear BK257
  clear BK262
  clear HB
  have HO247 := n0_
  have HO251 := n1_
  have HO256 := n2_
  have HO261 := n3_
  have HO267 := n4_
  have BK242 := n5_
  have BK252 := n6_
  have BK257 := n7_
  have BK262 := n8_
  have HB := n9_
  clear n0_ n1_ n2_ n3_ n4_ n5_ n6_ n7_ n8_ n9_
  (try clear hb)
  (try clear hb2)
  (try clear hk)
  (try clear hi)
  refine hK.out _ _ ⟨(blk_cell BK257.out 0).trans rfl, (blk_cell BK257.out 1).trans rfl, (blk_cell BK242.out 0).trans rfl, (blk_cell BK242.out 1).trans rfl⟩ (fun hHeld => ?_)
  clear hK K
  refine norm_ (a' := ?_) ?_ ?_
  rotate_left
  · show Act.put _ (some 30) _ = _
    simp only [Act.put, List.setIfInBounds_toArray, List.set_cons_zero, List.set_cons_succ, i64_w, i32_w]
    rfl
  refine pure_ (i := 4) (N := some 31) (v := ?_) (a' := ?_) #[true, true, true, true, true] rfl rfl (by kernel_rfl) (fun _ _ _ h => h) (Or.inl ⟨by rfl, ?_⟩) ?_ ?_
  rotate_left
  · intro w'
    go_simp
    with_reducible rfl
  rotate_left
  · simp only [Act.put, List.setIfInBounds_toArray, List.set_cons_zero, List.set_cons_succ, i64_w, i32_w]
    rfl
  refine done_ (by kernel_rfl) ?_
  have hcz49_0 : w48.cell? ⟨gb257, 0, none⟩ = some (.int .i64 t253) := (blk_cell BK257.out 0).trans rfl
  have hcz49_1 : w48.cell? ⟨gb257, 1, none⟩ = some (.slice Ao35 t254.length co35) := (blk_cell BK257.out 1).trans rfl
  have hfz49_0 := blk_frozen BK257.out 0
  have hfz49_1 := blk_frozen BK257.out 1
  go_upto_region 14 with (first | ((with_reducible refine gate_callee (f := 27) rfl ?_); refine goesL_ (some 34) rfl rfl Try.func27 (by kernel_rfl) rfl #[.agg #[.int .i64 t253, .slice Ao35 t254.length co35], .int .i64 1] rfl (by (try simp only [List.map_toArray, List.map_cons, List.map_nil]); first | done | rfl | (simp only [List.length_drop, List.length_take]; rfl)) ?_; (with_reducible refine (laws_markSimple.calls k t253 (fun k_ => some k_ = (.slice Ao35 t254.length co35 : Value).ownBlock) (.slice Ao35 t254.length co35) t254 1 t269 t270 w _ ?side1 ?side2 A16.out).mono ?_); (case side1 => repeat (first | (with_reducible first | exact HB.out | apply below_alloc | apply pw_below_drewN | apply below_drew1 | refine below_set ?_ GE242.out | refine below_set ?_ GE252.out | refine below_set ?_ GE257.out | refine below_set ?_ GE262.out) | exact HB.out)); (case side2 => exact Kd.R_tight rfl HO256.out); rintro e w50 ⟨rfl, hy0, hb, hkp⟩; refine ⟨_, rfl, ?_⟩; have n0_ := Aside0.mk (blk_kept (by (with_reducible repeat (first | refine blk_drewN ?_ _ | refine blk_drew ?_ | refine blk_alloc ?_ _)); exact BK242.out) hkp (fun hs_ => (fun e_ => (Kd.R_ne HO256.out BK242.out (by decide)) e_) hs_)); have n1_ := Aside0.mk (Kd.R_mono (ok' := fun k_ => some k_ ≠ (.slice Ao35 t254.length co35 : Value).ownBlock ∧ some k_ ≠ (.slice Ao47 t265.length co47 : Value).ownBlock) (Kd.R_keptB (HO247.out) hkp (fun k_ hk_ hs_ => (hk_.1.2) hs_)) (fun k_ hk_ => ⟨hk_.1.1.2, hk_.1.2⟩)); have n2_ := Aside0.mk (Kd.R_mono (ok' := fun k_ => some k_ ≠ (.slice Ao42 t259.length co42 : Value).ownBlock) (Kd.R_keptB ((Kd.R_apart' HO251.out (Kd.R_typed HO256.out) (by decide))) hkp (fun k_ hk_ hs_ => (hk_.2) hs_)) (fun k_ hk_ => hk_.1.1.2)); have n3_ := Aside0.mk (blk_kept (by (with_reducible repeat (first | refine blk_drewN ?_ _ | refine blk_drew ?_ | refine blk_alloc ?_ _)); exact BK252.out) hkp (fun hs_ => (fun e_ => (Kd.R_ne HO256.out BK252.out (by decide)) e_) hs_)); have n4_ := Aside0.mk (Kd.R_reok rfl hy0 (fun k_ e_ => HO256.out.1 k_ e_)); have n5_ := Aside0.mk (blk_kept (by (with_reducible repeat (first | refine blk_drewN ?_ _ | refine blk_drew ?_ | refine blk_alloc ?_ _)); exact BK257.out) hkp (fun hs_ => (fun e_ => (Kd.R_ne HO256.out BK257.out (by decide)) e_) hs_)); have n6_ := Aside0.mk (Kd.R_mono (ok' := fun k_ => some k_ ≠ (.slice Ao28 t249.length co28 : Value).ownBlock) (Kd.R_keptB ((Kd.R_apart' HO261.out (Kd.R_typed HO256.out) (by decide))) hkp (fun k_ hk_ hs_ => (hk_.2) hs_)) (fun k_ hk_ => hk_.1.1.2)); have n7_ := Aside0.mk (blk_kept (by (with_reducible repeat (first | refine blk_drewN ?_ _ | refine blk_drew ?_ | refine blk_alloc ?_ _)); exact BK262.out) hkp (fun hs_ => (fun e_ => (Kd.R_ne HO256.out BK262.out (by decide)) e_) hs_)); have n8_ := Aside0.mk (Kd.R_mono (ok' := fun k_ => some k_ ≠ (.slice Ao23 t245.length co23 : Value).ownBlock ∧ some k_ ≠ (.slice Ao35 t254.length co35 : Value).ownBlock) (Kd.R_keptB (HO267.out) hkp (fun k_ hk_ hs_ => (hk_.2) hs_)) (fun k_ hk_ => ⟨hk_.1.1.2, hk_.1.2⟩)); have n9_ := Aside0.mk (hb); clear BK242; clear HO247; clear HO251; clear BK252; clear HO256; clear BK257; clear HO261; clear BK262; clear HO267; clear HB; have BK242 := n0_; have HO247 := n1_; have HO251 := n2_; have BK252 := n3_; have HO256 := n4_; have BK257 := n5_; have HO261 := n6_; have BK262 := n7_; have HO267 := n8_; have HB := n9_; clear n0_ n1_ n2_ n3_ n4_ n5_ n6_ n7_ n8_ n9_; (try clear hb); (try clear hkp); (try clear hy0)))
  (try simp only [Act.put, List.setIfInBounds_toArray, List.set_cons_zero, List.set_cons_succ])
  go_cut [42] (fun v42 wc => ∃ (kq : Nat) (x42_16 : Bool), v42 = .bool x42_16 ∧ Aside0 (laws_FnExactGraphOf.j0 kq x42_16 a0_0 l0_1 t248 t249 t258 t259 = some r) ∧ Aside0 (kq ≤ k) ∧ Aside0 (Kd.R k86 86 wc w.heap.size (fun k_ => some k_ ≠ ((.slice Ao42 t259.length co42) : Value).ownBlock) (.slice Ao28 t249.length co28) t249) ∧ Aside0 (Kd.R k47 47 wc w.heap.size (fun _ => True) (.slice Ao35 t254.length co35) t270) ∧ Aside0 (Kd.R k86 86 wc w.heap.size (fun k_ => some k_ ≠ ((.slice Ao28 t249.length co28) : Value).ownBlock) (.slice Ao42 t259.length co42) t259) ∧ Aside0 (wc.heap[gb242]? = some (.cells #[.int .i64 a0_0, (.slice A0_1 l0_1.length c0_1)] 24 (0, 0))) ∧ Aside0 (wc.heap[gb252]? = some (.cells #[.int .i64 t248, (.slice Ao28 t249.length co28)] 53 (0, 0))) ∧ Aside0 (wc.heap[gb257]? = some (.cells #[.int .i64 t253, (.slice Ao35 t254.length co35)] 29 (0, 0))) ∧ Aside0 (wc.heap[gb262]? = some (.cells #[.int .i64 t258, (.slice Ao42 t259.length co42)] 53 (0, 0))) ∧ Aside0 (Below w.heap.size w wc))
  case first =>
   have H := HC17.out
   clear HC17
   by_cases c51 : t269 < 0
   · rw [if_pos c51] at H
     have c51b0 : decide (t269 < 0) = true := decide_eq_true c51
     clear c51
     (first | rw [c51b0] | (simp only [i64_w, i32_w]; rw [c51b0]) | skip)
     subst hr_
     exact absurd H (by cases k <;> simp [laws_FnExactGraphOf.j0])
   rw [if_neg c51] at H
   have c51b0 : decide (t269 < 0) = false := decide_eq_false c51
   clear c51
   (first | rw [c51b0] | (simp only [i64_w, i32_w]; rw [c51b0]) | skip)
   replace H := Option.bind_eq_some_iff.mp H
   obtain ⟨t271, A520, H⟩ := H
   replace H : (laws_FnExactGraphOf.j0 k (!t271) a0_0 l0_1 t248 t249 t258 t259) = some r := H
   have A52 := Aside0.mk A520
   clear A520
   have H' := Aside0.mk H
   clear H
   have hnb53 := NB262_242.out
   have hnc53 := NB242_262.out
   have hnb54 := NB262_252.out
   have hnc54 := NB252_262.out
   have hnb55 := NB262_257.out
   have hnc55 := NB257_262.out
   have hcz56_0 : w50.cell? ⟨gb262, 0, none⟩ = some (.int .i64 t258) := (blk_cell BK262.out 0).trans rfl
   have hcz56_1 : w50.cell? ⟨gb262, 1, none⟩ = some (.slice Ao42 t259.length co42) := (blk_cell BK262.out 1).trans rfl
   have hfz56_0 := blk_frozen BK262.out 0
   have hfz56_1 := blk_frozen BK262.out 1
   have hnb57 := NB252_242.out
   have hnc57 := NB242_252.out
   have hnb58 := NB252_257.out
   have hnc58 := NB257_252.out
   have hcz59_0 : w50.cell? ⟨gb252, 0, none⟩ = some (.int .i64 t248) := (blk_cell BK252.out 0).trans rfl
   have hcz59_1 : w50.cell? ⟨gb252, 1, none⟩ = some (.slice Ao28 t249.length co28) := (blk_cell BK252.out 1).trans rfl
   have hfz59_0 := blk_frozen BK252.out 0
   have hfz59_1 := blk_frozen BK252.out 1
   go_wp2_with (first | (go_at_call 31; (with_reducible refine (laws_eqGraph.calls k t258 _ _ t259 t248 _ _ t249 t271 _ ?side1 ?side2 ?side3 ?side4 A52.out).mono ?_); (case side1 => repeat (first | exact (Kd.R_reads' HO261.out).2.2 | (with_reducible refine Kd.C_alloc ?_ _) | (with_reducible refine Kd.C_drewN ?_ _) | (with_reducible refine Kd.C_drew ?_))); (case side2 => exact (Kd.R_reads' HO261.out).2.1); (case side3 => repeat (first | exact (Kd.R_reads' HO251.out).2.2 | (with_reducible refine Kd.C_alloc ?_ _) | (with_reducible refine Kd.C_drewN ?_ _) | (with_reducible refine Kd.C_drew ?_))); (case side4 => exact (Kd.R_reads' HO251.out).2.1); rintro e w60 ⟨rfl, hb⟩; have n0_ := Aside0.mk (Kd.R_below (by (with_reducible repeat (first | apply Kd.R_alloc | apply Kd.R_drewN | apply Kd.R_drew)); exact HO247.out) hb); have n1_ := Aside0.mk (Kd.R_below (by (with_reducible repeat (first | apply Kd.R_alloc | apply Kd.R_drewN | apply Kd.R_drew)); exact HO251.out) hb); have n2_ := Aside0.mk (Kd.R_below (by (with_reducible repeat (first | apply Kd.R_alloc | apply Kd.R_drewN | apply Kd.R_drew)); exact HO256.out) hb); have n3_ := Aside0.mk (Kd.R_below (by (with_reducible repeat (first | apply Kd.R_alloc | apply Kd.R_drewN | apply Kd.R_drew)); exact HO261.out) hb); have n4_ := Aside0.mk (Kd.R_below (by (with_reducible repeat (first | apply Kd.R_alloc | apply Kd.R_drewN | apply Kd.R_drew)); exact HO267.out) hb); have n5_ := Aside0.mk (blk_below (g := gb242) (o := .cells #[.int .i64 a0_0, .slice A0_1 l0_1.length c0_1] 24 (0, 0)) (by (with_reducible repeat (first | refine blk_drewN ?_ _ | refine blk_drew ?_ | refine blk_alloc ?_ _)); exact BK242.out) hb); have n6_ := Aside0.mk (blk_below (g := gb252) (o := .cells #[.int .i64 t248, .slice Ao28 t249.length co28] 53 (0, 0)) (by (with_reducible repeat (first | refine blk_drewN ?_ _ | refine blk_drew ?_ | refine blk_alloc ?_ _)); exact BK252.out) hb); have n7_ := Aside0.mk (blk_below (g := gb257) (o := .cells #[.int .i64 t253, .slice Ao35 t254.length co35] 29 (0, 0)) (by (with_reducible repeat (first | refine blk_drewN ?_ _ | refine blk_drew ?_ | refine blk_alloc ?_ _)); exact BK257.out) hb); have n8_ := Aside0.mk (blk_below (g := gb262) (o := .cells #[.int .i64 t258, .slice Ao42 t259.length co42] 53 (0, 0)) (by (with_reducible repeat (first | refine blk_drewN ?_ _ | refine blk_drew ?_ | refine blk_alloc ?_ _)); exact BK262.out) hb); have n9_ := Aside0.mk (below_step (by repeat (first | (with_reducible first | exact HB.out | apply below_alloc | apply pw_below_drewN | apply below_drew1 | refine below_set ?_ GE242.out | refine below_set ?_ GE252.out | refine below_set ?_ GE257.out | refine below_set ?_ GE262.out) | exact HB.out)) hb); clear HO247; clear HO251; clear HO256; clear HO261; clear HO267; clear BK242; clear BK252; clear BK257; clear BK262; clear HB; have HO247 := n0_; have HO251 := n1_; have HO256 := n2_; have HO261 := n3_; have HO267 := n4_; have BK242 := n5_; have BK252 := n6_; have BK257 := n7_; have BK262 := n8_; have HB := n9_; clear n0_ n1_ n2_ n3_ n4_ n5_ n6_ n7_ n8_ n9_; (try clear hb); (try clear hb2); (try clear hk); (try clear hi)))
   go_meet
   case rel => exact ⟨_, (!t271), (by first | rfl | (simp; done) | (simp [*]; done)), H', ⟨by first | omega | exact Nat.le_refl _⟩, ⟨by (with_reducible repeat (first | apply Kd.R_alloc | apply Kd.R_drewN | apply Kd.R_drew)); exact HO251.out⟩, ⟨by (with_reducible repeat (first | apply Kd.R_alloc | apply Kd.R_drewN | apply Kd.R_drew)); exact Kd.R_mono HO256.out (fun _ hk => trivial)⟩, ⟨by (with_reducible repeat (first | apply Kd.R_alloc | apply Kd.R_drewN | apply Kd.R_drew)); exact HO261.out⟩, ⟨by (with_reducible repeat (first | refine blk_drewN ?_ _ | refine blk_drew ?_ | refine blk_alloc ?_ _)); exact BK242.out⟩, ⟨by (with_reducible repeat (first | refine blk_drewN ?_ _ | refine blk_drew ?_ | refine blk_alloc ?_ _)); exact BK252.out⟩, ⟨by (with_reducible repeat (first | refine blk_drewN ?_ _ | refine blk_drew ?_ | refine blk_alloc ?_ _)); exact BK257.out⟩, ⟨by (with_reducible repeat (first | refine blk_drewN ?_ _ | refine blk_drew ?_ | refine blk_alloc ?_ _)); exact BK262.out⟩, ⟨by repeat (first | (with_reducible first | exact HB.out | apply below_alloc | apply pw_below_drewN | apply below_drew1 | refine below_set ?_ GE242.out | refine below_set ?_ GE252.out | refine below_set ?_ GE257.out | refine below_set ?_ GE262.out) | exact HB.out)⟩⟩
  case rest =>
   clear HC17
   try clear c1
   try clear c2
   try clear p2
   try clear c3
   try clear c3b0
   try clear c4
   try clear c5
   try clear c8
   try clear c11
   try clear c12
   try clear c13
   try clear c15
   try clear c26
   try clear c27
   try clear c29
   try clear c30
   try clear c31
   try clear c32
   try clear c33
   try clear c38
   try clear c39
   try clear c40
   try clear c51
   try clear c51b0
   try clear c53
   try clear c54
   try clear c55
   try clear c57
   try clear c58
   try clear hcz19_0
   try clear hcz19_1
   try clear hcz21_0
   try clear hcz21_1
   try clear hcz27_0
   try clear hcz27_1
   try clear hcz29_0
   try clear hcz29_1
   try clear hcz34_0
   try clear hcz34_1
   try clear hcz41_0
   try clear hcz41_1
   try clear hcz43_0
   try clear hcz43_1
   try clear hcz49_0
   try clear hcz49_1
   try clear hcz56_0
   try clear hcz56_1
   try clear hcz59_0
   try clear hcz59_1
   try clear hcz5_0
   try clear hcz5_1
   try clear hfz19_0
   try clear hfz19_1
   try clear hfz21_0
   try clear hfz21_1
   try clear hfz27_0
   try clear hfz27_1
   try clear hfz29_0
   try clear hfz29_1
   try clear hfz34_0
   try clear hfz34_1
   try clear hfz41_0
   try clear hfz41_1
   try clear hfz43_0
   try clear hfz43_1
   try clear hfz49_0
   try clear hfz49_1
   try clear hfz56_0
   try clear hfz56_1
   try clear hfz59_0
   try clear hfz59_1
   try clear hfz5_0
   try clear hfz5_1
   obtain ⟨kq, x42_16, rfl, HA, HJ16, HO_253001, HO_258001, HO_263001, BK242, BK252, BK257, BK262, HB⟩ := hcut
   have hl258001_16 := (Kd.R_reads' HO_258001.out).1
   rw [hl258001_16] at HO_258001
   (try simp only [hl258001_16])
   (try simp only [hl258001_16] at BK242)
   (try simp only [hl258001_16] at BK252)
   (try simp only [hl258001_16] at BK257)
   (try simp only [hl258001_16] at BK262)
   (try simp only [hl258001_16] at HO_253001)
   (try simp only [hl258001_16] at HO_263001)
   cases kq with
   | zero => exact absurd HA.out (by simp [laws_FnExactGraphOf.j0])
   | succ kj16 =>
    have H := HA.out
    clear HA
    simp only [laws_FnExactGraphOf.j0] at H
    by_cases c61 : x42_16 = true
    · subst c61
      have H1 : (some false) = some r := by rw [if_pos rfl] at H; exact H
      clear H
      have H := H1
      clear H1
      obtain rfl := Option.some.inj H
      exact absurd hr_ (by decide)
    replace c61 := Bool.eq_false_iff.mpr c61
    subst c61
    have H1 : ((laws_markGraph.f kj16 t258 t259 1).bind fun bt272 => ((laws_heldGraph.f kj16 t258 bt272.2 1).bind fun t274 => (if t274 < 0 then (some false) else (if t274 = bt272.1 then ((laws_toSimple.f kj16 a0_0 l0_1).bind fun bt275 => ((impl_GraphOf.f kj16 bt275.1 bt275.2).bind fun bt279 => ((laws_eqGraph.f kj16 bt279.1 bt279.2 t248 t249).bind fun t284 => (if t284 = true then ((laws_heldGraph.f kj16 t258 bt272.2 1).bind fun t285 => (if t285 < 0 then (some false) else (if t285 = bt272.1 then (some true) else (some false)))) else (some false))))) else (some false))))) = some r := by rw [if_neg (show ¬ (false = true) by decide)] at H; exact H
    clear H
    have H := H1
    clear H1
    replace H := Option.bind_eq_some_iff.mp H
    obtain ⟨⟨t272, t273⟩, A620, H⟩ := H
    replace H : ((laws_heldGraph.f kj16 t258 t273 1).bind fun t274 => (if t274 < 0 then (some false) else (if t274 = t272 then ((laws_toSimple.f kj16 a0_0 l0_1).bind fun bt275 => ((impl_GraphOf.f kj16 bt275.1 bt275.2).bind fun bt279 => ((laws_eqGraph.f kj16 bt279.1 bt279.2 t248 t249).bind fun t284 => (if t284 = true then ((laws_heldGraph.f kj16 t258 t273 1).bind fun t285 => (if t285 < 0 then (some false) else (if t285 = t272 then (some true) else (some false)))) else (some false))))) else (some false)))) = some r := H
    have A62 := Aside0.mk A620
    clear A620
    replace H := Option.bind_eq_some_iff.mp H
    obtain ⟨t274, A630, H⟩ := H
    replace H : (if t274 < 0 then (some false) else (if t274 = t272 then ((laws_toSimple.f kj16 a0_0 l0_1).bind fun bt275 => ((impl_GraphOf.f kj16 bt275.1 bt275.2).bind fun bt279 => ((laws_eqGraph.f kj16 bt279.1 bt279.2 t248 t249).bind fun t284 => (if t284 = true then ((laws_heldGraph.f kj16 t258 t273 1).bind fun t285 => (if t285 < 0 then (some false) else (if t285 = t272 then (some true) else (some false)))) else (some false))))) else (some false))) = some r := H
    have A63 := Aside0.mk A630
    clear A630
    by_cases c64 : t274 < 0
    · rw [if_pos c64] at H
      have c64b0 : decide (t274 < 0) = true := decide_eq_true c64
      clear c64
      obtain rfl := Option.some.inj H
      exact absurd hr_ (by decide)
    rw [if_neg c64] at H
    have c64b0 : decide (t274 < 0) = false := decide_eq_false c64
    clear c64
    by_cases c65 : t274 = t272
    rotate_left
    · rw [if_neg c65] at H
      have c65b0 : (t274 == t272) = false := beq_eq_false_iff_ne.mpr c65
      have c65b1 : (t274 != t272) = true := bne_iff_ne.mpr c65
      obtain rfl := Option.some.inj H
      exact absurd hr_ (by decide)
    rw [if_pos c65] at H
    have c65b0 : (t274 == t272) = true := beq_iff_eq.mpr c65
    have c65b1 : (t274 != t272) = false := bne_eq_false_iff_eq.mpr c65
    clear c65
    replace H := Option.bind_eq_some_iff.mp H
    obtain ⟨⟨t275, t276⟩, A660, H⟩ := H
    replace H : ((impl_GraphOf.f kj16 t275 t276).bind fun bt279 => ((laws_eqGraph.f kj16 bt279.1 bt279.2 t248 t249).bind fun t284 => (if t284 = true then ((laws_heldGraph.f kj16 t258 t273 1).bind fun t285 => (if t285 < 0 then (some false) else (if t285 = t272 then (some true) else (some false)))) else (some false)))) = some r := H
    have A66 := Aside0.mk A660
    clear A660
    replace H := Option.bind_eq_some_iff.mp H
    obtain ⟨⟨t279, t280⟩, A670, H⟩ := H
    replace H : ((laws_eqGraph.f kj16 t279 t280 t248 t249).bind fun t284 => (if t284 = true then ((laws_heldGraph.f kj16 t258 t273 1).bind fun t285 => (if t285 < 0 then (some false) else (if t285 = t272 then (some true) else (some false)))) else (some false))) = some r := H
    have A67 := Aside0.mk A670
    clear A670
    replace H := Option.bind_eq_some_iff.mp H
    obtain ⟨t284, A680, H⟩ := H
    replace H : (if t284 = true then ((laws_heldGraph.f kj16 t258 t273 1).bind fun t285 => (if t285 < 0 then (some false) else (if t285 = t272 then (some true) else (some false)))) else (some false)) = some r := H
    have A68 := Aside0.mk A680
    clear A680
    by_cases c69 : t284 = true
    rotate_left
    · replace c69 := Bool.eq_false_iff.mpr c69
      subst c69
      have H1 : (some false) = some r := by rw [if_neg (show ¬ (false = true) by decide)] at H; exact H
      clear H
      have H := H1
      clear H1
      obtain rfl := Option.some.inj H
      exact absurd hr_ (by decide)
    subst c69
    have H1 : ((laws_heldGraph.f kj16 t258 t273 1).bind fun t285 => (if t285 < 0 then (some false) else (if t285 = t272 then (some true) else (some false)))) = some r := by rw [if_pos rfl] at H; exact H
    clear H
    have H := H1
    clear H1
    replace H := Option.bind_eq_some_iff.mp H
    obtain ⟨t285, A700, H⟩ := H
    replace H : (if t285 < 0 then (some false) else (if t285 = t272 then (some true) else (some false))) = some r := H
    have A70 := Aside0.mk A700
    clear A700
    by_cases c71 : t285 < 0
    · rw [if_pos c71] at H
      have c71b0 : decide (t285 < 0) = true := decide_eq_true c71
      clear c71
      obtain rfl := Option.some.inj H
      exact absurd hr_ (by decide)
    rw [if_neg c71] at H
    have c71b0 : decide (t285 < 0) = false := decide_eq_false c71
    clear c71
    by_cases c72 : t285 = t272
    rotate_left
    · rw [if_neg c72] at H
      have c72b0 : (t285 == t272) = false := beq_eq_false_iff_ne.mpr c72
      have c72b1 : (t285 != t272) = true := bne_iff_ne.mpr c72
      obtain rfl := Option.some.inj H
      exact absurd hr_ (by decide)
    rw [if_pos c72] at H
    have c72b0 : (t285 == t272) = true := beq_iff_eq.mpr c72
    have c72b1 : (t285 != t272) = false := bne_eq_false_iff_eq.mpr c72
    clear c72
    obtain rfl := Option.some.inj H
    clear hr_
    have hnb73 := NB262_242.out
    have hnc73 := NB242_262.out
    have hnb74 := NB262_252.out
    have hnc74 := NB252_262.out
    have hnb75 := NB262_257.out
    have hnc75 := NB257_262.out
    have hcz76_0 : wc.cell? ⟨gb262, 0, none⟩ = some (.int .i64 t258) := (blk_cell BK262.out 0).trans rfl
    have hcz76_1 : wc.cell? ⟨gb262, 1, none⟩ = some (.slice Ao42 t259.length co42) := (blk_cell BK262.out 1).trans rfl
    have hfz76_0 := blk_frozen BK262.out 0
    have hfz76_1 := blk_frozen BK262.out 1
    go_wp2_with (first | ((with_reducible refine gate_callee (f := 32) rfl ?_); refine goesL_ (some 45) rfl rfl Try.func32 (by kernel_rfl) rfl #[.agg #[.int .i64 t258, .slice Ao42 t259.length co42], .int .i64 1] rfl (by (try simp only [List.map_toArray, List.map_cons, List.map_nil]); first | done | rfl | (simp only [List.length_drop, List.length_take]; rfl)) ?_; (with_reducible refine (laws_markGraph.calls kj16 t258 (fun k_ => some k_ = (.slice Ao42 t259.length co42 : Value).ownBlock) (.slice Ao42 t259.length co42) t259 1 t272 t273 w _ ?side1 ?side2 A62.out).mono ?_); (case side1 => repeat (first | (with_reducible first | exact HB.out | apply below_alloc | apply pw_below_drewN | apply below_drew1 | refine below_set ?_ GE242.out | refine below_set ?_ GE252.out | refine below_set ?_ GE257.out | refine below_set ?_ GE262.out) | exact HB.out)); (case side2 => exact Kd.R_tight rfl HO_263001.out); rintro e w77 ⟨rfl, hy0, hb, hkp⟩; refine ⟨_, rfl, ?_⟩; have n0_ := Aside0.mk (Kd.R_mono (ok' := fun k_ => some k_ ≠ (.slice Ao42 t259.length co42 : Value).ownBlock) (Kd.R_keptB (HO_253001.out) hkp (fun k_ hk_ hs_ => (hk_) hs_)) (fun k_ hk_ => hk_.1)); have n1_ := Aside0.mk (Kd.R_mono (ok' := fun k_ => True) (Kd.R_keptB ((Kd.R_apart' HO_258001.out (Kd.R_typed HO_263001.out) (by decide))) hkp (fun k_ hk_ hs_ => (hk_.2) hs_)) (fun k_ hk_ => trivial)); have n2_ := Aside0.mk (Kd.R_reok rfl hy0 (fun k_ e_ => HO_263001.out.1 k_ e_)); have n3_ := Aside0.mk (blk_kept (by (with_reducible repeat (first | refine blk_drewN ?_ _ | refine blk_drew ?_ | refine blk_alloc ?_ _)); exact BK242.out) hkp (fun hs_ => (fun e_ => (Kd.R_ne HO_263001.out BK242.out (by decide)) e_) hs_)); have n4_ := Aside0.mk (blk_kept (by (with_reducible repeat (first | refine blk_drewN ?_ _ | refine blk_drew ?_ | refine blk_alloc ?_ _)); exact BK252.out) hkp (fun hs_ => (fun e_ => (Kd.R_ne HO_263001.out BK252.out (by decide)) e_) hs_)); have n5_ := Aside0.mk (blk_kept (by (with_reducible repeat (first | refine blk_drewN ?_ _ | refine blk_drew ?_ | refine blk_alloc ?_ _)); exact BK257.out) hkp (fun hs_ => (fun e_ => (Kd.R_ne HO_263001.out BK257.out (by decide)) e_) hs_)); have n6_ := Aside0.mk (blk_kept (by (with_reducible repeat (first | refine blk_drewN ?_ _ | refine blk_drew ?_ | refine blk_alloc ?_ _)); exact BK262.out) hkp (fun hs_ => (fun e_ => (Kd.R_ne HO_263001.out BK262.out (by decide)) e_) hs_)); have n7_ := Aside0.mk (hb); clear HO_253001; clear HO_258001; clear HO_263001; clear BK242; clear BK252; clear BK257; clear BK262; clear HB; have HO_253001 := n0_; have HO_258001 := n1_; have HO_263001 := n2_; have BK242 := n3_; have BK252 := n4_; have BK257 := n5_; have BK262 := n6_; have HB := n7_; clear n0_ n1_ n2_ n3_ n4_ n5_ n6_ n7_; (try clear hb); (try clear hkp); (try clear hy0); have hcz78_0 : w77.cell? ⟨gb262, 0, none⟩ = some (.int .i64 t258) := (blk_cell BK262.out 0).trans rfl; have hcz78_1 : w77.cell? ⟨gb262, 1, none⟩ = some (.slice Ao42 t259.length co42) := (blk_cell BK262.out 1).trans rfl; have hfz78_0 := blk_frozen BK262.out 0; have hfz78_1 := blk_frozen BK262.out 1) | ((with_reducible refine gate_callee (f := 33) rfl ?_); refine goesL_ (some 48) rfl rfl Try.func33 (by kernel_rfl) rfl #[.agg #[.int .i64 t258, .slice Ao42 t273.length co42], .int .i64 1] rfl (by (try simp only [List.map_toArray, List.map_cons, List.map_nil]); first | done | (rw [show t273.length = t259.length from (Kd.R_reads' HO_263001.out).1.symm] <;> rfl) | rfl | (simp only [List.length_drop, List.length_take]; rfl)) ?_; (with_reducible refine (laws_heldGraph.calls kj16 t258 _ _ t273 1 t274 _ ?side1 ?side2 A63.out).mono ?_); (case side1 => repeat (first | exact (Kd.R_reads' HO_263001.out).2.2 | (with_reducible refine Kd.C_alloc ?_ _) | (with_reducible refine Kd.C_drewN ?_ _) | (with_reducible refine Kd.C_drew ?_))); (case side2 => rw [show t273.length = t259.length from (Kd.R_reads' HO_263001.out).1.symm]; exact (Kd.R_reads' HO_263001.out).2.1); rintro e w79 ⟨rfl, hb⟩; refine ⟨_, rfl, ?_⟩; have n0_ := Aside0.mk (Kd.R_below (by (with_reducible repeat (first | apply Kd.R_alloc | apply Kd.R_drewN | apply Kd.R_drew)); exact HO_253001.out) hb); have n1_ := Aside0.mk (Kd.R_below (by (with_reducible repeat (first | apply Kd.R_alloc | apply Kd.R_drewN | apply Kd.R_drew)); exact HO_258001.out) hb); have n2_ := Aside0.mk (Kd.R_below (by (with_reducible repeat (first | apply Kd.R_alloc | apply Kd.R_drewN | apply Kd.R_drew)); exact HO_263001.out) hb); have n3_ := Aside0.mk (blk_below (g := gb242) (o := .cells #[.int .i64 a0_0, .slice A0_1 l0_1.length c0_1] 24 (0, 0)) (by (with_reducible repeat (first | refine blk_drewN ?_ _ | refine blk_drew ?_ | refine blk_alloc ?_ _)); exact BK242.out) hb); have n4_ := Aside0.mk (blk_below (g := gb252) (o := .cells #[.int .i64 t248, .slice Ao28 t249.length co28] 53 (0, 0)) (by (with_reducible repeat (first | refine blk_drewN ?_ _ | refine blk_drew ?_ | refine blk_alloc ?_ _)); exact BK252.out) hb); have n5_ := Aside0.mk (blk_below (g := gb257) (o := .cells #[.int .i64 t253, .slice Ao35 t270.length co35] 29 (0, 0)) (by (with_reducible repeat (first | refine blk_drewN ?_ _ | refine blk_drew ?_ | refine blk_alloc ?_ _)); exact BK257.out) hb); have n6_ := Aside0.mk (blk_below (g := gb262) (o := .cells #[.int .i64 t258, .slice Ao42 t259.length co42] 53 (0, 0)) (by (with_reducible repeat (first | refine blk_drewN ?_ _ | refine blk_drew ?_ | refine blk_alloc ?_ _)); exact BK262.out) hb); have n7_ := Aside0.mk (below_step (by repeat (first | (with_reducible first | exact HB.out | apply below_alloc | apply pw_below_drewN | apply below_drew1 | refine below_set ?_ GE242.out | refine below_set ?_ GE252.out | refine below_set ?_ GE257.out | refine below_set ?_ GE262.out) | exact HB.out)) hb); clear HO_253001; clear HO_258001; clear HO_263001; clear BK242; clear BK252; clear BK257; clear BK262; clear HB; have HO_253001 := n0_; have HO_258001 := n1_; have HO_263001 := n2_; have BK242 := n3_; have BK252 := n4_; have BK257 := n5_; have BK262 := n6_; have HB := n7_; clear n0_ n1_ n2_ n3_ n4_ n5_ n6_ n7_; (try clear hb); (try clear hb2); (try clear hk); (try clear hi); have hnb80 := NB242_252.out; have hnc80 := NB252_242.out; have hnb81 := NB242_257.out; have hnc81 := NB257_242.out; have hcz82_0 : w79.cell? ⟨gb242, 0, none⟩ = some (.int .i64 a0_0) := (blk_cell BK242.out 0).trans rfl; have hcz82_1 : w79.cell? ⟨gb242, 1, none⟩ = some (.slice A0_1 l0_1.length c0_1) := (blk_cell BK242.out 1).trans rfl; have hfz82_0 := blk_frozen BK242.out 0; have hfz82_1 := blk_frozen BK242.out 1) | ((with_reducible refine gate_callee (f := 13) rfl ?_); refine goesL_ (some 55) rfl rfl Try.func13 (by kernel_rfl) rfl #[.agg #[.int .i64 a0_0, .slice A0_1 l0_1.length c0_1]] rfl (by (try simp only [List.map_toArray, List.map_cons, List.map_nil]); first | done | rfl | (simp only [List.length_drop, List.length_take]; rfl)) ?_; (with_reducible refine (laws_toSimple.calls kj16 a0_0 _ _ l0_1 t275 t276 _ ?side1 ?side2 A66.out).mono ?_); (case side1 => repeat (first | exact (Kd.C_below HR0_1.out HB.out) | (with_reducible refine Kd.C_alloc ?_ _) | (with_reducible refine Kd.C_drewN ?_ _) | (with_reducible refine Kd.C_drew ?_))); (case side2 => exact HC0_1.out); rintro e w83 ⟨v277, rfl, ho0, hb⟩; refine ⟨_, rfl, ?_⟩; have n0_ := Aside0.mk (Kd.R_below (by (with_reducible repeat (first | apply Kd.R_alloc | apply Kd.R_drewN | apply Kd.R_drew)); exact HO_253001.out) hb); have n1_ := Aside0.mk (Kd.R_elder' (by (with_reducible repeat (first | apply Kd.R_alloc | apply Kd.R_drewN | apply Kd.R_drew)); exact HO_258001.out) (Kd.R_base ho0) hb); have n2_ := Aside0.mk (Kd.R_below (by (with_reducible repeat (first | apply Kd.R_alloc | apply Kd.R_drewN | apply Kd.R_drew)); exact HO_263001.out) hb); have n3_ := Aside0.mk (Kd.R_lower (Kd.R_new' ho0 (Kd.R_lt (by (with_reducible repeat (first | apply Kd.R_alloc | apply Kd.R_drewN | apply Kd.R_drew)); exact HO_258001.out))) (below_size (by repeat (first | (with_reducible first | exact HB.out | apply below_alloc | apply pw_below_drewN | apply below_drew1 | refine below_set ?_ GE242.out | refine below_set ?_ GE252.out | refine below_set ?_ GE257.out | refine below_set ?_ GE262.out) | exact HB.out)))); have n4_ := Aside0.mk (blk_below (g := gb242) (o := .cells #[.int .i64 a0_0, .slice A0_1 l0_1.length c0_1] 24 (0, 0)) (by (with_reducible repeat (first | refine blk_drewN ?_ _ | refine blk_drew ?_ | refine blk_alloc ?_ _)); exact BK242.out) hb); have n5_ := Aside0.mk (blk_below (g := gb252) (o := .cells #[.int .i64 t248, .slice Ao28 t249.length co28] 53 (0, 0)) (by (with_reducible repeat (first | refine blk_drewN ?_ _ | refine blk_drew ?_ | refine blk_alloc ?_ _)); exact BK252.out) hb); have n6_ := Aside0.mk (blk_below (g := gb257) (o := .cells #[.int .i64 t253, .slice Ao35 t270.length co35] 29 (0, 0)) (by (with_reducible repeat (first | refine blk_drewN ?_ _ | refine blk_drew ?_ | refine blk_alloc ?_ _)); exact BK257.out) hb); have n7_ := Aside0.mk (blk_below (g := gb262) (o := .cells #[.int .i64 t258, .slice Ao42 t259.length co42] 53 (0, 0)) (by (with_reducible repeat (first | refine blk_drewN ?_ _ | refine blk_drew ?_ | refine blk_alloc ?_ _)); exact BK262.out) hb); have n8_ := Aside0.mk (below_step (by repeat (first | (with_reducible first | exact HB.out | apply below_alloc | apply pw_below_drewN | apply below_drew1 | refine below_set ?_ GE242.out | refine below_set ?_ GE252.out | refine below_set ?_ GE257.out | refine below_set ?_ GE262.out) | exact HB.out)) hb); clear HO_253001; clear HO_258001; clear HO_263001; clear BK242; clear BK252; clear BK257; clear BK262; clear HB; have HO_253001 := n0_; have HO_258001 := n1_; have HO_263001 := n2_; have HO278 := n3_; have BK242 := n4_; have BK252 := n5_; have BK257 := n6_; have BK262 := n7_; have HB := n8_; clear n0_ n1_ n2_ n3_ n4_ n5_ n6_ n7_ n8_; (try clear hb); (try clear hb2); (try clear hk); (try clear hi); (try clear ho0); obtain ⟨Ao84, co84, eo84⟩ := Kd.R_slice HO278.out; subst eo84) | ((with_reducible refine gate_callee (f := 30) rfl ?_); refine goesL_ (some 56) rfl rfl Try.func30 (by kernel_rfl) rfl #[.agg #[.int .i64 t275, .slice Ao84 t276.length co84]] rfl (by (try simp only [List.map_toArray, List.map_cons, List.map_nil]); first | done | rfl | (simp only [List.length_drop, List.length_take]; rfl)) ?_; (with_reducible refine (impl_GraphOf.calls kj16 t275 _ _ t276 t279 t280 _ ?side1 ?side2 A67.out).mono ?_); (case side1 => repeat (first | exact (Kd.R_reads' HO278.out).2.2 | (with_reducible refine Kd.C_alloc ?_ _) | (with_reducible refine Kd.C_drewN ?_ _) | (with_reducible refine Kd.C_drew ?_))); (case side2 => exact (Kd.R_reads' HO278.out).2.1); rintro e w85 ⟨v281, rfl, ho0, hb⟩; refine ⟨_, rfl, ?_⟩; have n0_ := Aside0.mk (Kd.R_elder' (by (with_reducible repeat (first | apply Kd.R_alloc | apply Kd.R_drewN | apply Kd.R_drew)); exact HO_253001.out) (Kd.R_base ho0) hb); have n1_ := Aside0.mk (Kd.R_below (by (with_reducible repeat (first | apply Kd.R_alloc | apply Kd.R_drewN | apply Kd.R_drew)); exact HO_258001.out) hb); have n2_ := Aside0.mk (Kd.R_elder' (by (with_reducible repeat (first | apply Kd.R_alloc | apply Kd.R_drewN | apply Kd.R_drew)); exact HO_263001.out) (Kd.R_base ho0) hb); have n3_ := Aside0.mk (Kd.R_below (by (with_reducible repeat (first | apply Kd.R_alloc | apply Kd.R_drewN | apply Kd.R_drew)); exact HO278.out) hb); have n4_ := Aside0.mk (Kd.R_lower (Kd.R_new' (Kd.R_new' ho0 (Kd.R_lt (by (with_reducible repeat (first | apply Kd.R_alloc | apply Kd.R_drewN | apply Kd.R_drew)); exact HO_253001.out))) (Kd.R_lt (by (with_reducible repeat (first | apply Kd.R_alloc | apply Kd.R_drewN | apply Kd.R_drew)); exact HO_263001.out))) (below_size (by repeat (first | (with_reducible first | exact HB.out | apply below_alloc | apply pw_below_drewN | apply below_drew1 | refine below_set ?_ GE242.out | refine below_set ?_ GE252.out | refine below_set ?_ GE257.out | refine below_set ?_ GE262.out) | exact HB.out)))); have n5_ := Aside0.mk (blk_below (g := gb242) (o := .cells #[.int .i64 a0_0, .slice A0_1 l0_1.length c0_1] 24 (0, 0)) (by (with_reducible repeat (first | refine blk_drewN ?_ _ | refine blk_drew ?_ | refine blk_alloc ?_ _)); exact BK242.out) hb); have n6_ := Aside0.mk (blk_below (g := gb252) (o := .cells #[.int .i64 t248, .slice Ao28 t249.length co28] 53 (0, 0)) (by (with_reducible repeat (first | refine blk_drewN ?_ _ | refine blk_drew ?_ | refine blk_alloc ?_ _)); exact BK252.out) hb); have n7_ := Aside0.mk (blk_below (g := gb257) (o := .cells #[.int .i64 t253, .slice Ao35 t270.length co35] 29 (0, 0)) (by (with_reducible repeat (first | refine blk_drewN ?_ _ | refine blk_drew ?_ | refine blk_alloc ?_ _)); exact BK257.out) hb); have n8_ := Aside0.mk (blk_below (g := gb262) (o := .cells #[.int .i64 t258, .slice Ao42 t259.length co42] 53 (0, 0)) (by (with_reducible repeat (first | refine blk_drewN ?_ _ | refine blk_drew ?_ | refine blk_alloc ?_ _)); exact BK262.out) hb); have n9_ := Aside0.mk (below_step (by repeat (first | (with_reducible first | exact HB.out | apply below_alloc | apply pw_below_drewN | apply below_drew1 | refine below_set ?_ GE242.out | refine below_set ?_ GE252.out | refine below_set ?_ GE257.out | refine below_set ?_ GE262.out) | exact HB.out)) hb); clear HO_253001; clear HO_258001; clear HO_263001; clear HO278; clear BK242; clear BK252; clear BK257; clear BK262; clear HB; have HO_253001 := n0_; have HO_258001 := n1_; have HO_263001 := n2_; have HO278 := n3_; have HO282 := n4_; have BK242 := n5_; have BK252 := n6_; have BK257 := n7_; have BK262 := n8_; have HB := n9_; clear n0_ n1_ n2_ n3_ n4_ n5_ n6_ n7_ n8_ n9_; (try clear hb); (try clear hb2); (try clear hk); (try clear hi); (try clear ho0)) | ((with_reducible refine gate_dst (N := 10) rfl ?_); refine box_event ?hg (N := 10) ?hd (cs := #[.int .i64 0, .slice none 0 0]) (t := 53) ?hr ?_; (case hd => rfl); (case hg => rfl); (case hr => first | (go_simp; done) | (go_simp; rfl)); intro gb283 hg w86 hbox hb; have n0_ := Aside0.mk (Kd.R_below (by (with_reducible repeat (first | apply Kd.R_alloc | apply Kd.R_drewN | apply Kd.R_drew)); exact HO_253001.out) hb); have n1_ := Aside0.mk (Kd.R_below (by (with_reducible repeat (first | apply Kd.R_alloc | apply Kd.R_drewN | apply Kd.R_drew)); exact HO_258001.out) hb); have n2_ := Aside0.mk (Kd.R_below (by (with_reducible repeat (first | apply Kd.R_alloc | apply Kd.R_drewN | apply Kd.R_drew)); exact HO_263001.out) hb); have n3_ := Aside0.mk (Kd.R_below (by (with_reducible repeat (first | apply Kd.R_alloc | apply Kd.R_drewN | apply Kd.R_drew)); exact HO278.out) hb); have n4_ := Aside0.mk (Kd.R_below (by (with_reducible repeat (first | apply Kd.R_alloc | apply Kd.R_drewN | apply Kd.R_drew)); exact HO282.out) hb); have n5_ := Aside0.mk (blk_below (g := gb242) (o := .cells #[.int .i64 a0_0, .slice A0_1 l0_1.length c0_1] 24 (0, 0)) (by (with_reducible repeat (first | refine blk_drewN ?_ _ | refine blk_drew ?_ | refine blk_alloc ?_ _)); exact BK242.out) hb); have n6_ := Aside0.mk (blk_below (g := gb252) (o := .cells #[.int .i64 t248, .slice Ao28 t249.length co28] 53 (0, 0)) (by (with_reducible repeat (first | refine blk_drewN ?_ _ | refine blk_drew ?_ | refine blk_alloc ?_ _)); exact BK252.out) hb); have n7_ := Aside0.mk (blk_below (g := gb257) (o := .cells #[.int .i64 t253, .slice Ao35 t270.length co35] 29 (0, 0)) (by (with_reducible repeat (first | refine blk_drewN ?_ _ | refine blk_drew ?_ | refine blk_alloc ?_ _)); exact BK257.out) hb); have n8_ := Aside0.mk (blk_below (g := gb262) (o := .cells #[.int .i64 t258, .slice Ao42 t259.length co42] 53 (0, 0)) (by (with_reducible repeat (first | refine blk_drewN ?_ _ | refine blk_drew ?_ | refine blk_alloc ?_ _)); exact BK262.out) hb); have n9_ := Aside0.mk (below_step (by repeat (first | (with_reducible first | exact HB.out | apply below_alloc | apply pw_below_drewN | apply below_drew1 | refine below_set ?_ GE242.out | refine below_set ?_ GE252.out | refine below_set ?_ GE257.out | refine below_set ?_ GE262.out) | exact HB.out)) hb); have n10_ := Aside0.mk (hbox); have n11_ := Aside0.mk ((by rw [hg]; exact (below_size (by repeat (first | (with_reducible first | exact HB.out | apply below_alloc | apply pw_below_drewN | apply below_drew1 | refine below_set ?_ GE242.out | refine below_set ?_ GE252.out | refine below_set ?_ GE257.out | refine below_set ?_ GE262.out) | exact HB.out))) : w.heap.size ≤ gb283)); have n12_ := Aside0.mk ((by rw [hg]; exact (below_size (by repeat (first | (with_reducible first | exact HB.out | apply below_alloc | apply pw_below_drewN | apply below_drew1 | refine below_set ?_ GE242.out | refine below_set ?_ GE252.out | refine below_set ?_ GE257.out | refine below_set ?_ GE262.out) | exact HB.out))) : w.heap.size ≤ gb283)); have n13_ := Aside0.mk ((by rw [hg]; exact Nat.ne_of_lt (blk_lt (g := gb242) (o := .cells #[.int .i64 a0_0, .slice A0_1 l0_1.length c0_1] 24 (0, 0)) (by (with_reducible repeat (first | refine blk_drewN ?_ _ | refine blk_drew ?_ | refine blk_alloc ?_ _)); exact BK242.out)) : gb242 ≠ gb283)); have n14_ := Aside0.mk ((by rw [hg]; exact Nat.ne_of_gt (blk_lt (g := gb242) (o := .cells #[.int .i64 a0_0, .slice A0_1 l0_1.length c0_1] 24 (0, 0)) (by (with_reducible repeat (first | refine blk_drewN ?_ _ | refine blk_drew ?_ | refine blk_alloc ?_ _)); exact BK242.out)) : gb283 ≠ gb242)); have n15_ := Aside0.mk ((by rw [hg]; exact Nat.ne_of_lt (blk_lt (g := gb252) (o := .cells #[.int .i64 t248, .slice Ao28 t249.length co28] 53 (0, 0)) (by (with_reducible repeat (first | refine blk_drewN ?_ _ | refine blk_drew ?_ | refine blk_alloc ?_ _)); exact BK252.out)) : gb252 ≠ gb283)); have n16_ := Aside0.mk ((by rw [hg]; exact Nat.ne_of_gt (blk_lt (g := gb252) (o := .cells #[.int .i64 t248, .slice Ao28 t249.length co28] 53 (0, 0)) (by (with_reducible repeat (first | refine blk_drewN ?_ _ | refine blk_drew ?_ | refine blk_alloc ?_ _)); exact BK252.out)) : gb283 ≠ gb252)); have n17_ := Aside0.mk ((by rw [hg]; exact Nat.ne_of_lt (blk_lt (g := gb257) (o := .cells #[.int .i64 t253, .slice Ao35 t270.length co35] 29 (0, 0)) (by (with_reducible repeat (first | refine blk_drewN ?_ _ | refine blk_drew ?_ | refine blk_alloc ?_ _)); exact BK257.out)) : gb257 ≠ gb283)); have n18_ := Aside0.mk ((by rw [hg]; exact Nat.ne_of_gt (blk_lt (g := gb257) (o := .cells #[.int .i64 t253, .slice Ao35 t270.length co35] 29 (0, 0)) (by (with_reducible repeat (first | refine blk_drewN ?_ _ | refine blk_drew ?_ | refine blk_alloc ?_ _)); exact BK257.out)) : gb283 ≠ gb257)); have n19_ := Aside0.mk ((by rw [hg]; exact Nat.ne_of_lt (blk_lt (g := gb262) (o := .cells #[.int .i64 t258, .slice Ao42 t259.length co42] 53 (0, 0)) (by (with_reducible repeat (first | refine blk_drewN ?_ _ | refine blk_drew ?_ | refine blk_alloc ?_ _)); exact BK262.out)) : gb262 ≠ gb283)); have n20_ := Aside0.mk ((by rw [hg]; exact Nat.ne_of_gt (blk_lt (g := gb262) (o := .cells #[.int .i64 t258, .slice Ao42 t259.length co42] 53 (0, 0)) (by (with_reducible repeat (first | refine blk_drewN ?_ _ | refine blk_drew ?_ | refine blk_alloc ?_ _)); exact BK262.out)) : gb283 ≠ gb262)); clear HO_253001; clear HO_258001; clear HO_263001; clear HO278; clear HO282; clear BK242; clear BK252; clear BK257; clear BK262; clear HB; have HO_253001 := n0_; have HO_258001 := n1_; have HO_263001 := n2_; have HO278 := n3_; have HO282 := n4_; have BK242 := n5_; have BK252 := n6_; have BK257 := n7_; have BK262 := n8_; have HB := n9_; have BK283 := n10_; have GW283 := n11_; have GE283 := n12_; have NB242_283 := n13_; have NB283_242 := n14_; have NB252_283 := n15_; have NB283_252 := n16_; have NB257_283 := n17_; have NB283_257 := n18_; have NB262_283 := n19_; have NB283_262 := n20_; clear n0_ n1_ n2_ n3_ n4_ n5_ n6_ n7_ n8_ n9_ n10_ n11_ n12_ n13_ n14_ n15_ n16_ n17_ n18_ n19_ n20_; clear hb hbox hg; have hnb87 := NB283_242.out; have hnc87 := NB242_283.out; have hnb88 := NB283_252.out; have hnc88 := NB252_283.out; have hnb89 := NB283_257.out; have hnc89 := NB257_283.out; have hnb90 := NB283_262.out; have hnc90 := NB262_283.out; have hcz91_0 : w86.cell? ⟨gb283, 0, none⟩ = some (.int .i64 0) := (blk_cell BK283.out 0).trans rfl; have hcz91_1 : w86.cell? ⟨gb283, 1, none⟩ = some (.slice none 0 0) := (blk_cell BK283.out 1).trans rfl; have hfz91_0 := blk_frozen BK283.out 0; have hfz91_1 := blk_frozen BK283.out 1; obtain ⟨Ao92, co92, eo92⟩ := Kd.R_slice HO282.out; subst eo92; have hnb93 := NB252_257.out; have hnc93 := NB257_252.out; have hcz94_0 : w86.cell? ⟨gb252, 0, none⟩ = some (.int .i64 t248) := (blk_cell BK252.out 0).trans rfl; have hcz94_1 : w86.cell? ⟨gb252, 1, none⟩ = some (.slice Ao28 t249.length co28) := (blk_cell BK252.out 1).trans rfl; have hfz94_0 := blk_frozen BK252.out 0; have hfz94_1 := blk_frozen BK252.out 1) | ((with_reducible refine gate_callee (f := 31) rfl ?_); refine goesL_ (some 59) rfl rfl Try.func31 (by kernel_rfl) rfl #[.agg #[.int .i64 t279, .slice Ao92 t280.length co92], .agg #[.int .i64 t248, .slice Ao28 t249.length co28]] rfl (by (try simp only [List.map_toArray, List.map_cons, List.map_nil]); first | done | rfl | (simp only [List.length_drop, List.length_take]; rfl)) ?_; (with_reducible refine (laws_eqGraph.calls kj16 t279 _ _ t280 t248 _ _ t249 true _ ?side1 ?side2 ?side3 ?side4 A68.out).mono ?_); (case side1 => refine (Kd.R_reads' (e := 86) (base := w.heap.size) (ok := fun k_ => ((True ∧ some k_ ≠ (.slice Ao28 t249.length co28 : Value).ownBlock) ∧ some k_ ≠ (.slice Ao42 t259.length co42 : Value).ownBlock)) (n := t280.length) (c := co92) ?_).2.2; exact (by (with_reducible repeat (first | apply Kd.R_alloc | apply Kd.R_drewN | apply Kd.R_drew)); exact (Kd.R_mono (Kd.R_far (p := ⟨gb283, 1, none⟩) (Kd.R_far (p := ⟨gb283, 0, none⟩) (Kd.R_types HO282.out BK283.out (by decide)) (fun _ hk => hk.2) (.int .i64 t279)) (fun _ hk => hk.2) (.slice Ao92 t280.length co92)) (fun _ h_ => h_.1)))); (case side2 => exact (Kd.R_reads' HO282.out).2.1); (case side3 => refine (Kd.R_reads' (e := 86) (base := w.heap.size) (ok := fun k_ => (some k_ ≠ (.slice Ao42 t259.length co42 : Value).ownBlock ∧ some k_ ≠ (.slice Ao92 t280.length co92 : Value).ownBlock)) (n := t249.length) (c := co28) ?_).2.2; exact (by (with_reducible repeat (first | apply Kd.R_alloc | apply Kd.R_drewN | apply Kd.R_drew)); exact (Kd.R_mono (Kd.R_far (p := ⟨gb283, 1, none⟩) (Kd.R_far (p := ⟨gb283, 0, none⟩) (Kd.R_types HO_253001.out BK283.out (by decide)) (fun _ hk => hk.2) (.int .i64 t279)) (fun _ hk => hk.2) (.slice Ao92 t280.length co92)) (fun _ h_ => h_.1)))); (case side4 => exact (Kd.R_reads' HO_253001.out).2.1); rintro e w95 ⟨rfl, hb⟩; refine ⟨_, rfl, ?_⟩; have n0_ := Aside0.mk (Kd.R_below (by (with_reducible repeat (first | apply Kd.R_alloc | apply Kd.R_drewN | apply Kd.R_drew)); exact (Kd.R_mono (Kd.R_far (p := ⟨gb283, 1, none⟩) (Kd.R_far (p := ⟨gb283, 0, none⟩) (Kd.R_types HO_253001.out BK283.out (by decide)) (fun _ hk => hk.2) (.int .i64 t279)) (fun _ hk => hk.2) (.slice Ao92 t280.length co92)) (fun _ h_ => h_.1))) hb); have n1_ := Aside0.mk (Kd.R_below (by (with_reducible repeat (first | apply Kd.R_alloc | apply Kd.R_drewN | apply Kd.R_drew)); exact (Kd.R_mono (Kd.R_far (p := ⟨gb283, 1, none⟩) (Kd.R_far (p := ⟨gb283, 0, none⟩) (Kd.R_types HO_258001.out BK283.out (by decide)) (fun _ hk => hk.2) (.int .i64 t279)) (fun _ hk => hk.2) (.slice Ao92 t280.length co92)) (fun _ h_ => h_.1))) hb); have n2_ := Aside0.mk (Kd.R_below (by (with_reducible repeat (first | apply Kd.R_alloc | apply Kd.R_drewN | apply Kd.R_drew)); exact (Kd.R_mono (Kd.R_far (p := ⟨gb283, 1, none⟩) (Kd.R_far (p := ⟨gb283, 0, none⟩) (Kd.R_types HO_263001.out BK283.out (by decide)) (fun _ hk => hk.2) (.int .i64 t279)) (fun _ hk => hk.2) (.slice Ao92 t280.length co92)) (fun _ h_ => h_.1))) hb); have n3_ := Aside0.mk (Kd.R_below (by (with_reducible repeat (first | apply Kd.R_alloc | apply Kd.R_drewN | apply Kd.R_drew)); exact (Kd.R_mono (Kd.R_far (p := ⟨gb283, 1, none⟩) (Kd.R_far (p := ⟨gb283, 0, none⟩) (Kd.R_types HO278.out BK283.out (by decide)) (fun _ hk => hk.2) (.int .i64 t279)) (fun _ hk => hk.2) (.slice Ao92 t280.length co92)) (fun _ h_ => h_.1))) hb); have n4_ := Aside0.mk (Kd.R_below (by (with_reducible repeat (first | apply Kd.R_alloc | apply Kd.R_drewN | apply Kd.R_drew)); exact (Kd.R_mono (Kd.R_far (p := ⟨gb283, 1, none⟩) (Kd.R_far (p := ⟨gb283, 0, none⟩) (Kd.R_types HO282.out BK283.out (by decide)) (fun _ hk => hk.2) (.int .i64 t279)) (fun _ hk => hk.2) (.slice Ao92 t280.length co92)) (fun _ h_ => h_.1))) hb); have n5_ := Aside0.mk (blk_below (g := gb242) (o := .cells #[.int .i64 a0_0, .slice A0_1 l0_1.length c0_1] 24 (0, 0)) (by (with_reducible repeat (first | refine blk_drewN ?_ _ | refine blk_drew ?_ | refine blk_alloc ?_ _)); refine blk_far ?_ NB242_283.out _; (with_reducible repeat (first | refine blk_drewN ?_ _ | refine blk_drew ?_ | refine blk_alloc ?_ _)); refine blk_far ?_ NB242_283.out _; (with_reducible repeat (first | refine blk_drewN ?_ _ | refine blk_drew ?_ | refine blk_alloc ?_ _)); exact BK242.out) hb); have n6_ := Aside0.mk (blk_below (g := gb252) (o := .cells #[.int .i64 t248, .slice Ao28 t249.length co28] 53 (0, 0)) (by (with_reducible repeat (first | refine blk_drewN ?_ _ | refine blk_drew ?_ | refine blk_alloc ?_ _)); refine blk_far ?_ NB252_283.out _; (with_reducible repeat (first | refine blk_drewN ?_ _ | refine blk_drew ?_ | refine blk_alloc ?_ _)); refine blk_far ?_ NB252_283.out _; (with_reducible repeat (first | refine blk_drewN ?_ _ | refine blk_drew ?_ | refine blk_alloc ?_ _)); exact BK252.out) hb); have n7_ := Aside0.mk (blk_below (g := gb257) (o := .cells #[.int .i64 t253, .slice Ao35 t270.length co35] 29 (0, 0)) (by (with_reducible repeat (first | refine blk_drewN ?_ _ | refine blk_drew ?_ | refine blk_alloc ?_ _)); refine blk_far ?_ NB257_283.out _; (with_reducible repeat (first | refine blk_drewN ?_ _ | refine blk_drew ?_ | refine blk_alloc ?_ _)); refine blk_far ?_ NB257_283.out _; (with_reducible repeat (first | refine blk_drewN ?_ _ | refine blk_drew ?_ | refine blk_alloc ?_ _)); exact BK257.out) hb); have n8_ := Aside0.mk (blk_below (g := gb262) (o := .cells #[.int .i64 t258, .slice Ao42 t259.length co42] 53 (0, 0)) (by (with_reducible repeat (first | refine blk_drewN ?_ _ | refine blk_drew ?_ | refine blk_alloc ?_ _)); refine blk_far ?_ NB262_283.out _; (with_reducible repeat (first | refine blk_drewN ?_ _ | refine blk_drew ?_ | refine blk_alloc ?_ _)); refine blk_far ?_ NB262_283.out _; (with_reducible repeat (first | refine blk_drewN ?_ _ | refine blk_drew ?_ | refine blk_alloc ?_ _)); exact BK262.out) hb); have n9_ := Aside0.mk (blk_below (g := gb283) (o := .cells #[.int .i64 t279, .slice Ao92 t280.length co92] 53 (0, 0)) (by (with_reducible repeat (first | refine blk_drewN ?_ _ | refine blk_drew ?_ | refine blk_alloc ?_ _)); refine blk_put (cs := #[.int .i64 t279, .slice none 0 0]) ?_ 1 _ rfl; (with_reducible repeat (first | refine blk_drewN ?_ _ | refine blk_drew ?_ | refine blk_alloc ?_ _)); refine blk_put (cs := #[.int .i64 0, .slice none 0 0]) ?_ 0 _ rfl; (with_reducible repeat (first | refine blk_drewN ?_ _ | refine blk_drew ?_ | refine blk_alloc ?_ _)); exact BK283.out) hb); have n10_ := Aside0.mk (below_step (by repeat (first | (with_reducible first | exact HB.out | apply below_alloc | apply pw_below_drewN | apply below_drew1 | refine below_set ?_ GE242.out | refine below_set ?_ GE252.out | refine below_set ?_ GE257.out | refine below_set ?_ GE262.out | refine below_set ?_ GE283.out) | exact HB.out)) hb); clear HO_253001; clear HO_258001; clear HO_263001; clear HO278; clear HO282; clear BK242; clear BK252; clear BK257; clear BK262; clear BK283; clear HB; have HO_253001 := n0_; have HO_258001 := n1_; have HO_263001 := n2_; have HO278 := n3_; have HO282 := n4_; have BK242 := n5_; have BK252 := n6_; have BK257 := n7_; have BK262 := n8_; have BK283 := n9_; have HB := n10_; clear n0_ n1_ n2_ n3_ n4_ n5_ n6_ n7_ n8_ n9_ n10_; (try clear hb); (try clear hb2); (try clear hk); (try clear hi); have hcz96_0 : w95.cell? ⟨gb262, 0, none⟩ = some (.int .i64 t258) := (blk_cell BK262.out 0).trans rfl; have hcz96_1 : w95.cell? ⟨gb262, 1, none⟩ = some (.slice Ao42 t259.length co42) := (blk_cell BK262.out 1).trans rfl; have hfz96_0 := blk_frozen BK262.out 0; have hfz96_1 := blk_frozen BK262.out 1) | ((with_reducible refine gate_callee (f := 33) rfl ?_); refine goesL_ (some 63) rfl rfl Try.func33 (by kernel_rfl) rfl #[.agg #[.int .i64 t258, .slice Ao42 t273.length co42], .int .i64 1] rfl (by (try simp only [List.map_toArray, List.map_cons, List.map_nil]); first | done | (rw [show t273.length = t259.length from (Kd.R_reads' HO_263001.out).1.symm] <;> rfl) | rfl | (simp only [List.length_drop, List.length_take]; rfl)) ?_; (with_reducible refine (laws_heldGraph.calls kj16 t258 _ _ t273 1 t285 _ ?side1 ?side2 A70.out).mono ?_); (case side1 => repeat (first | exact (Kd.R_reads' HO_263001.out).2.2 | (with_reducible refine Kd.C_alloc ?_ _) | (with_reducible refine Kd.C_drewN ?_ _) | (with_reducible refine Kd.C_drew ?_))); (case side2 => rw [show t273.length = t259.length from (Kd.R_reads' HO_263001.out).1.symm]; exact (Kd.R_reads' HO_263001.out).2.1); rintro e w97 ⟨rfl, hb⟩; refine ⟨_, rfl, ?_⟩; have n0_ := Aside0.mk (Kd.R_below (by (with_reducible repeat (first | apply Kd.R_alloc | apply Kd.R_drewN | apply Kd.R_drew)); exact HO_253001.out) hb); have n1_ := Aside0.mk (Kd.R_below (by (with_reducible repeat (first | apply Kd.R_alloc | apply Kd.R_drewN | apply Kd.R_drew)); exact HO_258001.out) hb); have n2_ := Aside0.mk (Kd.R_below (by (with_reducible repeat (first | apply Kd.R_alloc | apply Kd.R_drewN | apply Kd.R_drew)); exact HO_263001.out) hb); have n3_ := Aside0.mk (Kd.R_below (by (with_reducible repeat (first | apply Kd.R_alloc | apply Kd.R_drewN | apply Kd.R_drew)); exact HO278.out) hb); have n4_ := Aside0.mk (Kd.R_below (by (with_reducible repeat (first | apply Kd.R_alloc | apply Kd.R_drewN | apply Kd.R_drew)); exact HO282.out) hb); have n5_ := Aside0.mk (blk_below (g := gb242) (o := .cells #[.int .i64 a0_0, .slice A0_1 l0_1.length c0_1] 24 (0, 0)) (by (with_reducible repeat (first | refine blk_drewN ?_ _ | refine blk_drew ?_ | refine blk_alloc ?_ _)); exact BK242.out) hb); have n6_ := Aside0.mk (blk_below (g := gb252) (o := .cells #[.int .i64 t248, .slice Ao28 t249.length co28] 53 (0, 0)) (by (with_reducible repeat (first | refine blk_drewN ?_ _ | refine blk_drew ?_ | refine blk_alloc ?_ _)); exact BK252.out) hb); have n7_ := Aside0.mk (blk_below (g := gb257) (o := .cells #[.int .i64 t253, .slice Ao35 t270.length co35] 29 (0, 0)) (by (with_reducible repeat (first | refine blk_drewN ?_ _ | refine blk_drew ?_ | refine blk_alloc ?_ _)); exact BK257.out) hb); have n8_ := Aside0.mk (blk_below (g := gb262) (o := .cells #[.int .i64 t258, .slice Ao42 t259.length co42] 53 (0, 0)) (by (with_reducible repeat (first | refine blk_drewN ?_ _ | refine blk_drew ?_ | refine blk_alloc ?_ _)); exact BK262.out) hb); have n9_ := Aside0.mk (blk_below (g := gb283) (o := .cells #[.int .i64 t279, .slice Ao92 t280.length co92] 53 (0, 0)) (by (with_reducible repeat (first | refine blk_drewN ?_ _ | refine blk_drew ?_ | refine blk_alloc ?_ _)); exact BK283.out) hb); have n10_ := Aside0.mk (below_step (by repeat (first | (with_reducible first | exact HB.out | apply below_alloc | apply pw_below_drewN | apply below_drew1 | refine below_set ?_ GE242.out | refine below_set ?_ GE252.out | refine below_set ?_ GE257.out | refine below_set ?_ GE262.out | refine below_set ?_ GE283.out) | exact HB.out)) hb); clear HO_253001; clear HO_258001; clear HO_263001; clear HO278; clear HO282; clear BK242; clear BK252; clear BK257; clear BK262; clear BK283; clear HB; have HO_253001 := n0_; have HO_258001 := n1_; have HO_263001 := n2_; have HO278 := n3_; have HO282 := n4_; have BK242 := n5_; have BK252 := n6_; have BK257 := n7_; have BK262 := n8_; have BK283 := n9_; have HB := n10_; clear n0_ n1_ n2_ n3_ n4_ n5_ n6_ n7_ n8_ n9_ n10_; (try clear hb); (try clear hb2); (try clear hk); (try clear hi)))
    go_ret
    exact ⟨by first | rfl | (simp [errW_none, errW_some] <;> rfl) | (simp [*, errW_none, errW_some] <;> rfl), by repeat (first | (with_reducible first | exact HB.out | apply below_alloc | apply pw_below_drewN | apply below_drew1 | refine below_set ?_ GE242.out | refine below_set ?_ GE252.out | refine below_set ?_ GE257.out | refine below_set ?_ GE262.out | refine below_set ?_ GE283.out) | exact HB.out)⟩

/-- THE ONE PURE STATEMENT of laws_FnExactGraphOf: yours. -/
def laws_FnExactGraphOf.Pure : Prop := ∀ (a0_0 : Int) (l0_1 : List (S42)), (Lit.int .i64 a0_0).wf = true → l0_1.length ≤ maxLen → (∀ yl0_1 ∈ l0_1, (Lit.int .i64 yl0_1.f0).wf = true ∧ (Lit.int .i64 yl0_1.f1).wf = true ∧ (Lit.int .i64 yl0_1.f2.f0).wf = true ∧ (Lit.int .i64 yl0_1.f2.f1).wf = true) → ∃ k, laws_FnExactGraphOf.f k a0_0 l0_1 = some true
theorem laws_FnExactGraphOf.walk (P : laws_FnExactGraphOf.Pure) (a0_0 : Int) (A0_1 : Option Addr) (c0_1 : Nat) (l0_1 : List (S42)) (w : World) (hr0_1 : Kd.C k42 w A0_1 l0_1.length l0_1) (hc0_1 : l0_1.length ≤ c0_1) (q0_0 : (Lit.int .i64 a0_0).wf = true) (q0_1 : l0_1.length ≤ maxLen) (q0_2 : (∀ yl0_1 ∈ l0_1, (Lit.int .i64 yl0_1.f0).wf = true ∧ (Lit.int .i64 yl0_1.f1).wf = true ∧ (Lit.int .i64 yl0_1.f2.f0).wf = true ∧ (Lit.int .i64 yl0_1.f2.f1).wf = true)) :
    Calls Try.prog 8 #[.agg #[.int .i64 a0_0, .slice A0_1 l0_1.length c0_1]] w fun e w' => e = .returned (.bool true) ∧ Below w.heap.size w w' := by
  obtain ⟨k, h⟩ := P a0_0 l0_1 q0_0 q0_1 q0_2
  refine (laws_FnExactGraphOf.calls k a0_0 A0_1 c0_1 l0_1 true w hr0_1 hc0_1 h rfl).mono ?_
  rintro e w' ⟨rfl, hd⟩
  exact ⟨rfl, hd⟩

end Go.Proofs.Ytolecnichpnhnaa.QFnExactGraphOf
