-- Written by this session's program wip/tools/mk.py out of the translation; Lean checks it.
import Derived.Test.YtegkkbncnmakaaaQFnExactTightenTablex9a
namespace Go.Proofs.Ytegkkbncnmakaaa.QFnExactTightenTable
open Go.RowKit Go.Proofs.YtegkkbncnmakaaaW.PrintWords Go.Proofs.YtegkkbncnmakaaaW.PrintLast Go.Proofs.YtegkkbncnmakaaaW.PrintMore
attribute [local go_sem] max2_int min2_int max_two min_two max_three min_three max_four min_four   -- for this text's walks alone
set_option linter.unusedVariables false
set_option linter.unusedSimpArgs false


set_option maxHeartbeats 8000000 in
set_option maxRecDepth 100000 in
theorem laws_FnExactTightenTable.calls (k : Nat) (a0_0 : Int) (A0_1 : Option Addr) (c0_1 : Nat) (l0_1 : List Int) (a1_0 : Int) (a1_1 : Int) (a1_2 : Int) (r : Bool) (w : World) (hr0_1 : Kd.C (Kd.int .i64) w A0_1 l0_1.length l0_1) (hc0_1 : l0_1.length ≤ c0_1) (h : laws_FnExactTightenTable.f k a0_0 l0_1 a1_0 a1_1 a1_2 = some r) (hr_ : r = true) :
    Calls Try.prog 12 #[.agg #[.int .i64 a0_0, .slice A0_1 l0_1.length c0_1], .agg #[.int .i64 a1_0, .int .i64 a1_1, .int .i64 a1_2]] w fun e w' => e = .returned (.bool r) ∧ Below w.heap.size w w' := by
  have hu42 := Try.underlying42
  have hu68 := Try.underlying68
  have hu29 := Try.underlying29
  have HR0_1 := mK hr0_1
  have HC0_1 := mK hc0_1
  clear hr0_1 hc0_1
  have HB := mK (Below.refl w.heap.size w)
  have H : ((laws_szTable.f a0_0 l0_1 1048576).bind fun t191 => (if t191 < 0 then (some true) else ((laws_toTable.f k a0_0 l0_1).bind fun bt192 => ((laws_toEdge.f a1_0 a1_1 a1_2).bind fun bt196 => ((spec_TightenTable.f k bt192.1 bt192.2 bt196.1 bt196.2.1 bt196.2.2).bind fun bt199 => ((laws_toTable.f k a0_0 l0_1).bind fun bt205 => ((laws_toEdge.f a1_0 a1_1 a1_2).bind fun bt210 => ((impl_TightenTable.f k bt205.1 bt205.2 bt210.1 bt210.2.1 bt210.2.2).bind fun bt213 => ((laws_eqTable.f k bt213.1 bt213.2.1 bt199.1 bt199.2.1).bind fun t219 => (if t219 = true then (laws_FnExactTightenTable.j0 k bt199.2.2 bt213.2.2 (bt213.2.2 != bt199.2.2) a0_0 l0_1 a1_0 a1_1 a1_2 bt199.1 bt199.2.1 bt205.1 bt205.2 bt213.1 bt213.2.1) else (laws_FnExactTightenTable.j0 k bt199.2.2 bt213.2.2 true a0_0 l0_1 a1_0 a1_1 a1_2 bt199.1 bt199.2.1 bt205.1 bt205.2 bt213.1 bt213.2.1))))))))))) = some r := h
  clear h
  replace H := Option.bind_eq_some_iff.mp H
  obtain ⟨t191, A30, H⟩ := H
  replace H : (if t191 < 0 then (some true) else ((laws_toTable.f k a0_0 l0_1).bind fun bt192 => ((laws_toEdge.f a1_0 a1_1 a1_2).bind fun bt196 => ((spec_TightenTable.f k bt192.1 bt192.2 bt196.1 bt196.2.1 bt196.2.2).bind fun bt199 => ((laws_toTable.f k a0_0 l0_1).bind fun bt205 => ((laws_toEdge.f a1_0 a1_1 a1_2).bind fun bt210 => ((impl_TightenTable.f k bt205.1 bt205.2 bt210.1 bt210.2.1 bt210.2.2).bind fun bt213 => ((laws_eqTable.f k bt213.1 bt213.2.1 bt199.1 bt199.2.1).bind fun t219 => (if t219 = true then (laws_FnExactTightenTable.j0 k bt199.2.2 bt213.2.2 (bt213.2.2 != bt199.2.2) a0_0 l0_1 a1_0 a1_1 a1_2 bt199.1 bt199.2.1 bt205.1 bt205.2 bt213.1 bt213.2.1) else (laws_FnExactTightenTable.j0 k bt199.2.2 bt213.2.2 true a0_0 l0_1 a1_0 a1_1 a1_2 bt199.1 bt199.2.1 bt205.1 bt205.2 bt213.1 bt213.2.1)))))))))) = some r := H
  have A3 := mK A30
  clear A30
  by_cases c4 : t191 < 0
  · rw [if_pos c4] at H
    have c4b0 : decide (t191 < 0) = true := decide_eq_true c4
    clear c4
    obtain rfl := Option.some.inj H
    clear hr_
    go_enter Try.func12, Try.ntmps12
    go_wp2_with (first | ((with_reducible refine gate_dst (N := 2) rfl ?_); refine box_event ?hg (N := 2) ?hd (cs := #[.int .i64 a0_0, .slice A0_1 l0_1.length c0_1]) (t := 42) ?hr ?_; (case hd => rfl); (case hg => rfl); (case hr => first | (go_simp; done) | (go_simp; rfl)); intro gb189 hg w5 hbox hb; have n0_ := mK (below_step (by repeat (first | (with_reducible first | exact HB.out | apply bA | apply bN | apply bD) | exact HB.out)) hb); have n1_ := mK (hbox); have n2_ := mK ((by rw [hg]; exact (below_size (by repeat (first | (with_reducible first | exact HB.out | apply bA | apply bN | apply bD) | exact HB.out))) : w.heap.size ≤ gb189)); have n3_ := mK ((by rw [hg]; exact (below_size (by repeat (first | (with_reducible first | exact HB.out | apply bA | apply bN | apply bD) | exact HB.out))) : w.heap.size ≤ gb189)); clear HB; have HB := n0_; have BK189 := n1_; have GW189 := n2_; have GE189 := n3_; clear n0_ n1_ n2_ n3_; clear hb hbox hg) | ((with_reducible refine gate_dst (N := 3) rfl ?_); refine box_event ?hg (N := 3) ?hd (cs := #[.int .i64 a1_0, .int .i64 a1_1, .int .i64 a1_2]) (t := 68) ?hr ?_; (case hd => rfl); (case hg => rfl); (case hr => first | (go_simp; done) | (go_simp; rfl)); intro gb190 hg w6 hbox hb; have n0_ := mK (blk_below (by (with_reducible repeat (first | refine kN ?_ _ | refine kD ?_ | refine kA ?_ _)); exact BK189.out) hb); have n1_ := mK (below_step (by repeat (first | (with_reducible first | exact HB.out | apply bA | apply bN | apply bD | refine bS ?_ GE189.out) | exact HB.out)) hb); have n2_ := mK (hbox); have n3_ := mK ((by rw [hg]; exact (below_size (by repeat (first | (with_reducible first | exact HB.out | apply bA | apply bN | apply bD | refine bS ?_ GE189.out) | exact HB.out))) : w.heap.size ≤ gb190)); have n4_ := mK ((by rw [hg]; exact (below_size (by repeat (first | (with_reducible first | exact HB.out | apply bA | apply bN | apply bD | refine bS ?_ GE189.out) | exact HB.out))) : w.heap.size ≤ gb190)); have n5_ := mK ((by rw [hg]; exact Nat.ne_of_lt (blk_lt (by (with_reducible repeat (first | refine kN ?_ _ | refine kD ?_ | refine kA ?_ _)); exact BK189.out)) : gb189 ≠ gb190)); have n6_ := mK ((by rw [hg]; exact Nat.ne_of_gt (blk_lt (by (with_reducible repeat (first | refine kN ?_ _ | refine kD ?_ | refine kA ?_ _)); exact BK189.out)) : gb190 ≠ gb189)); clear BK189; clear HB; have BK189 := n0_; have HB := n1_; have BK190 := n2_; have GW190 := n3_; have GE190 := n4_; have NB189_190 := n5_; have NB190_189 := n6_; clear n0_ n1_ n2_ n3_ n4_ n5_ n6_; clear hb hbox hg; have hnb7 := NB189_190.out; have hnc7 := NB190_189.out; have hcz8_0 : w6.cell? ⟨gb189, 0, none⟩ = some (.int .i64 a0_0) := (blk_cell BK189.out 0).trans rfl; have hcz8_1 : w6.cell? ⟨gb189, 1, none⟩ = some (.slice A0_1 l0_1.length c0_1) := (blk_cell BK189.out 1).trans rfl; have hfz8_0 := blk_frozen BK189.out 0; have hfz8_1 := blk_frozen BK189.out 1) | ((with_reducible refine gate_callee (f := 22) rfl ?_); refine goesL_ (some 18) rfl rfl Try.func22 (by kernel_rfl) rfl #[.agg #[.int .i64 a0_0, .slice A0_1 l0_1.length c0_1], .int .i64 1048576] rfl (by (try simp only [List.map_toArray, List.map_cons, List.map_nil]); first | done | rfl | (simp only [List.length_drop, List.length_take]; rfl)) ?_; (with_reducible refine (laws_szTable.calls a0_0 _ _ l0_1 1048576 t191 _ ?side1 ?side2 A3.out).mono ?_); (case side1 => repeat (first | exact (Kd.C_below HR0_1.out HB.out) | (with_reducible refine Kd.C_alloc ?_ _) | (with_reducible refine Kd.C_drewN ?_ _) | (with_reducible refine Kd.C_drew ?_))); (case side2 => exact HC0_1.out); rintro e w9 ⟨rfl, hb⟩; refine ⟨_, rfl, ?_⟩; have n0_ := mK (blk_below (by (with_reducible repeat (first | refine kN ?_ _ | refine kD ?_ | refine kA ?_ _)); exact BK189.out) hb); have n1_ := mK (blk_below (by (with_reducible repeat (first | refine kN ?_ _ | refine kD ?_ | refine kA ?_ _)); exact BK190.out) hb); have n2_ := mK (below_step (by repeat (first | (with_reducible first | exact HB.out | apply bA | apply bN | apply bD | refine bS ?_ GE189.out | refine bS ?_ GE190.out) | exact HB.out)) hb); clear BK189; clear BK190; clear HB; have BK189 := n0_; have BK190 := n1_; have HB := n2_; clear n0_ n1_ n2_; (try clear hb); (try clear hb2); (try clear hk); (try clear hi)))
    go_ret
    exact ⟨by first | rfl | (simp [errW_none, errW_some] <;> rfl) | (simp [*, errW_none, errW_some] <;> rfl), by repeat (first | (with_reducible first | exact HB.out | apply bA | apply bN | apply bD | refine bS ?_ GE189.out | refine bS ?_ GE190.out) | exact HB.out)⟩
  rw [if_neg c4] at H
  have c4b0 : decide (t191 < 0) = false := decide_eq_false c4
  clear c4
  replace H := Option.bind_eq_some_iff.mp H
  obtain ⟨⟨t192, t193⟩, A100, H⟩ := H
  replace H : ((laws_toEdge.f a1_0 a1_1 a1_2).bind fun bt196 => ((spec_TightenTable.f k t192 t193 bt196.1 bt196.2.1 bt196.2.2).bind fun bt199 => ((laws_toTable.f k a0_0 l0_1).bind fun bt205 => ((laws_toEdge.f a1_0 a1_1 a1_2).bind fun bt210 => ((impl_TightenTable.f k bt205.1 bt205.2 bt210.1 bt210.2.1 bt210.2.2).bind fun bt213 => ((laws_eqTable.f k bt213.1 bt213.2.1 bt199.1 bt199.2.1).bind fun t219 => (if t219 = true then (laws_FnExactTightenTable.j0 k bt199.2.2 bt213.2.2 (bt213.2.2 != bt199.2.2) a0_0 l0_1 a1_0 a1_1 a1_2 bt199.1 bt199.2.1 bt205.1 bt205.2 bt213.1 bt213.2.1) else (laws_FnExactTightenTable.j0 k bt199.2.2 bt213.2.2 true a0_0 l0_1 a1_0 a1_1 a1_2 bt199.1 bt199.2.1 bt205.1 bt205.2 bt213.1 bt213.2.1)))))))) = some r := H
  have A10 := mK A100
  clear A100
  replace H := Option.bind_eq_some_iff.mp H
  obtain ⟨⟨t196, t197, t198⟩, A110, H⟩ := H
  replace H : ((spec_TightenTable.f k t192 t193 t196 t197 t198).bind fun bt199 => ((laws_toTable.f k a0_0 l0_1).bind fun bt205 => ((laws_toEdge.f a1_0 a1_1 a1_2).bind fun bt210 => ((impl_TightenTable.f k bt205.1 bt205.2 bt210.1 bt210.2.1 bt210.2.2).bind fun bt213 => ((laws_eqTable.f k bt213.1 bt213.2.1 bt199.1 bt199.2.1).bind fun t219 => (if t219 = true then (laws_FnExactTightenTable.j0 k bt199.2.2 bt213.2.2 (bt213.2.2 != bt199.2.2) a0_0 l0_1 a1_0 a1_1 a1_2 bt199.1 bt199.2.1 bt205.1 bt205.2 bt213.1 bt213.2.1) else (laws_FnExactTightenTable.j0 k bt199.2.2 bt213.2.2 true a0_0 l0_1 a1_0 a1_1 a1_2 bt199.1 bt199.2.1 bt205.1 bt205.2 bt213.1 bt213.2.1))))))) = some r := H
  have A11 := mK A110
  clear A110
  replace H := Option.bind_eq_some_iff.mp H
  obtain ⟨⟨t199, t200, t203⟩, A120, H⟩ := H
  replace H : ((laws_toTable.f k a0_0 l0_1).bind fun bt205 => ((laws_toEdge.f a1_0 a1_1 a1_2).bind fun bt210 => ((impl_TightenTable.f k bt205.1 bt205.2 bt210.1 bt210.2.1 bt210.2.2).bind fun bt213 => ((laws_eqTable.f k bt213.1 bt213.2.1 t199 t200).bind fun t219 => (if t219 = true then (laws_FnExactTightenTable.j0 k t203 bt213.2.2 (bt213.2.2 != t203) a0_0 l0_1 a1_0 a1_1 a1_2 t199 t200 bt205.1 bt205.2 bt213.1 bt213.2.1) else (laws_FnExactTightenTable.j0 k t203 bt213.2.2 true a0_0 l0_1 a1_0 a1_1 a1_2 t199 t200 bt205.1 bt205.2 bt213.1 bt213.2.1)))))) = some r := H
  have A12 := mK A120
  clear A120
  replace H := Option.bind_eq_some_iff.mp H
  obtain ⟨⟨t205, t206⟩, A130, H⟩ := H
  replace H : ((laws_toEdge.f a1_0 a1_1 a1_2).bind fun bt210 => ((impl_TightenTable.f k t205 t206 bt210.1 bt210.2.1 bt210.2.2).bind fun bt213 => ((laws_eqTable.f k bt213.1 bt213.2.1 t199 t200).bind fun t219 => (if t219 = true then (laws_FnExactTightenTable.j0 k t203 bt213.2.2 (bt213.2.2 != t203) a0_0 l0_1 a1_0 a1_1 a1_2 t199 t200 t205 t206 bt213.1 bt213.2.1) else (laws_FnExactTightenTable.j0 k t203 bt213.2.2 true a0_0 l0_1 a1_0 a1_1 a1_2 t199 t200 t205 t206 bt213.1 bt213.2.1))))) = some r := H
  have A13 := mK A130
  clear A130
  replace H := Option.bind_eq_some_iff.mp H
  obtain ⟨⟨t210, t211, t212⟩, A140, H⟩ := H
  replace H : ((impl_TightenTable.f k t205 t206 t210 t211 t212).bind fun bt213 => ((laws_eqTable.f k bt213.1 bt213.2.1 t199 t200).bind fun t219 => (if t219 = true then (laws_FnExactTightenTable.j0 k t203 bt213.2.2 (bt213.2.2 != t203) a0_0 l0_1 a1_0 a1_1 a1_2 t199 t200 t205 t206 bt213.1 bt213.2.1) else (laws_FnExactTightenTable.j0 k t203 bt213.2.2 true a0_0 l0_1 a1_0 a1_1 a1_2 t199 t200 t205 t206 bt213.1 bt213.2.1)))) = some r := H
  have A14 := mK A140
  clear A140
  replace H := Option.bind_eq_some_iff.mp H
  obtain ⟨⟨t213, t214, t217⟩, A150, H⟩ := H
  replace H : ((laws_eqTable.f k t213 t214 t199 t200).bind fun t219 => (if t219 = true then (laws_FnExactTightenTable.j0 k t203 t217 (t217 != t203) a0_0 l0_1 a1_0 a1_1 a1_2 t199 t200 t205 t206 t213 t214) else (laws_FnExactTightenTable.j0 k t203 t217 true a0_0 l0_1 a1_0 a1_1 a1_2 t199 t200 t205 t206 t213 t214))) = some r := H
  have A15 := mK A150
  clear A150
  have HC16 := mK H
  clear H
  go_enter Try.func12, Try.ntmps12
  try go_wp2_with (first | ((with_reducible refine gate_dst (N := 2) rfl ?_); refine box_event ?hg (N := 2) ?hd (cs := #[.int .i64 a0_0, .slice A0_1 l0_1.length c0_1]) (t := 42) ?hr ?_; (case hd => rfl); (case hg => rfl); (case hr => first | (go_simp; done) | (go_simp; rfl)); intro gb189 hg w17 hbox hb; have n0_ := mK (below_step (by repeat (first | (with_reducible first | exact HB.out | apply bA | apply bN | apply bD) | exact HB.out)) hb); have n1_ := mK (hbox); have n2_ := mK ((by rw [hg]; exact (below_size (by repeat (first | (with_reducible first | exact HB.out | apply bA | apply bN | apply bD) | exact HB.out))) : w.heap.size ≤ gb189)); have n3_ := mK ((by rw [hg]; exact (below_size (by repeat (first | (with_reducible first | exact HB.out | apply bA | apply bN | apply bD) | exact HB.out))) : w.heap.size ≤ gb189)); clear HB; have HB := n0_; have BK189 := n1_; have GW189 := n2_; have GE189 := n3_; clear n0_ n1_ n2_ n3_; clear hb hbox hg) | ((with_reducible refine gate_dst (N := 3) rfl ?_); refine box_event ?hg (N := 3) ?hd (cs := #[.int .i64 a1_0, .int .i64 a1_1, .int .i64 a1_2]) (t := 68) ?hr ?_; (case hd => rfl); (case hg => rfl); (case hr => first | (go_simp; done) | (go_simp; rfl)); intro gb190 hg w18 hbox hb; have n0_ := mK (blk_below (by (with_reducible repeat (first | refine kN ?_ _ | refine kD ?_ | refine kA ?_ _)); exact BK189.out) hb); have n1_ := mK (below_step (by repeat (first | (with_reducible first | exact HB.out | apply bA | apply bN | apply bD | refine bS ?_ GE189.out) | exact HB.out)) hb); have n2_ := mK (hbox); have n3_ := mK ((by rw [hg]; exact (below_size (by repeat (first | (with_reducible first | exact HB.out | apply bA | apply bN | apply bD | refine bS ?_ GE189.out) | exact HB.out))) : w.heap.size ≤ gb190)); have n4_ := mK ((by rw [hg]; exact (below_size (by repeat (first | (with_reducible first | exact HB.out | apply bA | apply bN | apply bD | refine bS ?_ GE189.out) | exact HB.out))) : w.heap.size ≤ gb190)); have n5_ := mK ((by rw [hg]; exact Nat.ne_of_lt (blk_lt (by (with_reducible repeat (first | refine kN ?_ _ | refine kD ?_ | refine kA ?_ _)); exact BK189.out)) : gb189 ≠ gb190)); have n6_ := mK ((by rw [hg]; exact Nat.ne_of_gt (blk_lt (by (with_reducible repeat (first | refine kN ?_ _ | refine kD ?_ | refine kA ?_ _)); exact BK189.out)) : gb190 ≠ gb189)); clear BK189; clear HB; have BK189 := n0_; have HB := n1_; have BK190 := n2_; have GW190 := n3_; have GE190 := n4_; have NB189_190 := n5_; have NB190_189 := n6_; clear n0_ n1_ n2_ n3_ n4_ n5_ n6_; clear hb hbox hg; have hnb19 := NB189_190.out; have hnc19 := NB190_189.out; have hcz20_0 : w18.cell? ⟨gb189, 0, none⟩ = some (.int .i64 a0_0) := (blk_cell BK189.out 0).trans rfl; have hcz20_1 : w18.cell? ⟨gb189, 1, none⟩ = some (.slice A0_1 l0_1.length c0_1) := (blk_cell BK189.out 1).trans rfl; have hfz20_0 := blk_frozen BK189.out 0; have hfz20_1 := blk_frozen BK189.out 1) | ((with_reducible refine gate_callee (f := 22) rfl ?_); refine goesL_ (some 18) rfl rfl Try.func22 (by kernel_rfl) rfl #[.agg #[.int .i64 a0_0, .slice A0_1 l0_1.length c0_1], .int .i64 1048576] rfl (by (try simp only [List.map_toArray, List.map_cons, List.map_nil]); first | done | rfl | (simp only [List.length_drop, List.length_take]; rfl)) ?_; (with_reducible refine (laws_szTable.calls a0_0 _ _ l0_1 1048576 t191 _ ?side1 ?side2 A3.out).mono ?_); (case side1 => repeat (first | exact (Kd.C_below HR0_1.out HB.out) | (with_reducible refine Kd.C_alloc ?_ _) | (with_reducible refine Kd.C_drewN ?_ _) | (with_reducible refine Kd.C_drew ?_))); (case side2 => exact HC0_1.out); rintro e w21 ⟨rfl, hb⟩; refine ⟨_, rfl, ?_⟩; have n0_ := mK (blk_below (by (with_reducible repeat (first | refine kN ?_ _ | refine kD ?_ | refine kA ?_ _)); exact BK189.out) hb); have n1_ := mK (blk_below (by (with_reducible repeat (first | refine kN ?_ _ | refine kD ?_ | refine kA ?_ _)); exact BK190.out) hb); have n2_ := mK (below_step (by repeat (first | (with_reducible first | exact HB.out | apply bA | apply bN | apply bD | refine bS ?_ GE189.out | refine bS ?_ GE190.out) | exact HB.out)) hb); clear BK189; clear BK190; clear HB; have BK189 := n0_; have BK190 := n1_; have HB := n2_; clear n0_ n1_ n2_; (try clear hb); (try clear hb2); (try clear hk); (try clear hi)))
  have n0_ := mK (blk_drew BK189.out)
  have n1_ := mK (blk_drew BK190.out)
  have n2_ := mK (below_drew1 HB.out)
  clear BK189
  clear BK190
  clear HB
  have BK189 := n0_
  have BK190 := n1_
  have HB := n2_
  clear n0_ n1_ n2_
  refine start_ (n := 11) (S := fun w' => w'.cell? ⟨gb189, 0, none⟩ = some (.int .i64 a0_0) ∧ w'.cell? ⟨gb189, 1, none⟩ = some (.slice A0_1 l0_1.length c0_1) ∧ w'.cell? ⟨gb190, 0, none⟩ = some (.int .i64 a1_0) ∧ w'.cell? ⟨gb190, 1, none⟩ = some (.int .i64 a1_1) ∧ w'.cell? ⟨gb190, 2, none⟩ = some (.int .i64 a1_2)) (ds := []) #[false, false, false, false, false, false, false, false, false, false, false] (by kernel_rfl) rfl rfl ⟨(blk_cell BK189.out 0).trans rfl, (blk_cell BK189.out 1).trans rfl, (blk_cell BK190.out 0).trans rfl, (blk_cell BK190.out 1).trans rfl, (blk_cell BK190.out 2).trans rfl⟩ (fun hHeld => ?_); refine with_tabW laws_FnExactTightenTable.tab5 laws_FnExactTightenTable.bits5 (fun HT_ HW_ => ?_)
  generalize w21.drew = w22 at BK189 BK190 HB hHeld ⊢
  refine take_ (i := 0) (N := some 22) (v := ?_) (a' := ?_) #[true, false, false, false, false, false, false, false, false, false, false] rfl rfl (take_ofW HT_.out HW_.out (by kernel_rfl)) (fun _ _ _ h => h) (Or.inl ⟨by rfl, ?_⟩) hHeld ?_ ?_
  rotate_left
  · rintro w' ⟨s0, s1, s2, s3, s4⟩
    go_simp
    with_reducible rfl
  rotate_left
  · simp only [Act.put, sT, sZ, sU, i64_w, i32_w]
    rfl
  refine take_ (i := 2) (N := some 24) (v := ?_) (a' := ?_) #[true, false, true, false, false, false, false, false, false, false, false] rfl rfl (take_ofW HT_.out HW_.out (by kernel_rfl)) (fun _ _ _ h => h) (Or.inl ⟨by rfl, ?_⟩) hHeld ?_ ?_
  rotate_left
  · rintro w' ⟨s0, s1, s2, s3, s4⟩
    go_simp
    with_reducible rfl
  rotate_left
  · simp only [Act.put, sT, sZ, sU, i64_w, i32_w]
    rfl
  refine join_ (σ := Value × Value × Nat) 2 #[true, true, true, true, true, true, true, true, true, false, false] (fun s_ => [(23, .agg #[.int .i64 t192, s_.1]), (25, .agg #[.int .i64 t196, .int .i64 t197, .int .i64 t198]), (26, .tuple #[.agg #[.int .i64 t199, s_.2.1], .bool t203]), (6, .pointer (some ⟨s_.2.2, 0, none⟩)), (21, .tuple #[.agg #[.int .i64 t199, s_.2.1], .bool t203]), (27, .agg #[.int .i64 t199, s_.2.1]), (28, .bool t203)]) (fun s_ w' => (w'.cell? ⟨gb189, 0, none⟩ = some (.int .i64 a0_0) ∧ w'.cell? ⟨gb189, 1, none⟩ = some (.slice A0_1 l0_1.length c0_1) ∧ w'.cell? ⟨gb190, 0, none⟩ = some (.int .i64 a1_0) ∧ w'.cell? ⟨gb190, 1, none⟩ = some (.int .i64 a1_1) ∧ w'.cell? ⟨gb190, 2, none⟩ = some (.int .i64 a1_2)) ∧ (Kd.R (Kd.int .i64) 3 w' w.heap.size (fun k_ => some k_ ≠ (s_.2.1 : Value).ownBlock) s_.1 t193) ∧ (Kd.R (Kd.int .i64) 3 w' w.heap.size (fun k_ => some k_ ≠ (s_.1 : Value).ownBlock) s_.2.1 t200) ∧ (w'.heap[gb189]? = some (.cells #[.int .i64 a0_0, .slice A0_1 l0_1.length c0_1] 42 (0, 0))) ∧ (w'.heap[gb190]? = some (.cells #[.int .i64 a1_0, .int .i64 a1_1, .int .i64 a1_2] 68 (0, 0))) ∧ (w'.heap[s_.2.2]? = some (.cells #[.int .i64 0, .slice none 0 0] 29 (0, 0))) ∧ (w.heap.size ≤ s_.2.2) ∧ (w.heap.size ≤ s_.2.2) ∧ (gb189 ≠ s_.2.2) ∧ (s_.2.2 ≠ gb189) ∧ (gb190 ≠ s_.2.2) ∧ (s_.2.2 ≠ gb190) ∧ (Below w.heap.size w w')) ?_ ?_
  rotate_left
  · intro hCont
    refine two_ (i := 1) (j := 8) (Ni := some 23) (Nj := some 6) #[true, true, true, false, false, false, false, false, false, false, false] #[true, false, true, false, false, false, false, false, true, false, false] rfl rfl rfl rfl (two_of HT_.out (by kernel_rfl)) (by decide) (by decide) (fun K hK => ?_) (fun K hK => ?_)
    · skip
      refine goes_ Try.func24 (by kernel_rfl) rfl #[.agg #[.int .i64 a0_0, .slice A0_1 l0_1.length c0_1]] (by rfl) rfl rfl (by (try simp only [List.map_toArray, List.map_cons, List.map_nil]); first | done | rfl | (simp only [List.length_drop, List.length_take]; rfl)) ?_
      with_reducible refine (laws_toTable.calls k a0_0 _ _ l0_1 t192 t193 _ ?side1 ?side2 A10.out).mono ?_
      (case side1 => repeat (first | exact (Kd.C_below HR0_1.out HB.out) | (with_reducible refine Kd.C_alloc ?_ _) | (with_reducible refine Kd.C_drewN ?_ _) | (with_reducible refine Kd.C_drew ?_)))
      (case side2 => exact HC0_1.out)
      rintro e w23 ⟨v194, rfl, ho0, hb⟩
      refine ⟨_, rfl, ?_⟩
      have n0_ := mK (Kd.R_lower ho0 (below_size (by repeat (first | (with_reducible first | exact HB.out | apply bA | apply bN | apply bD | refine bS ?_ GE189.out | refine bS ?_ GE190.out) | exact HB.out))))
      have n1_ := mK (blk_below (by (with_reducible repeat (first | refine kN ?_ _ | refine kD ?_ | refine kA ?_ _)); exact BK189.out) hb)
      have n2_ := mK (blk_below (by (with_reducible repeat (first | refine kN ?_ _ | refine kD ?_ | refine kA ?_ _)); exact BK190.out) hb)
      have n3_ := mK (below_step (by repeat (first | (with_reducible first | exact HB.out | apply bA | apply bN | apply bD | refine bS ?_ GE189.out | refine bS ?_ GE190.out) | exact HB.out)) hb)
      clear BK189
      clear BK190
      clear HB
      have HO195 := n0_
      have BK189 := n1_
      have BK190 := n2_
      have HB := n3_
      clear n0_ n1_ n2_ n3_
      (try clear hb)
      (try clear hb2)
      (try clear hk)
      (try clear hi)
      (try clear ho0)
      refine hK.out _ _ ⟨(blk_cell BK189.out 0).trans rfl, (blk_cell BK189.out 1).trans rfl, (blk_cell BK190.out 0).trans rfl, (blk_cell BK190.out 1).trans rfl, (blk_cell BK190.out 2).trans rfl⟩ (fun hHeld => ?_)
      clear hK K
      refine norm_ (a' := ?_) ?_ ?_
      rotate_left
      · show Act.put _ (some 23) _ = _
        simp only [Act.put, sT, sZ, sU, i64_w, i32_w]
        rfl
      refine two_ (i := 3) (j := 8) (Ni := some 25) (Nj := some 6) #[true, true, true, true, false, false, false, false, false, false, false] #[true, true, true, false, false, false, false, false, true, false, false] rfl rfl rfl rfl (two_of HT_.out (by kernel_rfl)) (by decide) (by decide) (fun K hK => ?_) (fun K hK => ?_)
      · skip
        refine goes_ Try.func50 (by kernel_rfl) rfl #[.agg #[.int .i64 a1_0, .int .i64 a1_1, .int .i64 a1_2]] (by rfl) rfl rfl (by (try simp only [List.map_toArray, List.map_cons, List.map_nil]); first | done | rfl | (simp only [List.length_drop, List.length_take]; rfl)) ?_
        with_reducible refine (laws_toEdge.calls a1_0 a1_1 a1_2 t196 t197 t198 _ A11.out).mono ?_
        rintro e w24 ⟨rfl, hb⟩
        refine ⟨_, rfl, ?_⟩
        have n0_ := mK (Kd.R_below (by (with_reducible repeat (first | apply rA | apply rN | apply rD)); exact HO195.out) hb)
        have n1_ := mK (blk_below (by (with_reducible repeat (first | refine kN ?_ _ | refine kD ?_ | refine kA ?_ _)); exact BK189.out) hb)
        have n2_ := mK (blk_below (by (with_reducible repeat (first | refine kN ?_ _ | refine kD ?_ | refine kA ?_ _)); exact BK190.out) hb)
        have n3_ := mK (below_step (by repeat (first | (with_reducible first | exact HB.out | apply bA | apply bN | apply bD | refine bS ?_ GE189.out | refine bS ?_ GE190.out) | exact HB.out)) hb)
        clear HO195
        clear BK189
        clear BK190
        clear HB
        have HO195 := n0_
        have BK189 := n1_
        have BK190 := n2_
        have HB := n3_
        clear n0_ n1_ n2_ n3_
        (try clear hb)
        (try clear hb2)
        (try clear hk)
        (try clear hi)
        obtain ⟨Ao25, co25, eo25⟩ := Kd.R_slice HO195.out
        (first | subst eo25 | (injection eo25 with f1_ f2_ f3_; have f4_ := f1_.symm; have f5_ := f3_.symm; clear f1_ f2_ f3_; subst f4_; subst f5_))
        refine hK.out _ _ ⟨(blk_cell BK189.out 0).trans rfl, (blk_cell BK189.out 1).trans rfl, (blk_cell BK190.out 0).trans rfl, (blk_cell BK190.out 1).trans rfl, (blk_cell BK190.out 2).trans rfl⟩ (fun hHeld => ?_)
        clear hK K
        refine norm_ (a' := ?_) ?_ ?_
        rotate_left
        · show Act.put _ (some 25) _ = _
          simp only [Act.put, sT, sZ, sU, i64_w, i32_w]
          rfl
        refine two_ (i := 4) (j := 8) (Ni := some 26) (Nj := some 6) #[true, true, true, true, true, false, false, false, false, false, false] #[true, true, true, true, false, false, false, false, true, false, false] rfl rfl rfl rfl (two_of HT_.out (by kernel_rfl)) (by decide) (by decide) (fun K hK => ?_) (fun K hK => ?_)
        · skip
          refine goes_ Try.func49 (by kernel_rfl) rfl #[.agg #[.int .i64 t192, .slice Ao25 t193.length co25], .agg #[.int .i64 t196, .int .i64 t197, .int .i64 t198]] (by rfl) rfl rfl (by (try simp only [List.map_toArray, List.map_cons, List.map_nil]); first | done | rfl | (simp only [List.length_drop, List.length_take]; rfl)) ?_
          with_reducible refine (spec_TightenTable.calls k t192 _ _ t193 t196 t197 t198 t199 t200 t203 _ ?side1 ?side2 A12.out).mono ?_
          (case side1 => repeat (first | exact (Kd.R_reads' HO195.out).2.2 | (with_reducible refine Kd.C_alloc ?_ _) | (with_reducible refine Kd.C_drewN ?_ _) | (with_reducible refine Kd.C_drew ?_)))
          (case side2 => exact (Kd.R_reads' HO195.out).2.1)
          rintro e w26 ⟨v201, rfl, ho0, hb⟩
          refine ⟨_, rfl, ?_⟩
          have n0_ := mK (Kd.R_elder' (by (with_reducible repeat (first | apply rA | apply rN | apply rD)); exact HO195.out) (Kd.R_base ho0) hb)
          have n1_ := mK (Kd.R_lower (Kd.R_new' ho0 (Kd.R_lt (by (with_reducible repeat (first | apply rA | apply rN | apply rD)); exact HO195.out))) (below_size (by repeat (first | (with_reducible first | exact HB.out | apply bA | apply bN | apply bD | refine bS ?_ GE189.out | refine bS ?_ GE190.out) | exact HB.out))))
          have n2_ := mK (blk_below (by (with_reducible repeat (first | refine kN ?_ _ | refine kD ?_ | refine kA ?_ _)); exact BK189.out) hb)
          have n3_ := mK (blk_below (by (with_reducible repeat (first | refine kN ?_ _ | refine kD ?_ | refine kA ?_ _)); exact BK190.out) hb)
          have n4_ := mK (below_step (by repeat (first | (with_reducible first | exact HB.out | apply bA | apply bN | apply bD | refine bS ?_ GE189.out | refine bS ?_ GE190.out) | exact HB.out)) hb)
          clear HO195
          clear BK189
          clear BK190
          clear HB
          have HO195 := n0_
          have HO202 := n1_
          have BK189 := n2_
          have BK190 := n3_
          have HB := n4_
          clear n0_ n1_ n2_ n3_ n4_
          (try clear hb)
          (try clear hb2)
          (try clear hk)
          (try clear hi)
          (try clear ho0)
          refine hK.out _ _ ⟨(blk_cell BK189.out 0).trans rfl, (blk_cell BK189.out 1).trans rfl, (blk_cell BK190.out 0).trans rfl, (blk_cell BK190.out 1).trans rfl, (blk_cell BK190.out 2).trans rfl⟩ (fun hHeld => ?_)
          clear hK K
          refine norm_ (a' := ?_) ?_ ?_
          rotate_left
          · show Act.put _ (some 26) _ = _
            simp only [Act.put, sT, sZ, sU, i64_w, i32_w]
            rfl
          refine pure_ (i := 5) (N := some 21) (v := ?_) (a' := ?_) #[true, true, true, true, true, true, false, false, false, false, false] rfl rfl (any_of HT_.out (by kernel_rfl)) (fun _ _ _ h => h) (Or.inl ⟨by rfl, ?_⟩) ?_ ?_
          rotate_left
          · intro w'
            go_simp
            with_reducible rfl
          rotate_left
          · simp only [Act.put, sT, sZ, sU, i64_w, i32_w]
            rfl
          refine pure_ (i := 6) (N := some 27) (v := ?_) (a' := ?_) #[true, true, true, true, true, true, true, false, false, false, false] rfl rfl (any_of HT_.out (by kernel_rfl)) (fun _ _ _ h => h) (Or.inl ⟨by rfl, ?_⟩) ?_ ?_
          rotate_left
          · intro w'
            go_simp
            with_reducible rfl
          rotate_left
          · simp only [Act.put, sT, sZ, sU, i64_w, i32_w]
            rfl
          refine pure_ (i := 7) (N := some 28) (v := ?_) (a' := ?_) #[true, true, true, true, true, true, true, true, false, false, false] rfl rfl (any_of HT_.out (by kernel_rfl)) (fun _ _ _ h => h) (Or.inl ⟨by rfl, ?_⟩) ?_ ?_
          rotate_left
          · intro w'
            go_simp
            with_reducible rfl
          rotate_left
          · simp only [Act.put, sT, sZ, sU, i64_w, i32_w]
            rfl
          refine one_ (i := 8) (N := some 6) #[true, true, true, true, true, true, true, true, true, false, false] rfl rfl (one_of HT_.out (by kernel_rfl)) (by decide) (fun K hK => ?_)
          refine box_step ?hg (N := 6) ?hd (cs := #[.int .i64 0, .slice none 0 0]) (t := 29) ?hr ?_; (case hd => rfl); (case hg => rfl); (case hr => first | (go_simp; done) | (go_simp; rfl))
          intro gb204 hg w27 hbox hb
          have n0_ := mK (Kd.R_below (by (with_reducible repeat (first | apply rA | apply rN | apply rD)); exact HO195.out) hb)
          have n1_ := mK (Kd.R_below (by (with_reducible repeat (first | apply rA | apply rN | apply rD)); exact HO202.out) hb)
          have n2_ := mK (blk_below (by (with_reducible repeat (first | refine kN ?_ _ | refine kD ?_ | refine kA ?_ _)); exact BK189.out) hb)
          have n3_ := mK (blk_below (by (with_reducible repeat (first | refine kN ?_ _ | refine kD ?_ | refine kA ?_ _)); exact BK190.out) hb)
          have n4_ := mK (below_step (by repeat (first | (with_reducible first | exact HB.out | apply bA | apply bN | apply bD | refine bS ?_ GE189.out | refine bS ?_ GE190.out) | exact HB.out)) hb)
          have n5_ := mK (hbox)
          have n6_ := mK ((by rw [hg]; exact (below_size (by repeat (first | (with_reducible first | exact HB.out | apply bA | apply bN | apply bD | refine bS ?_ GE189.out | refine bS ?_ GE190.out) | exact HB.out))) : w.heap.size ≤ gb204))
          have n7_ := mK ((by rw [hg]; exact (below_size (by repeat (first | (with_reducible first | exact HB.out | apply bA | apply bN | apply bD | refine bS ?_ GE189.out | refine bS ?_ GE190.out) | exact HB.out))) : w.heap.size ≤ gb204))
          have n8_ := mK ((by rw [hg]; exact Nat.ne_of_lt (blk_lt (by (with_reducible repeat (first | refine kN ?_ _ | refine kD ?_ | refine kA ?_ _)); exact BK189.out)) : gb189 ≠ gb204))
          have n9_ := mK ((by rw [hg]; exact Nat.ne_of_gt (blk_lt (by (with_reducible repeat (first | refine kN ?_ _ | refine kD ?_ | refine kA ?_ _)); exact BK189.out)) : gb204 ≠ gb189))
          have n10_ := mK ((by rw [hg]; exact Nat.ne_of_lt (blk_lt (by (with_reducible repeat (first | refine kN ?_ _ | refine kD ?_ | refine kA ?_ _)); exact BK190.out)) : gb190 ≠ gb204))
          have n11_ := mK ((by rw [hg]; exact Nat.ne_of_gt (blk_lt (by (with_reducible repeat (first | refine kN ?_ _ | refine kD ?_ | refine kA ?_ _)); exact BK190.out)) : gb204 ≠ gb190))
          clear HO195
          clear HO202
          clear BK189
          clear BK190
          clear HB
          have HO195 := n0_
          have HO202 := n1_
          have BK189 := n2_
          have BK190 := n3_
          have HB := n4_
          have BK204 := n5_
          have GW204 := n6_
          have GE204 := n7_
          have NB189_204 := n8_
          have NB204_189 := n9_
          have NB190_204 := n10_
          have NB204_190 := n11_
          clear n0_ n1_ n2_ n3_ n4_ n5_ n6_ n7_ n8_ n9_ n10_ n11_
          clear hb hbox hg
          refine hK.out _ _ ⟨(blk_cell BK189.out 0).trans rfl, (blk_cell BK189.out 1).trans rfl, (blk_cell BK190.out 0).trans rfl, (blk_cell BK190.out 1).trans rfl, (blk_cell BK190.out 2).trans rfl⟩ (fun hHeld => ?_)
          clear hK K
          refine norm_ (a' := ?_) ?_ ?_
          rotate_left
          · show Act.put _ (some 6) _ = _
            simp only [Act.put, sT, sZ, sU, i64_w, i32_w]
            rfl
          exact norm_ (by simp only [putAll, Act.put, sT, sZ, sU]) (hCont (.slice Ao25 t193.length co25, v201, gb204) _ ⟨hHeld, (by (with_reducible repeat (first | apply rA | apply rN | apply rD)); exact Kd.R_mono HO195.out (fun _ hk => hk.2)), (by (with_reducible repeat (first | apply rA | apply rN | apply rD)); exact Kd.R_mono HO202.out (fun _ hk => hk.2)), (by (with_reducible repeat (first | refine kN ?_ _ | refine kD ?_ | refine kA ?_ _)); exact BK189.out), (by (with_reducible repeat (first | refine kN ?_ _ | refine kD ?_ | refine kA ?_ _)); exact BK190.out), (by (with_reducible repeat (first | refine kN ?_ _ | refine kD ?_ | refine kA ?_ _)); exact BK204.out), GW204.out, GE204.out, NB189_204.out, NB204_189.out, NB190_204.out, NB204_190.out, (by repeat (first | (with_reducible first | exact HB.out | apply bA | apply bN | apply bD | refine bS ?_ GE189.out | refine bS ?_ GE190.out | refine bS ?_ GE204.out) | exact HB.out))⟩)
        · skip
          refine box_step ?hg (N := 6) ?hd (cs := #[.int .i64 0, .slice none 0 0]) (t := 29) ?hr ?_; (case hd => rfl); (case hg => rfl); (case hr => first | (go_simp; done) | (go_simp; rfl))
          intro gb204 hg w25 hbox hb
          have n0_ := mK (Kd.R_below (by (with_reducible repeat (first | apply rA | apply rN | apply rD)); exact HO195.out) hb)
          have n1_ := mK (blk_below (by (with_reducible repeat (first | refine kN ?_ _ | refine kD ?_ | refine kA ?_ _)); exact BK189.out) hb)
          have n2_ := mK (blk_below (by (with_reducible repeat (first | refine kN ?_ _ | refine kD ?_ | refine kA ?_ _)); exact BK190.out) hb)
          have n3_ := mK (below_step (by repeat (first | (with_reducible first | exact HB.out | apply bA | apply bN | apply bD | refine bS ?_ GE189.out | refine bS ?_ GE190.out) | exact HB.out)) hb)
          have n4_ := mK (hbox)
          have n5_ := mK ((by rw [hg]; exact (below_size (by repeat (first | (with_reducible first | exact HB.out | apply bA | apply bN | apply bD | refine bS ?_ GE189.out | refine bS ?_ GE190.out) | exact HB.out))) : w.heap.size ≤ gb204))
          have n6_ := mK ((by rw [hg]; exact (below_size (by repeat (first | (with_reducible first | exact HB.out | apply bA | apply bN | apply bD | refine bS ?_ GE189.out | refine bS ?_ GE190.out) | exact HB.out))) : w.heap.size ≤ gb204))
          have n7_ := mK ((by rw [hg]; exact Nat.ne_of_lt (blk_lt (by (with_reducible repeat (first | refine kN ?_ _ | refine kD ?_ | refine kA ?_ _)); exact BK189.out)) : gb189 ≠ gb204))
          have n8_ := mK ((by rw [hg]; exact Nat.ne_of_gt (blk_lt (by (with_reducible repeat (first | refine kN ?_ _ | refine kD ?_ | refine kA ?_ _)); exact BK189.out)) : gb204 ≠ gb189))
          have n9_ := mK ((by rw [hg]; exact Nat.ne_of_lt (blk_lt (by (with_reducible repeat (first | refine kN ?_ _ | refine kD ?_ | refine kA ?_ _)); exact BK190.out)) : gb190 ≠ gb204))
          have n10_ := mK ((by rw [hg]; exact Nat.ne_of_gt (blk_lt (by (with_reducible repeat (first | refine kN ?_ _ | refine kD ?_ | refine kA ?_ _)); exact BK190.out)) : gb204 ≠ gb190))
          clear HO195
          clear BK189
          clear BK190
          clear HB
          have HO195 := n0_
          have BK189 := n1_
          have BK190 := n2_
          have HB := n3_
          have BK204 := n4_
          have GW204 := n5_
          have GE204 := n6_
          have NB189_204 := n7_
          have NB204_189 := n8_
          have NB190_204 := n9_
          have NB204_190 := n10_
          clear n0_ n1_ n2_ n3_ n4_ n5_ n6_ n7_ n8_ n9_ n10_
          clear hb hbox hg
          obtain ⟨Ao26, co26, eo26⟩ := Kd.R_slice HO195.out
          (first | subst eo26 | (injection eo26 with f1_ f2_ f3_; have f4_ := f1_.symm; have f5_ := f3_.symm; clear f1_ f2_ f3_; subst f4_; subst f5_))
          refine hK.out _ _ ⟨(blk_cell BK189.out 0).trans rfl, (blk_cell BK189.out 1).trans rfl, (blk_cell BK190.out 0).trans rfl, (blk_cell BK190.out 1).trans rfl, (blk_cell BK190.out 2).trans rfl⟩ (fun hHeld => ?_)
          clear hK K
          refine norm_ (a' := ?_) ?_ ?_
          rotate_left
          · show Act.put _ (some 6) _ = _
            simp only [Act.put, sT, sZ, sU, i64_w, i32_w]
            rfl
          refine one_ (i := 4) (N := some 26) #[true, true, true, true, true, false, false, false, true, false, false] rfl rfl (one_of HT_.out (by kernel_rfl)) (by decide) (fun K hK => ?_)
          refine goes_ Try.func49 (by kernel_rfl) rfl #[.agg #[.int .i64 t192, .slice Ao26 t193.length co26], .agg #[.int .i64 t196, .int .i64 t197, .int .i64 t198]] (by rfl) rfl rfl (by (try simp only [List.map_toArray, List.map_cons, List.map_nil]); first | done | rfl | (simp only [List.length_drop, List.length_take]; rfl)) ?_
          with_reducible refine (spec_TightenTable.calls k t192 _ _ t193 t196 t197 t198 t199 t200 t203 _ ?side1 ?side2 A12.out).mono ?_
          (case side1 => repeat (first | exact (Kd.R_reads' HO195.out).2.2 | (with_reducible refine Kd.C_alloc ?_ _) | (with_reducible refine Kd.C_drewN ?_ _) | (with_reducible refine Kd.C_drew ?_)))
          (case side2 => exact (Kd.R_reads' HO195.out).2.1)
          rintro e w27 ⟨v201, rfl, ho0, hb⟩
          refine ⟨_, rfl, ?_⟩
          have n0_ := mK (Kd.R_elder' (by (with_reducible repeat (first | apply rA | apply rN | apply rD)); exact HO195.out) (Kd.R_base ho0) hb)
          have n1_ := mK (Kd.R_lower (Kd.R_new' ho0 (Kd.R_lt (by (with_reducible repeat (first | apply rA | apply rN | apply rD)); exact HO195.out))) (below_size (by repeat (first | (with_reducible first | exact HB.out | apply bA | apply bN | apply bD | refine bS ?_ GE189.out | refine bS ?_ GE190.out | refine bS ?_ GE204.out) | exact HB.out))))
          have n2_ := mK (blk_below (by (with_reducible repeat (first | refine kN ?_ _ | refine kD ?_ | refine kA ?_ _)); exact BK189.out) hb)
          have n3_ := mK (blk_below (by (with_reducible repeat (first | refine kN ?_ _ | refine kD ?_ | refine kA ?_ _)); exact BK190.out) hb)
          have n4_ := mK (blk_below (by (with_reducible repeat (first | refine kN ?_ _ | refine kD ?_ | refine kA ?_ _)); exact BK204.out) hb)
          have n5_ := mK (below_step (by repeat (first | (with_reducible first | exact HB.out | apply bA | apply bN | apply bD | refine bS ?_ GE189.out | refine bS ?_ GE190.out | refine bS ?_ GE204.out) | exact HB.out)) hb)
          clear HO195
          clear BK189
          clear BK190
          clear BK204
          clear HB
          have HO195 := n0_
          have HO202 := n1_
          have BK189 := n2_
          have BK190 := n3_
          have BK204 := n4_
          have HB := n5_
          clear n0_ n1_ n2_ n3_ n4_ n5_
          (try clear hb)
          (try clear hb2)
          (try clear hk)
          (try clear hi)
          (try clear ho0)
          refine hK.out _ _ ⟨(blk_cell BK189.out 0).trans rfl, (blk_cell BK189.out 1).trans rfl, (blk_cell BK190.out 0).trans rfl, (blk_cell BK190.out 1).trans rfl, (blk_cell BK190.out 2).trans rfl⟩ (fun hHeld => ?_)
          clear hK K
          refine norm_ (a' := ?_) ?_ ?_
          rotate_left
          · show Act.put _ (some 26) _ = _
            simp only [Act.put, sT, sZ, sU, i64_w, i32_w]
            rfl
          refine pure_ (i := 5) (N := some 21) (v := ?_) (a' := ?_) #[true, true, true, true, true, true, false, false, true, false, false] rfl rfl (any_of HT_.out (by kernel_rfl)) (fun _ _ _ h => h) (Or.inl ⟨by rfl, ?_⟩) ?_ ?_
          rotate_left
          · intro w'
            go_simp
            with_reducible rfl
          rotate_left
          · simp only [Act.put, sT, sZ, sU, i64_w, i32_w]
            rfl
          refine pure_ (i := 6) (N := some 27) (v := ?_) (a' := ?_) #[true, true, true, true, true, true, true, false, true, false, false] rfl rfl (any_of HT_.out (by kernel_rfl)) (fun _ _ _ h => h) (Or.inl ⟨by rfl, ?_⟩) ?_ ?_
          rotate_left
          · intro w'
            go_simp
            with_reducible rfl
          rotate_left
          · simp only [Act.put, sT, sZ, sU, i64_w, i32_w]
            rfl
          refine pure_ (i := 7) (N := some 28) (v := ?_) (a' := ?_) #[true, true, true, true, true, true, true, true, true, false, false] rfl rfl (any_of HT_.out (by kernel_rfl)) (fun _ _ _ h => h) (Or.inl ⟨by rfl, ?_⟩) ?_ ?_
          rotate_left
          · intro w'
            go_simp
            with_reducible rfl
          rotate_left
          · simp only [Act.put, sT, sZ, sU, i64_w, i32_w]
            rfl
          exact norm_ (by simp only [putAll, Act.put, sT, sZ, sU]) (hCont (.slice Ao26 t193.length co26, v201, gb204) _ ⟨hHeld, (by (with_reducible repeat (first | apply rA | apply rN | apply rD)); exact Kd.R_mono HO195.out (fun _ hk => hk.2)), (by (with_reducible repeat (first | apply rA | apply rN | apply rD)); exact Kd.R_mono HO202.out (fun _ hk => hk.2)), (by (with_reducible repeat (first | refine kN ?_ _ | refine kD ?_ | refine kA ?_ _)); exact BK189.out), (by (with_reducible repeat (first | refine kN ?_ _ | refine kD ?_ | refine kA ?_ _)); exact BK190.out), (by (with_reducible repeat (first | refine kN ?_ _ | refine kD ?_ | refine kA ?_ _)); exact BK204.out), GW204.out, GE204.out, NB189_204.out, NB204_189.out, NB190_204.out, NB204_190.out, (by repeat (first | (with_reducible first | exact HB.out | apply bA | apply bN | apply bD | refine bS ?_ GE189.out | refine bS ?_ GE190.out | refine bS ?_ GE204.out) | exact HB.out))⟩)
      · skip
        refine box_step ?hg (N := 6) ?hd (cs := #[.int .i64 0, .slice none 0 0]) (t := 29) ?hr ?_; (case hd => rfl); (case hg => rfl); (case hr => first | (go_simp; done) | (go_simp; rfl))
        intro gb204 hg w24 hbox hb
        have n0_ := mK (Kd.R_below (by (with_reducible repeat (first | apply rA | apply rN | apply rD)); exact HO195.out) hb)
        have n1_ := mK (blk_below (by (with_reducible repeat (first | refine kN ?_ _ | refine kD ?_ | refine kA ?_ _)); exact BK189.out) hb)
        have n2_ := mK (blk_below (by (with_reducible repeat (first | refine kN ?_ _ | refine kD ?_ | refine kA ?_ _)); exact BK190.out) hb)
        have n3_ := mK (below_step (by repeat (first | (with_reducible first | exact HB.out | apply bA | apply bN | apply bD | refine bS ?_ GE189.out | refine bS ?_ GE190.out) | exact HB.out)) hb)
        have n4_ := mK (hbox)
        have n5_ := mK ((by rw [hg]; exact (below_size (by repeat (first | (with_reducible first | exact HB.out | apply bA | apply bN | apply bD | refine bS ?_ GE189.out | refine bS ?_ GE190.out) | exact HB.out))) : w.heap.size ≤ gb204))
        have n6_ := mK ((by rw [hg]; exact (below_size (by repeat (first | (with_reducible first | exact HB.out | apply bA | apply bN | apply bD | refine bS ?_ GE189.out | refine bS ?_ GE190.out) | exact HB.out))) : w.heap.size ≤ gb204))
        have n7_ := mK ((by rw [hg]; exact Nat.ne_of_lt (blk_lt (by (with_reducible repeat (first | refine kN ?_ _ | refine kD ?_ | refine kA ?_ _)); exact BK189.out)) : gb189 ≠ gb204))
        have n8_ := mK ((by rw [hg]; exact Nat.ne_of_gt (blk_lt (by (with_reducible repeat (first | refine kN ?_ _ | refine kD ?_ | refine kA ?_ _)); exact BK189.out)) : gb204 ≠ gb189))
        have n9_ := mK ((by rw [hg]; exact Nat.ne_of_lt (blk_lt (by (with_reducible repeat (first | refine kN ?_ _ | refine kD ?_ | refine kA ?_ _)); exact BK190.out)) : gb190 ≠ gb204))
        have n10_ := mK ((by rw [hg]; exact Nat.ne_of_gt (blk_lt (by (with_reducible repeat (first | refine kN ?_ _ | refine kD ?_ | refine kA ?_ _)); exact BK190.out)) : gb204 ≠ gb190))
        clear HO195
        clear BK189
        clear BK190
        clear HB
        have HO195 := n0_
        have BK189 := n1_
        have BK190 := n2_
        have HB := n3_
        have BK204 := n4_
        have GW204 := n5_
        have GE204 := n6_
        have NB189_204 := n7_
        have NB204_189 := n8_
        have NB190_204 := n9_
        have NB204_190 := n10_
        clear n0_ n1_ n2_ n3_ n4_ n5_ n6_ n7_ n8_ n9_ n10_
        clear hb hbox hg
        refine hK.out _ _ ⟨(blk_cell BK189.out 0).trans rfl, (blk_cell BK189.out 1).trans rfl, (blk_cell BK190.out 0).trans rfl, (blk_cell BK190.out 1).trans rfl, (blk_cell BK190.out 2).trans rfl⟩ (fun hHeld => ?_)
        clear hK K
        refine norm_ (a' := ?_) ?_ ?_
        rotate_left
        · show Act.put _ (some 6) _ = _
          simp only [Act.put, sT, sZ, sU, i64_w, i32_w]
          rfl
        refine one_ (i := 3) (N := some 25) #[true, true, true, true, false, false, false, false, true, false, false] rfl rfl (one_of HT_.out (by kernel_rfl)) (by decide) (fun K hK => ?_)
        refine goes_ Try.func50 (by kernel_rfl) rfl #[.agg #[.int .i64 a1_0, .int .i64 a1_1, .int .i64 a1_2]] (by rfl) rfl rfl (by (try simp only [List.map_toArray, List.map_cons, List.map_nil]); first | done | rfl | (simp only [List.length_drop, List.length_take]; rfl)) ?_
        with_reducible refine (laws_toEdge.calls a1_0 a1_1 a1_2 t196 t197 t198 _ A11.out).mono ?_
        rintro e w25 ⟨rfl, hb⟩
        refine ⟨_, rfl, ?_⟩
        have n0_ := mK (Kd.R_below (by (with_reducible repeat (first | apply rA | apply rN | apply rD)); exact HO195.out) hb)
        have n1_ := mK (blk_below (by (with_reducible repeat (first | refine kN ?_ _ | refine kD ?_ | refine kA ?_ _)); exact BK189.out) hb)
        have n2_ := mK (blk_below (by (with_reducible repeat (first | refine kN ?_ _ | refine kD ?_ | refine kA ?_ _)); exact BK190.out) hb)
        have n3_ := mK (blk_below (by (with_reducible repeat (first | refine kN ?_ _ | refine kD ?_ | refine kA ?_ _)); exact BK204.out) hb)
        have n4_ := mK (below_step (by repeat (first | (with_reducible first | exact HB.out | apply bA | apply bN | apply bD | refine bS ?_ GE189.out | refine bS ?_ GE190.out | refine bS ?_ GE204.out) | exact HB.out)) hb)
        clear HO195
        clear BK189
        clear BK190
        clear BK204
        clear HB
        have HO195 := n0_
        have BK189 := n1_
        have BK190 := n2_
        have BK204 := n3_
        have HB := n4_
        clear n0_ n1_ n2_ n3_ n4_
        (try clear hb)
        (try clear hb2)
        (try clear hk)
        (try clear hi)
        obtain ⟨Ao26, co26, eo26⟩ := Kd.R_slice HO195.out
        (first | subst eo26 | (injection eo26 with f1_ f2_ f3_; have f4_ := f1_.symm; have f5_ := f3_.symm; clear f1_ f2_ f3_; subst f4_; subst f5_))
        refine hK.out _ _ ⟨(blk_cell BK189.out 0).trans rfl, (blk_cell BK189.out 1).trans rfl, (blk_cell BK190.out 0).trans rfl, (blk_cell BK190.out 1).trans rfl, (blk_cell BK190.out 2).trans rfl⟩ (fun hHeld => ?_)
        clear hK K
        refine norm_ (a' := ?_) ?_ ?_
        rotate_left
        · show Act.put _ (some 25) _ = _
          simp only [Act.put, sT, sZ, sU, i64_w, i32_w]
          rfl
        refine one_ (i := 4) (N := some 26) #[true, true, true, true, true, false, false, false, true, false, false] rfl rfl (one_of HT_.out (by kernel_rfl)) (by decide) (fun K hK => ?_)
        refine goes_ Try.func49 (by kernel_rfl) rfl #[.agg #[.int .i64 t192, .slice Ao26 t193.length co26], .agg #[.int .i64 t196, .int .i64 t197, .int .i64 t198]] (by rfl) rfl rfl (by (try simp only [List.map_toArray, List.map_cons, List.map_nil]); first | done | rfl | (simp only [List.length_drop, List.length_take]; rfl)) ?_
        with_reducible refine (spec_TightenTable.calls k t192 _ _ t193 t196 t197 t198 t199 t200 t203 _ ?side1 ?side2 A12.out).mono ?_
        (case side1 => repeat (first | exact (Kd.R_reads' HO195.out).2.2 | (with_reducible refine Kd.C_alloc ?_ _) | (with_reducible refine Kd.C_drewN ?_ _) | (with_reducible refine Kd.C_drew ?_)))
        (case side2 => exact (Kd.R_reads' HO195.out).2.1)
        rintro e w27 ⟨v201, rfl, ho0, hb⟩
        refine ⟨_, rfl, ?_⟩
        have n0_ := mK (Kd.R_elder' (by (with_reducible repeat (first | apply rA | apply rN | apply rD)); exact HO195.out) (Kd.R_base ho0) hb)
        have n1_ := mK (Kd.R_lower (Kd.R_new' ho0 (Kd.R_lt (by (with_reducible repeat (first | apply rA | apply rN | apply rD)); exact HO195.out))) (below_size (by repeat (first | (with_reducible first | exact HB.out | apply bA | apply bN | apply bD | refine bS ?_ GE189.out | refine bS ?_ GE190.out | refine bS ?_ GE204.out) | exact HB.out))))
        have n2_ := mK (blk_below (by (with_reducible repeat (first | refine kN ?_ _ | refine kD ?_ | refine kA ?_ _)); exact BK189.out) hb)
        have n3_ := mK (blk_below (by (with_reducible repeat (first | refine kN ?_ _ | refine kD ?_ | refine kA ?_ _)); exact BK190.out) hb)
        have n4_ := mK (blk_below (by (with_reducible repeat (first | refine kN ?_ _ | refine kD ?_ | refine kA ?_ _)); exact BK204.out) hb)
        have n5_ := mK (below_step (by repeat (first | (with_reducible first | exact HB.out | apply bA | apply bN | apply bD | refine bS ?_ GE189.out | refine bS ?_ GE190.out | refine bS ?_ GE204.out) | exact HB.out)) hb)
        clear HO195
        clear BK189
        clear BK190
        clear BK204
        clear HB
        have HO195 := n0_
        have HO202 := n1_
        have BK189 := n2_
        have BK190 := n3_
        have BK204 := n4_
        have HB := n5_
        clear n0_ n1_ n2_ n3_ n4_ n5_
        (try clear hb)
        (try clear hb2)
        (try clear hk)
        (try clear hi)
        (try clear ho0)
        refine hK.out _ _ ⟨(blk_cell BK189.out 0).trans rfl, (blk_cell BK189.out 1).trans rfl, (blk_cell BK190.out 0).trans rfl, (blk_cell BK190.out 1).trans rfl, (blk_cell BK190.out 2).trans rfl⟩ (fun hHeld => ?_)
        clear hK K
        refine norm_ (a' := ?_) ?_ ?_
        rotate_left
        · show Act.put _ (some 26) _ = _
          simp only [Act.put, sT, sZ, sU, i64_w, i32_w]
          rfl
        refine pure_ (i := 5) (N := some 21) (v := ?_) (a' := ?_) #[true, true, true, true, true, true, false, false, true, false, false] rfl rfl (any_of HT_.out (by kernel_rfl)) (fun _ _ _ h => h) (Or.inl ⟨by rfl, ?_⟩) ?_ ?_
        rotate_left
        · intro w'
          go_simp
          with_reducible rfl
        rotate_left
        · simp only [Act.put, sT, sZ, sU, i64_w, i32_w]
          rfl
        refine pure_ (i := 6) (N := some 27) (v := ?_) (a' := ?_) #[true, true, true, true, true, true, true, false, true, false, false] rfl rfl (any_of HT_.out (by kernel_rfl)) (fun _ _ _ h => h) (Or.inl ⟨by rfl, ?_⟩) ?_ ?_
        rotate_left
        · intro w'
          go_simp
          with_reducible rfl
        rotate_left
        · simp only [Act.put, sT, sZ, sU, i64_w, i32_w]
          rfl
        refine pure_ (i := 7) (N := some 28) (v := ?_) (a' := ?_) #[true, true, true, true, true, true, true, true, true, false, false] rfl rfl (any_of HT_.out (by kernel_rfl)) (fun _ _ _ h => h) (Or.inl ⟨by rfl, ?_⟩) ?_ ?_
        rotate_left
        · intro w'
          go_simp
          with_reducible rfl
        rotate_left
        · simp only [Act.put, sT, sZ, sU, i64_w, i32_w]
          rfl
        exact norm_ (by simp only [putAll, Act.put, sT, sZ, sU]) (hCont (.slice Ao26 t193.length co26, v201, gb204) _ ⟨hHeld, (by (with_reducible repeat (first | apply rA | apply rN | apply rD)); exact Kd.R_mono HO195.out (fun _ hk => hk.2)), (by (with_reducible repeat (first | apply rA | apply rN | apply rD)); exact Kd.R_mono HO202.out (fun _ hk => hk.2)), (by (with_reducible repeat (first | refine kN ?_ _ | refine kD ?_ | refine kA ?_ _)); exact BK189.out), (by (with_reducible repeat (first | refine kN ?_ _ | refine kD ?_ | refine kA ?_ _)); exact BK190.out), (by (with_reducible repeat (first | refine kN ?_ _ | refine kD ?_ | refine kA ?_ _)); exact BK204.out), GW204.out, GE204.out, NB189_204.out, NB204_189.out, NB190_204.out, NB204_190.out, (by repeat (first | (with_reducible first | exact HB.out | apply bA | apply bN | apply bD | refine bS ?_ GE189.out | refine bS ?_ GE190.out | refine bS ?_ GE204.out) | exact HB.out))⟩)
    · skip
      refine box_step ?hg (N := 6) ?hd (cs := #[.int .i64 0, .slice none 0 0]) (t := 29) ?hr ?_; (case hd => rfl); (case hg => rfl); (case hr => first | (go_simp; done) | (go_simp; rfl))
      intro gb204 hg w23 hbox hb
      have n0_ := mK (blk_below (by (with_reducible repeat (first | refine kN ?_ _ | refine kD ?_ | refine kA ?_ _)); exact BK189.out) hb)
      have n1_ := mK (blk_below (by (with_reducible repeat (first | refine kN ?_ _ | refine kD ?_ | refine kA ?_ _)); exact BK190.out) hb)
      have n2_ := mK (below_step (by repeat (first | (with_reducible first | exact HB.out | apply bA | apply bN | apply bD | refine bS ?_ GE189.out | refine bS ?_ GE190.out) | exact HB.out)) hb)
      have n3_ := mK (hbox)
      have n4_ := mK ((by rw [hg]; exact (below_size (by repeat (first | (with_reducible first | exact HB.out | apply bA | apply bN | apply bD | refine bS ?_ GE189.out | refine bS ?_ GE190.out) | exact HB.out))) : w.heap.size ≤ gb204))
      have n5_ := mK ((by rw [hg]; exact (below_size (by repeat (first | (with_reducible first | exact HB.out | apply bA | apply bN | apply bD | refine bS ?_ GE189.out | refine bS ?_ GE190.out) | exact HB.out))) : w.heap.size ≤ gb204))
      have n6_ := mK ((by rw [hg]; exact Nat.ne_of_lt (blk_lt (by (with_reducible repeat (first | refine kN ?_ _ | refine kD ?_ | refine kA ?_ _)); exact BK189.out)) : gb189 ≠ gb204))
      have n7_ := mK ((by rw [hg]; exact Nat.ne_of_gt (blk_lt (by (with_reducible repeat (first | refine kN ?_ _ | refine kD ?_ | refine kA ?_ _)); exact BK189.out)) : gb204 ≠ gb189))
      have n8_ := mK ((by rw [hg]; exact Nat.ne_of_lt (blk_lt (by (with_reducible repeat (first | refine kN ?_ _ | refine kD ?_ | refine kA ?_ _)); exact BK190.out)) : gb190 ≠ gb204))
      have n9_ := mK ((by rw [hg]; exact Nat.ne_of_gt (blk_lt (by (with_reducible repeat (first | refine kN ?_ _ | refine kD ?_ | refine kA ?_ _)); exact BK190.out)) : gb204 ≠ gb190))
      clear BK189
      clear BK190
      clear HB
      have BK189 := n0_
      have BK190 := n1_
      have HB := n2_
      have BK204 := n3_
      have GW204 := n4_
      have GE204 := n5_
      have NB189_204 := n6_
      have NB204_189 := n7_
      have NB190_204 := n8_
      have NB204_190 := n9_
      clear n0_ n1_ n2_ n3_ n4_ n5_ n6_ n7_ n8_ n9_
      clear hb hbox hg
      refine hK.out _ _ ⟨(blk_cell BK189.out 0).trans rfl, (blk_cell BK189.out 1).trans rfl, (blk_cell BK190.out 0).trans rfl, (blk_cell BK190.out 1).trans rfl, (blk_cell BK190.out 2).trans rfl⟩ (fun hHeld => ?_)
      clear hK K
      refine norm_ (a' := ?_) ?_ ?_
      rotate_left
      · show Act.put _ (some 6) _ = _
        simp only [Act.put, sT, sZ, sU, i64_w, i32_w]
        rfl
      refine one_ (i := 1) (N := some 23) #[true, true, true, false, false, false, false, false, true, false, false] rfl rfl (one_of HT_.out (by kernel_rfl)) (by decide) (fun K hK => ?_)
      refine goes_ Try.func24 (by kernel_rfl) rfl #[.agg #[.int .i64 a0_0, .slice A0_1 l0_1.length c0_1]] (by rfl) rfl rfl (by (try simp only [List.map_toArray, List.map_cons, List.map_nil]); first | done | rfl | (simp only [List.length_drop, List.length_take]; rfl)) ?_
      with_reducible refine (laws_toTable.calls k a0_0 _ _ l0_1 t192 t193 _ ?side1 ?side2 A10.out).mono ?_
      (case side1 => repeat (first | exact (Kd.C_below HR0_1.out HB.out) | (with_reducible refine Kd.C_alloc ?_ _) | (with_reducible refine Kd.C_drewN ?_ _) | (with_reducible refine Kd.C_drew ?_)))
      (case side2 => exact HC0_1.out)
      rintro e w24 ⟨v194, rfl, ho0, hb⟩
      refine ⟨_, rfl, ?_⟩
      have n0_ := mK (Kd.R_lower ho0 (below_size (by repeat (first | (with_reducible first | exact HB.out | apply bA | apply bN | apply bD | refine bS ?_ GE189.out | refine bS ?_ GE190.out | refine bS ?_ GE204.out) | exact HB.out))))
      have n1_ := mK (blk_below (by (with_reducible repeat (first | refine kN ?_ _ | refine kD ?_ | refine kA ?_ _)); exact BK189.out) hb)
      have n2_ := mK (blk_below (by (with_reducible repeat (first | refine kN ?_ _ | refine kD ?_ | refine kA ?_ _)); exact BK190.out) hb)
      have n3_ := mK (blk_below (by (with_reducible repeat (first | refine kN ?_ _ | refine kD ?_ | refine kA ?_ _)); exact BK204.out) hb)
      have n4_ := mK (below_step (by repeat (first | (with_reducible first | exact HB.out | apply bA | apply bN | apply bD | refine bS ?_ GE189.out | refine bS ?_ GE190.out | refine bS ?_ GE204.out) | exact HB.out)) hb)
      clear BK189
      clear BK190
      clear BK204
      clear HB
      have HO195 := n0_
      have BK189 := n1_
      have BK190 := n2_
      have BK204 := n3_
      have HB := n4_
      clear n0_ n1_ n2_ n3_ n4_
      (try clear hb)
      (try clear hb2)
      (try clear hk)
      (try clear hi)
      (try clear ho0)
      refine hK.out _ _ ⟨(blk_cell BK189.out 0).trans rfl, (blk_cell BK189.out 1).trans rfl, (blk_cell BK190.out 0).trans rfl, (blk_cell BK190.out 1).trans rfl, (blk_cell BK190.out 2).trans rfl⟩ (fun hHeld => ?_)
      clear hK K
      refine norm_ (a' := ?_) ?_ ?_
      rotate_left
      · show Act.put _ (some 23) _ = _
        simp only [Act.put, sT, sZ, sU, i64_w, i32_w]
        rfl
      refine one_ (i := 3) (N := some 25) #[true, true, true, true, false, false, false, false, true, false, false] rfl rfl (one_of HT_.out (by kernel_rfl)) (by decide) (fun K hK => ?_)
      refine goes_ Try.func50 (by kernel_rfl) rfl #[.agg #[.int .i64 a1_0, .int .i64 a1_1, .int .i64 a1_2]] (by rfl) rfl rfl (by (try simp only [List.map_toArray, List.map_cons, List.map_nil]); first | done | rfl | (simp only [List.length_drop, List.length_take]; rfl)) ?_
      with_reducible refine (laws_toEdge.calls a1_0 a1_1 a1_2 t196 t197 t198 _ A11.out).mono ?_
      rintro e w25 ⟨rfl, hb⟩
      refine ⟨_, rfl, ?_⟩
      have n0_ := mK (Kd.R_below (by (with_reducible repeat (first | apply rA | apply rN | apply rD)); exact HO195.out) hb)
      have n1_ := mK (blk_below (by (with_reducible repeat (first | refine kN ?_ _ | refine kD ?_ | refine kA ?_ _)); exact BK189.out) hb)
      have n2_ := mK (blk_below (by (with_reducible repeat (first | refine kN ?_ _ | refine kD ?_ | refine kA ?_ _)); exact BK190.out) hb)
      have n3_ := mK (blk_below (by (with_reducible repeat (first | refine kN ?_ _ | refine kD ?_ | refine kA ?_ _)); exact BK204.out) hb)
      have n4_ := mK (below_step (by repeat (first | (with_reducible first | exact HB.out | apply bA | apply bN | apply bD | refine bS ?_ GE189.out | refine bS ?_ GE190.out | refine bS ?_ GE204.out) | exact HB.out)) hb)
      clear HO195
      clear BK189
      clear BK190
      clear BK204
      clear HB
      have HO195 := n0_
      have BK189 := n1_
      have BK190 := n2_
      have BK204 := n3_
      have HB := n4_
      clear n0_ n1_ n2_ n3_ n4_
      (try clear hb)
      (try clear hb2)
      (try clear hk)
      (try clear hi)
      obtain ⟨Ao26, co26, eo26⟩ := Kd.R_slice HO195.out
      (first | subst eo26 | (injection eo26 with f1_ f2_ f3_; have f4_ := f1_.symm; have f5_ := f3_.symm; clear f1_ f2_ f3_; subst f4_; subst f5_))
      refine hK.out _ _ ⟨(blk_cell BK189.out 0).trans rfl, (blk_cell BK189.out 1).trans rfl, (blk_cell BK190.out 0).trans rfl, (blk_cell BK190.out 1).trans rfl, (blk_cell BK190.out 2).trans rfl⟩ (fun hHeld => ?_)
      clear hK K
      refine norm_ (a' := ?_) ?_ ?_
      rotate_left
      · show Act.put _ (some 25) _ = _
        simp only [Act.put, sT, sZ, sU, i64_w, i32_w]
        rfl
      refine one_ (i := 4) (N := some 26) #[true, true, true, true, true, false, false, false, true, false, false] rfl rfl (one_of HT_.out (by kernel_rfl)) (by decide) (fun K hK => ?_)
      refine goes_ Try.func49 (by kernel_rfl) rfl #[.agg #[.int .i64 t192, .slice Ao26 t193.length co26], .agg #[.int .i64 t196, .int .i64 t197, .int .i64 t198]] (by rfl) rfl rfl (by (try simp only [List.map_toArray, List.map_cons, List.map_nil]); first | done | rfl | (simp only [List.length_drop, List.length_take]; rfl)) ?_
      with_reducible refine (spec_TightenTable.calls k t192 _ _ t193 t196 t197 t198 t199 t200 t203 _ ?side1 ?side2 A12.out).mono ?_
      (case side1 => repeat (first | exact (Kd.R_reads' HO195.out).2.2 | (with_reducible refine Kd.C_alloc ?_ _) | (with_reducible refine Kd.C_drewN ?_ _) | (with_reducible refine Kd.C_drew ?_)))
      (case side2 => exact (Kd.R_reads' HO195.out).2.1)
      rintro e w27 ⟨v201, rfl, ho0, hb⟩
      refine ⟨_, rfl, ?_⟩
      have n0_ := mK (Kd.R_elder' (by (with_reducible repeat (first | apply rA | apply rN | apply rD)); exact HO195.out) (Kd.R_base ho0) hb)
      have n1_ := mK (Kd.R_lower (Kd.R_new' ho0 (Kd.R_lt (by (with_reducible repeat (first | apply rA | apply rN | apply rD)); exact HO195.out))) (below_size (by repeat (first | (with_reducible first | exact HB.out | apply bA | apply bN | apply bD | refine bS ?_ GE189.out | refine bS ?_ GE190.out | refine bS ?_ GE204.out) | exact HB.out))))
      have n2_ := mK (blk_below (by (with_reducible repeat (first | refine kN ?_ _ | refine kD ?_ | refine kA ?_ _)); exact BK189.out) hb)
      have n3_ := mK (blk_below (by (with_reducible repeat (first | refine kN ?_ _ | refine kD ?_ | refine kA ?_ _)); exact BK190.out) hb)
      have n4_ := mK (blk_below (by (with_reducible repeat (first | refine kN ?_ _ | refine kD ?_ | refine kA ?_ _)); exact BK204.out) hb)
      have n5_ := mK (below_step (by repeat (first | (with_reducible first | exact HB.out | apply bA | apply bN | apply bD | refine bS ?_ GE189.out | refine bS ?_ GE190.out | refine bS ?_ GE204.out) | exact HB.out)) hb)
      clear HO195
      clear BK189
      clear BK190
      clear BK204
      clear HB
      have HO195 := n0_
      have HO202 := n1_
      have BK189 := n2_
      have BK190 := n3_
      have BK204 := n4_
      have HB := n5_
      clear n0_ n1_ n2_ n3_ n4_ n5_
      (try clear hb)
      (try clear hb2)
      (try clear hk)
      (try clear hi)
      (try clear ho0)
      refine hK.out _ _ ⟨(blk_cell BK189.out 0).trans rfl, (blk_cell BK189.out 1).trans rfl, (blk_cell BK190.out 0).trans rfl, (blk_cell BK190.out 1).trans rfl, (blk_cell BK190.out 2).trans rfl⟩ (fun hHeld => ?_)
      clear hK K
      refine norm_ (a' := ?_) ?_ ?_
      rotate_left
      · show Act.put _ (some 26) _ = _
        simp only [Act.put, sT, sZ, sU, i64_w, i32_w]
        rfl
      refine pure_ (i := 5) (N := some 21) (v := ?_) (a' := ?_) #[true, true, true, true, true, true, false, false, true, false, false] rfl rfl (any_of HT_.out (by kernel_rfl)) (fun _ _ _ h => h) (Or.inl ⟨by rfl, ?_⟩) ?_ ?_
      rotate_left
      · intro w'
        go_simp
        with_reducible rfl
      rotate_left
      · simp only [Act.put, sT, sZ, sU, i64_w, i32_w]
        rfl
      refine pure_ (i := 6) (N := some 27) (v := ?_) (a' := ?_) #[true, true, true, true, true, true, true, false, true, false, false] rfl rfl (any_of HT_.out (by kernel_rfl)) (fun _ _ _ h => h) (Or.inl ⟨by rfl, ?_⟩) ?_ ?_
      rotate_left
      · intro w'
        go_simp
        with_reducible rfl
      rotate_left
      · simp only [Act.put, sT, sZ, sU, i64_w, i32_w]
        rfl
      refine pure_ (i := 7) (N := some 28) (v := ?_) (a' := ?_) #[true, true, true, true, true, true, true, true, true, false, false] rfl rfl (any_of HT_.out (by kernel_rfl)) (fun _ _ _ h => h) (Or.inl ⟨by rfl, ?_⟩) ?_ ?_
      rotate_left
      · intro w'
        go_simp
        with_reducible rfl
      rotate_left
      · simp only [Act.put, sT, sZ, sU, i64_w, i32_w]
        rfl
      exact norm_ (by simp only [putAll, Act.put, sT, sZ, sU]) (hCont (.slice Ao26 t193.length co26, v201, gb204) _ ⟨hHeld, (by (with_reducible repeat (first | apply rA | apply rN | apply rD)); exact Kd.R_mono HO195.out (fun _ hk => hk.2)), (by (with_reducible repeat (first | apply rA | apply rN | apply rD)); exact Kd.R_mono HO202.out (fun _ hk => hk.2)), (by (with_reducible repeat (first | refine kN ?_ _ | refine kD ?_ | refine kA ?_ _)); exact BK189.out), (by (with_reducible repeat (first | refine kN ?_ _ | refine kD ?_ | refine kA ?_ _)); exact BK190.out), (by (with_reducible repeat (first | refine kN ?_ _ | refine kD ?_ | refine kA ?_ _)); exact BK204.out), GW204.out, GE204.out, NB189_204.out, NB204_189.out, NB190_204.out, NB204_190.out, (by repeat (first | (with_reducible first | exact HB.out | apply bA | apply bN | apply bD | refine bS ?_ GE189.out | refine bS ?_ GE190.out | refine bS ?_ GE204.out) | exact HB.out))⟩)
  rintro ⟨v194, v201, gb204⟩ w28 ⟨hS_, h0_, h1_, h2_, h3_, h4_, h5_, h6_, h7_, h8_, h9_, h10_, h11_⟩
  have n0_ : Aside0 (Kd.R (Kd.int .i64) 3 w28 w.heap.size (fun k_ => some k_ ≠ (v201 : Value).ownBlock) v194 t193) := ⟨h0_⟩
  have n1_ : Aside0 (Kd.R (Kd.int .i64) 3 w28 w.heap.size (fun k_ => some k_ ≠ (v194 : Value).ownBlock) v201 t200) := ⟨h1_⟩
  have n2_ : Aside0 (w28.heap[gb189]? = some (.cells #[.int .i64 a0_0, .slice A0_1 l0_1.length c0_1] 42 (0, 0))) := ⟨h2_⟩
  have n3_ : Aside0 (w28.heap[gb190]? = some (.cells #[.int .i64 a1_0, .int .i64 a1_1, .int .i64 a1_2] 68 (0, 0))) := ⟨h3_⟩
  have n4_ : Aside0 (w28.heap[gb204]? = some (.cells #[.int .i64 0, .slice none 0 0] 29 (0, 0))) := ⟨h4_⟩
  have n5_ : Aside0 (w.heap.size ≤ gb204) := ⟨h5_⟩
  have n6_ : Aside0 (w.heap.size ≤ gb204) := ⟨h6_⟩
  have n7_ : Aside0 (gb189 ≠ gb204) := ⟨h7_⟩
  have n8_ : Aside0 (gb204 ≠ gb189) := ⟨h8_⟩
  have n9_ : Aside0 (gb190 ≠ gb204) := ⟨h9_⟩
  have n10_ : Aside0 (gb204 ≠ gb190) := ⟨h10_⟩
  have n11_ : Aside0 (Below w.heap.size w w28) := ⟨h11_⟩
  clear BK189
  clear BK190
  clear HB
  clear h0_ h1_ h2_ h3_ h4_ h5_ h6_ h7_ h8_ h9_ h10_ h11_
  have HO195 := n0_
  have HO202 := n1_
  have BK189 := n2_
  have BK190 := n3_
  have BK204 := n4_
  have GW204 := n5_
  have GE204 := n6_
  have NB189_204 := n7_
  have NB204_189 := n8_
  have NB190_204 := n9_
  have NB204_190 := n10_
  have HB := n11_
  clear n0_ n1_ n2_ n3_ n4_ n5_ n6_ n7_ n8_ n9_ n10_ n11_
  have hHeld : w28.cell? ⟨gb189, 0, none⟩ = some (.int .i64 a0_0) ∧ w28.cell? ⟨gb189, 1, none⟩ = some (.slice A0_1 l0_1.length c0_1) ∧ w28.cell? ⟨gb190, 0, none⟩ = some (.int .i64 a1_0) ∧ w28.cell? ⟨gb190, 1, none⟩ = some (.int .i64 a1_1) ∧ w28.cell? ⟨gb190, 2, none⟩ = some (.int .i64 a1_2) := hS_
  obtain ⟨Ao30, co30, eo30⟩ := Kd.R_slice HO202.out
  (first | subst eo30 | (injection eo30 with f1_ f2_ f3_; have f4_ := f1_.symm; have f5_ := f3_.symm; clear f1_ f2_ f3_; subst f4_; subst f5_))
  refine norm_ (a' := ?_) ?_ ?_
  rotate_left
  · simp only [putAll, Act.put, sT, sZ, sU]
    rfl
  refine one_ (i := 9) (N := none) #[true, true, true, true, true, true, true, true, true, true, false] rfl rfl (one_of HT_.out (by kernel_rfl)) (by decide) (fun K hK => ?_)
  have hs29 : w28.cell? ⟨gb204, 0, none⟩ = some (.int .i64 0) := (blk_cell BK204.out 0).trans rfl
  have hfs29 := blk_frozen BK204.out 0
  have hns29_0 := NB189_204.out
  have hns29_1 := NB190_204.out
  have hms29_0 := NB204_189.out
  have hms29_1 := NB204_190.out
  have hs31 : w28.cell? ⟨gb204, 1, none⟩ = some (.slice none 0 0) := (blk_cell BK204.out 1).trans rfl
  have hfs31 := blk_frozen BK204.out 1
  have hns31_0 := NB189_204.out
  have hns31_1 := NB190_204.out
  have hms31_0 := NB204_189.out
  have hms31_1 := NB204_190.out
  refine skip_ (w1 := ?_) (by rfl) rfl ?_ ?_
  rotate_left
  · go_simp
    rfl
  refine hK.out _ _ ⟨((cell_far (p := ⟨gb204, _, none⟩) NB189_204.out _).trans (((cell_far (p := ⟨gb204, _, none⟩) NB189_204.out _).trans (hHeld.1)))), ((cell_far (p := ⟨gb204, _, none⟩) NB189_204.out _).trans (((cell_far (p := ⟨gb204, _, none⟩) NB189_204.out _).trans (hHeld.2.1)))), ((cell_far (p := ⟨gb204, _, none⟩) NB190_204.out _).trans (((cell_far (p := ⟨gb204, _, none⟩) NB190_204.out _).trans (hHeld.2.2.1)))), ((cell_far (p := ⟨gb204, _, none⟩) NB190_204.out _).trans (((cell_far (p := ⟨gb204, _, none⟩) NB190_204.out _).trans (hHeld.2.2.2.1)))), ((cell_far (p := ⟨gb204, _, none⟩) NB190_204.out _).trans (((cell_far (p := ⟨gb204, _, none⟩) NB190_204.out _).trans (hHeld.2.2.2.2))))⟩ (fun hHeld => ?_)
  clear hK K
  refine pure_ (i := 10) (N := some 7) (v := ?_) (a' := ?_) #[true, true, true, true, true, true, true, true, true, true, true] rfl rfl (any_of HT_.out (by kernel_rfl)) (fun _ _ _ h => h) (Or.inl ⟨by rfl, ?_⟩) ?_ ?_
  rotate_left
  · intro w'
    go_simp
    with_reducible rfl
  rotate_left
  · simp only [Act.put, sT, sZ, sU, i64_w, i32_w]
    rfl
  refine done_ (done_of HT_.out (by kernel_rfl)) ?_
  have hnb32 := NB189_204.out
  have hnc32 := NB204_189.out
  have hcz33_0 : w28.cell? ⟨gb189, 0, none⟩ = some (.int .i64 a0_0) := (blk_cell BK189.out 0).trans rfl
  have hcz33_1 : w28.cell? ⟨gb189, 1, none⟩ = some (.slice A0_1 l0_1.length c0_1) := (blk_cell BK189.out 1).trans rfl
  have hfz33_0 := blk_frozen BK189.out 0
  have hfz33_1 := blk_frozen BK189.out 1
  try go_wp2_with (first | ((with_reducible refine gate_callee (f := 24) rfl ?_); refine goesL_ (some 30) rfl rfl Try.func24 (by kernel_rfl) rfl #[.agg #[.int .i64 a0_0, .slice A0_1 l0_1.length c0_1]] rfl (by (try simp only [List.map_toArray, List.map_cons, List.map_nil]); first | done | rfl | (simp only [List.length_drop, List.length_take]; rfl)) ?_; (with_reducible refine (laws_toTable.calls k a0_0 _ _ l0_1 t205 t206 _ ?side1 ?side2 A13.out).mono ?_); (case side1 => exact Kd.C_below HR0_1.out (by repeat (first | (with_reducible first | exact HB.out | apply bA | apply bN | apply bD | refine bS ?_ GE189.out | refine bS ?_ GE190.out | refine bS ?_ GE204.out) | exact HB.out))); (case side2 => exact HC0_1.out); rintro e w34 ⟨v207, rfl, ho0, hb⟩; refine ⟨_, rfl, ?_⟩; have n0_ := mK (Kd.R_elder' (by (with_reducible repeat (first | apply rA | apply rN | apply rD)); exact (Kd.R_mono (Kd.R_far (p := ⟨gb204, 1, none⟩) (Kd.R_far (p := ⟨gb204, 0, none⟩) (Kd.R_types HO195.out BK204.out (by decide)) (fun _ hk => hk.2) (.int .i64 t199)) (fun _ hk => hk.2) (.slice Ao30 t200.length co30)) (fun _ h_ => h_.1))) (Kd.R_base ho0) hb); have n1_ := mK (Kd.R_elder' (by (with_reducible repeat (first | apply rA | apply rN | apply rD)); exact (Kd.R_mono (Kd.R_far (p := ⟨gb204, 1, none⟩) (Kd.R_far (p := ⟨gb204, 0, none⟩) (Kd.R_types HO202.out BK204.out (by decide)) (fun _ hk => hk.2) (.int .i64 t199)) (fun _ hk => hk.2) (.slice Ao30 t200.length co30)) (fun _ h_ => h_.1))) (Kd.R_base ho0) hb); have n2_ := mK (Kd.R_lower (Kd.R_new' (Kd.R_new' ho0 (Kd.R_lt (by (with_reducible repeat (first | apply rA | apply rN | apply rD)); exact (Kd.R_mono (Kd.R_far (p := ⟨gb204, 1, none⟩) (Kd.R_far (p := ⟨gb204, 0, none⟩) (Kd.R_types HO195.out BK204.out (by decide)) (fun _ hk => hk.2) (.int .i64 t199)) (fun _ hk => hk.2) (.slice Ao30 t200.length co30)) (fun _ h_ => h_.1))))) (Kd.R_lt (by (with_reducible repeat (first | apply rA | apply rN | apply rD)); exact (Kd.R_mono (Kd.R_far (p := ⟨gb204, 1, none⟩) (Kd.R_far (p := ⟨gb204, 0, none⟩) (Kd.R_types HO202.out BK204.out (by decide)) (fun _ hk => hk.2) (.int .i64 t199)) (fun _ hk => hk.2) (.slice Ao30 t200.length co30)) (fun _ h_ => h_.1))))) (below_size (by repeat (first | (with_reducible first | exact HB.out | apply bA | apply bN | apply bD | refine bS ?_ GE189.out | refine bS ?_ GE190.out | refine bS ?_ GE204.out) | exact HB.out)))); have n3_ := mK (blk_below (g := gb189) (o := .cells #[.int .i64 a0_0, .slice A0_1 l0_1.length c0_1] 42 (0, 0)) (by (with_reducible repeat (first | refine kN ?_ _ | refine kD ?_ | refine kA ?_ _)); refine blk_far ?_ NB189_204.out _; (with_reducible repeat (first | refine kN ?_ _ | refine kD ?_ | refine kA ?_ _)); refine blk_far ?_ NB189_204.out _; (with_reducible repeat (first | refine kN ?_ _ | refine kD ?_ | refine kA ?_ _)); exact BK189.out) hb); have n4_ := mK (blk_below (g := gb190) (o := .cells #[.int .i64 a1_0, .int .i64 a1_1, .int .i64 a1_2] 68 (0, 0)) (by (with_reducible repeat (first | refine kN ?_ _ | refine kD ?_ | refine kA ?_ _)); refine blk_far ?_ NB190_204.out _; (with_reducible repeat (first | refine kN ?_ _ | refine kD ?_ | refine kA ?_ _)); refine blk_far ?_ NB190_204.out _; (with_reducible repeat (first | refine kN ?_ _ | refine kD ?_ | refine kA ?_ _)); exact BK190.out) hb); have n5_ := mK (blk_below (g := gb204) (o := .cells #[.int .i64 t199, .slice Ao30 t200.length co30] 29 (0, 0)) (by (with_reducible repeat (first | refine kN ?_ _ | refine kD ?_ | refine kA ?_ _)); refine blk_put (cs := #[.int .i64 t199, .slice none 0 0]) ?_ 1 _ rfl; (with_reducible repeat (first | refine kN ?_ _ | refine kD ?_ | refine kA ?_ _)); refine blk_put (cs := #[.int .i64 0, .slice none 0 0]) ?_ 0 _ rfl; (with_reducible repeat (first | refine kN ?_ _ | refine kD ?_ | refine kA ?_ _)); exact BK204.out) hb); have n6_ := mK (below_step (by repeat (first | (with_reducible first | exact HB.out | apply bA | apply bN | apply bD | refine bS ?_ GE189.out | refine bS ?_ GE190.out | refine bS ?_ GE204.out) | exact HB.out)) hb); clear HO195; clear HO202; clear BK189; clear BK190; clear BK204; clear HB; have HO195 := n0_; have HO202 := n1_; have HO208 := n2_; have BK189 := n3_; have BK190 := n4_; have BK204 := n5_; have HB := n6_; clear n0_ n1_ n2_ n3_ n4_ n5_ n6_; (try clear hb); (try clear hb2); (try clear hk); (try clear hi); (try clear ho0)) | ((with_reducible refine gate_dst (N := 8) rfl ?_); refine box_event ?hg (N := 8) ?hd (cs := #[.int .i64 0, .slice none 0 0]) (t := 29) ?hr ?_; (case hd => rfl); (case hg => rfl); (case hr => first | (go_simp; done) | (go_simp; rfl)); intro gb209 hg w35 hbox hb; have n0_ := mK (Kd.R_below (by (with_reducible repeat (first | apply rA | apply rN | apply rD)); exact HO195.out) hb); have n1_ := mK (Kd.R_below (by (with_reducible repeat (first | apply rA | apply rN | apply rD)); exact HO202.out) hb); have n2_ := mK (Kd.R_below (by (with_reducible repeat (first | apply rA | apply rN | apply rD)); exact HO208.out) hb); have n3_ := mK (blk_below (by (with_reducible repeat (first | refine kN ?_ _ | refine kD ?_ | refine kA ?_ _)); exact BK189.out) hb); have n4_ := mK (blk_below (by (with_reducible repeat (first | refine kN ?_ _ | refine kD ?_ | refine kA ?_ _)); exact BK190.out) hb); have n5_ := mK (blk_below (by (with_reducible repeat (first | refine kN ?_ _ | refine kD ?_ | refine kA ?_ _)); exact BK204.out) hb); have n6_ := mK (below_step (by repeat (first | (with_reducible first | exact HB.out | apply bA | apply bN | apply bD | refine bS ?_ GE189.out | refine bS ?_ GE190.out | refine bS ?_ GE204.out) | exact HB.out)) hb); have n7_ := mK (hbox); have n8_ := mK ((by rw [hg]; exact (below_size (by repeat (first | (with_reducible first | exact HB.out | apply bA | apply bN | apply bD | refine bS ?_ GE189.out | refine bS ?_ GE190.out | refine bS ?_ GE204.out) | exact HB.out))) : w.heap.size ≤ gb209)); have n9_ := mK ((by rw [hg]; exact (below_size (by repeat (first | (with_reducible first | exact HB.out | apply bA | apply bN | apply bD | refine bS ?_ GE189.out | refine bS ?_ GE190.out | refine bS ?_ GE204.out) | exact HB.out))) : w.heap.size ≤ gb209)); have n10_ := mK ((by rw [hg]; exact Nat.ne_of_lt (blk_lt (by (with_reducible repeat (first | refine kN ?_ _ | refine kD ?_ | refine kA ?_ _)); exact BK189.out)) : gb189 ≠ gb209)); have n11_ := mK ((by rw [hg]; exact Nat.ne_of_gt (blk_lt (by (with_reducible repeat (first | refine kN ?_ _ | refine kD ?_ | refine kA ?_ _)); exact BK189.out)) : gb209 ≠ gb189)); have n12_ := mK ((by rw [hg]; exact Nat.ne_of_lt (blk_lt (by (with_reducible repeat (first | refine kN ?_ _ | refine kD ?_ | refine kA ?_ _)); exact BK190.out)) : gb190 ≠ gb209)); have n13_ := mK ((by rw [hg]; exact Nat.ne_of_gt (blk_lt (by (with_reducible repeat (first | refine kN ?_ _ | refine kD ?_ | refine kA ?_ _)); exact BK190.out)) : gb209 ≠ gb190)); have n14_ := mK ((by rw [hg]; exact Nat.ne_of_lt (blk_lt (by (with_reducible repeat (first | refine kN ?_ _ | refine kD ?_ | refine kA ?_ _)); exact BK204.out)) : gb204 ≠ gb209)); have n15_ := mK ((by rw [hg]; exact Nat.ne_of_gt (blk_lt (by (with_reducible repeat (first | refine kN ?_ _ | refine kD ?_ | refine kA ?_ _)); exact BK204.out)) : gb209 ≠ gb204)); clear HO195; clear HO202; clear HO208; clear BK189; clear BK190; clear BK204; clear HB; have HO195 := n0_; have HO202 := n1_; have HO208 := n2_; have BK189 := n3_; have BK190 := n4_; have BK204 := n5_; have HB := n6_; have BK209 := n7_; have GW209 := n8_; have GE209 := n9_; have NB189_209 := n10_; have NB209_189 := n11_; have NB190_209 := n12_; have NB209_190 := n13_; have NB204_209 := n14_; have NB209_204 := n15_; clear n0_ n1_ n2_ n3_ n4_ n5_ n6_ n7_ n8_ n9_ n10_ n11_ n12_ n13_ n14_ n15_; clear hb hbox hg; have hnb36 := NB209_189.out; have hnc36 := NB189_209.out; have hnb37 := NB209_190.out; have hnc37 := NB190_209.out; have hnb38 := NB209_204.out; have hnc38 := NB204_209.out; have hcz39_0 : w35.cell? ⟨gb209, 0, none⟩ = some (.int .i64 0) := (blk_cell BK209.out 0).trans rfl; have hcz39_1 : w35.cell? ⟨gb209, 1, none⟩ = some (.slice none 0 0) := (blk_cell BK209.out 1).trans rfl; have hfz39_0 := blk_frozen BK209.out 0; have hfz39_1 := blk_frozen BK209.out 1; obtain ⟨Ao40, co40, eo40⟩ := Kd.R_slice HO208.out; subst eo40))
  have n0_ : Aside0 (Kd.R (Kd.int .i64) 3 ((w35.setCell ⟨gb209, 0, none⟩ (.int .i64 t205)).setCell ⟨gb209, 1, none⟩ (.slice Ao40 t206.length co40)) w.heap.size (fun k_ => some k_ ≠ (.slice Ao30 t200.length co30 : Value).ownBlock ∧ some k_ ≠ (.slice Ao40 t206.length co40 : Value).ownBlock) v194 t193) := ⟨by (with_reducible repeat (first | apply rA | apply rN | apply rD)); exact Kd.R_mono (Kd.R_far (p := ⟨gb209, 1, none⟩) (Kd.R_far (p := ⟨gb209, 0, none⟩) (Kd.R_types HO195.out BK209.out (by decide)) (fun _ hk => hk.2) (.int .i64 t205)) (fun _ hk => hk.2) (.slice Ao40 t206.length co40)) (fun _ hk => ⟨hk.1.1, hk.1.2⟩)⟩
  have n1_ : Aside0 (Kd.R (Kd.int .i64) 3 ((w35.setCell ⟨gb209, 0, none⟩ (.int .i64 t205)).setCell ⟨gb209, 1, none⟩ (.slice Ao40 t206.length co40)) w.heap.size (fun k_ => some k_ ≠ (v194 : Value).ownBlock ∧ some k_ ≠ (.slice Ao40 t206.length co40 : Value).ownBlock) (.slice Ao30 t200.length co30) t200) := ⟨by (with_reducible repeat (first | apply rA | apply rN | apply rD)); exact Kd.R_mono (Kd.R_far (p := ⟨gb209, 1, none⟩) (Kd.R_far (p := ⟨gb209, 0, none⟩) (Kd.R_types HO202.out BK209.out (by decide)) (fun _ hk => hk.2) (.int .i64 t205)) (fun _ hk => hk.2) (.slice Ao40 t206.length co40)) (fun _ hk => ⟨hk.1.1, hk.1.2⟩)⟩
  have n2_ : Aside0 (Kd.R (Kd.int .i64) 3 ((w35.setCell ⟨gb209, 0, none⟩ (.int .i64 t205)).setCell ⟨gb209, 1, none⟩ (.slice Ao40 t206.length co40)) w.heap.size (fun k_ => some k_ ≠ (v194 : Value).ownBlock ∧ some k_ ≠ (.slice Ao30 t200.length co30 : Value).ownBlock) (.slice Ao40 t206.length co40) t206) := ⟨by (with_reducible repeat (first | apply rA | apply rN | apply rD)); exact Kd.R_mono (Kd.R_far (p := ⟨gb209, 1, none⟩) (Kd.R_far (p := ⟨gb209, 0, none⟩) (Kd.R_types HO208.out BK209.out (by decide)) (fun _ hk => hk.2) (.int .i64 t205)) (fun _ hk => hk.2) (.slice Ao40 t206.length co40)) (fun _ hk => ⟨hk.1.1.2, hk.1.2⟩)⟩
  have n3_ : Aside0 (((w35.setCell ⟨gb209, 0, none⟩ (.int .i64 t205)).setCell ⟨gb209, 1, none⟩ (.slice Ao40 t206.length co40)).heap[gb189]? = some (.cells #[.int .i64 a0_0, .slice A0_1 l0_1.length c0_1] 42 (0, 0))) := ⟨by (with_reducible repeat (first | refine kN ?_ _ | refine kD ?_ | refine kA ?_ _)); refine blk_far ?_ NB189_209.out _; (with_reducible repeat (first | refine kN ?_ _ | refine kD ?_ | refine kA ?_ _)); refine blk_far ?_ NB189_209.out _; (with_reducible repeat (first | refine kN ?_ _ | refine kD ?_ | refine kA ?_ _)); exact BK189.out⟩
  have n4_ : Aside0 (((w35.setCell ⟨gb209, 0, none⟩ (.int .i64 t205)).setCell ⟨gb209, 1, none⟩ (.slice Ao40 t206.length co40)).heap[gb190]? = some (.cells #[.int .i64 a1_0, .int .i64 a1_1, .int .i64 a1_2] 68 (0, 0))) := ⟨by (with_reducible repeat (first | refine kN ?_ _ | refine kD ?_ | refine kA ?_ _)); refine blk_far ?_ NB190_209.out _; (with_reducible repeat (first | refine kN ?_ _ | refine kD ?_ | refine kA ?_ _)); refine blk_far ?_ NB190_209.out _; (with_reducible repeat (first | refine kN ?_ _ | refine kD ?_ | refine kA ?_ _)); exact BK190.out⟩
  have n5_ : Aside0 (((w35.setCell ⟨gb209, 0, none⟩ (.int .i64 t205)).setCell ⟨gb209, 1, none⟩ (.slice Ao40 t206.length co40)).heap[gb204]? = some (.cells #[.int .i64 t199, .slice Ao30 t200.length co30] 29 (0, 0))) := ⟨by (with_reducible repeat (first | refine kN ?_ _ | refine kD ?_ | refine kA ?_ _)); refine blk_far ?_ NB204_209.out _; (with_reducible repeat (first | refine kN ?_ _ | refine kD ?_ | refine kA ?_ _)); refine blk_far ?_ NB204_209.out _; (with_reducible repeat (first | refine kN ?_ _ | refine kD ?_ | refine kA ?_ _)); exact BK204.out⟩
  have n6_ : Aside0 (((w35.setCell ⟨gb209, 0, none⟩ (.int .i64 t205)).setCell ⟨gb209, 1, none⟩ (.slice Ao40 t206.length co40)).heap[gb209]? = some (.cells #[.int .i64 t205, .slice Ao40 t206.length co40] 29 (0, 0))) := ⟨by (with_reducible repeat (first | refine kN ?_ _ | refine kD ?_ | refine kA ?_ _)); refine blk_put (cs := #[.int .i64 t205, .slice none 0 0]) ?_ 1 _ rfl; (with_reducible repeat (first | refine kN ?_ _ | refine kD ?_ | refine kA ?_ _)); refine blk_put (cs := #[.int .i64 0, .slice none 0 0]) ?_ 0 _ rfl; (with_reducible repeat (first | refine kN ?_ _ | refine kD ?_ | refine kA ?_ _)); exact BK209.out⟩
  have n7_ : Aside0 (Below w.heap.size w ((w35.setCell ⟨gb209, 0, none⟩ (.int .i64 t205)).setCell ⟨gb209, 1, none⟩ (.slice Ao40 t206.length co40))) := ⟨by repeat (first | (with_reducible first | exact HB.out | apply bA | apply bN | apply bD | refine bS ?_ GE189.out | refine bS ?_ GE190.out | refine bS ?_ GE204.out | refine bS ?_ GE209.out) | exact HB.out)⟩
  (try clear HO195)
  (try clear HO202)
  (try clear HO208)
  (try clear BK189)
  (try clear BK190)
  (try clear BK204)
  (try clear BK209)
  (try clear HB)
  generalize ((w35.setCell ⟨gb209, 0, none⟩ (.int .i64 t205)).setCell ⟨gb209, 1, none⟩ (.slice Ao40 t206.length co40)) = w41 at n0_ n1_ n2_ n3_ n4_ n5_ n6_ n7_ ⊢
  have HO195 := n0_
  have HO202 := n1_
  have HO208 := n2_
  have BK189 := n3_
  have BK190 := n4_
  have BK204 := n5_
  have BK209 := n6_
  have HB := n7_
  clear n0_ n1_ n2_ n3_ n4_ n5_ n6_ n7_
  have n0_ := mK (Kd.R_drew HO195.out)
  have n1_ := mK (Kd.R_drew HO202.out)
  have n2_ := mK (Kd.R_drew HO208.out)
  have n3_ := mK (blk_drew BK189.out)
  have n4_ := mK (blk_drew BK190.out)
  have n5_ := mK (blk_drew BK204.out)
  have n6_ := mK (blk_drew BK209.out)
  have n7_ := mK (below_drew1 HB.out)
  clear HO195
  clear HO202
  clear HO208
  clear BK189
  clear BK190
  clear BK204
  clear BK209
  clear HB
  have HO195 := n0_
  have HO202 := n1_
  have HO208 := n2_
  have BK189 := n3_
  have BK190 := n4_
  have BK204 := n5_
  have BK209 := n6_
  have HB := n7_
  clear n0_ n1_ n2_ n3_ n4_ n5_ n6_ n7_
  refine start_ (n := 10) (S := fun w' => w'.cell? ⟨gb209, 0, none⟩ = some (.int .i64 t205) ∧ w'.cell? ⟨gb209, 1, none⟩ = some (.slice Ao40 t206.length co40) ∧ w'.cell? ⟨gb190, 0, none⟩ = some (.int .i64 a1_0) ∧ w'.cell? ⟨gb190, 1, none⟩ = some (.int .i64 a1_1) ∧ w'.cell? ⟨gb190, 2, none⟩ = some (.int .i64 a1_2)) (ds := []) #[false, false, false, false, false, false, false, false, false, false] (by kernel_rfl) rfl rfl ⟨(blk_cell BK209.out 0).trans rfl, (blk_cell BK209.out 1).trans rfl, (blk_cell BK190.out 0).trans rfl, (blk_cell BK190.out 1).trans rfl, (blk_cell BK190.out 2).trans rfl⟩ (fun hHeld => ?_); refine with_tabW laws_FnExactTightenTable.tab7 laws_FnExactTightenTable.bits7 (fun HT_ HW_ => ?_)
  generalize w41.drew = w42 at HO195 HO202 HO208 BK189 BK190 BK204 BK209 HB hHeld ⊢
  refine take_ (i := 0) (N := some 32) (v := ?_) (a' := ?_) #[true, false, false, false, false, false, false, false, false, false] rfl rfl (take_ofW HT_.out HW_.out (by kernel_rfl)) (fun _ _ _ h => h) (Or.inl ⟨by rfl, ?_⟩) hHeld ?_ ?_
  rotate_left
  · rintro w' ⟨s0, s1, s2, s3, s4⟩
    go_simp
    with_reducible rfl
  rotate_left
  · simp only [Act.put, sT, sZ, sU, i64_w, i32_w]
    rfl
  refine take_ (i := 1) (N := some 33) (v := ?_) (a' := ?_) #[true, true, false, false, false, false, false, false, false, false] rfl rfl (take_ofW HT_.out HW_.out (by kernel_rfl)) (fun _ _ _ h => h) (Or.inl ⟨by rfl, ?_⟩) hHeld ?_ ?_
  rotate_left
  · rintro w' ⟨s0, s1, s2, s3, s4⟩
    go_simp
    with_reducible rfl
  rotate_left
  · simp only [Act.put, sT, sZ, sU, i64_w, i32_w]
    rfl
  refine join_ (σ := Value × Nat) 2 #[true, true, true, true, true, true, true, true, false, false] (fun s_ => [(34, .agg #[.int .i64 t210, .int .i64 t211, .int .i64 t212]), (35, .tuple #[.agg #[.int .i64 t213, s_.1], .bool t217]), (9, .pointer (some ⟨s_.2, 0, none⟩)), (31, .tuple #[.agg #[.int .i64 t213, s_.1], .bool t217]), (36, .agg #[.int .i64 t213, s_.1]), (37, .bool t217)]) (fun s_ w' => (w'.cell? ⟨gb209, 0, none⟩ = some (.int .i64 t205) ∧ w'.cell? ⟨gb209, 1, none⟩ = some (.slice Ao40 t206.length co40) ∧ w'.cell? ⟨gb190, 0, none⟩ = some (.int .i64 a1_0) ∧ w'.cell? ⟨gb190, 1, none⟩ = some (.int .i64 a1_1) ∧ w'.cell? ⟨gb190, 2, none⟩ = some (.int .i64 a1_2)) ∧ (Kd.R (Kd.int .i64) 3 w' w.heap.size (fun k_ => some k_ ≠ (.slice Ao30 t200.length co30 : Value).ownBlock ∧ some k_ ≠ (.slice Ao40 t206.length co40 : Value).ownBlock ∧ some k_ ≠ (s_.1 : Value).ownBlock) v194 t193) ∧ (Kd.R (Kd.int .i64) 3 w' w.heap.size (fun k_ => some k_ ≠ (v194 : Value).ownBlock ∧ some k_ ≠ (.slice Ao40 t206.length co40 : Value).ownBlock ∧ some k_ ≠ (s_.1 : Value).ownBlock) (.slice Ao30 t200.length co30) t200) ∧ (Kd.R (Kd.int .i64) 3 w' w.heap.size (fun k_ => some k_ ≠ (v194 : Value).ownBlock ∧ some k_ ≠ (.slice Ao30 t200.length co30 : Value).ownBlock ∧ some k_ ≠ (s_.1 : Value).ownBlock) (.slice Ao40 t206.length co40) t206) ∧ (Kd.R (Kd.int .i64) 3 w' w.heap.size (fun k_ => some k_ ≠ (v194 : Value).ownBlock ∧ some k_ ≠ (.slice Ao30 t200.length co30 : Value).ownBlock ∧ some k_ ≠ (.slice Ao40 t206.length co40 : Value).ownBlock) s_.1 t214) ∧ (w'.heap[gb189]? = some (.cells #[.int .i64 a0_0, .slice A0_1 l0_1.length c0_1] 42 (0, 0))) ∧ (w'.heap[gb190]? = some (.cells #[.int .i64 a1_0, .int .i64 a1_1, .int .i64 a1_2] 68 (0, 0))) ∧ (w'.heap[gb204]? = some (.cells #[.int .i64 t199, .slice Ao30 t200.length co30] 29 (0, 0))) ∧ (w'.heap[gb209]? = some (.cells #[.int .i64 t205, .slice Ao40 t206.length co40] 29 (0, 0))) ∧ (w'.heap[s_.2]? = some (.cells #[.int .i64 0, .slice none 0 0] 29 (0, 0))) ∧ (w.heap.size ≤ s_.2) ∧ (w.heap.size ≤ s_.2) ∧ (gb189 ≠ s_.2) ∧ (s_.2 ≠ gb189) ∧ (gb190 ≠ s_.2) ∧ (s_.2 ≠ gb190) ∧ (gb204 ≠ s_.2) ∧ (s_.2 ≠ gb204) ∧ (gb209 ≠ s_.2) ∧ (s_.2 ≠ gb209) ∧ (Below w.heap.size w w')) ?_ ?_
  rotate_left
  · intro hCont
    refine two_ (i := 2) (j := 7) (Ni := some 34) (Nj := some 9) #[true, true, true, false, false, false, false, false, false, false] #[true, true, false, false, false, false, false, true, false, false] rfl rfl rfl rfl (two_of HT_.out (by kernel_rfl)) (by decide) (by decide) (fun K hK => ?_) (fun K hK => ?_)
    · skip
      refine goes_ Try.func50 (by kernel_rfl) rfl #[.agg #[.int .i64 a1_0, .int .i64 a1_1, .int .i64 a1_2]] (by rfl) rfl rfl (by (try simp only [List.map_toArray, List.map_cons, List.map_nil]); first | done | rfl | (simp only [List.length_drop, List.length_take]; rfl)) ?_
      with_reducible refine (laws_toEdge.calls a1_0 a1_1 a1_2 t210 t211 t212 _ A14.out).mono ?_
      rintro e w43 ⟨rfl, hb⟩
      refine ⟨_, rfl, ?_⟩
      have n0_ := mK (Kd.R_below (by (with_reducible repeat (first | apply rA | apply rN | apply rD)); exact HO195.out) hb)
      have n1_ := mK (Kd.R_below (by (with_reducible repeat (first | apply rA | apply rN | apply rD)); exact HO202.out) hb)
      have n2_ := mK (Kd.R_below (by (with_reducible repeat (first | apply rA | apply rN | apply rD)); exact HO208.out) hb)
      have n3_ := mK (blk_below (by (with_reducible repeat (first | refine kN ?_ _ | refine kD ?_ | refine kA ?_ _)); exact BK189.out) hb)
      have n4_ := mK (blk_below (by (with_reducible repeat (first | refine kN ?_ _ | refine kD ?_ | refine kA ?_ _)); exact BK190.out) hb)
      have n5_ := mK (blk_below (by (with_reducible repeat (first | refine kN ?_ _ | refine kD ?_ | refine kA ?_ _)); exact BK204.out) hb)
      have n6_ := mK (blk_below (by (with_reducible repeat (first | refine kN ?_ _ | refine kD ?_ | refine kA ?_ _)); exact BK209.out) hb)
      have n7_ := mK (below_step (by repeat (first | (with_reducible first | exact HB.out | apply bA | apply bN | apply bD | refine bS ?_ GE189.out | refine bS ?_ GE190.out | refine bS ?_ GE204.out | refine bS ?_ GE209.out) | exact HB.out)) hb)
      clear HO195
      clear HO202
      clear HO208
      clear BK189
      clear BK190
      clear BK204
      clear BK209
      clear HB
      have HO195 := n0_
      have HO202 := n1_
      have HO208 := n2_
      have BK189 := n3_
      have BK190 := n4_
      have BK204 := n5_
      have BK209 := n6_
      have HB := n7_
      clear n0_ n1_ n2_ n3_ n4_ n5_ n6_ n7_
      (try clear hb)
      (try clear hb2)
      (try clear hk)
      (try clear hi)
      refine hK.out _ _ ⟨(blk_cell BK209.out 0).trans rfl, (blk_cell BK209.out 1).trans rfl, (blk_cell BK190.out 0).trans rfl, (blk_cell BK190.out 1).trans rfl, (blk_cell BK190.out 2).trans rfl⟩ (fun hHeld => ?_)
      clear hK K
      refine norm_ (a' := ?_) ?_ ?_
      rotate_left
      · show Act.put _ (some 34) _ = _
        simp only [Act.put, sT, sZ, sU, i64_w, i32_w]
        rfl
      refine two_ (i := 3) (j := 7) (Ni := some 35) (Nj := some 9) #[true, true, true, true, false, false, false, false, false, false] #[true, true, true, false, false, false, false, true, false, false] rfl rfl rfl rfl (two_of HT_.out (by kernel_rfl)) (by decide) (by decide) (fun K hK => ?_) (fun K hK => ?_)
      · skip
        refine goes_ Try.func21 (by kernel_rfl) rfl #[.agg #[.int .i64 t205, .slice Ao40 t206.length co40], .agg #[.int .i64 t210, .int .i64 t211, .int .i64 t212]] (by rfl) rfl rfl (by (try simp only [List.map_toArray, List.map_cons, List.map_nil]); first | done | rfl | (simp only [List.length_drop, List.length_take]; rfl)) ?_
        with_reducible refine (impl_TightenTable.calls k t205 _ _ t206 t210 t211 t212 t213 t214 t217 _ ?side1 ?side2 A15.out).mono ?_
        (case side1 => repeat (first | exact (Kd.R_reads' HO208.out).2.2 | (with_reducible refine Kd.C_alloc ?_ _) | (with_reducible refine Kd.C_drewN ?_ _) | (with_reducible refine Kd.C_drew ?_)))
        (case side2 => exact (Kd.R_reads' HO208.out).2.1)
        rintro e w44 ⟨v215, rfl, ho0, hb⟩
        refine ⟨_, rfl, ?_⟩
        have n0_ := mK (Kd.R_elder' (by (with_reducible repeat (first | apply rA | apply rN | apply rD)); exact HO195.out) (Kd.R_base ho0) hb)
        have n1_ := mK (Kd.R_elder' (by (with_reducible repeat (first | apply rA | apply rN | apply rD)); exact HO202.out) (Kd.R_base ho0) hb)
        have n2_ := mK (Kd.R_elder' (by (with_reducible repeat (first | apply rA | apply rN | apply rD)); exact HO208.out) (Kd.R_base ho0) hb)
        have n3_ := mK (Kd.R_lower (Kd.R_new' (Kd.R_new' (Kd.R_new' ho0 (Kd.R_lt (by (with_reducible repeat (first | apply rA | apply rN | apply rD)); exact HO195.out))) (Kd.R_lt (by (with_reducible repeat (first | apply rA | apply rN | apply rD)); exact HO202.out))) (Kd.R_lt (by (with_reducible repeat (first | apply rA | apply rN | apply rD)); exact HO208.out))) (below_size (by repeat (first | (with_reducible first | exact HB.out | apply bA | apply bN | apply bD | refine bS ?_ GE189.out | refine bS ?_ GE190.out | refine bS ?_ GE204.out | refine bS ?_ GE209.out) | exact HB.out))))
        have n4_ := mK (blk_below (by (with_reducible repeat (first | refine kN ?_ _ | refine kD ?_ | refine kA ?_ _)); exact BK189.out) hb)
        have n5_ := mK (blk_below (by (with_reducible repeat (first | refine kN ?_ _ | refine kD ?_ | refine kA ?_ _)); exact BK190.out) hb)
        have n6_ := mK (blk_below (by (with_reducible repeat (first | refine kN ?_ _ | refine kD ?_ | refine kA ?_ _)); exact BK204.out) hb)
        have n7_ := mK (blk_below (by (with_reducible repeat (first | refine kN ?_ _ | refine kD ?_ | refine kA ?_ _)); exact BK209.out) hb)
        have n8_ := mK (below_step (by repeat (first | (with_reducible first | exact HB.out | apply bA | apply bN | apply bD | refine bS ?_ GE189.out | refine bS ?_ GE190.out | refine bS ?_ GE204.out | refine bS ?_ GE209.out) | exact HB.out)) hb)
        clear HO195
        clear HO202
        clear HO208
        clear BK189
        clear BK190
        clear BK204
        clear BK209
        clear HB
        have HO195 := n0_
        have HO202 := n1_
        have HO208 := n2_
        have HO216 := n3_
        have BK189 := n4_
        have BK190 := n5_
        have BK204 := n6_
        have BK209 := n7_
        have HB := n8_
        clear n0_ n1_ n2_ n3_ n4_ n5_ n6_ n7_ n8_
        (try clear hb)
        (try clear hb2)
        (try clear hk)
        (try clear hi)
        (try clear ho0)
        refine hK.out _ _ ⟨(blk_cell BK209.out 0).trans rfl, (blk_cell BK209.out 1).trans rfl, (blk_cell BK190.out 0).trans rfl, (blk_cell BK190.out 1).trans rfl, (blk_cell BK190.out 2).trans rfl⟩ (fun hHeld => ?_)
        clear hK K
        refine norm_ (a' := ?_) ?_ ?_
        rotate_left
        · show Act.put _ (some 35) _ = _
          simp only [Act.put, sT, sZ, sU, i64_w, i32_w]
          rfl
        refine pure_ (i := 4) (N := some 31) (v := ?_) (a' := ?_) #[true, true, true, true, true, false, false, false, false, false] rfl rfl (any_of HT_.out (by kernel_rfl)) (fun _ _ _ h => h) (Or.inl ⟨by rfl, ?_⟩) ?_ ?_
        rotate_left
        · intro w'
          go_simp
          with_reducible rfl
        rotate_left
        · simp only [Act.put, sT, sZ, sU, i64_w, i32_w]
          rfl
        refine pure_ (i := 5) (N := some 36) (v := ?_) (a' := ?_) #[true, true, true, true, true, true, false, false, false, false] rfl rfl (any_of HT_.out (by kernel_rfl)) (fun _ _ _ h => h) (Or.inl ⟨by rfl, ?_⟩) ?_ ?_
        rotate_left
        · intro w'
          go_simp
          with_reducible rfl
        rotate_left
        · simp only [Act.put, sT, sZ, sU, i64_w, i32_w]
          rfl
        refine pure_ (i := 6) (N := some 37) (v := ?_) (a' := ?_) #[true, true, true, true, true, true, true, false, false, false] rfl rfl (any_of HT_.out (by kernel_rfl)) (fun _ _ _ h => h) (Or.inl ⟨by rfl, ?_⟩) ?_ ?_
        rotate_left
        · intro w'
          go_simp
          with_reducible rfl
        rotate_left
        · simp only [Act.put, sT, sZ, sU, i64_w, i32_w]
          rfl
        refine one_ (i := 7) (N := some 9) #[true, true, true, true, true, true, true, true, false, false] rfl rfl (one_of HT_.out (by kernel_rfl)) (by decide) (fun K hK => ?_)
        refine box_step ?hg (N := 9) ?hd (cs := #[.int .i64 0, .slice none 0 0]) (t := 29) ?hr ?_; (case hd => rfl); (case hg => rfl); (case hr => first | (go_simp; done) | (go_simp; rfl))
        intro gb218 hg w45 hbox hb
        have n0_ := mK (Kd.R_below (by (with_reducible repeat (first | apply rA | apply rN | apply rD)); exact HO195.out) hb)
        have n1_ := mK (Kd.R_below (by (with_reducible repeat (first | apply rA | apply rN | apply rD)); exact HO202.out) hb)
        have n2_ := mK (Kd.R_below (by (with_reducible repeat (first | apply rA | apply rN | apply rD)); exact HO208.out) hb)
        have n3_ := mK (Kd.R_below (by (with_reducible repeat (first | apply rA | apply rN | apply rD)); exact HO216.out) hb)
        have n4_ := mK (blk_below (by (with_reducible repeat (first | refine kN ?_ _ | refine kD ?_ | refine kA ?_ _)); exact BK189.out) hb)
        have n5_ := mK (blk_below (by (with_reducible repeat (first | refine kN ?_ _ | refine kD ?_ | refine kA ?_ _)); exact BK190.out) hb)
        have n6_ := mK (blk_below (by (with_reducible repeat (first | refine kN ?_ _ | refine kD ?_ | refine kA ?_ _)); exact BK204.out) hb)
        have n7_ := mK (blk_below (by (with_reducible repeat (first | refine kN ?_ _ | refine kD ?_ | refine kA ?_ _)); exact BK209.out) hb)
        have n8_ := mK (below_step (by repeat (first | (with_reducible first | exact HB.out | apply bA | apply bN | apply bD | refine bS ?_ GE189.out | refine bS ?_ GE190.out | refine bS ?_ GE204.out | refine bS ?_ GE209.out) | exact HB.out)) hb)
        have n9_ := mK (hbox)
        have n10_ := mK ((by rw [hg]; exact (below_size (by repeat (first | (with_reducible first | exact HB.out | apply bA | apply bN | apply bD | refine bS ?_ GE189.out | refine bS ?_ GE190.out | refine bS ?_ GE204.out | refine bS ?_ GE209.out) | exact HB.out))) : w.heap.size ≤ gb218))
        have n11_ := mK ((by rw [hg]; exact (below_size (by repeat (first | (with_reducible first | exact HB.out | apply bA | apply bN | apply bD | refine bS ?_ GE189.out | refine bS ?_ GE190.out | refine bS ?_ GE204.out | refine bS ?_ GE209.out) | exact HB.out))) : w.heap.size ≤ gb218))
        have n12_ := mK ((by rw [hg]; exact Nat.ne_of_lt (blk_lt (by (with_reducible repeat (first | refine kN ?_ _ | refine kD ?_ | refine kA ?_ _)); exact BK189.out)) : gb189 ≠ gb218))
        have n13_ := mK ((by rw [hg]; exact Nat.ne_of_gt (blk_lt (by (with_reducible repeat (first | refine kN ?_ _ | refine kD ?_ | refine kA ?_ _)); exact BK189.out)) : gb218 ≠ gb189))
        have n14_ := mK ((by rw [hg]; exact Nat.ne_of_lt (blk_lt (by (with_reducible repeat (first | refine kN ?_ _ | refine kD ?_ | refine kA ?_ _)); exact BK190.out)) : gb190 ≠ gb218))
        have n15_ := mK ((by rw [hg]; exact Nat.ne_of_gt (blk_lt (by (with_reducible repeat (first | refine kN ?_ _ | refine kD ?_ | refine kA ?_ _)); exact BK190.out)) : gb218 ≠ gb190))
        have n16_ := mK ((by rw [hg]; exact Nat.ne_of_lt (blk_lt (by (with_reducible repeat (first | refine kN ?_ _ | refine kD ?_ | refine kA ?_ _)); exact BK204.out)) : gb204 ≠ gb218))
        have n17_ := mK ((by rw [hg]; exact Nat.ne_of_gt (blk_lt (by (with_reducible repeat (first | refine kN ?_ _ | refine kD ?_ | refine kA ?_ _)); exact BK204.out)) : gb218 ≠ gb204))
        have n18_ := mK ((by rw [hg]; exact Nat.ne_of_lt (blk_lt (by (with_reducible repeat (first | refine kN ?_ _ | refine kD ?_ | refine kA ?_ _)); exact BK209.out)) : gb209 ≠ gb218))
        have n19_ := mK ((by rw [hg]; exact Nat.ne_of_gt (blk_lt (by (with_reducible repeat (first | refine kN ?_ _ | refine kD ?_ | refine kA ?_ _)); exact BK209.out)) : gb218 ≠ gb209))
        clear HO195
        clear HO202
        clear HO208
        clear HO216
        clear BK189
        clear BK190
        clear BK204
        clear BK209
        clear HB
        have HO195 := n0_
        have HO202 := n1_
        have HO208 := n2_
        have HO216 := n3_
        have BK189 := n4_
        have BK190 := n5_
        have BK204 := n6_
        have BK209 := n7_
        have HB := n8_
        have BK218 := n9_
        have GW218 := n10_
        have GE218 := n11_
        have NB189_218 := n12_
        have NB218_189 := n13_
        have NB190_218 := n14_
        have NB218_190 := n15_
        have NB204_218 := n16_
        have NB218_204 := n17_
        have NB209_218 := n18_
        have NB218_209 := n19_
        clear n0_ n1_ n2_ n3_ n4_ n5_ n6_ n7_ n8_ n9_ n10_ n11_ n12_ n13_ n14_ n15_ n16_ n17_ n18_ n19_
        clear hb hbox hg
        refine hK.out _ _ ⟨(blk_cell BK209.out 0).trans rfl, (blk_cell BK209.out 1).trans rfl, (blk_cell BK190.out 0).trans rfl, (blk_cell BK190.out 1).trans rfl, (blk_cell BK190.out 2).trans rfl⟩ (fun hHeld => ?_)
        clear hK K
        refine norm_ (a' := ?_) ?_ ?_
        rotate_left
        · show Act.put _ (some 9) _ = _
          simp only [Act.put, sT, sZ, sU, i64_w, i32_w]
          rfl
        exact norm_ (by simp only [putAll, Act.put, sT, sZ, sU]) (hCont (v215, gb218) _ ⟨hHeld, (by (with_reducible repeat (first | apply rA | apply rN | apply rD)); exact Kd.R_mono HO195.out (fun _ hk => ⟨hk.1.1, ⟨hk.1.2, hk.2⟩⟩)), (by (with_reducible repeat (first | apply rA | apply rN | apply rD)); exact Kd.R_mono HO202.out (fun _ hk => ⟨hk.1.1, ⟨hk.1.2, hk.2⟩⟩)), (by (with_reducible repeat (first | apply rA | apply rN | apply rD)); exact Kd.R_mono HO208.out (fun _ hk => ⟨hk.1.1, ⟨hk.1.2, hk.2⟩⟩)), (by (with_reducible repeat (first | apply rA | apply rN | apply rD)); exact Kd.R_mono HO216.out (fun _ hk => ⟨hk.1.1.2, ⟨hk.1.2, hk.2⟩⟩)), (by (with_reducible repeat (first | refine kN ?_ _ | refine kD ?_ | refine kA ?_ _)); exact BK189.out), (by (with_reducible repeat (first | refine kN ?_ _ | refine kD ?_ | refine kA ?_ _)); exact BK190.out), (by (with_reducible repeat (first | refine kN ?_ _ | refine kD ?_ | refine kA ?_ _)); exact BK204.out), (by (with_reducible repeat (first | refine kN ?_ _ | refine kD ?_ | refine kA ?_ _)); exact BK209.out), (by (with_reducible repeat (first | refine kN ?_ _ | refine kD ?_ | refine kA ?_ _)); exact BK218.out), GW218.out, GE218.out, NB189_218.out, NB218_189.out, NB190_218.out, NB218_190.out, NB204_218.out, NB218_204.out, NB209_218.out, NB218_209.out, (by repeat (first | (with_reducible first | exact HB.out | apply bA | apply bN | apply bD | refine bS ?_ GE189.out | refine bS ?_ GE190.out | refine bS ?_ GE204.out | refine bS ?_ GE209.out | refine bS ?_ GE218.out) | exact HB.out))⟩)
      · skip
        refine box_step ?hg (N := 9) ?hd (cs := #[.int .i64 0, .slice none 0 0]) (t := 29) ?hr ?_; (case hd => rfl); (case hg => rfl); (case hr => first | (go_simp; done) | (go_simp; rfl))
        intro gb218 hg w44 hbox hb
        have n0_ := mK (Kd.R_below (by (with_reducible repeat (first | apply rA | apply rN | apply rD)); exact HO195.out) hb)
        have n1_ := mK (Kd.R_below (by (with_reducible repeat (first | apply rA | apply rN | apply rD)); exact HO202.out) hb)
        have n2_ := mK (Kd.R_below (by (with_reducible repeat (first | apply rA | apply rN | apply rD)); exact HO208.out) hb)
        have n3_ := mK (blk_below (by (with_reducible repeat (first | refine kN ?_ _ | refine kD ?_ | refine kA ?_ _)); exact BK189.out) hb)
        have n4_ := mK (blk_below (by (with_reducible repeat (first | refine kN ?_ _ | refine kD ?_ | refine kA ?_ _)); exact BK190.out) hb)
        have n5_ := mK (blk_below (by (with_reducible repeat (first | refine kN ?_ _ | refine kD ?_ | refine kA ?_ _)); exact BK204.out) hb)
        have n6_ := mK (blk_below (by (with_reducible repeat (first | refine kN ?_ _ | refine kD ?_ | refine kA ?_ _)); exact BK209.out) hb)
        have n7_ := mK (below_step (by repeat (first | (with_reducible first | exact HB.out | apply bA | apply bN | apply bD | refine bS ?_ GE189.out | refine bS ?_ GE190.out | refine bS ?_ GE204.out | refine bS ?_ GE209.out) | exact HB.out)) hb)
        have n8_ := mK (hbox)
        have n9_ := mK ((by rw [hg]; exact (below_size (by repeat (first | (with_reducible first | exact HB.out | apply bA | apply bN | apply bD | refine bS ?_ GE189.out | refine bS ?_ GE190.out | refine bS ?_ GE204.out | refine bS ?_ GE209.out) | exact HB.out))) : w.heap.size ≤ gb218))
        have n10_ := mK ((by rw [hg]; exact (below_size (by repeat (first | (with_reducible first | exact HB.out | apply bA | apply bN | apply bD | refine bS ?_ GE189.out | refine bS ?_ GE190.out | refine bS ?_ GE204.out | refine bS ?_ GE209.out) | exact HB.out))) : w.heap.size ≤ gb218))
        have n11_ := mK ((by rw [hg]; exact Nat.ne_of_lt (blk_lt (by (with_reducible repeat (first | refine kN ?_ _ | refine kD ?_ | refine kA ?_ _)); exact BK189.out)) : gb189 ≠ gb218))
        have n12_ := mK ((by rw [hg]; exact Nat.ne_of_gt (blk_lt (by (with_reducible repeat (first | refine kN ?_ _ | refine kD ?_ | refine kA ?_ _)); exact BK189.out)) : gb218 ≠ gb189))
        have n13_ := mK ((by rw [hg]; exact Nat.ne_of_lt (blk_lt (by (with_reducible repeat (first | refine kN ?_ _ | refine kD ?_ | refine kA ?_ _)); exact BK190.out)) : gb190 ≠ gb218))
        have n14_ := mK ((by rw [hg]; exact Nat.ne_of_gt (blk_lt (by (with_reducible repeat (first | refine kN ?_ _ | refine kD ?_ | refine kA ?_ _)); exact BK190.out)) : gb218 ≠ gb190))
        have n15_ := mK ((by rw [hg]; exact Nat.ne_of_lt (blk_lt (by (with_reducible repeat (first | refine kN ?_ _ | refine kD ?_ | refine kA ?_ _)); exact BK204.out)) : gb204 ≠ gb218))
        have n16_ := mK ((by rw [hg]; exact Nat.ne_of_gt (blk_lt (by (with_reducible repeat (first | refine kN ?_ _ | refine kD ?_ | refine kA ?_ _)); exact BK204.out)) : gb218 ≠ gb204))
        have n17_ := mK ((by rw [hg]; exact Nat.ne_of_lt (blk_lt (by (with_reducible repeat (first | refine kN ?_ _ | refine kD ?_ | refine kA ?_ _)); exact BK209.out)) : gb209 ≠ gb218))
        have n18_ := mK ((by rw [hg]; exact Nat.ne_of_gt (blk_lt (by (with_reducible repeat (first | refine kN ?_ _ | refine kD ?_ | refine kA ?_ _)); exact BK209.out)) : gb218 ≠ gb209))
        clear HO195
        clear HO202
        clear HO208
        clear BK189
        clear BK190
        clear BK204
        clear BK209
        clear HB
        have HO195 := n0_
        have HO202 := n1_
        have HO208 := n2_
        have BK189 := n3_
        have BK190 := n4_
        have BK204 := n5_
        have BK209 := n6_
        have HB := n7_
        have BK218 := n8_
        have GW218 := n9_
        have GE218 := n10_
        have NB189_218 := n11_
        have NB218_189 := n12_
        have NB190_218 := n13_
        have NB218_190 := n14_
        have NB204_218 := n15_
        have NB218_204 := n16_
        have NB209_218 := n17_
        have NB218_209 := n18_
        clear n0_ n1_ n2_ n3_ n4_ n5_ n6_ n7_ n8_ n9_ n10_ n11_ n12_ n13_ n14_ n15_ n16_ n17_ n18_
        clear hb hbox hg
        refine hK.out _ _ ⟨(blk_cell BK209.out 0).trans rfl, (blk_cell BK209.out 1).trans rfl, (blk_cell BK190.out 0).trans rfl, (blk_cell BK190.out 1).trans rfl, (blk_cell BK190.out 2).trans rfl⟩ (fun hHeld => ?_)
        clear hK K
        refine norm_ (a' := ?_) ?_ ?_
        rotate_left
        · show Act.put _ (some 9) _ = _
          simp only [Act.put, sT, sZ, sU, i64_w, i32_w]
          rfl
        refine one_ (i := 3) (N := some 35) #[true, true, true, true, false, false, false, true, false, false] rfl rfl (one_of HT_.out (by kernel_rfl)) (by decide) (fun K hK => ?_)
        refine goes_ Try.func21 (by kernel_rfl) rfl #[.agg #[.int .i64 t205, .slice Ao40 t206.length co40], .agg #[.int .i64 t210, .int .i64 t211, .int .i64 t212]] (by rfl) rfl rfl (by (try simp only [List.map_toArray, List.map_cons, List.map_nil]); first | done | rfl | (simp only [List.length_drop, List.length_take]; rfl)) ?_
        with_reducible refine (impl_TightenTable.calls k t205 _ _ t206 t210 t211 t212 t213 t214 t217 _ ?side1 ?side2 A15.out).mono ?_
        (case side1 => repeat (first | exact (Kd.R_reads' HO208.out).2.2 | (with_reducible refine Kd.C_alloc ?_ _) | (with_reducible refine Kd.C_drewN ?_ _) | (with_reducible refine Kd.C_drew ?_)))
        (case side2 => exact (Kd.R_reads' HO208.out).2.1)
        rintro e w45 ⟨v215, rfl, ho0, hb⟩
        refine ⟨_, rfl, ?_⟩
        have n0_ := mK (Kd.R_elder' (by (with_reducible repeat (first | apply rA | apply rN | apply rD)); exact HO195.out) (Kd.R_base ho0) hb)
        have n1_ := mK (Kd.R_elder' (by (with_reducible repeat (first | apply rA | apply rN | apply rD)); exact HO202.out) (Kd.R_base ho0) hb)
        have n2_ := mK (Kd.R_elder' (by (with_reducible repeat (first | apply rA | apply rN | apply rD)); exact HO208.out) (Kd.R_base ho0) hb)
        have n3_ := mK (Kd.R_lower (Kd.R_new' (Kd.R_new' (Kd.R_new' ho0 (Kd.R_lt (by (with_reducible repeat (first | apply rA | apply rN | apply rD)); exact HO195.out))) (Kd.R_lt (by (with_reducible repeat (first | apply rA | apply rN | apply rD)); exact HO202.out))) (Kd.R_lt (by (with_reducible repeat (first | apply rA | apply rN | apply rD)); exact HO208.out))) (below_size (by repeat (first | (with_reducible first | exact HB.out | apply bA | apply bN | apply bD | refine bS ?_ GE189.out | refine bS ?_ GE190.out | refine bS ?_ GE204.out | refine bS ?_ GE209.out | refine bS ?_ GE218.out) | exact HB.out))))
        have n4_ := mK (blk_below (by (with_reducible repeat (first | refine kN ?_ _ | refine kD ?_ | refine kA ?_ _)); exact BK189.out) hb)
        have n5_ := mK (blk_below (by (with_reducible repeat (first | refine kN ?_ _ | refine kD ?_ | refine kA ?_ _)); exact BK190.out) hb)
        have n6_ := mK (blk_below (by (with_reducible repeat (first | refine kN ?_ _ | refine kD ?_ | refine kA ?_ _)); exact BK204.out) hb)
        have n7_ := mK (blk_below (by (with_reducible repeat (first | refine kN ?_ _ | refine kD ?_ | refine kA ?_ _)); exact BK209.out) hb)
        have n8_ := mK (blk_below (by (with_reducible repeat (first | refine kN ?_ _ | refine kD ?_ | refine kA ?_ _)); exact BK218.out) hb)
        have n9_ := mK (below_step (by repeat (first | (with_reducible first | exact HB.out | apply bA | apply bN | apply bD | refine bS ?_ GE189.out | refine bS ?_ GE190.out | refine bS ?_ GE204.out | refine bS ?_ GE209.out | refine bS ?_ GE218.out) | exact HB.out)) hb)
        clear HO195
        clear HO202
        clear HO208
        clear BK189
        clear BK190
        clear BK204
        clear BK209
        clear BK218
        clear HB
        have HO195 := n0_
        have HO202 := n1_
        have HO208 := n2_
        have HO216 := n3_
        have BK189 := n4_
        have BK190 := n5_
        have BK204 := n6_
        have BK209 := n7_
        have BK218 := n8_
        have HB := n9_
        clear n0_ n1_ n2_ n3_ n4_ n5_ n6_ n7_ n8_ n9_
        (try clear hb)
        (try clear hb2)
        (try clear hk)
        (try clear hi)
        (try clear ho0)
        refine hK.out _ _ ⟨(blk_cell BK209.out 0).trans rfl, (blk_cell BK209.out 1).trans rfl, (blk_cell BK190.out 0).trans rfl, (blk_cell BK190.out 1).trans rfl, (blk_cell BK190.out 2).trans rfl⟩ (fun hHeld => ?_)
        clear hK K
        refine norm_ (a' := ?_) ?_ ?_
        rotate_left
        · show Act.put _ (some 35) _ = _
          simp only [Act.put, sT, sZ, sU, i64_w, i32_w]
          rfl
        refine pure_ (i := 4) (N := some 31) (v := ?_) (a' := ?_) #[true, true, true, true, true, false, false, true, false, false] rfl rfl (any_of HT_.out (by kernel_rfl)) (fun _ _ _ h => h) (Or.inl ⟨by rfl, ?_⟩) ?_ ?_
        rotate_left
        · intro w'
          go_simp
          with_reducible rfl
        rotate_left
        · simp only [Act.put, sT, sZ, sU, i64_w, i32_w]
          rfl
        refine pure_ (i := 5) (N := some 36) (v := ?_) (a' := ?_) #[true, true, true, true, true, true, false, true, false, false] rfl rfl (any_of HT_.out (by kernel_rfl)) (fun _ _ _ h => h) (Or.inl ⟨by rfl, ?_⟩) ?_ ?_
        rotate_left
        · intro w'
          go_simp
          with_reducible rfl
        rotate_left
        · simp only [Act.put, sT, sZ, sU, i64_w, i32_w]
          rfl
        refine pure_ (i := 6) (N := some 37) (v := ?_) (a' := ?_) #[true, true, true, true, true, true, true, true, false, false] rfl rfl (any_of HT_.out (by kernel_rfl)) (fun _ _ _ h => h) (Or.inl ⟨by rfl, ?_⟩) ?_ ?_
        rotate_left
        · intro w'
          go_simp
          with_reducible rfl
        rotate_left
        · simp only [Act.put, sT, sZ, sU, i64_w, i32_w]
          rfl
        exact norm_ (by simp only [putAll, Act.put, sT, sZ, sU]) (hCont (v215, gb218) _ ⟨hHeld, (by (with_reducible repeat (first | apply rA | apply rN | apply rD)); exact Kd.R_mono HO195.out (fun _ hk => ⟨hk.1.1, ⟨hk.1.2, hk.2⟩⟩)), (by (with_reducible repeat (first | apply rA | apply rN | apply rD)); exact Kd.R_mono HO202.out (fun _ hk => ⟨hk.1.1, ⟨hk.1.2, hk.2⟩⟩)), (by (with_reducible repeat (first | apply rA | apply rN | apply rD)); exact Kd.R_mono HO208.out (fun _ hk => ⟨hk.1.1, ⟨hk.1.2, hk.2⟩⟩)), (by (with_reducible repeat (first | apply rA | apply rN | apply rD)); exact Kd.R_mono HO216.out (fun _ hk => ⟨hk.1.1.2, ⟨hk.1.2, hk.2⟩⟩)), (by (with_reducible repeat (first | refine kN ?_ _ | refine kD ?_ | refine kA ?_ _)); exact BK189.out), (by (with_reducible repeat (first | refine kN ?_ _ | refine kD ?_ | refine kA ?_ _)); exact BK190.out), (by (with_reducible repeat (first | refine kN ?_ _ | refine kD ?_ | refine kA ?_ _)); exact BK204.out), (by (with_reducible repeat (first | refine kN ?_ _ | refine kD ?_ | refine kA ?_ _)); exact BK209.out), (by (with_reducible repeat (first | refine kN ?_ _ | refine kD ?_ | refine kA ?_ _)); exact BK218.out), GW218.out, GE218.out, NB189_218.out, NB218_189.out, NB190_218.out, NB218_190.out, NB204_218.out, NB218_204.out, NB209_218.out, NB218_209.out, (by repeat (first | (with_reducible first | exact HB.out | apply bA | apply bN | apply bD | refine bS ?_ GE189.out | refine bS ?_ GE190.out | refine bS ?_ GE204.out | refine bS ?_ GE209.out | refine bS ?_ GE218.out) | exact HB.out))⟩)
    · skip
      refine box_step ?hg (N := 9) ?hd (cs := #[.int .i64 0, .slice none 0 0]) (t := 29) ?hr ?_; (case hd => rfl); (case hg => rfl); (case hr => first | (go_simp; done) | (go_simp; rfl))
      intro gb218 hg w43 hbox hb
      have n0_ := mK (Kd.R_below (by (with_reducible repeat (first | apply rA | apply rN | apply rD)); exact HO195.out) hb)
      have n1_ := mK (Kd.R_below (by (with_reducible repeat (first | apply rA | apply rN | apply rD)); exact HO202.out) hb)
      have n2_ := mK (Kd.R_below (by (with_reducible repeat (first | apply rA | apply rN | apply rD)); exact HO208.out) hb)
      have n3_ := mK (blk_below (by (with_reducible repeat (first | refine kN ?_ _ | refine kD ?_ | refine kA ?_ _)); exact BK189.out) hb)
      have n4_ := mK (blk_below (by (with_reducible repeat (first | refine kN ?_ _ | refine kD ?_ | refine kA ?_ _)); exact BK190.out) hb)
      have n5_ := mK (blk_below (by (with_reducible repeat (first | refine kN ?_ _ | refine kD ?_ | refine kA ?_ _)); exact BK204.out) hb)
      have n6_ := mK (blk_below (by (with_reducible repeat (first | refine kN ?_ _ | refine kD ?_ | refine kA ?_ _)); exact BK209.out) hb)
      have n7_ := mK (below_step (by repeat (first | (with_reducible first | exact HB.out | apply bA | apply bN | apply bD | refine bS ?_ GE189.out | refine bS ?_ GE190.out | refine bS ?_ GE204.out | refine bS ?_ GE209.out) | exact HB.out)) hb)
      have n8_ := mK (hbox)
      have n9_ := mK ((by rw [hg]; exact (below_size (by repeat (first | (with_reducible first | exact HB.out | apply bA | apply bN | apply bD | refine bS ?_ GE189.out | refine bS ?_ GE190.out | refine bS ?_ GE204.out | refine bS ?_ GE209.out) | exact HB.out))) : w.heap.size ≤ gb218))
      have n10_ := mK ((by rw [hg]; exact (below_size (by repeat (first | (with_reducible first | exact HB.out | apply bA | apply bN | apply bD | refine bS ?_ GE189.out | refine bS ?_ GE190.out | refine bS ?_ GE204.out | refine bS ?_ GE209.out) | exact HB.out))) : w.heap.size ≤ gb218))
      have n11_ := mK ((by rw [hg]; exact Nat.ne_of_lt (blk_lt (by (with_reducible repeat (first | refine kN ?_ _ | refine kD ?_ | refine kA ?_ _)); exact BK189.out)) : gb189 ≠ gb218))
      have n12_ := mK ((by rw [hg]; exact Nat.ne_of_gt (blk_lt (by (with_reducible repeat (first | refine kN ?_ _ | refine kD ?_ | refine kA ?_ _)); exact BK189.out)) : gb218 ≠ gb189))
      have n13_ := mK ((by rw [hg]; exact Nat.ne_of_lt (blk_lt (by (with_reducible repeat (first | refine kN ?_ _ | refine kD ?_ | refine kA ?_ _)); exact BK190.out)) : gb190 ≠ gb218))
      have n14_ := mK ((by rw [hg]; exact Nat.ne_of_gt (blk_lt (by (with_reducible repeat (first | refine kN ?_ _ | refine kD ?_ | refine kA ?_ _)); exact BK190.out)) : gb218 ≠ gb190))
      have n15_ := mK ((by rw [hg]; exact Nat.ne_of_lt (blk_lt (by (with_reducible repeat (first | refine kN ?_ _ | refine kD ?_ | refine kA ?_ _)); exact BK204.out)) : gb204 ≠ gb218))
      have n16_ := mK ((by rw [hg]; exact Nat.ne_of_gt (blk_lt (by (with_reducible repeat (first | refine kN ?_ _ | refine kD ?_ | refine kA ?_ _)); exact BK204.out)) : gb218 ≠ gb204))
      have n17_ := mK ((by rw [hg]; exact Nat.ne_of_lt (blk_lt (by (with_reducible repeat (first | refine kN ?_ _ | refine kD ?_ | refine kA ?_ _)); exact BK209.out)) : gb209 ≠ gb218))
      have n18_ := mK ((by rw [hg]; exact Nat.ne_of_gt (blk_lt (by (with_reducible repeat (first | refine kN ?_ _ | refine kD ?_ | refine kA ?_ _)); exact BK209.out)) : gb218 ≠ gb209))
      clear HO195
      clear HO202
      clear HO208
      clear BK189
      clear BK190
      clear BK204
      clear BK209
      clear HB
      have HO195 := n0_
      have HO202 := n1_
      have HO208 := n2_
      have BK189 := n3_
      have BK190 := n4_
      have BK204 := n5_
      have BK209 := n6_
      have HB := n7_
      have BK218 := n8_
      have GW218 := n9_
      have GE218 := n10_
      have NB189_218 := n11_
      have NB218_189 := n12_
      have NB190_218 := n13_
      have NB218_190 := n14_
      have NB204_218 := n15_
      have NB218_204 := n16_
      have NB209_218 := n17_
      have NB218_209 := n18_
      clear n0_ n1_ n2_ n3_ n4_ n5_ n6_ n7_ n8_ n9_ n10_ n11_ n12_ n13_ n14_ n15_ n16_ n17_ n18_
      clear hb hbox hg
      refine hK.out _ _ ⟨(blk_cell BK209.out 0).trans rfl, (blk_cell BK209.out 1).trans rfl, (blk_cell BK190.out 0).trans rfl, (blk_cell BK190.out 1).trans rfl, (blk_cell BK190.out 2).trans rfl⟩ (fun hHeld => ?_)
      clear hK K
      refine norm_ (a' := ?_) ?_ ?_
      rotate_left
      · show Act.put _ (some 9) _ = _
        simp only [Act.put, sT, sZ, sU, i64_w, i32_w]
        rfl
      refine one_ (i := 2) (N := some 34) #[true, true, true, false, false, false, false, true, false, false] rfl rfl (one_of HT_.out (by kernel_rfl)) (by decide) (fun K hK => ?_)
      refine goes_ Try.func50 (by kernel_rfl) rfl #[.agg #[.int .i64 a1_0, .int .i64 a1_1, .int .i64 a1_2]] (by rfl) rfl rfl (by (try simp only [List.map_toArray, List.map_cons, List.map_nil]); first | done | rfl | (simp only [List.length_drop, List.length_take]; rfl)) ?_
      with_reducible refine (laws_toEdge.calls a1_0 a1_1 a1_2 t210 t211 t212 _ A14.out).mono ?_
      rintro e w44 ⟨rfl, hb⟩
      refine ⟨_, rfl, ?_⟩
      have n0_ := mK (Kd.R_below (by (with_reducible repeat (first | apply rA | apply rN | apply rD)); exact HO195.out) hb)
      have n1_ := mK (Kd.R_below (by (with_reducible repeat (first | apply rA | apply rN | apply rD)); exact HO202.out) hb)
      have n2_ := mK (Kd.R_below (by (with_reducible repeat (first | apply rA | apply rN | apply rD)); exact HO208.out) hb)
      have n3_ := mK (blk_below (by (with_reducible repeat (first | refine kN ?_ _ | refine kD ?_ | refine kA ?_ _)); exact BK189.out) hb)
      have n4_ := mK (blk_below (by (with_reducible repeat (first | refine kN ?_ _ | refine kD ?_ | refine kA ?_ _)); exact BK190.out) hb)
      have n5_ := mK (blk_below (by (with_reducible repeat (first | refine kN ?_ _ | refine kD ?_ | refine kA ?_ _)); exact BK204.out) hb)
      have n6_ := mK (blk_below (by (with_reducible repeat (first | refine kN ?_ _ | refine kD ?_ | refine kA ?_ _)); exact BK209.out) hb)
      have n7_ := mK (blk_below (by (with_reducible repeat (first | refine kN ?_ _ | refine kD ?_ | refine kA ?_ _)); exact BK218.out) hb)
      have n8_ := mK (below_step (by repeat (first | (with_reducible first | exact HB.out | apply bA | apply bN | apply bD | refine bS ?_ GE189.out | refine bS ?_ GE190.out | refine bS ?_ GE204.out | refine bS ?_ GE209.out | refine bS ?_ GE218.out) | exact HB.out)) hb)
      clear HO195
      clear HO202
      clear HO208
      clear BK189
      clear BK190
      clear BK204
      clear BK209
      clear BK218
      clear HB
      have HO195 := n0_
      have HO202 := n1_
      have HO208 := n2_
      have BK189 := n3_
      have BK190 := n4_
      have BK204 := n5_
      have BK209 := n6_
      have BK218 := n7_
      have HB := n8_
      clear n0_ n1_ n2_ n3_ n4_ n5_ n6_ n7_ n8_
      (try clear hb)
      (try clear hb2)
      (try clear hk)
      (try clear hi)
      refine hK.out _ _ ⟨(blk_cell BK209.out 0).trans rfl, (blk_cell BK209.out 1).trans rfl, (blk_cell BK190.out 0).trans rfl, (blk_cell BK190.out 1).trans rfl, (blk_cell BK190.out 2).trans rfl⟩ (fun hHeld => ?_)
      clear hK K
      refine norm_ (a' := ?_) ?_ ?_
      rotate_left
      · show Act.put _ (some 34) _ = _
        simp only [Act.put, sT, sZ, sU, i64_w, i32_w]
        rfl
      refine one_ (i := 3) (N := some 35) #[true, true, true, true, false, false, false, true, false, false] rfl rfl (one_of HT_.out (by kernel_rfl)) (by decide) (fun K hK => ?_)
      refine goes_ Try.func21 (by kernel_rfl) rfl #[.agg #[.int .i64 t205, .slice Ao40 t206.length co40], .agg #[.int .i64 t210, .int .i64 t211, .int .i64 t212]] (by rfl) rfl rfl (by (try simp only [List.map_toArray, List.map_cons, List.map_nil]); first | done | rfl | (simp only [List.length_drop, List.length_take]; rfl)) ?_
      with_reducible refine (impl_TightenTable.calls k t205 _ _ t206 t210 t211 t212 t213 t214 t217 _ ?side1 ?side2 A15.out).mono ?_
      (case side1 => repeat (first | exact (Kd.R_reads' HO208.out).2.2 | (with_reducible refine Kd.C_alloc ?_ _) | (with_reducible refine Kd.C_drewN ?_ _) | (with_reducible refine Kd.C_drew ?_)))
      (case side2 => exact (Kd.R_reads' HO208.out).2.1)
      rintro e w45 ⟨v215, rfl, ho0, hb⟩
      refine ⟨_, rfl, ?_⟩
      have n0_ := mK (Kd.R_elder' (by (with_reducible repeat (first | apply rA | apply rN | apply rD)); exact HO195.out) (Kd.R_base ho0) hb)
      have n1_ := mK (Kd.R_elder' (by (with_reducible repeat (first | apply rA | apply rN | apply rD)); exact HO202.out) (Kd.R_base ho0) hb)
      have n2_ := mK (Kd.R_elder' (by (with_reducible repeat (first | apply rA | apply rN | apply rD)); exact HO208.out) (Kd.R_base ho0) hb)
      have n3_ := mK (Kd.R_lower (Kd.R_new' (Kd.R_new' (Kd.R_new' ho0 (Kd.R_lt (by (with_reducible repeat (first | apply rA | apply rN | apply rD)); exact HO195.out))) (Kd.R_lt (by (with_reducible repeat (first | apply rA | apply rN | apply rD)); exact HO202.out))) (Kd.R_lt (by (with_reducible repeat (first | apply rA | apply rN | apply rD)); exact HO208.out))) (below_size (by repeat (first | (with_reducible first | exact HB.out | apply bA | apply bN | apply bD | refine bS ?_ GE189.out | refine bS ?_ GE190.out | refine bS ?_ GE204.out | refine bS ?_ GE209.out | refine bS ?_ GE218.out) | exact HB.out))))
      have n4_ := mK (blk_below (by (with_reducible repeat (first | refine kN ?_ _ | refine kD ?_ | refine kA ?_ _)); exact BK189.out) hb)
      have n5_ := mK (blk_below (by (with_reducible repeat (first | refine kN ?_ _ | refine kD ?_ | refine kA ?_ _)); exact BK190.out) hb)
      have n6_ := mK (blk_below (by (with_reducible repeat (first | refine kN ?_ _ | refine kD ?_ | refine kA ?_ _)); exact BK204.out) hb)
      have n7_ := mK (blk_below (by (with_reducible repeat (first | refine kN ?_ _ | refine kD ?_ | refine kA ?_ _)); exact BK209.out) hb)
      have n8_ := mK (blk_below (by (with_reducible repeat (first | refine kN ?_ _ | refine kD ?_ | refine kA ?_ _)); exact BK218.out) hb)
      have n9_ := mK (below_step (by repeat (first | (with_reducible first | exact HB.out | apply bA | apply bN | apply bD | refine bS ?_ GE189.out | refine bS ?_ GE190.out | refine bS ?_ GE204.out | refine bS ?_ GE209.out | refine bS ?_ GE218.out) | exact HB.out)) hb)
      clear HO195
      clear HO202
      clear HO208
      clear BK189
      clear BK190
      clear BK204
      clear BK209
      clear BK218
      clear HB
      have HO195 := n0_
      have HO202 := n1_
      have HO208 := n2_
      have HO216 := n3_
      have BK189 := n4_
      have BK190 := n5_
      have BK204 := n6_
      have BK209 := n7_
      have BK218 := n8_
      have HB := n9_
      clear n0_ n1_ n2_ n3_ n4_ n5_ n6_ n7_ n8_ n9_
      (try clear hb)
      (try clear hb2)
      (try clear hk)
      (try clear hi)
      (try clear ho0)
      refine hK.out _ _ ⟨(blk_cell BK209.out 0).trans rfl, (blk_cell BK209.out 1).trans rfl, (blk_cell BK190.out 0).trans rfl, (blk_cell BK190.out 1).trans rfl, (blk_cell BK190.out 2).trans rfl⟩ (fun hHeld => ?_)
      clear hK K
      refine norm_ (a' := ?_) ?_ ?_
      rotate_left
      · show Act.put _ (some 35) _ = _
        simp only [Act.put, sT, sZ, sU, i64_w, i32_w]
        rfl
      refine pure_ (i := 4) (N := some 31) (v := ?_) (a' := ?_) #[true, true, true, true, true, false, false, true, false, false] rfl rfl (any_of HT_.out (by kernel_rfl)) (fun _ _ _ h => h) (Or.inl ⟨by rfl, ?_⟩) ?_ ?_
      rotate_left
      · intro w'
        go_simp
        with_reducible rfl
      rotate_left
      · simp only [Act.put, sT, sZ, sU, i64_w, i32_w]
        rfl
      refine pure_ (i := 5) (N := some 36) (v := ?_) (a' := ?_) #[true, true, true, true, true, true, false, true, false, false] rfl rfl (any_of HT_.out (by kernel_rfl)) (fun _ _ _ h => h) (Or.inl ⟨by rfl, ?_⟩) ?_ ?_
      rotate_left
      · intro w'
        go_simp
        with_reducible rfl
      rotate_left
      · simp only [Act.put, sT, sZ, sU, i64_w, i32_w]
        rfl
      refine pure_ (i := 6) (N := some 37) (v := ?_) (a' := ?_) #[true, true, true, true, true, true, true, true, false, false] rfl rfl (any_of HT_.out (by kernel_rfl)) (fun _ _ _ h => h) (Or.inl ⟨by rfl, ?_⟩) ?_ ?_
      rotate_left
      · intro w'
        go_simp
        with_reducible rfl
      rotate_left
      · simp only [Act.put, sT, sZ, sU, i64_w, i32_w]
        rfl
      exact norm_ (by simp only [putAll, Act.put, sT, sZ, sU]) (hCont (v215, gb218) _ ⟨hHeld, (by (with_reducible repeat (first | apply rA | apply rN | apply rD)); exact Kd.R_mono HO195.out (fun _ hk => ⟨hk.1.1, ⟨hk.1.2, hk.2⟩⟩)), (by (with_reducible repeat (first | apply rA | apply rN | apply rD)); exact Kd.R_mono HO202.out (fun _ hk => ⟨hk.1.1, ⟨hk.1.2, hk.2⟩⟩)), (by (with_reducible repeat (first | apply rA | apply rN | apply rD)); exact Kd.R_mono HO208.out (fun _ hk => ⟨hk.1.1, ⟨hk.1.2, hk.2⟩⟩)), (by (with_reducible repeat (first | apply rA | apply rN | apply rD)); exact Kd.R_mono HO216.out (fun _ hk => ⟨hk.1.1.2, ⟨hk.1.2, hk.2⟩⟩)), (by (with_reducible repeat (first | refine kN ?_ _ | refine kD ?_ | refine kA ?_ _)); exact BK189.out), (by (with_reducible repeat (first | refine kN ?_ _ | refine kD ?_ | refine kA ?_ _)); exact BK190.out), (by (with_reducible repeat (first | refine kN ?_ _ | refine kD ?_ | refine kA ?_ _)); exact BK204.out), (by (with_reducible repeat (first | refine kN ?_ _ | refine kD ?_ | refine kA ?_ _)); exact BK209.out), (by (with_reducible repeat (first | refine kN ?_ _ | refine kD ?_ | refine kA ?_ _)); exact BK218.out), GW218.out, GE218.out, NB189_218.out, NB218_189.out, NB190_218.out, NB218_190.out, NB204_218.out, NB218_204.out, NB209_218.out, NB218_209.out, (by repeat (first | (with_reducible first | exact HB.out | apply bA | apply bN | apply bD | refine bS ?_ GE189.out | refine bS ?_ GE190.out | refine bS ?_ GE204.out | refine bS ?_ GE209.out | refine bS ?_ GE218.out) | exact HB.out))⟩)
  rintro ⟨v215, gb218⟩ w46 ⟨hS_, h0_, h1_, h2_, h3_, h4_, h5_, h6_, h7_, h8_, h9_, h10_, h11_, h12_, h13_, h14_, h15_, h16_, h17_, h18_, h19_⟩
  have n0_ : Aside0 (Kd.R (Kd.int .i64) 3 w46 w.heap.size (fun k_ => some k_ ≠ (.slice Ao30 t200.length co30 : Value).ownBlock ∧ some k_ ≠ (.slice Ao40 t206.length co40 : Value).ownBlock ∧ some k_ ≠ (v215 : Value).ownBlock) v194 t193) := ⟨h0_⟩
  have n1_ : Aside0 (Kd.R (Kd.int .i64) 3 w46 w.heap.size (fun k_ => some k_ ≠ (v194 : Value).ownBlock ∧ some k_ ≠ (.slice Ao40 t206.length co40 : Value).ownBlock ∧ some k_ ≠ (v215 : Value).ownBlock) (.slice Ao30 t200.length co30) t200) := ⟨h1_⟩
  have n2_ : Aside0 (Kd.R (Kd.int .i64) 3 w46 w.heap.size (fun k_ => some k_ ≠ (v194 : Value).ownBlock ∧ some k_ ≠ (.slice Ao30 t200.length co30 : Value).ownBlock ∧ some k_ ≠ (v215 : Value).ownBlock) (.slice Ao40 t206.length co40) t206) := ⟨h2_⟩
  have n3_ : Aside0 (Kd.R (Kd.int .i64) 3 w46 w.heap.size (fun k_ => some k_ ≠ (v194 : Value).ownBlock ∧ some k_ ≠ (.slice Ao30 t200.length co30 : Value).ownBlock ∧ some k_ ≠ (.slice Ao40 t206.length co40 : Value).ownBlock) v215 t214) := ⟨h3_⟩
  have n4_ : Aside0 (w46.heap[gb189]? = some (.cells #[.int .i64 a0_0, .slice A0_1 l0_1.length c0_1] 42 (0, 0))) := ⟨h4_⟩
  have n5_ : Aside0 (w46.heap[gb190]? = some (.cells #[.int .i64 a1_0, .int .i64 a1_1, .int .i64 a1_2] 68 (0, 0))) := ⟨h5_⟩
  have n6_ : Aside0 (w46.heap[gb204]? = some (.cells #[.int .i64 t199, .slice Ao30 t200.length co30] 29 (0, 0))) := ⟨h6_⟩
  have n7_ : Aside0 (w46.heap[gb209]? = some (.cells #[.int .i64 t205, .slice Ao40 t206.length co40] 29 (0, 0))) := ⟨h7_⟩
  have n8_ : Aside0 (w46.heap[gb218]? = some (.cells #[.int .i64 0, .slice none 0 0] 29 (0, 0))) := ⟨h8_⟩
  have n9_ : Aside0 (w.heap.size ≤ gb218) := ⟨h9_⟩
  have n10_ : Aside0 (w.heap.size ≤ gb218) := ⟨h10_⟩
  have n11_ : Aside0 (gb189 ≠ gb218) := ⟨h11_⟩
  have n12_ : Aside0 (gb218 ≠ gb189) := ⟨h12_⟩
  have n13_ : Aside0 (gb190 ≠ gb218) := ⟨h13_⟩
  have n14_ : Aside0 (gb218 ≠ gb190) := ⟨h14_⟩
  have n15_ : Aside0 (gb204 ≠ gb218) := ⟨h15_⟩
  have n16_ : Aside0 (gb218 ≠ gb204) := ⟨h16_⟩
  have n17_ : Aside0 (gb209 ≠ gb218) := ⟨h17_⟩
  have n18_ : Aside0 (gb218 ≠ gb209) := ⟨h18_⟩
  have n19_ : Aside0 (Below w.heap.size w w46) := ⟨h19_⟩
  clear HO195
  clear HO202
  clear HO208
  clear BK189
  clear BK190
  clear BK204
  clear BK209
  clear HB
  clear h0_ h1_ h2_ h3_ h4_ h5_ h6_ h7_ h8_ h9_ h10_ h11_ h12_ h13_ h14_ h15_ h16_ h17_ h18_ h19_
  have HO195 := n0_
  have HO202 := n1_
  have HO208 := n2_
  have HO216 := n3_
  have BK189 := n4_
  have BK190 := n5_
  have BK204 := n6_
  have BK209 := n7_
  have BK218 := n8_
  have GW218 := n9_
  have GE218 := n10_
  have NB189_218 := n11_
  have NB218_189 := n12_
  have NB190_218 := n13_
  have NB218_190 := n14_
  have NB204_218 := n15_
  have NB218_204 := n16_
  have NB209_218 := n17_
  have NB218_209 := n18_
  have HB := n19_
  clear n0_ n1_ n2_ n3_ n4_ n5_ n6_ n7_ n8_ n9_ n10_ n11_ n12_ n13_ n14_ n15_ n16_ n17_ n18_ n19_
  have hHeld : w46.cell? ⟨gb209, 0, none⟩ = some (.int .i64 t205) ∧ w46.cell? ⟨gb209, 1, none⟩ = some (.slice Ao40 t206.length co40) ∧ w46.cell? ⟨gb190, 0, none⟩ = some (.int .i64 a1_0) ∧ w46.cell? ⟨gb190, 1, none⟩ = some (.int .i64 a1_1) ∧ w46.cell? ⟨gb190, 2, none⟩ = some (.int .i64 a1_2) := hS_
  obtain ⟨Ao48, co48, eo48⟩ := Kd.R_slice HO216.out
  (first | subst eo48 | (injection eo48 with f1_ f2_ f3_; have f4_ := f1_.symm; have f5_ := f3_.symm; clear f1_ f2_ f3_; subst f4_; subst f5_))
  refine norm_ (a' := ?_) ?_ ?_
  rotate_left
  · simp only [putAll, Act.put, sT, sZ, sU]
    rfl
  refine one_ (i := 8) (N := none) #[true, true, true, true, true, true, true, true, true, false] rfl rfl (one_of HT_.out (by kernel_rfl)) (by decide) (fun K hK => ?_)
  have hs47 : w46.cell? ⟨gb218, 0, none⟩ = some (.int .i64 0) := (blk_cell BK218.out 0).trans rfl
  have hfs47 := blk_frozen BK218.out 0
  have hns47_0 := NB189_218.out
  have hns47_1 := NB190_218.out
  have hns47_2 := NB204_218.out
  have hns47_3 := NB209_218.out
  have hms47_0 := NB218_189.out
  have hms47_1 := NB218_190.out
  have hms47_2 := NB218_204.out
  have hms47_3 := NB218_209.out
  have hs49 : w46.cell? ⟨gb218, 1, none⟩ = some (.slice none 0 0) := (blk_cell BK218.out 1).trans rfl
  have hfs49 := blk_frozen BK218.out 1
  have hns49_0 := NB189_218.out
  have hns49_1 := NB190_218.out
  have hns49_2 := NB204_218.out
  have hns49_3 := NB209_218.out
  have hms49_0 := NB218_189.out
  have hms49_1 := NB218_190.out
  have hms49_2 := NB218_204.out
  have hms49_3 := NB218_209.out
  refine skip_ (w1 := ?_) (by rfl) rfl ?_ ?_
  rotate_left
  · go_simp
    rfl
  refine hK.out _ _ ⟨((cell_far (p := ⟨gb218, _, none⟩) NB209_218.out _).trans (((cell_far (p := ⟨gb218, _, none⟩) NB209_218.out _).trans (hHeld.1)))), ((cell_far (p := ⟨gb218, _, none⟩) NB209_218.out _).trans (((cell_far (p := ⟨gb218, _, none⟩) NB209_218.out _).trans (hHeld.2.1)))), ((cell_far (p := ⟨gb218, _, none⟩) NB190_218.out _).trans (((cell_far (p := ⟨gb218, _, none⟩) NB190_218.out _).trans (hHeld.2.2.1)))), ((cell_far (p := ⟨gb218, _, none⟩) NB190_218.out _).trans (((cell_far (p := ⟨gb218, _, none⟩) NB190_218.out _).trans (hHeld.2.2.2.1)))), ((cell_far (p := ⟨gb218, _, none⟩) NB190_218.out _).trans (((cell_far (p := ⟨gb218, _, none⟩) NB190_218.out _).trans (hHeld.2.2.2.2))))⟩ (fun hHeld => ?_)
  clear hK K
  refine pure_ (i := 9) (N := some 10) (v := ?_) (a' := ?_) #[true, true, true, true, true, true, true, true, true, true] rfl rfl (any_of HT_.out (by kernel_rfl)) (fun _ _ _ h => h) (Or.inl ⟨by rfl, ?_⟩) ?_ ?_
  rotate_left
  · intro w'
    go_simp
    with_reducible rfl
  rotate_left
  · simp only [Act.put, sT, sZ, sU, i64_w, i32_w]
    rfl
  refine done_ (done_of HT_.out (by kernel_rfl)) ?_
  go_upto_region 8 with (fail)
  go_cut [46] (fun v46 wc => ∃ (kq : Nat) (x46_15 : Bool), v46 = .bool x46_15 ∧ Aside0 (laws_FnExactTightenTable.j0 kq t203 t217 x46_15 a0_0 l0_1 a1_0 a1_1 a1_2 t199 t200 t205 t206 t213 t214 = some r) ∧ Aside0 (kq ≤ k) ∧ Aside0 (Kd.R (Kd.int .i64) 3 wc w.heap.size (fun k_ => some k_ ≠ ((.slice Ao40 t206.length co40) : Value).ownBlock ∧ some k_ ≠ ((.slice Ao48 t214.length co48) : Value).ownBlock) (.slice Ao30 t200.length co30) t200) ∧ Aside0 (Kd.R (Kd.int .i64) 3 wc w.heap.size (fun k_ => some k_ ≠ ((.slice Ao30 t200.length co30) : Value).ownBlock ∧ some k_ ≠ ((.slice Ao48 t214.length co48) : Value).ownBlock) (.slice Ao40 t206.length co40) t206) ∧ Aside0 (Kd.R (Kd.int .i64) 3 wc w.heap.size (fun k_ => some k_ ≠ ((.slice Ao30 t200.length co30) : Value).ownBlock ∧ some k_ ≠ ((.slice Ao40 t206.length co40) : Value).ownBlock) (.slice Ao48 t214.length co48) t214) ∧ Aside0 (wc.heap[gb189]? = some (.cells #[.int .i64 a0_0, (.slice A0_1 l0_1.length c0_1)] 42 (0, 0))) ∧ Aside0 (wc.heap[gb190]? = some (.cells #[.int .i64 a1_0, .int .i64 a1_1, .int .i64 a1_2] 68 (0, 0))) ∧ Aside0 (wc.heap[gb204]? = some (.cells #[.int .i64 t199, (.slice Ao30 t200.length co30)] 29 (0, 0))) ∧ Aside0 (wc.heap[gb209]? = some (.cells #[.int .i64 t205, (.slice Ao40 t206.length co40)] 29 (0, 0))) ∧ Aside0 (wc.heap[gb218]? = some (.cells #[.int .i64 t213, (.slice Ao48 t214.length co48)] 29 (0, 0))) ∧ Aside0 (Below w.heap.size w wc))
  case first =>
   have H := HC16.out
   clear HC16
   replace H := Option.bind_eq_some_iff.mp H
   obtain ⟨t219, A500, H⟩ := H
   replace H : (if t219 = true then (laws_FnExactTightenTable.j0 k t203 t217 (t217 != t203) a0_0 l0_1 a1_0 a1_1 a1_2 t199 t200 t205 t206 t213 t214) else (laws_FnExactTightenTable.j0 k t203 t217 true a0_0 l0_1 a1_0 a1_1 a1_2 t199 t200 t205 t206 t213 t214)) = some r := H
   have A50 := mK A500
   clear A500
   by_cases c51 : t219 = true
   rotate_left
   · replace c51 := Bool.eq_false_iff.mpr c51
     subst c51
     have H1 : (laws_FnExactTightenTable.j0 k t203 t217 true a0_0 l0_1 a1_0 a1_1 a1_2 t199 t200 t205 t206 t213 t214) = some r := by rw [if_neg (show ¬ (false = true) by decide)] at H; exact H
     clear H
     have H := H1
     clear H1
     subst hr_
     exact absurd H (by cases k <;> simp [laws_FnExactTightenTable.j0])
   subst c51
   have H1 : (laws_FnExactTightenTable.j0 k t203 t217 (t217 != t203) a0_0 l0_1 a1_0 a1_1 a1_2 t199 t200 t205 t206 t213 t214) = some r := by rw [if_pos rfl] at H; exact H
   clear H
   have H := H1
   clear H1
   have H' := mK H
   clear H
   have hnb52 := NB218_189.out
   have hnc52 := NB189_218.out
   have hnb53 := NB218_190.out
   have hnc53 := NB190_218.out
   have hnb54 := NB218_204.out
   have hnc54 := NB204_218.out
   have hnb55 := NB218_209.out
   have hnc55 := NB209_218.out
   have hcz56_0 : w46.cell? ⟨gb218, 0, none⟩ = some (.int .i64 0) := (blk_cell BK218.out 0).trans rfl
   have hcz56_1 : w46.cell? ⟨gb218, 1, none⟩ = some (.slice none 0 0) := (blk_cell BK218.out 1).trans rfl
   have hfz56_0 := blk_frozen BK218.out 0
   have hfz56_1 := blk_frozen BK218.out 1
   have hnb57 := NB204_189.out
   have hnc57 := NB189_204.out
   have hnb58 := NB204_190.out
   have hnc58 := NB190_204.out
   have hnb59 := NB204_209.out
   have hnc59 := NB209_204.out
   have hcz60_0 : w46.cell? ⟨gb204, 0, none⟩ = some (.int .i64 t199) := (blk_cell BK204.out 0).trans rfl
   have hcz60_1 : w46.cell? ⟨gb204, 1, none⟩ = some (.slice Ao30 t200.length co30) := (blk_cell BK204.out 1).trans rfl
   have hfz60_0 := blk_frozen BK204.out 0
   have hfz60_1 := blk_frozen BK204.out 1
   go_wp2_with (first | ((with_reducible refine gate_callee (f := 26) rfl ?_); refine goesL_ (some 40) rfl rfl Try.func26 (by kernel_rfl) rfl #[.agg #[.int .i64 t213, .slice Ao48 t214.length co48], .agg #[.int .i64 t199, .slice Ao30 t200.length co30]] rfl (by (try simp only [List.map_toArray, List.map_cons, List.map_nil]); first | done | rfl | (simp only [List.length_drop, List.length_take]; rfl)) ?_; (with_reducible refine (laws_eqTable.calls k t213 _ _ t214 t199 _ _ t200 true _ ?side1 ?side2 ?side3 ?side4 A50.out).mono ?_); (case side1 => refine (Kd.R_reads' (e := 3) (base := w.heap.size) (ok := fun k_ => (some k_ ≠ (v194 : Value).ownBlock ∧ (some k_ ≠ (.slice Ao30 t200.length co30 : Value).ownBlock ∧ some k_ ≠ (.slice Ao40 t206.length co40 : Value).ownBlock))) (n := t214.length) (c := co48) ?_).2.2; exact (by (with_reducible repeat (first | apply rA | apply rN | apply rD)); exact (Kd.R_mono (Kd.R_far (p := ⟨gb218, 1, none⟩) (Kd.R_far (p := ⟨gb218, 0, none⟩) (Kd.R_types HO216.out BK218.out (by decide)) (fun _ hk => hk.2) (.int .i64 t213)) (fun _ hk => hk.2) (.slice Ao48 t214.length co48)) (fun _ h_ => h_.1)))); (case side2 => exact (Kd.R_reads' HO216.out).2.1); (case side3 => refine (Kd.R_reads' (e := 3) (base := w.heap.size) (ok := fun k_ => (some k_ ≠ (v194 : Value).ownBlock ∧ (some k_ ≠ (.slice Ao40 t206.length co40 : Value).ownBlock ∧ some k_ ≠ (.slice Ao48 t214.length co48 : Value).ownBlock))) (n := t200.length) (c := co30) ?_).2.2; exact (by (with_reducible repeat (first | apply rA | apply rN | apply rD)); exact (Kd.R_mono (Kd.R_far (p := ⟨gb218, 1, none⟩) (Kd.R_far (p := ⟨gb218, 0, none⟩) (Kd.R_types HO202.out BK218.out (by decide)) (fun _ hk => hk.2) (.int .i64 t213)) (fun _ hk => hk.2) (.slice Ao48 t214.length co48)) (fun _ h_ => h_.1)))); (case side4 => exact (Kd.R_reads' HO202.out).2.1); rintro e w61 ⟨rfl, hb⟩; refine ⟨_, rfl, ?_⟩; have n0_ := mK (Kd.R_below (by (with_reducible repeat (first | apply rA | apply rN | apply rD)); exact (Kd.R_mono (Kd.R_far (p := ⟨gb218, 1, none⟩) (Kd.R_far (p := ⟨gb218, 0, none⟩) (Kd.R_types HO195.out BK218.out (by decide)) (fun _ hk => hk.2) (.int .i64 t213)) (fun _ hk => hk.2) (.slice Ao48 t214.length co48)) (fun _ h_ => h_.1))) hb); have n1_ := mK (Kd.R_below (by (with_reducible repeat (first | apply rA | apply rN | apply rD)); exact (Kd.R_mono (Kd.R_far (p := ⟨gb218, 1, none⟩) (Kd.R_far (p := ⟨gb218, 0, none⟩) (Kd.R_types HO202.out BK218.out (by decide)) (fun _ hk => hk.2) (.int .i64 t213)) (fun _ hk => hk.2) (.slice Ao48 t214.length co48)) (fun _ h_ => h_.1))) hb); have n2_ := mK (Kd.R_below (by (with_reducible repeat (first | apply rA | apply rN | apply rD)); exact (Kd.R_mono (Kd.R_far (p := ⟨gb218, 1, none⟩) (Kd.R_far (p := ⟨gb218, 0, none⟩) (Kd.R_types HO208.out BK218.out (by decide)) (fun _ hk => hk.2) (.int .i64 t213)) (fun _ hk => hk.2) (.slice Ao48 t214.length co48)) (fun _ h_ => h_.1))) hb); have n3_ := mK (Kd.R_below (by (with_reducible repeat (first | apply rA | apply rN | apply rD)); exact (Kd.R_mono (Kd.R_far (p := ⟨gb218, 1, none⟩) (Kd.R_far (p := ⟨gb218, 0, none⟩) (Kd.R_types HO216.out BK218.out (by decide)) (fun _ hk => hk.2) (.int .i64 t213)) (fun _ hk => hk.2) (.slice Ao48 t214.length co48)) (fun _ h_ => h_.1))) hb); have n4_ := mK (blk_below (g := gb189) (o := .cells #[.int .i64 a0_0, .slice A0_1 l0_1.length c0_1] 42 (0, 0)) (by (with_reducible repeat (first | refine kN ?_ _ | refine kD ?_ | refine kA ?_ _)); refine blk_far ?_ NB189_218.out _; (with_reducible repeat (first | refine kN ?_ _ | refine kD ?_ | refine kA ?_ _)); refine blk_far ?_ NB189_218.out _; (with_reducible repeat (first | refine kN ?_ _ | refine kD ?_ | refine kA ?_ _)); exact BK189.out) hb); have n5_ := mK (blk_below (g := gb190) (o := .cells #[.int .i64 a1_0, .int .i64 a1_1, .int .i64 a1_2] 68 (0, 0)) (by (with_reducible repeat (first | refine kN ?_ _ | refine kD ?_ | refine kA ?_ _)); refine blk_far ?_ NB190_218.out _; (with_reducible repeat (first | refine kN ?_ _ | refine kD ?_ | refine kA ?_ _)); refine blk_far ?_ NB190_218.out _; (with_reducible repeat (first | refine kN ?_ _ | refine kD ?_ | refine kA ?_ _)); exact BK190.out) hb); have n6_ := mK (blk_below (g := gb204) (o := .cells #[.int .i64 t199, .slice Ao30 t200.length co30] 29 (0, 0)) (by (with_reducible repeat (first | refine kN ?_ _ | refine kD ?_ | refine kA ?_ _)); refine blk_far ?_ NB204_218.out _; (with_reducible repeat (first | refine kN ?_ _ | refine kD ?_ | refine kA ?_ _)); refine blk_far ?_ NB204_218.out _; (with_reducible repeat (first | refine kN ?_ _ | refine kD ?_ | refine kA ?_ _)); exact BK204.out) hb); have n7_ := mK (blk_below (g := gb209) (o := .cells #[.int .i64 t205, .slice Ao40 t206.length co40] 29 (0, 0)) (by (with_reducible repeat (first | refine kN ?_ _ | refine kD ?_ | refine kA ?_ _)); refine blk_far ?_ NB209_218.out _; (with_reducible repeat (first | refine kN ?_ _ | refine kD ?_ | refine kA ?_ _)); refine blk_far ?_ NB209_218.out _; (with_reducible repeat (first | refine kN ?_ _ | refine kD ?_ | refine kA ?_ _)); exact BK209.out) hb); have n8_ := mK (blk_below (g := gb218) (o := .cells #[.int .i64 t213, .slice Ao48 t214.length co48] 29 (0, 0)) (by (with_reducible repeat (first | refine kN ?_ _ | refine kD ?_ | refine kA ?_ _)); refine blk_put (cs := #[.int .i64 t213, .slice none 0 0]) ?_ 1 _ rfl; (with_reducible repeat (first | refine kN ?_ _ | refine kD ?_ | refine kA ?_ _)); refine blk_put (cs := #[.int .i64 0, .slice none 0 0]) ?_ 0 _ rfl; (with_reducible repeat (first | refine kN ?_ _ | refine kD ?_ | refine kA ?_ _)); exact BK218.out) hb); have n9_ := mK (below_step (by repeat (first | (with_reducible first | exact HB.out | apply bA | apply bN | apply bD | refine bS ?_ GE189.out | refine bS ?_ GE190.out | refine bS ?_ GE204.out | refine bS ?_ GE209.out | refine bS ?_ GE218.out) | exact HB.out)) hb); clear HO195; clear HO202; clear HO208; clear HO216; clear BK189; clear BK190; clear BK204; clear BK209; clear BK218; clear HB; have HO195 := n0_; have HO202 := n1_; have HO208 := n2_; have HO216 := n3_; have BK189 := n4_; have BK190 := n5_; have BK204 := n6_; have BK209 := n7_; have BK218 := n8_; have HB := n9_; clear n0_ n1_ n2_ n3_ n4_ n5_ n6_ n7_ n8_ n9_; (try clear hb); (try clear hb2); (try clear hk); (try clear hi)))
   go_meet
   case rel => exact ⟨_, ((t217 != t203)), (by first | rfl | (simp; done) | (simp [*]; done)), H', ⟨by first | omega | exact Nat.le_refl _⟩, ⟨by (with_reducible repeat (first | apply rA | apply rN | apply rD)); exact Kd.R_mono HO202.out (fun _ hk => ⟨hk.2.1, hk.2.2⟩)⟩, ⟨by (with_reducible repeat (first | apply rA | apply rN | apply rD)); exact Kd.R_mono HO208.out (fun _ hk => ⟨hk.2.1, hk.2.2⟩)⟩, ⟨by (with_reducible repeat (first | apply rA | apply rN | apply rD)); exact Kd.R_mono HO216.out (fun _ hk => ⟨hk.2.1, hk.2.2⟩)⟩, ⟨by (with_reducible repeat (first | refine kN ?_ _ | refine kD ?_ | refine kA ?_ _)); exact BK189.out⟩, ⟨by (with_reducible repeat (first | refine kN ?_ _ | refine kD ?_ | refine kA ?_ _)); exact BK190.out⟩, ⟨by (with_reducible repeat (first | refine kN ?_ _ | refine kD ?_ | refine kA ?_ _)); exact BK204.out⟩, ⟨by (with_reducible repeat (first | refine kN ?_ _ | refine kD ?_ | refine kA ?_ _)); exact BK209.out⟩, ⟨by (with_reducible repeat (first | refine kN ?_ _ | refine kD ?_ | refine kA ?_ _)); exact BK218.out⟩, ⟨by repeat (first | (with_reducible first | exact HB.out | apply bA | apply bN | apply bD | refine bS ?_ GE189.out | refine bS ?_ GE190.out | refine bS ?_ GE204.out | refine bS ?_ GE209.out | refine bS ?_ GE218.out) | exact HB.out)⟩⟩
  case rest =>
   clear HC16
   try clear c2
   try clear p2
   try clear c5
   try clear c21
   try clear c26
   try clear c50
   try clear c51
   try clear c52
   try clear c53
   try clear c54
   try clear c55
   try clear c57
   try clear c58
   try clear c59
   try clear hcz56_0
   try clear hcz56_1
   try clear hcz60_0
   try clear hcz60_1
   try clear hfz56_0
   try clear hfz56_1
   try clear hfz60_0
   try clear hfz60_1
   obtain ⟨kq, x46_15, rfl, HA, HJ15, HO_205001, HO_210001, HO_219001, BK189, BK190, BK204, BK209, BK218, HB⟩ := hcut
   cases kq with
   | zero => exact absurd HA.out (by simp [laws_FnExactTightenTable.j0])
   | succ kj15 =>
    have H := HA.out
    clear HA
    simp only [laws_FnExactTightenTable.j0] at H
    by_cases c62 : x46_15 = true
    · subst c62
      have H1 : (some false) = some r := by rw [if_pos rfl] at H; exact H
      clear H
      have H := H1
      clear H1
      obtain rfl := Option.some.inj H
      exact absurd hr_ (by decide)
    replace c62 := Bool.eq_false_iff.mpr c62
    subst c62
    have H1 : ((laws_toTable.f kj15 a0_0 l0_1).bind fun bt220 => ((laws_eqTable.f kj15 t205 t206 bt220.1 bt220.2).bind fun t224 => (if t224 = true then ((laws_markTable.f kj15 t205 t206 1).bind fun bt225 => (if bt225.1 < 0 then (laws_FnExactTightenTable.j1 kj15 t203 true a0_0 l0_1 a1_0 a1_1 a1_2 t199 t200 t213 t214) else ((laws_eqTable.f kj15 t213 t214 t199 t200).bind fun t227 => (if t227 = true then (laws_FnExactTightenTable.j1 kj15 t203 (t217 != t203) a0_0 l0_1 a1_0 a1_1 a1_2 t199 t200 t213 t214) else (laws_FnExactTightenTable.j1 kj15 t203 true a0_0 l0_1 a1_0 a1_1 a1_2 t199 t200 t213 t214))))) else (some false)))) = some r := by rw [if_neg (show ¬ (false = true) by decide)] at H; exact H
    clear H
    have H := H1
    clear H1
    replace H := Option.bind_eq_some_iff.mp H
    obtain ⟨⟨t220, t221⟩, A630, H⟩ := H
    replace H : ((laws_eqTable.f kj15 t205 t206 t220 t221).bind fun t224 => (if t224 = true then ((laws_markTable.f kj15 t205 t206 1).bind fun bt225 => (if bt225.1 < 0 then (laws_FnExactTightenTable.j1 kj15 t203 true a0_0 l0_1 a1_0 a1_1 a1_2 t199 t200 t213 t214) else ((laws_eqTable.f kj15 t213 t214 t199 t200).bind fun t227 => (if t227 = true then (laws_FnExactTightenTable.j1 kj15 t203 (t217 != t203) a0_0 l0_1 a1_0 a1_1 a1_2 t199 t200 t213 t214) else (laws_FnExactTightenTable.j1 kj15 t203 true a0_0 l0_1 a1_0 a1_1 a1_2 t199 t200 t213 t214))))) else (some false))) = some r := H
    have A63 := mK A630
    clear A630
    replace H := Option.bind_eq_some_iff.mp H
    obtain ⟨t224, A640, H⟩ := H
    replace H : (if t224 = true then ((laws_markTable.f kj15 t205 t206 1).bind fun bt225 => (if bt225.1 < 0 then (laws_FnExactTightenTable.j1 kj15 t203 true a0_0 l0_1 a1_0 a1_1 a1_2 t199 t200 t213 t214) else ((laws_eqTable.f kj15 t213 t214 t199 t200).bind fun t227 => (if t227 = true then (laws_FnExactTightenTable.j1 kj15 t203 (t217 != t203) a0_0 l0_1 a1_0 a1_1 a1_2 t199 t200 t213 t214) else (laws_FnExactTightenTable.j1 kj15 t203 true a0_0 l0_1 a1_0 a1_1 a1_2 t199 t200 t213 t214))))) else (some false)) = some r := H
    have A64 := mK A640
    clear A640
    by_cases c65 : t224 = true
    rotate_left
    · replace c65 := Bool.eq_false_iff.mpr c65
      subst c65
      have H1 : (some false) = some r := by rw [if_neg (show ¬ (false = true) by decide)] at H; exact H
      clear H
      have H := H1
      clear H1
      obtain rfl := Option.some.inj H
      exact absurd hr_ (by decide)
    subst c65
    have H1 : ((laws_markTable.f kj15 t205 t206 1).bind fun bt225 => (if bt225.1 < 0 then (laws_FnExactTightenTable.j1 kj15 t203 true a0_0 l0_1 a1_0 a1_1 a1_2 t199 t200 t213 t214) else ((laws_eqTable.f kj15 t213 t214 t199 t200).bind fun t227 => (if t227 = true then (laws_FnExactTightenTable.j1 kj15 t203 (t217 != t203) a0_0 l0_1 a1_0 a1_1 a1_2 t199 t200 t213 t214) else (laws_FnExactTightenTable.j1 kj15 t203 true a0_0 l0_1 a1_0 a1_1 a1_2 t199 t200 t213 t214))))) = some r := by rw [if_pos rfl] at H; exact H
    clear H
    have H := H1
    clear H1
    replace H := Option.bind_eq_some_iff.mp H
    obtain ⟨⟨t225, t226⟩, A660, H⟩ := H
    replace H : (if t225 < 0 then (laws_FnExactTightenTable.j1 kj15 t203 true a0_0 l0_1 a1_0 a1_1 a1_2 t199 t200 t213 t214) else ((laws_eqTable.f kj15 t213 t214 t199 t200).bind fun t227 => (if t227 = true then (laws_FnExactTightenTable.j1 kj15 t203 (t217 != t203) a0_0 l0_1 a1_0 a1_1 a1_2 t199 t200 t213 t214) else (laws_FnExactTightenTable.j1 kj15 t203 true a0_0 l0_1 a1_0 a1_1 a1_2 t199 t200 t213 t214)))) = some r := H
    have A66 := mK A660
    clear A660
    have HC67 := mK H
    clear H
    try go_wp2
    have n0_ := mK (Kd.R_drew HO_205001.out)
    have n1_ := mK (Kd.R_drew HO_210001.out)
    have n2_ := mK (Kd.R_drew HO_219001.out)
    have n3_ := mK (blk_drew BK189.out)
    have n4_ := mK (blk_drew BK190.out)
    have n5_ := mK (blk_drew BK204.out)
    have n6_ := mK (blk_drew BK209.out)
    have n7_ := mK (blk_drew BK218.out)
    have n8_ := mK (below_drew1 HB.out)
    clear HO_205001
    clear HO_210001
    clear HO_219001
    clear BK189
    clear BK190
    clear BK204
    clear BK209
    clear BK218
    clear HB
    have HO_205001 := n0_
    have HO_210001 := n1_
    have HO_219001 := n2_
    have BK189 := n3_
    have BK190 := n4_
    have BK204 := n5_
    have BK209 := n6_
    have BK218 := n7_
    have HB := n8_
    clear n0_ n1_ n2_ n3_ n4_ n5_ n6_ n7_ n8_
    refine start_ (n := 5) (S := fun w' => w'.cell? ⟨gb209, 0, none⟩ = some (.int .i64 t205) ∧ w'.cell? ⟨gb209, 1, none⟩ = some (.slice Ao40 t206.length co40) ∧ w'.cell? ⟨gb189, 0, none⟩ = some (.int .i64 a0_0) ∧ w'.cell? ⟨gb189, 1, none⟩ = some (.slice A0_1 l0_1.length c0_1)) (ds := []) #[false, false, false, false, false] (by kernel_rfl) rfl rfl ⟨(blk_cell BK209.out 0).trans rfl, (blk_cell BK209.out 1).trans rfl, (blk_cell BK189.out 0).trans rfl, (blk_cell BK189.out 1).trans rfl⟩ (fun hHeld => ?_)
    generalize wc.drew = w68 at HO_205001 HO_210001 HO_219001 BK189 BK190 BK204 BK209 BK218 HB hHeld ⊢
    refine take_ (i := 0) (N := some 47) (v := ?_) (a' := ?_) #[true, false, false, false, false] rfl rfl (by kernel_rfl) (fun _ _ _ h => h) (Or.inl ⟨by rfl, ?_⟩) hHeld ?_ ?_
    rotate_left
    · rintro w' ⟨s0, s1, s2, s3⟩
      go_simp
      with_reducible rfl
    rotate_left
    · simp only [Act.put, sT, sZ, sU, i64_w, i32_w]
      rfl
    refine take_ (i := 1) (N := some 48) (v := ?_) (a' := ?_) #[true, true, false, false, false] rfl rfl (by kernel_rfl) (fun _ _ _ h => h) (Or.inl ⟨by rfl, ?_⟩) hHeld ?_ ?_
    rotate_left
    · rintro w' ⟨s0, s1, s2, s3⟩
      go_simp
      with_reducible rfl
    rotate_left
    · simp only [Act.put, sT, sZ, sU, i64_w, i32_w]
      rfl
    refine one_ (i := 2) (N := some 49) #[true, true, true, false, false] rfl rfl (by kernel_rfl) (by decide) (fun K hK => ?_)
    refine goes_ Try.func24 (by kernel_rfl) rfl #[.agg #[.int .i64 a0_0, .slice A0_1 l0_1.length c0_1]] (by rfl) rfl rfl (by (try simp only [List.map_toArray, List.map_cons, List.map_nil]); first | done | rfl | (simp only [List.length_drop, List.length_take]; rfl)) ?_
    with_reducible refine (laws_toTable.calls kj15 a0_0 _ _ l0_1 t220 t221 _ ?side1 ?side2 A63.out).mono ?_
    (case side1 => repeat (first | exact (Kd.C_below HR0_1.out HB.out) | (with_reducible refine Kd.C_alloc ?_ _) | (with_reducible refine Kd.C_drewN ?_ _) | (with_reducible refine Kd.C_drew ?_)))
    (case side2 => exact HC0_1.out)
    rintro e w69 ⟨v222, rfl, ho0, hb⟩
    refine ⟨_, rfl, ?_⟩
    have n0_ := mK (Kd.R_elder' (by (with_reducible repeat (first | apply rA | apply rN | apply rD)); exact HO_205001.out) (Kd.R_base ho0) hb)
    have n1_ := mK (Kd.R_elder' (by (with_reducible repeat (first | apply rA | apply rN | apply rD)); exact HO_210001.out) (Kd.R_base ho0) hb)
    have n2_ := mK (Kd.R_elder' (by (with_reducible repeat (first | apply rA | apply rN | apply rD)); exact HO_219001.out) (Kd.R_base ho0) hb)
    have n3_ := mK (Kd.R_lower (Kd.R_new' (Kd.R_new' (Kd.R_new' ho0 (Kd.R_lt (by (with_reducible repeat (first | apply rA | apply rN | apply rD)); exact HO_205001.out))) (Kd.R_lt (by (with_reducible repeat (first | apply rA | apply rN | apply rD)); exact HO_210001.out))) (Kd.R_lt (by (with_reducible repeat (first | apply rA | apply rN | apply rD)); exact HO_219001.out))) (below_size (by repeat (first | (with_reducible first | exact HB.out | apply bA | apply bN | apply bD | refine bS ?_ GE189.out | refine bS ?_ GE190.out | refine bS ?_ GE204.out | refine bS ?_ GE209.out | refine bS ?_ GE218.out) | exact HB.out))))
    have n4_ := mK (blk_below (by (with_reducible repeat (first | refine kN ?_ _ | refine kD ?_ | refine kA ?_ _)); exact BK189.out) hb)
    have n5_ := mK (blk_below (by (with_reducible repeat (first | refine kN ?_ _ | refine kD ?_ | refine kA ?_ _)); exact BK190.out) hb)
    have n6_ := mK (blk_below (by (with_reducible repeat (first | refine kN ?_ _ | refine kD ?_ | refine kA ?_ _)); exact BK204.out) hb)
    have n7_ := mK (blk_below (by (with_reducible repeat (first | refine kN ?_ _ | refine kD ?_ | refine kA ?_ _)); exact BK209.out) hb)
    have n8_ := mK (blk_below (by (with_reducible repeat (first | refine kN ?_ _ | refine kD ?_ | refine kA ?_ _)); exact BK218.out) hb)
    have n9_ := mK (below_step (by repeat (first | (with_reducible first | exact HB.out | apply bA | apply bN | apply bD | refine bS ?_ GE189.out | refine bS ?_ GE190.out | refine bS ?_ GE204.out | refine bS ?_ GE209.out | refine bS ?_ GE218.out) | exact HB.out)) hb)
    clear HO_205001
    clear HO_210001
    clear HO_219001
    clear BK189
    clear BK190
    clear BK204
    clear BK209
    clear BK218
    clear HB
    have HO_205001 := n0_
    have HO_210001 := n1_
    have HO_219001 := n2_
    have HO223 := n3_
    have BK189 := n4_
    have BK190 := n5_
    have BK204 := n6_
    have BK209 := n7_
    have BK218 := n8_
    have HB := n9_
    clear n0_ n1_ n2_ n3_ n4_ n5_ n6_ n7_ n8_ n9_
    (try clear hb)
    (try clear hb2)
    (try clear hk)
    (try clear hi)
    (try clear ho0)
    obtain ⟨Ao70, co70, eo70⟩ := Kd.R_slice HO223.out
    (first | subst eo70 | (injection eo70 with f1_ f2_ f3_; have f4_ := f1_.symm; have f5_ := f3_.symm; clear f1_ f2_ f3_; subst f4_; subst f5_))
    refine hK.out _ _ ⟨(blk_cell BK209.out 0).trans rfl, (blk_cell BK209.out 1).trans rfl, (blk_cell BK189.out 0).trans rfl, (blk_cell BK189.out 1).trans rfl⟩ (fun hHeld => ?_)
    clear hK K
    refine norm_ (a' := ?_) ?_ ?_
    rotate_left
    · show Act.put _ (some 49) _ = _
      simp only [Act.put, sT, sZ, sU, i64_w, i32_w]
      rfl
    refine one_ (i := 3) (N := some 50) #[true, true, true, true, false] rfl rfl (by kernel_rfl) (by decide) (fun K hK => ?_)
    refine goes_ Try.func26 (by kernel_rfl) rfl #[.agg #[.int .i64 t205, .slice Ao40 t206.length co40], .agg #[.int .i64 t220, .slice Ao70 t221.length co70]] (by rfl) rfl rfl (by (try simp only [List.map_toArray, List.map_cons, List.map_nil]); first | done | rfl | (simp only [List.length_drop, List.length_take]; rfl)) ?_
    with_reducible refine (laws_eqTable.calls kj15 t205 _ _ t206 t220 _ _ t221 true _ ?side1 ?side2 ?side3 ?side4 A64.out).mono ?_
    (case side1 => repeat (first | exact (Kd.R_reads' HO_210001.out).2.2 | (with_reducible refine Kd.C_alloc ?_ _) | (with_reducible refine Kd.C_drewN ?_ _) | (with_reducible refine Kd.C_drew ?_)))
    (case side2 => exact (Kd.R_reads' HO_210001.out).2.1)
    (case side3 => repeat (first | exact (Kd.R_reads' HO223.out).2.2 | (with_reducible refine Kd.C_alloc ?_ _) | (with_reducible refine Kd.C_drewN ?_ _) | (with_reducible refine Kd.C_drew ?_)))
    (case side4 => exact (Kd.R_reads' HO223.out).2.1)
    rintro e w71 ⟨rfl, hb⟩
    refine ⟨_, rfl, ?_⟩
    have n0_ := mK (Kd.R_below (by (with_reducible repeat (first | apply rA | apply rN | apply rD)); exact HO_205001.out) hb)
    have n1_ := mK (Kd.R_below (by (with_reducible repeat (first | apply rA | apply rN | apply rD)); exact HO_210001.out) hb)
    have n2_ := mK (Kd.R_below (by (with_reducible repeat (first | apply rA | apply rN | apply rD)); exact HO_219001.out) hb)
    have n3_ := mK (Kd.R_below (by (with_reducible repeat (first | apply rA | apply rN | apply rD)); exact HO223.out) hb)
    have n4_ := mK (blk_below (by (with_reducible repeat (first | refine kN ?_ _ | refine kD ?_ | refine kA ?_ _)); exact BK189.out) hb)
    have n5_ := mK (blk_below (by (with_reducible repeat (first | refine kN ?_ _ | refine kD ?_ | refine kA ?_ _)); exact BK190.out) hb)
    have n6_ := mK (blk_below (by (with_reducible repeat (first | refine kN ?_ _ | refine kD ?_ | refine kA ?_ _)); exact BK204.out) hb)
    have n7_ := mK (blk_below (by (with_reducible repeat (first | refine kN ?_ _ | refine kD ?_ | refine kA ?_ _)); exact BK209.out) hb)
    have n8_ := mK (blk_below (by (with_reducible repeat (first | refine kN ?_ _ | refine kD ?_ | refine kA ?_ _)); exact BK218.out) hb)
    have n9_ := mK (below_step (by repeat (first | (with_reducible first | exact HB.out | apply bA | apply bN | apply bD | refine bS ?_ GE189.out | refine bS ?_ GE190.out | refine bS ?_ GE204.out | refine bS ?_ GE209.out | refine bS ?_ GE218.out) | exact HB.out)) hb)
    clear HO_205001
    clear HO_210001
    clear HO_219001
    clear HO223
    clear BK189
    clear BK190
    clear BK204
    clear BK209
    clear BK218
    clear HB
    have HO_205001 := n0_
    have HO_210001 := n1_
    have HO_219001 := n2_
    have HO223 := n3_
    have BK189 := n4_
    have BK190 := n5_
    have BK204 := n6_
    have BK209 := n7_
    have BK218 := n8_
    have HB := n9_
    clear n0_ n1_ n2_ n3_ n4_ n5_ n6_ n7_ n8_ n9_
    (try clear hb)
    (try clear hb2)
    (try clear hk)
    (try clear hi)
    refine hK.out _ _ ⟨(blk_cell BK209.out 0).trans rfl, (blk_cell BK209.out 1).trans rfl, (blk_cell BK189.out 0).trans rfl, (blk_cell BK189.out 1).trans rfl⟩ (fun hHeld => ?_)
    clear hK K
    refine norm_ (a' := ?_) ?_ ?_
    rotate_left
    · show Act.put _ (some 50) _ = _
      simp only [Act.put, sT, sZ, sU, i64_w, i32_w]
      rfl
    refine pure_ (i := 4) (N := some 51) (v := ?_) (a' := ?_) #[true, true, true, true, true] rfl rfl (by kernel_rfl) (fun _ _ _ h => h) (Or.inl ⟨by rfl, ?_⟩) ?_ ?_
    rotate_left
    · intro w'
      go_simp
      with_reducible rfl
    rotate_left
    · simp only [Act.put, sT, sZ, sU, i64_w, i32_w]
      rfl
    refine done_ (by kernel_rfl) ?_
    have hnb72 := NB209_189.out
    have hnc72 := NB189_209.out
    have hnb73 := NB209_190.out
    have hnc73 := NB190_209.out
    have hnb74 := NB209_204.out
    have hnc74 := NB204_209.out
    have hnb75 := NB209_218.out
    have hnc75 := NB218_209.out
    have hcz76_0 : w71.cell? ⟨gb209, 0, none⟩ = some (.int .i64 t205) := (blk_cell BK209.out 0).trans rfl
    have hcz76_1 : w71.cell? ⟨gb209, 1, none⟩ = some (.slice Ao40 t206.length co40) := (blk_cell BK209.out 1).trans rfl
    have hfz76_0 := blk_frozen BK209.out 0
    have hfz76_1 := blk_frozen BK209.out 1
    go_upto_region 14 with (first | ((with_reducible refine gate_callee (f := 46) rfl ?_); refine goesL_ (some 54) rfl rfl Try.func46 (by kernel_rfl) rfl #[.agg #[.int .i64 t205, .slice Ao40 t206.length co40], .int .i64 1] rfl (by (try simp only [List.map_toArray, List.map_cons, List.map_nil]); first | done | rfl | (simp only [List.length_drop, List.length_take]; rfl)) ?_; (with_reducible refine (laws_markTable.calls kj15 t205 (fun k_ => some k_ = (.slice Ao40 t206.length co40 : Value).ownBlock) (.slice Ao40 t206.length co40) t206 1 t225 t226 w _ ?side1 ?side2 A66.out).mono ?_); (case side1 => repeat (first | (with_reducible first | exact HB.out | apply below_alloc | apply pw_below_drewN | apply below_drew1 | refine below_set ?_ GE189.out | refine below_set ?_ GE190.out | refine below_set ?_ GE204.out | refine below_set ?_ GE209.out | refine below_set ?_ GE218.out) | exact HB.out)); (case side2 => exact Kd.R_tight rfl HO_210001.out); rintro e w77 ⟨rfl, hy0, hb, hkp⟩; refine ⟨_, rfl, ?_⟩; have n0_ := mK (Kd.R_mono (ok' := fun k_ => some k_ ≠ (.slice Ao40 t206.length co40 : Value).ownBlock ∧ some k_ ≠ (.slice Ao48 t214.length co48 : Value).ownBlock ∧ some k_ ≠ (.slice Ao70 t221.length co70 : Value).ownBlock) (Kd.R_keptB (HO_205001.out) hkp (fun k_ hk_ hs_ => (hk_.1.1) hs_)) (fun k_ hk_ => ⟨hk_.1.1.1, hk_.1.1.2, hk_.1.2⟩)); have n1_ := mK (Kd.R_reok rfl hy0 (fun k_ e_ => HO_210001.out.1 k_ e_)); have n2_ := mK (Kd.R_mono (ok' := fun k_ => some k_ ≠ (.slice Ao30 t200.length co30 : Value).ownBlock ∧ some k_ ≠ (.slice Ao40 t206.length co40 : Value).ownBlock ∧ some k_ ≠ (.slice Ao70 t221.length co70 : Value).ownBlock) (Kd.R_keptB (HO_219001.out) hkp (fun k_ hk_ hs_ => (hk_.1.2) hs_)) (fun k_ hk_ => ⟨hk_.1.1.1, hk_.1.1.2, hk_.1.2⟩)); have n3_ := mK (blk_kept (by (with_reducible repeat (first | refine kN ?_ _ | refine kD ?_ | refine kA ?_ _)); exact BK189.out) hkp (fun hs_ => (fun e_ => (Kd.R_ne HO_210001.out BK189.out (by decide)) e_) hs_)); have n4_ := mK (blk_kept (by (with_reducible repeat (first | refine kN ?_ _ | refine kD ?_ | refine kA ?_ _)); exact BK190.out) hkp (fun hs_ => (fun e_ => (Kd.R_ne HO_210001.out BK190.out (by decide)) e_) hs_)); have n5_ := mK (blk_kept (by (with_reducible repeat (first | refine kN ?_ _ | refine kD ?_ | refine kA ?_ _)); exact BK204.out) hkp (fun hs_ => (fun e_ => (Kd.R_ne HO_210001.out BK204.out (by decide)) e_) hs_)); have n6_ := mK (blk_kept (by (with_reducible repeat (first | refine kN ?_ _ | refine kD ?_ | refine kA ?_ _)); exact BK209.out) hkp (fun hs_ => (fun e_ => (Kd.R_ne HO_210001.out BK209.out (by decide)) e_) hs_)); have n7_ := mK (blk_kept (by (with_reducible repeat (first | refine kN ?_ _ | refine kD ?_ | refine kA ?_ _)); exact BK218.out) hkp (fun hs_ => (fun e_ => (Kd.R_ne HO_210001.out BK218.out (by decide)) e_) hs_)); have n8_ := mK (Kd.R_mono (ok' := fun k_ => some k_ ≠ (.slice Ao30 t200.length co30 : Value).ownBlock ∧ some k_ ≠ (.slice Ao40 t206.length co40 : Value).ownBlock ∧ some k_ ≠ (.slice Ao48 t214.length co48 : Value).ownBlock) (Kd.R_keptB (HO223.out) hkp (fun k_ hk_ hs_ => (hk_.1.2) hs_)) (fun k_ hk_ => ⟨hk_.1.1.1.2, hk_.1.1.2, hk_.1.2⟩)); have n9_ := mK (hb); clear HO_205001; clear HO_210001; clear HO_219001; clear BK189; clear BK190; clear BK204; clear BK209; clear BK218; clear HO223; clear HB; have HO_205001 := n0_; have HO_210001 := n1_; have HO_219001 := n2_; have BK189 := n3_; have BK190 := n4_; have BK204 := n5_; have BK209 := n6_; have BK218 := n7_; have HO223 := n8_; have HB := n9_; clear n0_ n1_ n2_ n3_ n4_ n5_ n6_ n7_ n8_ n9_; (try clear hb); (try clear hkp); (try clear hy0)))
    (try simp only [Act.put, sT, sZ, sU])
    go_cut [67] (fun v67 wc => ∃ (kq : Nat) (x67_66 : Bool), v67 = .bool x67_66 ∧ Aside0 (laws_FnExactTightenTable.j1 kq t203 x67_66 a0_0 l0_1 a1_0 a1_1 a1_2 t199 t200 t213 t214 = some r) ∧ Aside0 (kq ≤ kj15) ∧ Aside0 (Kd.R (Kd.int .i64) 3 wc w.heap.size (fun k_ => some k_ ≠ ((.slice Ao40 t206.length co40) : Value).ownBlock ∧ some k_ ≠ ((.slice Ao48 t214.length co48) : Value).ownBlock) (.slice Ao30 t200.length co30) t200) ∧ Aside0 (Kd.R (Kd.int .i64) 3 wc w.heap.size (fun k_ => some k_ ≠ ((.slice Ao30 t200.length co30) : Value).ownBlock ∧ some k_ ≠ ((.slice Ao48 t214.length co48) : Value).ownBlock) (.slice Ao40 t206.length co40) t226) ∧ Aside0 (Kd.R (Kd.int .i64) 3 wc w.heap.size (fun k_ => some k_ ≠ ((.slice Ao30 t200.length co30) : Value).ownBlock ∧ some k_ ≠ ((.slice Ao40 t206.length co40) : Value).ownBlock) (.slice Ao48 t214.length co48) t214) ∧ Aside0 (wc.heap[gb189]? = some (.cells #[.int .i64 a0_0, (.slice A0_1 l0_1.length c0_1)] 42 (0, 0))) ∧ Aside0 (wc.heap[gb190]? = some (.cells #[.int .i64 a1_0, .int .i64 a1_1, .int .i64 a1_2] 68 (0, 0))) ∧ Aside0 (wc.heap[gb204]? = some (.cells #[.int .i64 t199, (.slice Ao30 t200.length co30)] 29 (0, 0))) ∧ Aside0 (wc.heap[gb209]? = some (.cells #[.int .i64 t205, (.slice Ao40 t206.length co40)] 29 (0, 0))) ∧ Aside0 (wc.heap[gb218]? = some (.cells #[.int .i64 t213, (.slice Ao48 t214.length co48)] 29 (0, 0))) ∧ Aside0 (Below w.heap.size w wc))
    case first =>
     have H := HC67.out
     clear HC67
     by_cases c78 : t225 < 0
     · rw [if_pos c78] at H
       have c78b0 : decide (t225 < 0) = true := decide_eq_true c78
       clear c78
       (first | rw [c78b0] | (simp only [i64_w, i32_w]; rw [c78b0]) | skip)
       subst hr_
       exact absurd H (by cases kj15 <;> simp [laws_FnExactTightenTable.j1])
     rw [if_neg c78] at H
     have c78b0 : decide (t225 < 0) = false := decide_eq_false c78
     clear c78
     (first | rw [c78b0] | (simp only [i64_w, i32_w]; rw [c78b0]) | skip)
     replace H := Option.bind_eq_some_iff.mp H
     obtain ⟨t227, A790, H⟩ := H
     replace H : (if t227 = true then (laws_FnExactTightenTable.j1 kj15 t203 (t217 != t203) a0_0 l0_1 a1_0 a1_1 a1_2 t199 t200 t213 t214) else (laws_FnExactTightenTable.j1 kj15 t203 true a0_0 l0_1 a1_0 a1_1 a1_2 t199 t200 t213 t214)) = some r := H
     have A79 := mK A790
     clear A790
     by_cases c80 : t227 = true
     rotate_left
     · replace c80 := Bool.eq_false_iff.mpr c80
       subst c80
       have H1 : (laws_FnExactTightenTable.j1 kj15 t203 true a0_0 l0_1 a1_0 a1_1 a1_2 t199 t200 t213 t214) = some r := by rw [if_neg (show ¬ (false = true) by decide)] at H; exact H
       clear H
       have H := H1
       clear H1
       subst hr_
       exact absurd H (by cases kj15 <;> simp [laws_FnExactTightenTable.j1])
     subst c80
     have H1 : (laws_FnExactTightenTable.j1 kj15 t203 (t217 != t203) a0_0 l0_1 a1_0 a1_1 a1_2 t199 t200 t213 t214) = some r := by rw [if_pos rfl] at H; exact H
     clear H
     have H := H1
     clear H1
     have H' := mK H
     clear H
     have hnb81 := NB218_189.out
     have hnc81 := NB189_218.out
     have hnb82 := NB218_190.out
     have hnc82 := NB190_218.out
     have hnb83 := NB218_204.out
     have hnc83 := NB204_218.out
     have hnb84 := NB218_209.out
     have hnc84 := NB209_218.out
     have hcz85_0 : w77.cell? ⟨gb218, 0, none⟩ = some (.int .i64 t213) := (blk_cell BK218.out 0).trans rfl
     have hcz85_1 : w77.cell? ⟨gb218, 1, none⟩ = some (.slice Ao48 t214.length co48) := (blk_cell BK218.out 1).trans rfl
     have hfz85_0 := blk_frozen BK218.out 0
     have hfz85_1 := blk_frozen BK218.out 1
     have hnb86 := NB204_189.out
     have hnc86 := NB189_204.out
     have hnb87 := NB204_190.out
     have hnc87 := NB190_204.out
     have hnb88 := NB204_209.out
     have hnc88 := NB209_204.out
     have hcz89_0 : w77.cell? ⟨gb204, 0, none⟩ = some (.int .i64 t199) := (blk_cell BK204.out 0).trans rfl
     have hcz89_1 : w77.cell? ⟨gb204, 1, none⟩ = some (.slice Ao30 t200.length co30) := (blk_cell BK204.out 1).trans rfl
     have hfz89_0 := blk_frozen BK204.out 0
     have hfz89_1 := blk_frozen BK204.out 1
     go_wp2_with (first | (go_at_call 26; (with_reducible refine (laws_eqTable.calls kj15 t213 _ _ t214 t199 _ _ t200 true _ ?side1 ?side2 ?side3 ?side4 A79.out).mono ?_); (case side1 => repeat (first | exact (Kd.R_reads' HO_219001.out).2.2 | (with_reducible refine Kd.C_alloc ?_ _) | (with_reducible refine Kd.C_drewN ?_ _) | (with_reducible refine Kd.C_drew ?_))); (case side2 => exact (Kd.R_reads' HO_219001.out).2.1); (case side3 => repeat (first | exact (Kd.R_reads' HO_205001.out).2.2 | (with_reducible refine Kd.C_alloc ?_ _) | (with_reducible refine Kd.C_drewN ?_ _) | (with_reducible refine Kd.C_drew ?_))); (case side4 => exact (Kd.R_reads' HO_205001.out).2.1); rintro e w90 ⟨rfl, hb⟩; have n0_ := mK (Kd.R_below (by (with_reducible repeat (first | apply rA | apply rN | apply rD)); exact HO_205001.out) hb); have n1_ := mK (Kd.R_below (by (with_reducible repeat (first | apply rA | apply rN | apply rD)); exact HO_210001.out) hb); have n2_ := mK (Kd.R_below (by (with_reducible repeat (first | apply rA | apply rN | apply rD)); exact HO_219001.out) hb); have n3_ := mK (Kd.R_below (by (with_reducible repeat (first | apply rA | apply rN | apply rD)); exact HO223.out) hb); have n4_ := mK (blk_below (by (with_reducible repeat (first | refine kN ?_ _ | refine kD ?_ | refine kA ?_ _)); exact BK189.out) hb); have n5_ := mK (blk_below (by (with_reducible repeat (first | refine kN ?_ _ | refine kD ?_ | refine kA ?_ _)); exact BK190.out) hb); have n6_ := mK (blk_below (by (with_reducible repeat (first | refine kN ?_ _ | refine kD ?_ | refine kA ?_ _)); exact BK204.out) hb); have n7_ := mK (blk_below (by (with_reducible repeat (first | refine kN ?_ _ | refine kD ?_ | refine kA ?_ _)); exact BK209.out) hb); have n8_ := mK (blk_below (by (with_reducible repeat (first | refine kN ?_ _ | refine kD ?_ | refine kA ?_ _)); exact BK218.out) hb); have n9_ := mK (below_step (by repeat (first | (with_reducible first | exact HB.out | apply bA | apply bN | apply bD | refine bS ?_ GE189.out | refine bS ?_ GE190.out | refine bS ?_ GE204.out | refine bS ?_ GE209.out | refine bS ?_ GE218.out) | exact HB.out)) hb); clear HO_205001; clear HO_210001; clear HO_219001; clear HO223; clear BK189; clear BK190; clear BK204; clear BK209; clear BK218; clear HB; have HO_205001 := n0_; have HO_210001 := n1_; have HO_219001 := n2_; have HO223 := n3_; have BK189 := n4_; have BK190 := n5_; have BK204 := n6_; have BK209 := n7_; have BK218 := n8_; have HB := n9_; clear n0_ n1_ n2_ n3_ n4_ n5_ n6_ n7_ n8_ n9_; (try clear hb); (try clear hb2); (try clear hk); (try clear hi)))
     go_meet
     case rel => exact ⟨_, ((t217 != t203)), (by first | rfl | (simp; done) | (simp [*]; done)), H', ⟨by have := HJ15.out; first | omega | exact Nat.le_refl _⟩, ⟨by (with_reducible repeat (first | apply rA | apply rN | apply rD)); exact Kd.R_mono HO_205001.out (fun _ hk => ⟨hk.1, hk.2.1⟩)⟩, ⟨by (with_reducible repeat (first | apply rA | apply rN | apply rD)); exact Kd.R_mono HO_210001.out (fun _ hk => ⟨hk.1.1, hk.1.2⟩)⟩, ⟨by (with_reducible repeat (first | apply rA | apply rN | apply rD)); exact Kd.R_mono HO_219001.out (fun _ hk => ⟨hk.1, hk.2.1⟩)⟩, ⟨by (with_reducible repeat (first | refine kN ?_ _ | refine kD ?_ | refine kA ?_ _)); exact BK189.out⟩, ⟨by (with_reducible repeat (first | refine kN ?_ _ | refine kD ?_ | refine kA ?_ _)); exact BK190.out⟩, ⟨by (with_reducible repeat (first | refine kN ?_ _ | refine kD ?_ | refine kA ?_ _)); exact BK204.out⟩, ⟨by (with_reducible repeat (first | refine kN ?_ _ | refine kD ?_ | refine kA ?_ _)); exact BK209.out⟩, ⟨by (with_reducible repeat (first | refine kN ?_ _ | refine kD ?_ | refine kA ?_ _)); exact BK218.out⟩, ⟨by repeat (first | (with_reducible first | exact HB.out | apply bA | apply bN | apply bD | refine bS ?_ GE189.out | refine bS ?_ GE190.out | refine bS ?_ GE204.out | refine bS ?_ GE209.out | refine bS ?_ GE218.out) | exact HB.out)⟩⟩
    case rest =>
     clear HC67
     try clear c2
     try clear p2
     try clear c4
     try clear c5
     try clear c6
     try clear c7
     try clear c8
     try clear c21
     try clear c24
     try clear c26
     try clear c46
     try clear c50
     try clear c51
     try clear c52
     try clear c53
     try clear c54
     try clear c55
     try clear c57
     try clear c58
     try clear c59
     try clear c62
     try clear c65
     try clear c72
     try clear c73
     try clear c74
     try clear c75
     try clear c78
     try clear c78b0
     try clear c80
     try clear c81
     try clear c82
     try clear c83
     try clear c84
     try clear c86
     try clear c87
     try clear c88
     try clear hcz56_0
     try clear hcz56_1
     try clear hcz60_0
     try clear hcz60_1
     try clear hcz76_0
     try clear hcz76_1
     try clear hcz85_0
     try clear hcz85_1
     try clear hcz89_0
     try clear hcz89_1
     try clear hfz56_0
     try clear hfz56_1
     try clear hfz60_0
     try clear hfz60_1
     try clear hfz76_0
     try clear hfz76_1
     try clear hfz85_0
     try clear hfz85_1
     try clear hfz89_0
     try clear hfz89_1
     try clear p2
     obtain ⟨kq, x67_66, rfl, HA, HJ66, HO_205001, HO_210001, HO_219001, BK189, BK190, BK204, BK209, BK218, HB⟩ := hcut
     have hl210001_66 := (Kd.R_reads' HO_210001.out).1
     rw [hl210001_66] at HO_210001
     (try simp only [hl210001_66])
     (try simp only [hl210001_66] at BK189)
     (try simp only [hl210001_66] at BK190)
     (try simp only [hl210001_66] at BK204)
     (try simp only [hl210001_66] at BK209)
     (try simp only [hl210001_66] at BK218)
     (try simp only [hl210001_66] at HO_205001)
     (try simp only [hl210001_66] at HO_219001)
     cases kq with
     | zero => exact absurd HA.out (by simp [laws_FnExactTightenTable.j1])
     | succ kj66 =>
      have H := HA.out
      clear HA
      simp only [laws_FnExactTightenTable.j1] at H
      by_cases c91 : x67_66 = true
      · subst c91
        have H1 : (some false) = some r := by rw [if_pos rfl] at H; exact H
        clear H
        have H := H1
        clear H1
        obtain rfl := Option.some.inj H
        exact absurd hr_ (by decide)
      replace c91 := Bool.eq_false_iff.mpr c91
      subst c91
      have H1 : ((laws_markTable.f kj66 t213 t214 1).bind fun bt228 => ((laws_heldTable.f kj66 t213 bt228.2 1).bind fun t230 => (if t230 < 0 then (some false) else (if t230 = bt228.1 then ((laws_toTable.f kj66 a0_0 l0_1).bind fun bt231 => ((laws_toEdge.f a1_0 a1_1 a1_2).bind fun bt235 => ((impl_TightenTable.f kj66 bt231.1 bt231.2 bt235.1 bt235.2.1 bt235.2.2).bind fun bt238 => ((laws_eqTable.f kj66 bt238.1 bt238.2.1 t199 t200).bind fun t244 => (if t244 = true then (laws_FnExactTightenTable.j2 kj66 bt228.1 (bt238.2.2 != t203) t213 bt228.2) else (laws_FnExactTightenTable.j2 kj66 bt228.1 true t213 bt228.2)))))) else (some false))))) = some r := by rw [if_neg (show ¬ (false = true) by decide)] at H; exact H
      clear H
      have H := H1
      clear H1
      replace H := Option.bind_eq_some_iff.mp H
      obtain ⟨⟨t228, t229⟩, A920, H⟩ := H
      replace H : ((laws_heldTable.f kj66 t213 t229 1).bind fun t230 => (if t230 < 0 then (some false) else (if t230 = t228 then ((laws_toTable.f kj66 a0_0 l0_1).bind fun bt231 => ((laws_toEdge.f a1_0 a1_1 a1_2).bind fun bt235 => ((impl_TightenTable.f kj66 bt231.1 bt231.2 bt235.1 bt235.2.1 bt235.2.2).bind fun bt238 => ((laws_eqTable.f kj66 bt238.1 bt238.2.1 t199 t200).bind fun t244 => (if t244 = true then (laws_FnExactTightenTable.j2 kj66 t228 (bt238.2.2 != t203) t213 t229) else (laws_FnExactTightenTable.j2 kj66 t228 true t213 t229)))))) else (some false)))) = some r := H
      have A92 := mK A920
      clear A920
      replace H := Option.bind_eq_some_iff.mp H
      obtain ⟨t230, A930, H⟩ := H
      replace H : (if t230 < 0 then (some false) else (if t230 = t228 then ((laws_toTable.f kj66 a0_0 l0_1).bind fun bt231 => ((laws_toEdge.f a1_0 a1_1 a1_2).bind fun bt235 => ((impl_TightenTable.f kj66 bt231.1 bt231.2 bt235.1 bt235.2.1 bt235.2.2).bind fun bt238 => ((laws_eqTable.f kj66 bt238.1 bt238.2.1 t199 t200).bind fun t244 => (if t244 = true then (laws_FnExactTightenTable.j2 kj66 t228 (bt238.2.2 != t203) t213 t229) else (laws_FnExactTightenTable.j2 kj66 t228 true t213 t229)))))) else (some false))) = some r := H
      have A93 := mK A930
      clear A930
      by_cases c94 : t230 < 0
      · rw [if_pos c94] at H
        have c94b0 : decide (t230 < 0) = true := decide_eq_true c94
        clear c94
        obtain rfl := Option.some.inj H
        exact absurd hr_ (by decide)
      rw [if_neg c94] at H
      have c94b0 : decide (t230 < 0) = false := decide_eq_false c94
      clear c94
      by_cases c95 : t230 = t228
      rotate_left
      · rw [if_neg c95] at H
        have c95b0 : (t230 == t228) = false := beq_eq_false_iff_ne.mpr c95
        have c95b1 : (t230 != t228) = true := bne_iff_ne.mpr c95
        obtain rfl := Option.some.inj H
        exact absurd hr_ (by decide)
      rw [if_pos c95] at H
      have c95b0 : (t230 == t228) = true := beq_iff_eq.mpr c95
      have c95b1 : (t230 != t228) = false := bne_eq_false_iff_eq.mpr c95
      clear c95
      replace H := Option.bind_eq_some_iff.mp H
      obtain ⟨⟨t231, t232⟩, A960, H⟩ := H
      replace H : ((laws_toEdge.f a1_0 a1_1 a1_2).bind fun bt235 => ((impl_TightenTable.f kj66 t231 t232 bt235.1 bt235.2.1 bt235.2.2).bind fun bt238 => ((laws_eqTable.f kj66 bt238.1 bt238.2.1 t199 t200).bind fun t244 => (if t244 = true then (laws_FnExactTightenTable.j2 kj66 t228 (bt238.2.2 != t203) t213 t229) else (laws_FnExactTightenTable.j2 kj66 t228 true t213 t229))))) = some r := H
      have A96 := mK A960
      clear A960
      replace H := Option.bind_eq_some_iff.mp H
      obtain ⟨⟨t235, t236, t237⟩, A970, H⟩ := H
      replace H : ((impl_TightenTable.f kj66 t231 t232 t235 t236 t237).bind fun bt238 => ((laws_eqTable.f kj66 bt238.1 bt238.2.1 t199 t200).bind fun t244 => (if t244 = true then (laws_FnExactTightenTable.j2 kj66 t228 (bt238.2.2 != t203) t213 t229) else (laws_FnExactTightenTable.j2 kj66 t228 true t213 t229)))) = some r := H
      have A97 := mK A970
      clear A970
      replace H := Option.bind_eq_some_iff.mp H
      obtain ⟨⟨t238, t239, t242⟩, A980, H⟩ := H
      replace H : ((laws_eqTable.f kj66 t238 t239 t199 t200).bind fun t244 => (if t244 = true then (laws_FnExactTightenTable.j2 kj66 t228 (t242 != t203) t213 t229) else (laws_FnExactTightenTable.j2 kj66 t228 true t213 t229))) = some r := H
      have A98 := mK A980
      clear A980
      have HC99 := mK H
      clear H
      have hnb100 := NB218_189.out
      have hnc100 := NB189_218.out
      have hnb101 := NB218_190.out
      have hnc101 := NB190_218.out
      have hnb102 := NB218_204.out
      have hnc102 := NB204_218.out
      have hnb103 := NB218_209.out
      have hnc103 := NB209_218.out
      have hcz104_0 : wc.cell? ⟨gb218, 0, none⟩ = some (.int .i64 t213) := (blk_cell BK218.out 0).trans rfl
      have hcz104_1 : wc.cell? ⟨gb218, 1, none⟩ = some (.slice Ao48 t214.length co48) := (blk_cell BK218.out 1).trans rfl
      have hfz104_0 := blk_frozen BK218.out 0
      have hfz104_1 := blk_frozen BK218.out 1
      try go_wp2_with (first | ((with_reducible refine gate_callee (f := 46) rfl ?_); refine goesL_ (some 70) rfl rfl Try.func46 (by kernel_rfl) rfl #[.agg #[.int .i64 t213, .slice Ao48 t214.length co48], .int .i64 1] rfl (by (try simp only [List.map_toArray, List.map_cons, List.map_nil]); first | done | rfl | (simp only [List.length_drop, List.length_take]; rfl)) ?_; (with_reducible refine (laws_markTable.calls kj66 t213 (fun k_ => some k_ = (.slice Ao48 t214.length co48 : Value).ownBlock) (.slice Ao48 t214.length co48) t214 1 t228 t229 w _ ?side1 ?side2 A92.out).mono ?_); (case side1 => repeat (first | (with_reducible first | exact HB.out | apply below_alloc | apply pw_below_drewN | apply below_drew1 | refine below_set ?_ GE189.out | refine below_set ?_ GE190.out | refine below_set ?_ GE204.out | refine below_set ?_ GE209.out | refine below_set ?_ GE218.out) | exact HB.out)); (case side2 => exact Kd.R_tight rfl HO_219001.out); rintro e w105 ⟨rfl, hy0, hb, hkp⟩; refine ⟨_, rfl, ?_⟩; have n0_ := mK (Kd.R_mono (ok' := fun k_ => some k_ ≠ (.slice Ao40 t226.length co40 : Value).ownBlock ∧ some k_ ≠ (.slice Ao48 t214.length co48 : Value).ownBlock) (Kd.R_keptB (HO_205001.out) hkp (fun k_ hk_ hs_ => (hk_.2) hs_)) (fun k_ hk_ => ⟨hk_.1.1, hk_.1.2⟩)); have n1_ := mK (Kd.R_mono (ok' := fun k_ => some k_ ≠ (.slice Ao30 t200.length co30 : Value).ownBlock ∧ some k_ ≠ (.slice Ao48 t214.length co48 : Value).ownBlock) (Kd.R_keptB (HO_210001.out) hkp (fun k_ hk_ hs_ => (hk_.2) hs_)) (fun k_ hk_ => ⟨hk_.1.1, hk_.1.2⟩)); have n2_ := mK (Kd.R_reok rfl hy0 (fun k_ e_ => HO_219001.out.1 k_ e_)); have n3_ := mK (blk_kept (by (with_reducible repeat (first | refine kN ?_ _ | refine kD ?_ | refine kA ?_ _)); exact BK189.out) hkp (fun hs_ => (fun e_ => (Kd.R_ne HO_219001.out BK189.out (by decide)) e_) hs_)); have n4_ := mK (blk_kept (by (with_reducible repeat (first | refine kN ?_ _ | refine kD ?_ | refine kA ?_ _)); exact BK190.out) hkp (fun hs_ => (fun e_ => (Kd.R_ne HO_219001.out BK190.out (by decide)) e_) hs_)); have n5_ := mK (blk_kept (by (with_reducible repeat (first | refine kN ?_ _ | refine kD ?_ | refine kA ?_ _)); exact BK204.out) hkp (fun hs_ => (fun e_ => (Kd.R_ne HO_219001.out BK204.out (by decide)) e_) hs_)); have n6_ := mK (blk_kept (by (with_reducible repeat (first | refine kN ?_ _ | refine kD ?_ | refine kA ?_ _)); exact BK209.out) hkp (fun hs_ => (fun e_ => (Kd.R_ne HO_219001.out BK209.out (by decide)) e_) hs_)); have n7_ := mK (blk_kept (by (with_reducible repeat (first | refine kN ?_ _ | refine kD ?_ | refine kA ?_ _)); exact BK218.out) hkp (fun hs_ => (fun e_ => (Kd.R_ne HO_219001.out BK218.out (by decide)) e_) hs_)); have n8_ := mK (hb); clear HO_205001; clear HO_210001; clear HO_219001; clear BK189; clear BK190; clear BK204; clear BK209; clear BK218; clear HB; have HO_205001 := n0_; have HO_210001 := n1_; have HO_219001 := n2_; have BK189 := n3_; have BK190 := n4_; have BK204 := n5_; have BK209 := n6_; have BK218 := n7_; have HB := n8_; clear n0_ n1_ n2_ n3_ n4_ n5_ n6_ n7_ n8_; (try clear hb); (try clear hkp); (try clear hy0); have hcz106_0 : w105.cell? ⟨gb218, 0, none⟩ = some (.int .i64 t213) := (blk_cell BK218.out 0).trans rfl; have hcz106_1 : w105.cell? ⟨gb218, 1, none⟩ = some (.slice Ao48 t214.length co48) := (blk_cell BK218.out 1).trans rfl; have hfz106_0 := blk_frozen BK218.out 0; have hfz106_1 := blk_frozen BK218.out 1) | ((with_reducible refine gate_callee (f := 51) rfl ?_); refine goesL_ (some 73) rfl rfl Try.func51 (by kernel_rfl) rfl #[.agg #[.int .i64 t213, .slice Ao48 t229.length co48], .int .i64 1] rfl (by (try simp only [List.map_toArray, List.map_cons, List.map_nil]); first | done | (rw [show t229.length = t214.length from (Kd.R_reads' HO_219001.out).1.symm] <;> rfl) | rfl | (simp only [List.length_drop, List.length_take]; rfl)) ?_; (with_reducible refine (laws_heldTable.calls kj66 t213 _ _ t229 1 t230 _ ?side1 ?side2 A93.out).mono ?_); (case side1 => repeat (first | exact (Kd.R_reads' HO_219001.out).2.2 | (with_reducible refine Kd.C_alloc ?_ _) | (with_reducible refine Kd.C_drewN ?_ _) | (with_reducible refine Kd.C_drew ?_))); (case side2 => rw [show t229.length = t214.length from (Kd.R_reads' HO_219001.out).1.symm]; exact (Kd.R_reads' HO_219001.out).2.1); rintro e w107 ⟨rfl, hb⟩; refine ⟨_, rfl, ?_⟩; have n0_ := mK (Kd.R_below (by (with_reducible repeat (first | apply rA | apply rN | apply rD)); exact HO_205001.out) hb); have n1_ := mK (Kd.R_below (by (with_reducible repeat (first | apply rA | apply rN | apply rD)); exact HO_210001.out) hb); have n2_ := mK (Kd.R_below (by (with_reducible repeat (first | apply rA | apply rN | apply rD)); exact HO_219001.out) hb); have n3_ := mK (blk_below (by (with_reducible repeat (first | refine kN ?_ _ | refine kD ?_ | refine kA ?_ _)); exact BK189.out) hb); have n4_ := mK (blk_below (by (with_reducible repeat (first | refine kN ?_ _ | refine kD ?_ | refine kA ?_ _)); exact BK190.out) hb); have n5_ := mK (blk_below (by (with_reducible repeat (first | refine kN ?_ _ | refine kD ?_ | refine kA ?_ _)); exact BK204.out) hb); have n6_ := mK (blk_below (by (with_reducible repeat (first | refine kN ?_ _ | refine kD ?_ | refine kA ?_ _)); exact BK209.out) hb); have n7_ := mK (blk_below (by (with_reducible repeat (first | refine kN ?_ _ | refine kD ?_ | refine kA ?_ _)); exact BK218.out) hb); have n8_ := mK (below_step (by repeat (first | (with_reducible first | exact HB.out | apply bA | apply bN | apply bD | refine bS ?_ GE189.out | refine bS ?_ GE190.out | refine bS ?_ GE204.out | refine bS ?_ GE209.out | refine bS ?_ GE218.out) | exact HB.out)) hb); clear HO_205001; clear HO_210001; clear HO_219001; clear BK189; clear BK190; clear BK204; clear BK209; clear BK218; clear HB; have HO_205001 := n0_; have HO_210001 := n1_; have HO_219001 := n2_; have BK189 := n3_; have BK190 := n4_; have BK204 := n5_; have BK209 := n6_; have BK218 := n7_; have HB := n8_; clear n0_ n1_ n2_ n3_ n4_ n5_ n6_ n7_ n8_; (try clear hb); (try clear hb2); (try clear hk); (try clear hi)))
      have n0_ := mK (Kd.R_drew HO_205001.out)
      have n1_ := mK (Kd.R_drew HO_210001.out)
      have n2_ := mK (Kd.R_drew HO_219001.out)
      have n3_ := mK (blk_drew BK189.out)
      have n4_ := mK (blk_drew BK190.out)
      have n5_ := mK (blk_drew BK204.out)
      have n6_ := mK (blk_drew BK209.out)
      have n7_ := mK (blk_drew BK218.out)
      have n8_ := mK (below_drew1 HB.out)
      clear HO_205001
      clear HO_210001
      clear HO_219001
      clear BK189
      clear BK190
      clear BK204
      clear BK209
      clear BK218
      clear HB
      have HO_205001 := n0_
      have HO_210001 := n1_
      have HO_219001 := n2_
      have BK189 := n3_
      have BK190 := n4_
      have BK204 := n5_
      have BK209 := n6_
      have BK218 := n7_
      have HB := n8_
      clear n0_ n1_ n2_ n3_ n4_ n5_ n6_ n7_ n8_
      refine start_ (n := 11) (S := fun w' => w'.cell? ⟨gb189, 0, none⟩ = some (.int .i64 a0_0) ∧ w'.cell? ⟨gb189, 1, none⟩ = some (.slice A0_1 l0_1.length c0_1) ∧ w'.cell? ⟨gb190, 0, none⟩ = some (.int .i64 a1_0) ∧ w'.cell? ⟨gb190, 1, none⟩ = some (.int .i64 a1_1) ∧ w'.cell? ⟨gb190, 2, none⟩ = some (.int .i64 a1_2)) (ds := []) #[false, false, false, false, false, false, false, false, false, false, false] (by kernel_rfl) rfl rfl ⟨(blk_cell BK189.out 0).trans rfl, (blk_cell BK189.out 1).trans rfl, (blk_cell BK190.out 0).trans rfl, (blk_cell BK190.out 1).trans rfl, (blk_cell BK190.out 2).trans rfl⟩ (fun hHeld => ?_); refine with_tabW laws_FnExactTightenTable.tab24 laws_FnExactTightenTable.bits24 (fun HT_ HW_ => ?_)
      generalize w107.drew = w108 at HO_205001 HO_210001 HO_219001 BK189 BK190 BK204 BK209 BK218 HB hHeld ⊢
      refine take_ (i := 0) (N := some 80) (v := ?_) (a' := ?_) #[true, false, false, false, false, false, false, false, false, false, false] rfl rfl (take_ofW HT_.out HW_.out (by kernel_rfl)) (fun _ _ _ h => h) (Or.inl ⟨by rfl, ?_⟩) hHeld ?_ ?_
      rotate_left
      · rintro w' ⟨s0, s1, s2, s3, s4⟩
        go_simp
        with_reducible rfl
      rotate_left
      · simp only [Act.put, sT, sZ, sU, i64_w, i32_w]
        rfl
      refine take_ (i := 2) (N := some 82) (v := ?_) (a' := ?_) #[true, false, true, false, false, false, false, false, false, false, false] rfl rfl (take_ofW HT_.out HW_.out (by kernel_rfl)) (fun _ _ _ h => h) (Or.inl ⟨by rfl, ?_⟩) hHeld ?_ ?_
      rotate_left
      · rintro w' ⟨s0, s1, s2, s3, s4⟩
        go_simp
        with_reducible rfl
      rotate_left
      · simp only [Act.put, sT, sZ, sU, i64_w, i32_w]
        rfl
      refine join_ (σ := Value × Value × Nat) 2 #[true, true, true, true, true, true, true, true, true, false, false] (fun s_ => [(81, .agg #[.int .i64 t231, s_.1]), (83, .agg #[.int .i64 t235, .int .i64 t236, .int .i64 t237]), (84, .tuple #[.agg #[.int .i64 t238, s_.2.1], .bool t242]), (14, .pointer (some ⟨s_.2.2, 0, none⟩)), (79, .tuple #[.agg #[.int .i64 t238, s_.2.1], .bool t242]), (85, .agg #[.int .i64 t238, s_.2.1]), (86, .bool t242)]) (fun s_ w' => (w'.cell? ⟨gb189, 0, none⟩ = some (.int .i64 a0_0) ∧ w'.cell? ⟨gb189, 1, none⟩ = some (.slice A0_1 l0_1.length c0_1) ∧ w'.cell? ⟨gb190, 0, none⟩ = some (.int .i64 a1_0) ∧ w'.cell? ⟨gb190, 1, none⟩ = some (.int .i64 a1_1) ∧ w'.cell? ⟨gb190, 2, none⟩ = some (.int .i64 a1_2)) ∧ (Kd.R (Kd.int .i64) 3 w' w.heap.size (fun k_ => some k_ ≠ (s_.2.1 : Value).ownBlock ∧ some k_ ≠ (.slice Ao30 t200.length co30 : Value).ownBlock ∧ some k_ ≠ (.slice Ao40 t226.length co40 : Value).ownBlock ∧ some k_ ≠ (.slice Ao48 t214.length co48 : Value).ownBlock) s_.1 t232) ∧ (Kd.R (Kd.int .i64) 3 w' w.heap.size (fun k_ => some k_ ≠ (s_.1 : Value).ownBlock ∧ some k_ ≠ (.slice Ao30 t200.length co30 : Value).ownBlock ∧ some k_ ≠ (.slice Ao40 t226.length co40 : Value).ownBlock ∧ some k_ ≠ (.slice Ao48 t214.length co48 : Value).ownBlock) s_.2.1 t239) ∧ (Kd.R (Kd.int .i64) 3 w' w.heap.size (fun k_ => some k_ ≠ (s_.1 : Value).ownBlock ∧ some k_ ≠ (s_.2.1 : Value).ownBlock ∧ some k_ ≠ (.slice Ao40 t226.length co40 : Value).ownBlock ∧ some k_ ≠ (.slice Ao48 t214.length co48 : Value).ownBlock) (.slice Ao30 t200.length co30) t200) ∧ (Kd.R (Kd.int .i64) 3 w' w.heap.size (fun k_ => some k_ ≠ (s_.1 : Value).ownBlock ∧ some k_ ≠ (s_.2.1 : Value).ownBlock ∧ some k_ ≠ (.slice Ao30 t200.length co30 : Value).ownBlock ∧ some k_ ≠ (.slice Ao48 t214.length co48 : Value).ownBlock) (.slice Ao40 t226.length co40) t226) ∧ (Kd.R (Kd.int .i64) 3 w' w.heap.size (fun k_ => some k_ ≠ (s_.1 : Value).ownBlock ∧ some k_ ≠ (s_.2.1 : Value).ownBlock ∧ some k_ ≠ (.slice Ao30 t200.length co30 : Value).ownBlock ∧ some k_ ≠ (.slice Ao40 t226.length co40 : Value).ownBlock) (.slice Ao48 t214.length co48) t229) ∧ (w'.heap[gb189]? = some (.cells #[.int .i64 a0_0, .slice A0_1 l0_1.length c0_1] 42 (0, 0))) ∧ (w'.heap[gb190]? = some (.cells #[.int .i64 a1_0, .int .i64 a1_1, .int .i64 a1_2] 68 (0, 0))) ∧ (w'.heap[gb204]? = some (.cells #[.int .i64 t199, .slice Ao30 t200.length co30] 29 (0, 0))) ∧ (w'.heap[gb209]? = some (.cells #[.int .i64 t205, .slice Ao40 t226.length co40] 29 (0, 0))) ∧ (w'.heap[gb218]? = some (.cells #[.int .i64 t213, .slice Ao48 t214.length co48] 29 (0, 0))) ∧ (w'.heap[s_.2.2]? = some (.cells #[.int .i64 0, .slice none 0 0] 29 (0, 0))) ∧ (w.heap.size ≤ s_.2.2) ∧ (w.heap.size ≤ s_.2.2) ∧ (gb189 ≠ s_.2.2) ∧ (s_.2.2 ≠ gb189) ∧ (gb190 ≠ s_.2.2) ∧ (s_.2.2 ≠ gb190) ∧ (gb204 ≠ s_.2.2) ∧ (s_.2.2 ≠ gb204) ∧ (gb209 ≠ s_.2.2) ∧ (s_.2.2 ≠ gb209) ∧ (gb218 ≠ s_.2.2) ∧ (s_.2.2 ≠ gb218) ∧ (Below w.heap.size w w')) ?_ ?_
      rotate_left
      · intro hCont
        refine two_ (i := 1) (j := 8) (Ni := some 81) (Nj := some 14) #[true, true, true, false, false, false, false, false, false, false, false] #[true, false, true, false, false, false, false, false, true, false, false] rfl rfl rfl rfl (two_of HT_.out (by kernel_rfl)) (by decide) (by decide) (fun K hK => ?_) (fun K hK => ?_)
        · skip
          refine goes_ Try.func24 (by kernel_rfl) rfl #[.agg #[.int .i64 a0_0, .slice A0_1 l0_1.length c0_1]] (by rfl) rfl rfl (by (try simp only [List.map_toArray, List.map_cons, List.map_nil]); first | done | rfl | (simp only [List.length_drop, List.length_take]; rfl)) ?_
          with_reducible refine (laws_toTable.calls kj66 a0_0 _ _ l0_1 t231 t232 _ ?side1 ?side2 A96.out).mono ?_
          (case side1 => repeat (first | exact (Kd.C_below HR0_1.out HB.out) | (with_reducible refine Kd.C_alloc ?_ _) | (with_reducible refine Kd.C_drewN ?_ _) | (with_reducible refine Kd.C_drew ?_)))
          (case side2 => exact HC0_1.out)
          rintro e w109 ⟨v233, rfl, ho0, hb⟩
          refine ⟨_, rfl, ?_⟩
          have n0_ := mK (Kd.R_elder' (by (with_reducible repeat (first | apply rA | apply rN | apply rD)); exact HO_205001.out) (Kd.R_base ho0) hb)
          have n1_ := mK (Kd.R_elder' (by (with_reducible repeat (first | apply rA | apply rN | apply rD)); exact HO_210001.out) (Kd.R_base ho0) hb)
          have n2_ := mK (Kd.R_elder' (by (with_reducible repeat (first | apply rA | apply rN | apply rD)); exact HO_219001.out) (Kd.R_base ho0) hb)
          have n3_ := mK (Kd.R_lower (Kd.R_new' (Kd.R_new' (Kd.R_new' ho0 (Kd.R_lt (by (with_reducible repeat (first | apply rA | apply rN | apply rD)); exact HO_205001.out))) (Kd.R_lt (by (with_reducible repeat (first | apply rA | apply rN | apply rD)); exact HO_210001.out))) (Kd.R_lt (by (with_reducible repeat (first | apply rA | apply rN | apply rD)); exact HO_219001.out))) (below_size (by repeat (first | (with_reducible first | exact HB.out | apply bA | apply bN | apply bD | refine bS ?_ GE189.out | refine bS ?_ GE190.out | refine bS ?_ GE204.out | refine bS ?_ GE209.out | refine bS ?_ GE218.out) | exact HB.out))))
          have n4_ := mK (blk_below (by (with_reducible repeat (first | refine kN ?_ _ | refine kD ?_ | refine kA ?_ _)); exact BK189.out) hb)
          have n5_ := mK (blk_below (by (with_reducible repeat (first | refine kN ?_ _ | refine kD ?_ | refine kA ?_ _)); exact BK190.out) hb)
          have n6_ := mK (blk_below (by (with_reducible repeat (first | refine kN ?_ _ | refine kD ?_ | refine kA ?_ _)); exact BK204.out) hb)
          have n7_ := mK (blk_below (by (with_reducible repeat (first | refine kN ?_ _ | refine kD ?_ | refine kA ?_ _)); exact BK209.out) hb)
          have n8_ := mK (blk_below (by (with_reducible repeat (first | refine kN ?_ _ | refine kD ?_ | refine kA ?_ _)); exact BK218.out) hb)
          have n9_ := mK (below_step (by repeat (first | (with_reducible first | exact HB.out | apply bA | apply bN | apply bD | refine bS ?_ GE189.out | refine bS ?_ GE190.out | refine bS ?_ GE204.out | refine bS ?_ GE209.out | refine bS ?_ GE218.out) | exact HB.out)) hb)
          clear HO_205001
          clear HO_210001
          clear HO_219001
          clear BK189
          clear BK190
          clear BK204
          clear BK209
          clear BK218
          clear HB
          have HO_205001 := n0_
          have HO_210001 := n1_
          have HO_219001 := n2_
          have HO234 := n3_
          have BK189 := n4_
          have BK190 := n5_
          have BK204 := n6_
          have BK209 := n7_
          have BK218 := n8_
          have HB := n9_
          clear n0_ n1_ n2_ n3_ n4_ n5_ n6_ n7_ n8_ n9_
          (try clear hb)
          (try clear hb2)
          (try clear hk)
          (try clear hi)
          (try clear ho0)
          refine hK.out _ _ ⟨(blk_cell BK189.out 0).trans rfl, (blk_cell BK189.out 1).trans rfl, (blk_cell BK190.out 0).trans rfl, (blk_cell BK190.out 1).trans rfl, (blk_cell BK190.out 2).trans rfl⟩ (fun hHeld => ?_)
          clear hK K
          refine norm_ (a' := ?_) ?_ ?_
          rotate_left
          · show Act.put _ (some 81) _ = _
            simp only [Act.put, sT, sZ, sU, i64_w, i32_w]
            rfl
          refine two_ (i := 3) (j := 8) (Ni := some 83) (Nj := some 14) #[true, true, true, true, false, false, false, false, false, false, false] #[true, true, true, false, false, false, false, false, true, false, false] rfl rfl rfl rfl (two_of HT_.out (by kernel_rfl)) (by decide) (by decide) (fun K hK => ?_) (fun K hK => ?_)
          · skip
            refine goes_ Try.func50 (by kernel_rfl) rfl #[.agg #[.int .i64 a1_0, .int .i64 a1_1, .int .i64 a1_2]] (by rfl) rfl rfl (by (try simp only [List.map_toArray, List.map_cons, List.map_nil]); first | done | rfl | (simp only [List.length_drop, List.length_take]; rfl)) ?_
            with_reducible refine (laws_toEdge.calls a1_0 a1_1 a1_2 t235 t236 t237 _ A97.out).mono ?_
            rintro e w110 ⟨rfl, hb⟩
            refine ⟨_, rfl, ?_⟩
            have n0_ := mK (Kd.R_below (by (with_reducible repeat (first | apply rA | apply rN | apply rD)); exact HO_205001.out) hb)
            have n1_ := mK (Kd.R_below (by (with_reducible repeat (first | apply rA | apply rN | apply rD)); exact HO_210001.out) hb)
            have n2_ := mK (Kd.R_below (by (with_reducible repeat (first | apply rA | apply rN | apply rD)); exact HO_219001.out) hb)
            have n3_ := mK (Kd.R_below (by (with_reducible repeat (first | apply rA | apply rN | apply rD)); exact HO234.out) hb)
            have n4_ := mK (blk_below (by (with_reducible repeat (first | refine kN ?_ _ | refine kD ?_ | refine kA ?_ _)); exact BK189.out) hb)
            have n5_ := mK (blk_below (by (with_reducible repeat (first | refine kN ?_ _ | refine kD ?_ | refine kA ?_ _)); exact BK190.out) hb)
            have n6_ := mK (blk_below (by (with_reducible repeat (first | refine kN ?_ _ | refine kD ?_ | refine kA ?_ _)); exact BK204.out) hb)
            have n7_ := mK (blk_below (by (with_reducible repeat (first | refine kN ?_ _ | refine kD ?_ | refine kA ?_ _)); exact BK209.out) hb)
            have n8_ := mK (blk_below (by (with_reducible repeat (first | refine kN ?_ _ | refine kD ?_ | refine kA ?_ _)); exact BK218.out) hb)
            have n9_ := mK (below_step (by repeat (first | (with_reducible first | exact HB.out | apply bA | apply bN | apply bD | refine bS ?_ GE189.out | refine bS ?_ GE190.out | refine bS ?_ GE204.out | refine bS ?_ GE209.out | refine bS ?_ GE218.out) | exact HB.out)) hb)
            clear HO_205001
            clear HO_210001
            clear HO_219001
            clear HO234
            clear BK189
            clear BK190
            clear BK204
            clear BK209
            clear BK218
            clear HB
            have HO_205001 := n0_
            have HO_210001 := n1_
            have HO_219001 := n2_
            have HO234 := n3_
            have BK189 := n4_
            have BK190 := n5_
            have BK204 := n6_
            have BK209 := n7_
            have BK218 := n8_
            have HB := n9_
            clear n0_ n1_ n2_ n3_ n4_ n5_ n6_ n7_ n8_ n9_
            (try clear hb)
            (try clear hb2)
            (try clear hk)
            (try clear hi)
            obtain ⟨Ao111, co111, eo111⟩ := Kd.R_slice HO234.out
            (first | subst eo111 | (injection eo111 with f1_ f2_ f3_; have f4_ := f1_.symm; have f5_ := f3_.symm; clear f1_ f2_ f3_; subst f4_; subst f5_))
            refine hK.out _ _ ⟨(blk_cell BK189.out 0).trans rfl, (blk_cell BK189.out 1).trans rfl, (blk_cell BK190.out 0).trans rfl, (blk_cell BK190.out 1).trans rfl, (blk_cell BK190.out 2).trans rfl⟩ (fun hHeld => ?_)
            clear hK K
            refine norm_ (a' := ?_) ?_ ?_
            rotate_left
            · show Act.put _ (some 83) _ = _
              simp only [Act.put, sT, sZ, sU, i64_w, i32_w]
              rfl
            refine two_ (i := 4) (j := 8) (Ni := some 84) (Nj := some 14) #[true, true, true, true, true, false, false, false, false, false, false] #[true, true, true, true, false, false, false, false, true, false, false] rfl rfl rfl rfl (two_of HT_.out (by kernel_rfl)) (by decide) (by decide) (fun K hK => ?_) (fun K hK => ?_)
            · skip
              refine goes_ Try.func21 (by kernel_rfl) rfl #[.agg #[.int .i64 t231, .slice Ao111 t232.length co111], .agg #[.int .i64 t235, .int .i64 t236, .int .i64 t237]] (by rfl) rfl rfl (by (try simp only [List.map_toArray, List.map_cons, List.map_nil]); first | done | rfl | (simp only [List.length_drop, List.length_take]; rfl)) ?_
              with_reducible refine (impl_TightenTable.calls kj66 t231 _ _ t232 t235 t236 t237 t238 t239 t242 _ ?side1 ?side2 A98.out).mono ?_
              (case side1 => repeat (first | exact (Kd.R_reads' HO234.out).2.2 | (with_reducible refine Kd.C_alloc ?_ _) | (with_reducible refine Kd.C_drewN ?_ _) | (with_reducible refine Kd.C_drew ?_)))
              (case side2 => exact (Kd.R_reads' HO234.out).2.1)
              rintro e w112 ⟨v240, rfl, ho0, hb⟩
              refine ⟨_, rfl, ?_⟩
              have n0_ := mK (Kd.R_elder' (by (with_reducible repeat (first | apply rA | apply rN | apply rD)); exact HO_205001.out) (Kd.R_base ho0) hb)
              have n1_ := mK (Kd.R_elder' (by (with_reducible repeat (first | apply rA | apply rN | apply rD)); exact HO_210001.out) (Kd.R_base ho0) hb)
              have n2_ := mK (Kd.R_elder' (by (with_reducible repeat (first | apply rA | apply rN | apply rD)); exact HO_219001.out) (Kd.R_base ho0) hb)
              have n3_ := mK (Kd.R_elder' (by (with_reducible repeat (first | apply rA | apply rN | apply rD)); exact HO234.out) (Kd.R_base ho0) hb)
              have n4_ := mK (Kd.R_lower (Kd.R_new' (Kd.R_new' (Kd.R_new' (Kd.R_new' ho0 (Kd.R_lt (by (with_reducible repeat (first | apply rA | apply rN | apply rD)); exact HO_205001.out))) (Kd.R_lt (by (with_reducible repeat (first | apply rA | apply rN | apply rD)); exact HO_210001.out))) (Kd.R_lt (by (with_reducible repeat (first | apply rA | apply rN | apply rD)); exact HO_219001.out))) (Kd.R_lt (by (with_reducible repeat (first | apply rA | apply rN | apply rD)); exact HO234.out))) (below_size (by repeat (first | (with_reducible first | exact HB.out | apply bA | apply bN | apply bD | refine bS ?_ GE189.out | refine bS ?_ GE190.out | refine bS ?_ GE204.out | refine bS ?_ GE209.out | refine bS ?_ GE218.out) | exact HB.out))))
              have n5_ := mK (blk_below (by (with_reducible repeat (first | refine kN ?_ _ | refine kD ?_ | refine kA ?_ _)); exact BK189.out) hb)
              have n6_ := mK (blk_below (by (with_reducible repeat (first | refine kN ?_ _ | refine kD ?_ | refine kA ?_ _)); exact BK190.out) hb)
              have n7_ := mK (blk_below (by (with_reducible repeat (first | refine kN ?_ _ | refine kD ?_ | refine kA ?_ _)); exact BK204.out) hb)
              have n8_ := mK (blk_below (by (with_reducible repeat (first | refine kN ?_ _ | refine kD ?_ | refine kA ?_ _)); exact BK209.out) hb)
              have n9_ := mK (blk_below (by (with_reducible repeat (first | refine kN ?_ _ | refine kD ?_ | refine kA ?_ _)); exact BK218.out) hb)
              have n10_ := mK (below_step (by repeat (first | (with_reducible first | exact HB.out | apply bA | apply bN | apply bD | refine bS ?_ GE189.out | refine bS ?_ GE190.out | refine bS ?_ GE204.out | refine bS ?_ GE209.out | refine bS ?_ GE218.out) | exact HB.out)) hb)
              clear HO_205001
              clear HO_210001
              clear HO_219001
              clear HO234
              clear BK189
              clear BK190
              clear BK204
              clear BK209
              clear BK218
              clear HB
              have HO_205001 := n0_
              have HO_210001 := n1_
              have HO_219001 := n2_
              have HO234 := n3_
              have HO241 := n4_
              have BK189 := n5_
              have BK190 := n6_
              have BK204 := n7_
              have BK209 := n8_
              have BK218 := n9_
              have HB := n10_
              clear n0_ n1_ n2_ n3_ n4_ n5_ n6_ n7_ n8_ n9_ n10_
              (try clear hb)
              (try clear hb2)
              (try clear hk)
              (try clear hi)
              (try clear ho0)
              refine hK.out _ _ ⟨(blk_cell BK189.out 0).trans rfl, (blk_cell BK189.out 1).trans rfl, (blk_cell BK190.out 0).trans rfl, (blk_cell BK190.out 1).trans rfl, (blk_cell BK190.out 2).trans rfl⟩ (fun hHeld => ?_)
              clear hK K
              refine norm_ (a' := ?_) ?_ ?_
              rotate_left
              · show Act.put _ (some 84) _ = _
                simp only [Act.put, sT, sZ, sU, i64_w, i32_w]
                rfl
              refine pure_ (i := 5) (N := some 79) (v := ?_) (a' := ?_) #[true, true, true, true, true, true, false, false, false, false, false] rfl rfl (any_of HT_.out (by kernel_rfl)) (fun _ _ _ h => h) (Or.inl ⟨by rfl, ?_⟩) ?_ ?_
              rotate_left
              · intro w'
                go_simp
                with_reducible rfl
              rotate_left
              · simp only [Act.put, sT, sZ, sU, i64_w, i32_w]
                rfl
              refine pure_ (i := 6) (N := some 85) (v := ?_) (a' := ?_) #[true, true, true, true, true, true, true, false, false, false, false] rfl rfl (any_of HT_.out (by kernel_rfl)) (fun _ _ _ h => h) (Or.inl ⟨by rfl, ?_⟩) ?_ ?_
              rotate_left
              · intro w'
                go_simp
                with_reducible rfl
              rotate_left
              · simp only [Act.put, sT, sZ, sU, i64_w, i32_w]
                rfl
              refine pure_ (i := 7) (N := some 86) (v := ?_) (a' := ?_) #[true, true, true, true, true, true, true, true, false, false, false] rfl rfl (any_of HT_.out (by kernel_rfl)) (fun _ _ _ h => h) (Or.inl ⟨by rfl, ?_⟩) ?_ ?_
              rotate_left
              · intro w'
                go_simp
                with_reducible rfl
              rotate_left
              · simp only [Act.put, sT, sZ, sU, i64_w, i32_w]
                rfl
              refine one_ (i := 8) (N := some 14) #[true, true, true, true, true, true, true, true, true, false, false] rfl rfl (one_of HT_.out (by kernel_rfl)) (by decide) (fun K hK => ?_)
              refine box_step ?hg (N := 14) ?hd (cs := #[.int .i64 0, .slice none 0 0]) (t := 29) ?hr ?_; (case hd => rfl); (case hg => rfl); (case hr => first | (go_simp; done) | (go_simp; rfl))
              intro gb243 hg w113 hbox hb
              have n0_ := mK (Kd.R_below (by (with_reducible repeat (first | apply rA | apply rN | apply rD)); exact HO_205001.out) hb)
              have n1_ := mK (Kd.R_below (by (with_reducible repeat (first | apply rA | apply rN | apply rD)); exact HO_210001.out) hb)
              have n2_ := mK (Kd.R_below (by (with_reducible repeat (first | apply rA | apply rN | apply rD)); exact HO_219001.out) hb)
              have n3_ := mK (Kd.R_below (by (with_reducible repeat (first | apply rA | apply rN | apply rD)); exact HO234.out) hb)
              have n4_ := mK (Kd.R_below (by (with_reducible repeat (first | apply rA | apply rN | apply rD)); exact HO241.out) hb)
              have n5_ := mK (blk_below (by (with_reducible repeat (first | refine kN ?_ _ | refine kD ?_ | refine kA ?_ _)); exact BK189.out) hb)
              have n6_ := mK (blk_below (by (with_reducible repeat (first | refine kN ?_ _ | refine kD ?_ | refine kA ?_ _)); exact BK190.out) hb)
              have n7_ := mK (blk_below (by (with_reducible repeat (first | refine kN ?_ _ | refine kD ?_ | refine kA ?_ _)); exact BK204.out) hb)
              have n8_ := mK (blk_below (by (with_reducible repeat (first | refine kN ?_ _ | refine kD ?_ | refine kA ?_ _)); exact BK209.out) hb)
              have n9_ := mK (blk_below (by (with_reducible repeat (first | refine kN ?_ _ | refine kD ?_ | refine kA ?_ _)); exact BK218.out) hb)
              have n10_ := mK (below_step (by repeat (first | (with_reducible first | exact HB.out | apply bA | apply bN | apply bD | refine bS ?_ GE189.out | refine bS ?_ GE190.out | refine bS ?_ GE204.out | refine bS ?_ GE209.out | refine bS ?_ GE218.out) | exact HB.out)) hb)
              have n11_ := mK (hbox)
              have n12_ := mK ((by rw [hg]; exact (below_size (by repeat (first | (with_reducible first | exact HB.out | apply bA | apply bN | apply bD | refine bS ?_ GE189.out | refine bS ?_ GE190.out | refine bS ?_ GE204.out | refine bS ?_ GE209.out | refine bS ?_ GE218.out) | exact HB.out))) : w.heap.size ≤ gb243))
              have n13_ := mK ((by rw [hg]; exact (below_size (by repeat (first | (with_reducible first | exact HB.out | apply bA | apply bN | apply bD | refine bS ?_ GE189.out | refine bS ?_ GE190.out | refine bS ?_ GE204.out | refine bS ?_ GE209.out | refine bS ?_ GE218.out) | exact HB.out))) : w.heap.size ≤ gb243))
              have n14_ := mK ((by rw [hg]; exact Nat.ne_of_lt (blk_lt (by (with_reducible repeat (first | refine kN ?_ _ | refine kD ?_ | refine kA ?_ _)); exact BK189.out)) : gb189 ≠ gb243))
              have n15_ := mK ((by rw [hg]; exact Nat.ne_of_gt (blk_lt (by (with_reducible repeat (first | refine kN ?_ _ | refine kD ?_ | refine kA ?_ _)); exact BK189.out)) : gb243 ≠ gb189))
              have n16_ := mK ((by rw [hg]; exact Nat.ne_of_lt (blk_lt (by (with_reducible repeat (first | refine kN ?_ _ | refine kD ?_ | refine kA ?_ _)); exact BK190.out)) : gb190 ≠ gb243))
              have n17_ := mK ((by rw [hg]; exact Nat.ne_of_gt (blk_lt (by (with_reducible repeat (first | refine kN ?_ _ | refine kD ?_ | refine kA ?_ _)); exact BK190.out)) : gb243 ≠ gb190))
              have n18_ := mK ((by rw [hg]; exact Nat.ne_of_lt (blk_lt (by (with_reducible repeat (first | refine kN ?_ _ | refine kD ?_ | refine kA ?_ _)); exact BK204.out)) : gb204 ≠ gb243))
              have n19_ := mK ((by rw [hg]; exact Nat.ne_of_gt (blk_lt (by (with_reducible repeat (first | refine kN ?_ _ | refine kD ?_ | refine kA ?_ _)); exact BK204.out)) : gb243 ≠ gb204))
              have n20_ := mK ((by rw [hg]; exact Nat.ne_of_lt (blk_lt (by (with_reducible repeat (first | refine kN ?_ _ | refine kD ?_ | refine kA ?_ _)); exact BK209.out)) : gb209 ≠ gb243))
              have n21_ := mK ((by rw [hg]; exact Nat.ne_of_gt (blk_lt (by (with_reducible repeat (first | refine kN ?_ _ | refine kD ?_ | refine kA ?_ _)); exact BK209.out)) : gb243 ≠ gb209))
              have n22_ := mK ((by rw [hg]; exact Nat.ne_of_lt (blk_lt (by (with_reducible repeat (first | refine kN ?_ _ | refine kD ?_ | refine kA ?_ _)); exact BK218.out)) : gb218 ≠ gb243))
              have n23_ := mK ((by rw [hg]; exact Nat.ne_of_gt (blk_lt (by (with_reducible repeat (first | refine kN ?_ _ | refine kD ?_ | refine kA ?_ _)); exact BK218.out)) : gb243 ≠ gb218))
              clear HO_205001
              clear HO_210001
              clear HO_219001
              clear HO234
              clear HO241
              clear BK189
              clear BK190
              clear BK204
              clear BK209
              clear BK218
              clear HB
              have HO_205001 := n0_
              have HO_210001 := n1_
              have HO_219001 := n2_
              have HO234 := n3_
              have HO241 := n4_
              have BK189 := n5_
              have BK190 := n6_
              have BK204 := n7_
              have BK209 := n8_
              have BK218 := n9_
              have HB := n10_
              have BK243 := n11_
              have GW243 := n12_
              have GE243 := n13_
              have NB189_243 := n14_
              have NB243_189 := n15_
              have NB190_243 := n16_
              have NB243_190 := n17_
              have NB204_243 := n18_
              have NB243_204 := n19_
              have NB209_243 := n20_
              have NB243_209 := n21_
              have NB218_243 := n22_
              have NB243_218 := n23_
              clear n0_ n1_ n2_ n3_ n4_ n5_ n6_ n7_ n8_ n9_ n10_ n11_ n12_ n13_ n14_ n15_ n16_ n17_ n18_ n19_ n20_ n21_ n22_ n23_
              clear hb hbox hg
              refine hK.out _ _ ⟨(blk_cell BK189.out 0).trans rfl, (blk_cell BK189.out 1).trans rfl, (blk_cell BK190.out 0).trans rfl, (blk_cell BK190.out 1).trans rfl, (blk_cell BK190.out 2).trans rfl⟩ (fun hHeld => ?_)
              clear hK K
              refine norm_ (a' := ?_) ?_ ?_
              rotate_left
              · show Act.put _ (some 14) _ = _
                simp only [Act.put, sT, sZ, sU, i64_w, i32_w]
                rfl
              exact norm_ (by simp only [putAll, Act.put, sT, sZ, sU]) (hCont (.slice Ao111 t232.length co111, v240, gb243) _ ⟨hHeld, (by (with_reducible repeat (first | apply rA | apply rN | apply rD)); exact Kd.R_mono HO234.out (fun _ hk => ⟨hk.2, ⟨hk.1.1.1.2, ⟨hk.1.1.2, hk.1.2⟩⟩⟩)), (by (with_reducible repeat (first | apply rA | apply rN | apply rD)); exact Kd.R_mono HO241.out (fun _ hk => ⟨hk.2, ⟨hk.1.1.1.2, ⟨hk.1.1.2, hk.1.2⟩⟩⟩)), (by (with_reducible repeat (first | apply rA | apply rN | apply rD)); exact Kd.R_mono HO_205001.out (fun _ hk => ⟨hk.1.2, ⟨hk.2, ⟨hk.1.1.1, hk.1.1.2⟩⟩⟩)), (by (with_reducible repeat (first | apply rA | apply rN | apply rD)); exact Kd.R_mono HO_210001.out (fun _ hk => ⟨hk.1.2, ⟨hk.2, ⟨hk.1.1.1, hk.1.1.2⟩⟩⟩)), (by (with_reducible repeat (first | apply rA | apply rN | apply rD)); exact Kd.R_mono HO_219001.out (fun _ hk => ⟨hk.1.2, ⟨hk.2, ⟨hk.1.1.1, hk.1.1.2⟩⟩⟩)), (by (with_reducible repeat (first | refine kN ?_ _ | refine kD ?_ | refine kA ?_ _)); exact BK189.out), (by (with_reducible repeat (first | refine kN ?_ _ | refine kD ?_ | refine kA ?_ _)); exact BK190.out), (by (with_reducible repeat (first | refine kN ?_ _ | refine kD ?_ | refine kA ?_ _)); exact BK204.out), (by (with_reducible repeat (first | refine kN ?_ _ | refine kD ?_ | refine kA ?_ _)); exact BK209.out), (by (with_reducible repeat (first | refine kN ?_ _ | refine kD ?_ | refine kA ?_ _)); exact BK218.out), (by (with_reducible repeat (first | refine kN ?_ _ | refine kD ?_ | refine kA ?_ _)); exact BK243.out), GW243.out, GE243.out, NB189_243.out, NB243_189.out, NB190_243.out, NB243_190.out, NB204_243.out, NB243_204.out, NB209_243.out, NB243_209.out, NB218_243.out, NB243_218.out, (by repeat (first | (with_reducible first | exact HB.out | apply bA | apply bN | apply bD | refine bS ?_ GE189.out | refine bS ?_ GE190.out | refine bS ?_ GE204.out | refine bS ?_ GE209.out | refine bS ?_ GE218.out | refine bS ?_ GE243.out) | exact HB.out))⟩)
            · skip
              refine box_step ?hg (N := 14) ?hd (cs := #[.int .i64 0, .slice none 0 0]) (t := 29) ?hr ?_; (case hd => rfl); (case hg => rfl); (case hr => first | (go_simp; done) | (go_simp; rfl))
              intro gb243 hg w111 hbox hb
              have n0_ := mK (Kd.R_below (by (with_reducible repeat (first | apply rA | apply rN | apply rD)); exact HO_205001.out) hb)
              have n1_ := mK (Kd.R_below (by (with_reducible repeat (first | apply rA | apply rN | apply rD)); exact HO_210001.out) hb)
              have n2_ := mK (Kd.R_below (by (with_reducible repeat (first | apply rA | apply rN | apply rD)); exact HO_219001.out) hb)
              have n3_ := mK (Kd.R_below (by (with_reducible repeat (first | apply rA | apply rN | apply rD)); exact HO234.out) hb)
              have n4_ := mK (blk_below (by (with_reducible repeat (first | refine kN ?_ _ | refine kD ?_ | refine kA ?_ _)); exact BK189.out) hb)
              have n5_ := mK (blk_below (by (with_reducible repeat (first | refine kN ?_ _ | refine kD ?_ | refine kA ?_ _)); exact BK190.out) hb)
              have n6_ := mK (blk_below (by (with_reducible repeat (first | refine kN ?_ _ | refine kD ?_ | refine kA ?_ _)); exact BK204.out) hb)
              have n7_ := mK (blk_below (by (with_reducible repeat (first | refine kN ?_ _ | refine kD ?_ | refine kA ?_ _)); exact BK209.out) hb)
              have n8_ := mK (blk_below (by (with_reducible repeat (first | refine kN ?_ _ | refine kD ?_ | refine kA ?_ _)); exact BK218.out) hb)
              have n9_ := mK (below_step (by repeat (first | (with_reducible first | exact HB.out | apply bA | apply bN | apply bD | refine bS ?_ GE189.out | refine bS ?_ GE190.out | refine bS ?_ GE204.out | refine bS ?_ GE209.out | refine bS ?_ GE218.out) | exact HB.out)) hb)
              have n10_ := mK (hbox)
              have n11_ := mK ((by rw [hg]; exact (below_size (by repeat (first | (with_reducible first | exact HB.out | apply bA | apply bN | apply bD | refine bS ?_ GE189.out | refine bS ?_ GE190.out | refine bS ?_ GE204.out | refine bS ?_ GE209.out | refine bS ?_ GE218.out) | exact HB.out))) : w.heap.size ≤ gb243))
              have n12_ := mK ((by rw [hg]; exact (below_size (by repeat (first | (with_reducible first | exact HB.out | apply bA | apply bN | apply bD | refine bS ?_ GE189.out | refine bS ?_ GE190.out | refine bS ?_ GE204.out | refine bS ?_ GE209.out | refine bS ?_ GE218.out) | exact HB.out))) : w.heap.size ≤ gb243))
              have n13_ := mK ((by rw [hg]; exact Nat.ne_of_lt (blk_lt (by (with_reducible repeat (first | refine kN ?_ _ | refine kD ?_ | refine kA ?_ _)); exact BK189.out)) : gb189 ≠ gb243))
              have n14_ := mK ((by rw [hg]; exact Nat.ne_of_gt (blk_lt (by (with_reducible repeat (first | refine kN ?_ _ | refine kD ?_ | refine kA ?_ _)); exact BK189.out)) : gb243 ≠ gb189))
              have n15_ := mK ((by rw [hg]; exact Nat.ne_of_lt (blk_lt (by (with_reducible repeat (first | refine kN ?_ _ | refine kD ?_ | refine kA ?_ _)); exact BK190.out)) : gb190 ≠ gb243))
              have n16_ := mK ((by rw [hg]; exact Nat.ne_of_gt (blk_lt (by (with_reducible repeat (first | refine kN ?_ _ | refine kD ?_ | refine kA ?_ _)); exact BK190.out)) : gb243 ≠ gb190))
              have n17_ := mK ((by rw [hg]; exact Nat.ne_of_lt (blk_lt (by (with_reducible repeat (first | refine kN ?_ _ | refine kD ?_ | refine kA ?_ _)); exact BK204.out)) : gb204 ≠ gb243))
              have n18_ := mK ((by rw [hg]; exact Nat.ne_of_gt (blk_lt (by (with_reducible repeat (first | refine kN ?_ _ | refine kD ?_ | refine kA ?_ _)); exact BK204.out)) : gb243 ≠ gb204))
              have n19_ := mK ((by rw [hg]; exact Nat.ne_of_lt (blk_lt (by (with_reducible repeat (first | refine kN ?_ _ | refine kD ?_ | refine kA ?_ _)); exact BK209.out)) : gb209 ≠ gb243))
              have n20_ := mK ((by rw [hg]; exact Nat.ne_of_gt (blk_lt (by (with_reducible repeat (first | refine kN ?_ _ | refine kD ?_ | refine kA ?_ _)); exact BK209.out)) : gb243 ≠ gb209))
              have n21_ := mK ((by rw [hg]; exact Nat.ne_of_lt (blk_lt (by (with_reducible repeat (first | refine kN ?_ _ | refine kD ?_ | refine kA ?_ _)); exact BK218.out)) : gb218 ≠ gb243))
              have n22_ := mK ((by rw [hg]; exact Nat.ne_of_gt (blk_lt (by (with_reducible repeat (first | refine kN ?_ _ | refine kD ?_ | refine kA ?_ _)); exact BK218.out)) : gb243 ≠ gb218))
              clear HO_205001
              clear HO_210001
              clear HO_219001
              clear HO234
              clear BK189
              clear BK190
              clear BK204
              clear BK209
              clear BK218
              clear HB
              have HO_205001 := n0_
              have HO_210001 := n1_
              have HO_219001 := n2_
              have HO234 := n3_
              have BK189 := n4_
              have BK190 := n5_
              have BK204 := n6_
              have BK209 := n7_
              have BK218 := n8_
              have HB := n9_
              have BK243 := n10_
              have GW243 := n11_
              have GE243 := n12_
              have NB189_243 := n13_
              have NB243_189 := n14_
              have NB190_243 := n15_
              have NB243_190 := n16_
              have NB204_243 := n17_
              have NB243_204 := n18_
              have NB209_243 := n19_
              have NB243_209 := n20_
              have NB218_243 := n21_
              have NB243_218 := n22_
              clear n0_ n1_ n2_ n3_ n4_ n5_ n6_ n7_ n8_ n9_ n10_ n11_ n12_ n13_ n14_ n15_ n16_ n17_ n18_ n19_ n20_ n21_ n22_
              clear hb hbox hg
              obtain ⟨Ao112, co112, eo112⟩ := Kd.R_slice HO234.out
              (first | subst eo112 | (injection eo112 with f1_ f2_ f3_; have f4_ := f1_.symm; have f5_ := f3_.symm; clear f1_ f2_ f3_; subst f4_; subst f5_))
              refine hK.out _ _ ⟨(blk_cell BK189.out 0).trans rfl, (blk_cell BK189.out 1).trans rfl, (blk_cell BK190.out 0).trans rfl, (blk_cell BK190.out 1).trans rfl, (blk_cell BK190.out 2).trans rfl⟩ (fun hHeld => ?_)
              clear hK K
              refine norm_ (a' := ?_) ?_ ?_
              rotate_left
              · show Act.put _ (some 14) _ = _
                simp only [Act.put, sT, sZ, sU, i64_w, i32_w]
                rfl
              refine one_ (i := 4) (N := some 84) #[true, true, true, true, true, false, false, false, true, false, false] rfl rfl (one_of HT_.out (by kernel_rfl)) (by decide) (fun K hK => ?_)
              refine goes_ Try.func21 (by kernel_rfl) rfl #[.agg #[.int .i64 t231, .slice Ao112 t232.length co112], .agg #[.int .i64 t235, .int .i64 t236, .int .i64 t237]] (by rfl) rfl rfl (by (try simp only [List.map_toArray, List.map_cons, List.map_nil]); first | done | rfl | (simp only [List.length_drop, List.length_take]; rfl)) ?_
              with_reducible refine (impl_TightenTable.calls kj66 t231 _ _ t232 t235 t236 t237 t238 t239 t242 _ ?side1 ?side2 A98.out).mono ?_
              (case side1 => repeat (first | exact (Kd.R_reads' HO234.out).2.2 | (with_reducible refine Kd.C_alloc ?_ _) | (with_reducible refine Kd.C_drewN ?_ _) | (with_reducible refine Kd.C_drew ?_)))
              (case side2 => exact (Kd.R_reads' HO234.out).2.1)
              rintro e w113 ⟨v240, rfl, ho0, hb⟩
              refine ⟨_, rfl, ?_⟩
              have n0_ := mK (Kd.R_elder' (by (with_reducible repeat (first | apply rA | apply rN | apply rD)); exact HO_205001.out) (Kd.R_base ho0) hb)
              have n1_ := mK (Kd.R_elder' (by (with_reducible repeat (first | apply rA | apply rN | apply rD)); exact HO_210001.out) (Kd.R_base ho0) hb)
              have n2_ := mK (Kd.R_elder' (by (with_reducible repeat (first | apply rA | apply rN | apply rD)); exact HO_219001.out) (Kd.R_base ho0) hb)
              have n3_ := mK (Kd.R_elder' (by (with_reducible repeat (first | apply rA | apply rN | apply rD)); exact HO234.out) (Kd.R_base ho0) hb)
              have n4_ := mK (Kd.R_lower (Kd.R_new' (Kd.R_new' (Kd.R_new' (Kd.R_new' ho0 (Kd.R_lt (by (with_reducible repeat (first | apply rA | apply rN | apply rD)); exact HO_205001.out))) (Kd.R_lt (by (with_reducible repeat (first | apply rA | apply rN | apply rD)); exact HO_210001.out))) (Kd.R_lt (by (with_reducible repeat (first | apply rA | apply rN | apply rD)); exact HO_219001.out))) (Kd.R_lt (by (with_reducible repeat (first | apply rA | apply rN | apply rD)); exact HO234.out))) (below_size (by repeat (first | (with_reducible first | exact HB.out | apply bA | apply bN | apply bD | refine bS ?_ GE189.out | refine bS ?_ GE190.out | refine bS ?_ GE204.out | refine bS ?_ GE209.out | refine bS ?_ GE218.out | refine bS ?_ GE243.out) | exact HB.out))))
              have n5_ := mK (blk_below (by (with_reducible repeat (first | refine kN ?_ _ | refine kD ?_ | refine kA ?_ _)); exact BK189.out) hb)
              have n6_ := mK (blk_below (by (with_reducible repeat (first | refine kN ?_ _ | refine kD ?_ | refine kA ?_ _)); exact BK190.out) hb)
              have n7_ := mK (blk_below (by (with_reducible repeat (first | refine kN ?_ _ | refine kD ?_ | refine kA ?_ _)); exact BK204.out) hb)
              have n8_ := mK (blk_below (by (with_reducible repeat (first | refine kN ?_ _ | refine kD ?_ | refine kA ?_ _)); exact BK209.out) hb)
              have n9_ := mK (blk_below (by (with_reducible repeat (first | refine kN ?_ _ | refine kD ?_ | refine kA ?_ _)); exact BK218.out) hb)
              have n10_ := mK (blk_below (by (with_reducible repeat (first | refine kN ?_ _ | refine kD ?_ | refine kA ?_ _)); exact BK243.out) hb)
              have n11_ := mK (below_step (by repeat (first | (with_reducible first | exact HB.out | apply bA | apply bN | apply bD | refine bS ?_ GE189.out | refine bS ?_ GE190.out | refine bS ?_ GE204.out | refine bS ?_ GE209.out | refine bS ?_ GE218.out | refine bS ?_ GE243.out) | exact HB.out)) hb)
              clear HO_205001
              clear HO_210001
              clear HO_219001
              clear HO234
              clear BK189
              clear BK190
              clear BK204
              clear BK209
              clear BK218
              clear BK243
              clear HB
              have HO_205001 := n0_
              have HO_210001 := n1_
              have HO_219001 := n2_
              have HO234 := n3_
              have HO241 := n4_
              have BK189 := n5_
              have BK190 := n6_
              have BK204 := n7_
              have BK209 := n8_
              have BK218 := n9_
              have BK243 := n10_
              have HB := n11_
              clear n0_ n1_ n2_ n3_ n4_ n5_ n6_ n7_ n8_ n9_ n10_ n11_
              (try clear hb)
              (try clear hb2)
              (try clear hk)
              (try clear hi)
              (try clear ho0)
              refine hK.out _ _ ⟨(blk_cell BK189.out 0).trans rfl, (blk_cell BK189.out 1).trans rfl, (blk_cell BK190.out 0).trans rfl, (blk_cell BK190.out 1).trans rfl, (blk_cell BK190.out 2).trans rfl⟩ (fun hHeld => ?_)
              clear hK K
              refine norm_ (a' := ?_) ?_ ?_
              rotate_left
              · show Act.put _ (some 84) _ = _
                simp only [Act.put, sT, sZ, sU, i64_w, i32_w]
                rfl
              refine pure_ (i := 5) (N := some 79) (v := ?_) (a' := ?_) #[true, true, true, true, true, true, false, false, true, false, false] rfl rfl (any_of HT_.out (by kernel_rfl)) (fun _ _ _ h => h) (Or.inl ⟨by rfl, ?_⟩) ?_ ?_
              rotate_left
              · intro w'
                go_simp
                with_reducible rfl
              rotate_left
              · simp only [Act.put, sT, sZ, sU, i64_w, i32_w]
                rfl
              refine pure_ (i := 6) (N := some 85) (v := ?_) (a' := ?_) #[true, true, true, true, true, true, true, false, true, false, false] rfl rfl (any_of HT_.out (by kernel_rfl)) (fun _ _ _ h => h) (Or.inl ⟨by rfl, ?_⟩) ?_ ?_
              rotate_left
              · intro w'
                go_simp
                with_reducible rfl
              rotate_left
              · simp only [Act.put, sT, sZ, sU, i64_w, i32_w]
                rfl
              refine pure_ (i := 7) (N := some 86) (v := ?_) (a' := ?_) #[true, true, true, true, true, true, true, true, true, false, false] rfl rfl (any_of HT_.out (by kernel_rfl)) (fun _ _ _ h => h) (Or.inl ⟨by rfl, ?_⟩) ?_ ?_
              rotate_left
              · intro w'
                go_simp
                with_reducible rfl
              rotate_left
              · simp only [Act.put, sT, sZ, sU, i64_w, i32_w]
                rfl
              exact norm_ (by simp only [putAll, Act.put, sT, sZ, sU]) (hCont (.slice Ao112 t232.length co112, v240, gb243) _ ⟨hHeld, (by (with_reducible repeat (first | apply rA | apply rN | apply rD)); exact Kd.R_mono HO234.out (fun _ hk => ⟨hk.2, ⟨hk.1.1.1.2, ⟨hk.1.1.2, hk.1.2⟩⟩⟩)), (by (with_reducible repeat (first | apply rA | apply rN | apply rD)); exact Kd.R_mono HO241.out (fun _ hk => ⟨hk.2, ⟨hk.1.1.1.2, ⟨hk.1.1.2, hk.1.2⟩⟩⟩)), (by (with_reducible repeat (first | apply rA | apply rN | apply rD)); exact Kd.R_mono HO_205001.out (fun _ hk => ⟨hk.1.2, ⟨hk.2, ⟨hk.1.1.1, hk.1.1.2⟩⟩⟩)), (by (with_reducible repeat (first | apply rA | apply rN | apply rD)); exact Kd.R_mono HO_210001.out (fun _ hk => ⟨hk.1.2, ⟨hk.2, ⟨hk.1.1.1, hk.1.1.2⟩⟩⟩)), (by (with_reducible repeat (first | apply rA | apply rN | apply rD)); exact Kd.R_mono HO_219001.out (fun _ hk => ⟨hk.1.2, ⟨hk.2, ⟨hk.1.1.1, hk.1.1.2⟩⟩⟩)), (by (with_reducible repeat (first | refine kN ?_ _ | refine kD ?_ | refine kA ?_ _)); exact BK189.out), (by (with_reducible repeat (first | refine kN ?_ _ | refine kD ?_ | refine kA ?_ _)); exact BK190.out), (by (with_reducible repeat (first | refine kN ?_ _ | refine kD ?_ | refine kA ?_ _)); exact BK204.out), (by (with_reducible repeat (first | refine kN ?_ _ | refine kD ?_ | refine kA ?_ _)); exact BK209.out), (by (with_reducible repeat (first | refine kN ?_ _ | refine kD ?_ | refine kA ?_ _)); exact BK218.out), (by (with_reducible repeat (first | refine kN ?_ _ | refine kD ?_ | refine kA ?_ _)); exact BK243.out), GW243.out, GE243.out, NB189_243.out, NB243_189.out, NB190_243.out, NB243_190.out, NB204_243.out, NB243_204.out, NB209_243.out, NB243_209.out, NB218_243.out, NB243_218.out, (by repeat (first | (with_reducible first | exact HB.out | apply bA | apply bN | apply bD | refine bS ?_ GE189.out | refine bS ?_ GE190.out | refine bS ?_ GE204.out | refine bS ?_ GE209.out | refine bS ?_ GE218.out | refine bS ?_ GE243.out) | exact HB.out))⟩)
          · skip
            refine box_step ?hg (N := 14) ?hd (cs := #[.int .i64 0, .slice none 0 0]) (t := 29) ?hr ?_; (case hd => rfl); (case hg => rfl); (case hr => first | (go_simp; done) | (go_simp; rfl))
            intro gb243 hg w110 hbox hb
            have n0_ := mK (Kd.R_below (by (with_reducible repeat (first | apply rA | apply rN | apply rD)); exact HO_205001.out) hb)
            have n1_ := mK (Kd.R_below (by (with_reducible repeat (first | apply rA | apply rN | apply rD)); exact HO_210001.out) hb)
            have n2_ := mK (Kd.R_below (by (with_reducible repeat (first | apply rA | apply rN | apply rD)); exact HO_219001.out) hb)
            have n3_ := mK (Kd.R_below (by (with_reducible repeat (first | apply rA | apply rN | apply rD)); exact HO234.out) hb)
            have n4_ := mK (blk_below (by (with_reducible repeat (first | refine kN ?_ _ | refine kD ?_ | refine kA ?_ _)); exact BK189.out) hb)
            have n5_ := mK (blk_below (by (with_reducible repeat (first | refine kN ?_ _ | refine kD ?_ | refine kA ?_ _)); exact BK190.out) hb)
            have n6_ := mK (blk_below (by (with_reducible repeat (first | refine kN ?_ _ | refine kD ?_ | refine kA ?_ _)); exact BK204.out) hb)
            have n7_ := mK (blk_below (by (with_reducible repeat (first | refine kN ?_ _ | refine kD ?_ | refine kA ?_ _)); exact BK209.out) hb)
            have n8_ := mK (blk_below (by (with_reducible repeat (first | refine kN ?_ _ | refine kD ?_ | refine kA ?_ _)); exact BK218.out) hb)
            have n9_ := mK (below_step (by repeat (first | (with_reducible first | exact HB.out | apply bA | apply bN | apply bD | refine bS ?_ GE189.out | refine bS ?_ GE190.out | refine bS ?_ GE204.out | refine bS ?_ GE209.out | refine bS ?_ GE218.out) | exact HB.out)) hb)
            have n10_ := mK (hbox)
            have n11_ := mK ((by rw [hg]; exact (below_size (by repeat (first | (with_reducible first | exact HB.out | apply bA | apply bN | apply bD | refine bS ?_ GE189.out | refine bS ?_ GE190.out | refine bS ?_ GE204.out | refine bS ?_ GE209.out | refine bS ?_ GE218.out) | exact HB.out))) : w.heap.size ≤ gb243))
            have n12_ := mK ((by rw [hg]; exact (below_size (by repeat (first | (with_reducible first | exact HB.out | apply bA | apply bN | apply bD | refine bS ?_ GE189.out | refine bS ?_ GE190.out | refine bS ?_ GE204.out | refine bS ?_ GE209.out | refine bS ?_ GE218.out) | exact HB.out))) : w.heap.size ≤ gb243))
            have n13_ := mK ((by rw [hg]; exact Nat.ne_of_lt (blk_lt (by (with_reducible repeat (first | refine kN ?_ _ | refine kD ?_ | refine kA ?_ _)); exact BK189.out)) : gb189 ≠ gb243))
            have n14_ := mK ((by rw [hg]; exact Nat.ne_of_gt (blk_lt (by (with_reducible repeat (first | refine kN ?_ _ | refine kD ?_ | refine kA ?_ _)); exact BK189.out)) : gb243 ≠ gb189))
            have n15_ := mK ((by rw [hg]; exact Nat.ne_of_lt (blk_lt (by (with_reducible repeat (first | refine kN ?_ _ | refine kD ?_ | refine kA ?_ _)); exact BK190.out)) : gb190 ≠ gb243))
            have n16_ := mK ((by rw [hg]; exact Nat.ne_of_gt (blk_lt (by (with_reducible repeat (first | refine kN ?_ _ | refine kD ?_ | refine kA ?_ _)); exact BK190.out)) : gb243 ≠ gb190))
            have n17_ := mK ((by rw [hg]; exact Nat.ne_of_lt (blk_lt (by (with_reducible repeat (first | refine kN ?_ _ | refine kD ?_ | refine kA ?_ _)); exact BK204.out)) : gb204 ≠ gb243))
            have n18_ := mK ((by rw [hg]; exact Nat.ne_of_gt (blk_lt (by (with_reducible repeat (first | refine kN ?_ _ | refine kD ?_ | refine kA ?_ _)); exact BK204.out)) : gb243 ≠ gb204))
            have n19_ := mK ((by rw [hg]; exact Nat.ne_of_lt (blk_lt (by (with_reducible repeat (first | refine kN ?_ _ | refine kD ?_ | refine kA ?_ _)); exact BK209.out)) : gb209 ≠ gb243))
            have n20_ := mK ((by rw [hg]; exact Nat.ne_of_gt (blk_lt (by (with_reducible repeat (first | refine kN ?_ _ | refine kD ?_ | refine kA ?_ _)); exact BK209.out)) : gb243 ≠ gb209))
            have n21_ := mK ((by rw [hg]; exact Nat.ne_of_lt (blk_lt (by (with_reducible repeat (first | refine kN ?_ _ | refine kD ?_ | refine kA ?_ _)); exact BK218.out)) : gb218 ≠ gb243))
            have n22_ := mK ((by rw [hg]; exact Nat.ne_of_gt (blk_lt (by (with_reducible repeat (first | refine kN ?_ _ | refine kD ?_ | refine kA ?_ _)); exact BK218.out)) : gb243 ≠ gb218))
            clear HO_205001
            clear HO_210001
            clear HO_219001
            clear HO234
            clear BK189
            clear BK190
            clear BK204
            clear BK209
            clear BK218
            clear HB
            have HO_205001 := n0_
            have HO_210001 := n1_
            have HO_219001 := n2_
            have HO234 := n3_
            have BK189 := n4_
            have BK190 := n5_
            have BK204 := n6_
            have BK209 := n7_
            have BK218 := n8_
            have HB := n9_
            have BK243 := n10_
            have GW243 := n11_
            have GE243 := n12_
            have NB189_243 := n13_
            have NB243_189 := n14_
            have NB190_243 := n15_
            have NB243_190 := n16_
            have NB204_243 := n17_
            have NB243_204 := n18_
            have NB209_243 := n19_
            have NB243_209 := n20_
            have NB218_243 := n21_
            have NB243_218 := n22_
            clear n0_ n1_ n2_ n3_ n4_ n5_ n6_ n7_ n8_ n9_ n10_ n11_ n12_ n13_ n14_ n15_ n16_ n17_ n18_ n19_ n20_ n21_ n22_
            clear hb hbox hg
            refine hK.out _ _ ⟨(blk_cell BK189.out 0).trans rfl, (blk_cell BK189.out 1).trans rfl, (blk_cell BK190.out 0).trans rfl, (blk_cell BK190.out 1).trans rfl, (blk_cell BK190.out 2).trans rfl⟩ (fun hHeld => ?_)
            clear hK K
            refine norm_ (a' := ?_) ?_ ?_
            rotate_left
            · show Act.put _ (some 14) _ = _
              simp only [Act.put, sT, sZ, sU, i64_w, i32_w]
              rfl
            refine one_ (i := 3) (N := some 83) #[true, true, true, true, false, false, false, false, true, false, false] rfl rfl (one_of HT_.out (by kernel_rfl)) (by decide) (fun K hK => ?_)
            refine goes_ Try.func50 (by kernel_rfl) rfl #[.agg #[.int .i64 a1_0, .int .i64 a1_1, .int .i64 a1_2]] (by rfl) rfl rfl (by (try simp only [List.map_toArray, List.map_cons, List.map_nil]); first | done | rfl | (simp only [List.length_drop, List.length_take]; rfl)) ?_
            with_reducible refine (laws_toEdge.calls a1_0 a1_1 a1_2 t235 t236 t237 _ A97.out).mono ?_
            rintro e w111 ⟨rfl, hb⟩
            refine ⟨_, rfl, ?_⟩
            have n0_ := mK (Kd.R_below (by (with_reducible repeat (first | apply rA | apply rN | apply rD)); exact HO_205001.out) hb)
            have n1_ := mK (Kd.R_below (by (with_reducible repeat (first | apply rA | apply rN | apply rD)); exact HO_210001.out) hb)
            have n2_ := mK (Kd.R_below (by (with_reducible repeat (first | apply rA | apply rN | apply rD)); exact HO_219001.out) hb)
            have n3_ := mK (Kd.R_below (by (with_reducible repeat (first | apply rA | apply rN | apply rD)); exact HO234.out) hb)
            have n4_ := mK (blk_below (by (with_reducible repeat (first | refine kN ?_ _ | refine kD ?_ | refine kA ?_ _)); exact BK189.out) hb)
            have n5_ := mK (blk_below (by (with_reducible repeat (first | refine kN ?_ _ | refine kD ?_ | refine kA ?_ _)); exact BK190.out) hb)
            have n6_ := mK (blk_below (by (with_reducible repeat (first | refine kN ?_ _ | refine kD ?_ | refine kA ?_ _)); exact BK204.out) hb)
            have n7_ := mK (blk_below (by (with_reducible repeat (first | refine kN ?_ _ | refine kD ?_ | refine kA ?_ _)); exact BK209.out) hb)
            have n8_ := mK (blk_below (by (with_reducible repeat (first | refine kN ?_ _ | refine kD ?_ | refine kA ?_ _)); exact BK218.out) hb)
            have n9_ := mK (blk_below (by (with_reducible repeat (first | refine kN ?_ _ | refine kD ?_ | refine kA ?_ _)); exact BK243.out) hb)
            have n10_ := mK (below_step (by repeat (first | (with_reducible first | exact HB.out | apply bA | apply bN | apply bD | refine bS ?_ GE189.out | refine bS ?_ GE190.out | refine bS ?_ GE204.out | refine bS ?_ GE209.out | refine bS ?_ GE218.out | refine bS ?_ GE243.out) | exact HB.out)) hb)
            clear HO_205001
            clear HO_210001
            clear HO_219001
            clear HO234
            clear BK189
            clear BK190
            clear BK204
            clear BK209
            clear BK218
            clear BK243
            clear HB
            have HO_205001 := n0_
            have HO_210001 := n1_
            have HO_219001 := n2_
            have HO234 := n3_
            have BK189 := n4_
            have BK190 := n5_
            have BK204 := n6_
            have BK209 := n7_
            have BK218 := n8_
            have BK243 := n9_
            have HB := n10_
            clear n0_ n1_ n2_ n3_ n4_ n5_ n6_ n7_ n8_ n9_ n10_
            (try clear hb)
            (try clear hb2)
            (try clear hk)
            (try clear hi)
            obtain ⟨Ao112, co112, eo112⟩ := Kd.R_slice HO234.out
            (first | subst eo112 | (injection eo112 with f1_ f2_ f3_; have f4_ := f1_.symm; have f5_ := f3_.symm; clear f1_ f2_ f3_; subst f4_; subst f5_))
            refine hK.out _ _ ⟨(blk_cell BK189.out 0).trans rfl, (blk_cell BK189.out 1).trans rfl, (blk_cell BK190.out 0).trans rfl, (blk_cell BK190.out 1).trans rfl, (blk_cell BK190.out 2).trans rfl⟩ (fun hHeld => ?_)
            clear hK K
            refine norm_ (a' := ?_) ?_ ?_
            rotate_left
            · show Act.put _ (some 83) _ = _
              simp only [Act.put, sT, sZ, sU, i64_w, i32_w]
              rfl
            refine one_ (i := 4) (N := some 84) #[true, true, true, true, true, false, false, false, true, false, false] rfl rfl (one_of HT_.out (by kernel_rfl)) (by decide) (fun K hK => ?_)
            refine goes_ Try.func21 (by kernel_rfl) rfl #[.agg #[.int .i64 t231, .slice Ao112 t232.length co112], .agg #[.int .i64 t235, .int .i64 t236, .int .i64 t237]] (by rfl) rfl rfl (by (try simp only [List.map_toArray, List.map_cons, List.map_nil]); first | done | rfl | (simp only [List.length_drop, List.length_take]; rfl)) ?_
            with_reducible refine (impl_TightenTable.calls kj66 t231 _ _ t232 t235 t236 t237 t238 t239 t242 _ ?side1 ?side2 A98.out).mono ?_
            (case side1 => repeat (first | exact (Kd.R_reads' HO234.out).2.2 | (with_reducible refine Kd.C_alloc ?_ _) | (with_reducible refine Kd.C_drewN ?_ _) | (with_reducible refine Kd.C_drew ?_)))
            (case side2 => exact (Kd.R_reads' HO234.out).2.1)
            rintro e w113 ⟨v240, rfl, ho0, hb⟩
            refine ⟨_, rfl, ?_⟩
            have n0_ := mK (Kd.R_elder' (by (with_reducible repeat (first | apply rA | apply rN | apply rD)); exact HO_205001.out) (Kd.R_base ho0) hb)
            have n1_ := mK (Kd.R_elder' (by (with_reducible repeat (first | apply rA | apply rN | apply rD)); exact HO_210001.out) (Kd.R_base ho0) hb)
            have n2_ := mK (Kd.R_elder' (by (with_reducible repeat (first | apply rA | apply rN | apply rD)); exact HO_219001.out) (Kd.R_base ho0) hb)
            have n3_ := mK (Kd.R_elder' (by (with_reducible repeat (first | apply rA | apply rN | apply rD)); exact HO234.out) (Kd.R_base ho0) hb)
            have n4_ := mK (Kd.R_lower (Kd.R_new' (Kd.R_new' (Kd.R_new' (Kd.R_new' ho0 (Kd.R_lt (by (with_reducible repeat (first | apply rA | apply rN | apply rD)); exact HO_205001.out))) (Kd.R_lt (by (with_reducible repeat (first | apply rA | apply rN | apply rD)); exact HO_210001.out))) (Kd.R_lt (by (with_reducible repeat (first | apply rA | apply rN | apply rD)); exact HO_219001.out))) (Kd.R_lt (by (with_reducible repeat (first | apply rA | apply rN | apply rD)); exact HO234.out))) (below_size (by repeat (first | (with_reducible first | exact HB.out | apply bA | apply bN | apply bD | refine bS ?_ GE189.out | refine bS ?_ GE190.out | refine bS ?_ GE204.out | refine bS ?_ GE209.out | refine bS ?_ GE218.out | refine bS ?_ GE243.out) | exact HB.out))))
            have n5_ := mK (blk_below (by (with_reducible repeat (first | refine kN ?_ _ | refine kD ?_ | refine kA ?_ _)); exact BK189.out) hb)
            have n6_ := mK (blk_below (by (with_reducible repeat (first | refine kN ?_ _ | refine kD ?_ | refine kA ?_ _)); exact BK190.out) hb)
            have n7_ := mK (blk_below (by (with_reducible repeat (first | refine kN ?_ _ | refine kD ?_ | refine kA ?_ _)); exact BK204.out) hb)
            have n8_ := mK (blk_below (by (with_reducible repeat (first | refine kN ?_ _ | refine kD ?_ | refine kA ?_ _)); exact BK209.out) hb)
            have n9_ := mK (blk_below (by (with_reducible repeat (first | refine kN ?_ _ | refine kD ?_ | refine kA ?_ _)); exact BK218.out) hb)
            have n10_ := mK (blk_below (by (with_reducible repeat (first | refine kN ?_ _ | refine kD ?_ | refine kA ?_ _)); exact BK243.out) hb)
            have n11_ := mK (below_step (by repeat (first | (with_reducible first | exact HB.out | apply bA | apply bN | apply bD | refine bS ?_ GE189.out | refine bS ?_ GE190.out | refine bS ?_ GE204.out | refine bS ?_ GE209.out | refine bS ?_ GE218.out | refine bS ?_ GE243.out) | exact HB.out)) hb)
            clear HO_205001
            clear HO_210001
            clear HO_219001
            clear HO234
            clear BK189
            clear BK190
            clear BK204
            clear BK209
            clear BK218
            clear BK243
            clear HB
            have HO_205001 := n0_
            have HO_210001 := n1_
            have HO_219001 := n2_
            have HO234 := n3_
            have HO241 := n4_
            have BK189 := n5_
            have BK190 := n6_
            have BK204 := n7_
            have BK209 := n8_
            have BK218 := n9_
            have BK243 := n10_
            have HB := n11_
            clear n0_ n1_ n2_ n3_ n4_ n5_ n6_ n7_ n8_ n9_ n10_ n11_
            (try clear hb)
            (try clear hb2)
            (try clear hk)
            (try clear hi)
            (try clear ho0)
            refine hK.out _ _ ⟨(blk_cell BK189.out 0).trans rfl, (blk_cell BK189.out 1).trans rfl, (blk_cell BK190.out 0).trans rfl, (blk_cell BK190.out 1).trans rfl, (blk_cell BK190.out 2).trans rfl⟩ (fun hHeld => ?_)
            clear hK K
            refine norm_ (a' := ?_) ?_ ?_
            rotate_left
            · show Act.put _ (some 84) _ = _
              simp only [Act.put, sT, sZ, sU, i64_w, i32_w]
              rfl
            refine pure_ (i := 5) (N := some 79) (v := ?_) (a' := ?_) #[true, true, true, true, true, true, false, false, true, false, false] rfl rfl (any_of HT_.out (by kernel_rfl)) (fun _ _ _ h => h) (Or.inl ⟨by rfl, ?_⟩) ?_ ?_
            rotate_left
            · intro w'
              go_simp
              with_reducible rfl
            rotate_left
            · simp only [Act.put, sT, sZ, sU, i64_w, i32_w]
              rfl
            refine pure_ (i := 6) (N := some 85) (v := ?_) (a' := ?_) #[true, true, true, true, true, true, true, false, true, false, false] rfl rfl (any_of HT_.out (by kernel_rfl)) (fun _ _ _ h => h) (Or.inl ⟨by rfl, ?_⟩) ?_ ?_
            rotate_left
            · intro w'
              go_simp
              with_reducible rfl
            rotate_left
            · simp only [Act.put, sT, sZ, sU, i64_w, i32_w]
              rfl
            refine pure_ (i := 7) (N := some 86) (v := ?_) (a' := ?_) #[true, true, true, true, true, true, true, true, true, false, false] rfl rfl (any_of HT_.out (by kernel_rfl)) (fun _ _ _ h => h) (Or.inl ⟨by rfl, ?_⟩) ?_ ?_
            rotate_left
            · intro w'
              go_simp
              with_reducible rfl
            rotate_left
            · simp only [Act.put, sT, sZ, sU, i64_w, i32_w]
              rfl
            exact norm_ (by simp only [putAll, Act.put, sT, sZ, sU]) (hCont (.slice Ao112 t232.length co112, v240, gb243) _ ⟨hHeld, (by (with_reducible repeat (first | apply rA | apply rN | apply rD)); exact Kd.R_mono HO234.out (fun _ hk => ⟨hk.2, ⟨hk.1.1.1.2, ⟨hk.1.1.2, hk.1.2⟩⟩⟩)), (by (with_reducible repeat (first | apply rA | apply rN | apply rD)); exact Kd.R_mono HO241.out (fun _ hk => ⟨hk.2, ⟨hk.1.1.1.2, ⟨hk.1.1.2, hk.1.2⟩⟩⟩)), (by (with_reducible repeat (first | apply rA | apply rN | apply rD)); exact Kd.R_mono HO_205001.out (fun _ hk => ⟨hk.1.2, ⟨hk.2, ⟨hk.1.1.1, hk.1.1.2⟩⟩⟩)), (by (with_reducible repeat (first | apply rA | apply rN | apply rD)); exact Kd.R_mono HO_210001.out (fun _ hk => ⟨hk.1.2, ⟨hk.2, ⟨hk.1.1.1, hk.1.1.2⟩⟩⟩)), (by (with_reducible repeat (first | apply rA | apply rN | apply rD)); exact Kd.R_mono HO_219001.out (fun _ hk => ⟨hk.1.2, ⟨hk.2, ⟨hk.1.1.1, hk.1.1.2⟩⟩⟩)), (by (with_reducible repeat (first | refine kN ?_ _ | refine kD ?_ | refine kA ?_ _)); exact BK189.out), (by (with_reducible repeat (first | refine kN ?_ _ | refine kD ?_ | refine kA ?_ _)); exact BK190.out), (by (with_reducible repeat (first | refine kN ?_ _ | refine kD ?_ | refine kA ?_ _)); exact BK204.out), (by (with_reducible repeat (first | refine kN ?_ _ | refine kD ?_ | refine kA ?_ _)); exact BK209.out), (by (with_reducible repeat (first | refine kN ?_ _ | refine kD ?_ | refine kA ?_ _)); exact BK218.out), (by (with_reducible repeat (first | refine kN ?_ _ | refine kD ?_ | refine kA ?_ _)); exact BK243.out), GW243.out, GE243.out, NB189_243.out, NB243_189.out, NB190_243.out, NB243_190.out, NB204_243.out, NB243_204.out, NB209_243.out, NB243_209.out, NB218_243.out, NB243_218.out, (by repeat (first | (with_reducible first | exact HB.out | apply bA | apply bN | apply bD | refine bS ?_ GE189.out | refine bS ?_ GE190.out | refine bS ?_ GE204.out | refine bS ?_ GE209.out | refine bS ?_ GE218.out | refine bS ?_ GE243.out) | exact HB.out))⟩)
        · skip
          refine box_step ?hg (N := 14) ?hd (cs := #[.int .i64 0, .slice none 0 0]) (t := 29) ?hr ?_; (case hd => rfl); (case hg => rfl); (case hr => first | (go_simp; done) | (go_simp; rfl))
          intro gb243 hg w109 hbox hb
          have n0_ := mK (Kd.R_below (by (with_reducible repeat (first | apply rA | apply rN | apply rD)); exact HO_205001.out) hb)
          have n1_ := mK (Kd.R_below (by (with_reducible repeat (first | apply rA | apply rN | apply rD)); exact HO_210001.out) hb)
          have n2_ := mK (Kd.R_below (by (with_reducible repeat (first | apply rA | apply rN | apply rD)); exact HO_219001.out) hb)
          have n3_ := mK (blk_below (by (with_reducible repeat (first | refine kN ?_ _ | refine kD ?_ | refine kA ?_ _)); exact BK189.out) hb)
          have n4_ := mK (blk_below (by (with_reducible repeat (first | refine kN ?_ _ | refine kD ?_ | refine kA ?_ _)); exact BK190.out) hb)
          have n5_ := mK (blk_below (by (with_reducible repeat (first | refine kN ?_ _ | refine kD ?_ | refine kA ?_ _)); exact BK204.out) hb)
          have n6_ := mK (blk_below (by (with_reducible repeat (first | refine kN ?_ _ | refine kD ?_ | refine kA ?_ _)); exact BK209.out) hb)
          have n7_ := mK (blk_below (by (with_reducible repeat (first | refine kN ?_ _ | refine kD ?_ | refine kA ?_ _)); exact BK218.out) hb)
          have n8_ := mK (below_step (by repeat (first | (with_reducible first | exact HB.out | apply bA | apply bN | apply bD | refine bS ?_ GE189.out | refine bS ?_ GE190.out | refine bS ?_ GE204.out | refine bS ?_ GE209.out | refine bS ?_ GE218.out) | exact HB.out)) hb)
          have n9_ := mK (hbox)
          have n10_ := mK ((by rw [hg]; exact (below_size (by repeat (first | (with_reducible first | exact HB.out | apply bA | apply bN | apply bD | refine bS ?_ GE189.out | refine bS ?_ GE190.out | refine bS ?_ GE204.out | refine bS ?_ GE209.out | refine bS ?_ GE218.out) | exact HB.out))) : w.heap.size ≤ gb243))
          have n11_ := mK ((by rw [hg]; exact (below_size (by repeat (first | (with_reducible first | exact HB.out | apply bA | apply bN | apply bD | refine bS ?_ GE189.out | refine bS ?_ GE190.out | refine bS ?_ GE204.out | refine bS ?_ GE209.out | refine bS ?_ GE218.out) | exact HB.out))) : w.heap.size ≤ gb243))
          have n12_ := mK ((by rw [hg]; exact Nat.ne_of_lt (blk_lt (by (with_reducible repeat (first | refine kN ?_ _ | refine kD ?_ | refine kA ?_ _)); exact BK189.out)) : gb189 ≠ gb243))
          have n13_ := mK ((by rw [hg]; exact Nat.ne_of_gt (blk_lt (by (with_reducible repeat (first | refine kN ?_ _ | refine kD ?_ | refine kA ?_ _)); exact BK189.out)) : gb243 ≠ gb189))
          have n14_ := mK ((by rw [hg]; exact Nat.ne_of_lt (blk_lt (by (with_reducible repeat (first | refine kN ?_ _ | refine kD ?_ | refine kA ?_ _)); exact BK190.out)) : gb190 ≠ gb243))
          have n15_ := mK ((by rw [hg]; exact Nat.ne_of_gt (blk_lt (by (with_reducible repeat (first | refine kN ?_ _ | refine kD ?_ | refine kA ?_ _)); exact BK190.out)) : gb243 ≠ gb190))
          have n16_ := mK ((by rw [hg]; exact Nat.ne_of_lt (blk_lt (by (with_reducible repeat (first | refine kN ?_ _ | refine kD ?_ | refine kA ?_ _)); exact BK204.out)) : gb204 ≠ gb243))
          have n17_ := mK ((by rw [hg]; exact Nat.ne_of_gt (blk_lt (by (with_reducible repeat (first | refine kN ?_ _ | refine kD ?_ | refine kA ?_ _)); exact BK204.out)) : gb243 ≠ gb204))
          have n18_ := mK ((by rw [hg]; exact Nat.ne_of_lt (blk_lt (by (with_reducible repeat (first | refine kN ?_ _ | refine kD ?_ | refine kA ?_ _)); exact BK209.out)) : gb209 ≠ gb243))
          have n19_ := mK ((by rw [hg]; exact Nat.ne_of_gt (blk_lt (by (with_reducible repeat (first | refine kN ?_ _ | refine kD ?_ | refine kA ?_ _)); exact BK209.out)) : gb243 ≠ gb209))
          have n20_ := mK ((by rw [hg]; exact Nat.ne_of_lt (blk_lt (by (with_reducible repeat (first | refine kN ?_ _ | refine kD ?_ | refine kA ?_ _)); exact BK218.out)) : gb218 ≠ gb243))
          have n21_ := mK ((by rw [hg]; exact Nat.ne_of_gt (blk_lt (by (with_reducible repeat (first | refine kN ?_ _ | refine kD ?_ | refine kA ?_ _)); exact BK218.out)) : gb243 ≠ gb218))
          clear HO_205001
          clear HO_210001
          clear HO_219001
          clear BK189
          clear BK190
          clear BK204
          clear BK209
          clear BK218
          clear HB
          have HO_205001 := n0_
          have HO_210001 := n1_
          have HO_219001 := n2_
          have BK189 := n3_
          have BK190 := n4_
          have BK204 := n5_
          have BK209 := n6_
          have BK218 := n7_
          have HB := n8_
          have BK243 := n9_
          have GW243 := n10_
          have GE243 := n11_
          have NB189_243 := n12_
          have NB243_189 := n13_
          have NB190_243 := n14_
          have NB243_190 := n15_
          have NB204_243 := n16_
          have NB243_204 := n17_
          have NB209_243 := n18_
          have NB243_209 := n19_
          have NB218_243 := n20_
          have NB243_218 := n21_
          clear n0_ n1_ n2_ n3_ n4_ n5_ n6_ n7_ n8_ n9_ n10_ n11_ n12_ n13_ n14_ n15_ n16_ n17_ n18_ n19_ n20_ n21_
          clear hb hbox hg
          refine hK.out _ _ ⟨(blk_cell BK189.out 0).trans rfl, (blk_cell BK189.out 1).trans rfl, (blk_cell BK190.out 0).trans rfl, (blk_cell BK190.out 1).trans rfl, (blk_cell BK190.out 2).trans rfl⟩ (fun hHeld => ?_)
          clear hK K
          refine norm_ (a' := ?_) ?_ ?_
          rotate_left
          · show Act.put _ (some 14) _ = _
            simp only [Act.put, sT, sZ, sU, i64_w, i32_w]
            rfl
          refine one_ (i := 1) (N := some 81) #[true, true, true, false, false, false, false, false, true, false, false] rfl rfl (one_of HT_.out (by kernel_rfl)) (by decide) (fun K hK => ?_)
          refine goes_ Try.func24 (by kernel_rfl) rfl #[.agg #[.int .i64 a0_0, .slice A0_1 l0_1.length c0_1]] (by rfl) rfl rfl (by (try simp only [List.map_toArray, List.map_cons, List.map_nil]); first | done | rfl | (simp only [List.length_drop, List.length_take]; rfl)) ?_
          with_reducible refine (laws_toTable.calls kj66 a0_0 _ _ l0_1 t231 t232 _ ?side1 ?side2 A96.out).mono ?_
          (case side1 => repeat (first | exact (Kd.C_below HR0_1.out HB.out) | (with_reducible refine Kd.C_alloc ?_ _) | (with_reducible refine Kd.C_drewN ?_ _) | (with_reducible refine Kd.C_drew ?_)))
          (case side2 => exact HC0_1.out)
          rintro e w110 ⟨v233, rfl, ho0, hb⟩
          refine ⟨_, rfl, ?_⟩
          have n0_ := mK (Kd.R_elder' (by (with_reducible repeat (first | apply rA | apply rN | apply rD)); exact HO_205001.out) (Kd.R_base ho0) hb)
          have n1_ := mK (Kd.R_elder' (by (with_reducible repeat (first | apply rA | apply rN | apply rD)); exact HO_210001.out) (Kd.R_base ho0) hb)
          have n2_ := mK (Kd.R_elder' (by (with_reducible repeat (first | apply rA | apply rN | apply rD)); exact HO_219001.out) (Kd.R_base ho0) hb)
          have n3_ := mK (Kd.R_lower (Kd.R_new' (Kd.R_new' (Kd.R_new' ho0 (Kd.R_lt (by (with_reducible repeat (first | apply rA | apply rN | apply rD)); exact HO_205001.out))) (Kd.R_lt (by (with_reducible repeat (first | apply rA | apply rN | apply rD)); exact HO_210001.out))) (Kd.R_lt (by (with_reducible repeat (first | apply rA | apply rN | apply rD)); exact HO_219001.out))) (below_size (by repeat (first | (with_reducible first | exact HB.out | apply bA | apply bN | apply bD | refine bS ?_ GE189.out | refine bS ?_ GE190.out | refine bS ?_ GE204.out | refine bS ?_ GE209.out | refine bS ?_ GE218.out | refine bS ?_ GE243.out) | exact HB.out))))
          have n4_ := mK (blk_below (by (with_reducible repeat (first | refine kN ?_ _ | refine kD ?_ | refine kA ?_ _)); exact BK189.out) hb)
          have n5_ := mK (blk_below (by (with_reducible repeat (first | refine kN ?_ _ | refine kD ?_ | refine kA ?_ _)); exact BK190.out) hb)
          have n6_ := mK (blk_below (by (with_reducible repeat (first | refine kN ?_ _ | refine kD ?_ | refine kA ?_ _)); exact BK204.out) hb)
          have n7_ := mK (blk_below (by (with_reducible repeat (first | refine kN ?_ _ | refine kD ?_ | refine kA ?_ _)); exact BK209.out) hb)
          have n8_ := mK (blk_below (by (with_reducible repeat (first | refine kN ?_ _ | refine kD ?_ | refine kA ?_ _)); exact BK218.out) hb)
          have n9_ := mK (blk_below (by (with_reducible repeat (first | refine kN ?_ _ | refine kD ?_ | refine kA ?_ _)); exact BK243.out) hb)
          have n10_ := mK (below_step (by repeat (first | (with_reducible first | exact HB.out | apply bA | apply bN | apply bD | refine bS ?_ GE189.out | refine bS ?_ GE190.out | refine bS ?_ GE204.out | refine bS ?_ GE209.out | refine bS ?_ GE218.out | refine bS ?_ GE243.out) | exact HB.out)) hb)
          clear HO_205001
          clear HO_210001
          clear HO_219001
          clear BK189
          clear BK190
          clear BK204
          clear BK209
          clear BK218
          clear BK243
          clear HB
          have HO_205001 := n0_
          have HO_210001 := n1_
          have HO_219001 := n2_
          have HO234 := n3_
          have BK189 := n4_
          have BK190 := n5_
          have BK204 := n6_
          have BK209 := n7_
          have BK218 := n8_
          have BK243 := n9_
          have HB := n10_
          clear n0_ n1_ n2_ n3_ n4_ n5_ n6_ n7_ n8_ n9_ n10_
          (try clear hb)
          (try clear hb2)
          (try clear hk)
          (try clear hi)
          (try clear ho0)
          refine hK.out _ _ ⟨(blk_cell BK189.out 0).trans rfl, (blk_cell BK189.out 1).trans rfl, (blk_cell BK190.out 0).trans rfl, (blk_cell BK190.out 1).trans rfl, (blk_cell BK190.out 2).trans rfl⟩ (fun hHeld => ?_)
          clear hK K
          refine norm_ (a' := ?_) ?_ ?_
          rotate_left
          · show Act.put _ (some 81) _ = _
            simp only [Act.put, sT, sZ, sU, i64_w, i32_w]
            rfl
          refine one_ (i := 3) (N := some 83) #[true, true, true, true, false, false, false, false, true, false, false] rfl rfl (one_of HT_.out (by kernel_rfl)) (by decide) (fun K hK => ?_)
          refine goes_ Try.func50 (by kernel_rfl) rfl #[.agg #[.int .i64 a1_0, .int .i64 a1_1, .int .i64 a1_2]] (by rfl) rfl rfl (by (try simp only [List.map_toArray, List.map_cons, List.map_nil]); first | done | rfl | (simp only [List.length_drop, List.length_take]; rfl)) ?_
          with_reducible refine (laws_toEdge.calls a1_0 a1_1 a1_2 t235 t236 t237 _ A97.out).mono ?_
          rintro e w111 ⟨rfl, hb⟩
          refine ⟨_, rfl, ?_⟩
          have n0_ := mK (Kd.R_below (by (with_reducible repeat (first | apply rA | apply rN | apply rD)); exact HO_205001.out) hb)
          have n1_ := mK (Kd.R_below (by (with_reducible repeat (first | apply rA | apply rN | apply rD)); exact HO_210001.out) hb)
          have n2_ := mK (Kd.R_below (by (with_reducible repeat (first | apply rA | apply rN | apply rD)); exact HO_219001.out) hb)
          have n3_ := mK (Kd.R_below (by (with_reducible repeat (first | apply rA | apply rN | apply rD)); exact HO234.out) hb)
          have n4_ := mK (blk_below (by (with_reducible repeat (first | refine kN ?_ _ | refine kD ?_ | refine kA ?_ _)); exact BK189.out) hb)
          have n5_ := mK (blk_below (by (with_reducible repeat (first | refine kN ?_ _ | refine kD ?_ | refine kA ?_ _)); exact BK190.out) hb)
          have n6_ := mK (blk_below (by (with_reducible repeat (first | refine kN ?_ _ | refine kD ?_ | refine kA ?_ _)); exact BK204.out) hb)
          have n7_ := mK (blk_below (by (with_reducible repeat (first | refine kN ?_ _ | refine kD ?_ | refine kA ?_ _)); exact BK209.out) hb)
          have n8_ := mK (blk_below (by (with_reducible repeat (first | refine kN ?_ _ | refine kD ?_ | refine kA ?_ _)); exact BK218.out) hb)
          have n9_ := mK (blk_below (by (with_reducible repeat (first | refine kN ?_ _ | refine kD ?_ | refine kA ?_ _)); exact BK243.out) hb)
          have n10_ := mK (below_step (by repeat (first | (with_reducible first | exact HB.out | apply bA | apply bN | apply bD | refine bS ?_ GE189.out | refine bS ?_ GE190.out | refine bS ?_ GE204.out | refine bS ?_ GE209.out | refine bS ?_ GE218.out | refine bS ?_ GE243.out) | exact HB.out)) hb)
          clear HO_205001
          clear HO_210001
          clear HO_219001
          clear HO234
          clear BK189
          clear BK190
          clear BK204
          clear BK209
          clear BK218
          clear BK243
          clear HB
          have HO_205001 := n0_
          have HO_210001 := n1_
          have HO_219001 := n2_
          have HO234 := n3_
          have BK189 := n4_
          have BK190 := n5_
          have BK204 := n6_
          have BK209 := n7_
          have BK218 := n8_
          have BK243 := n9_
          have HB := n10_
          clear n0_ n1_ n2_ n3_ n4_ n5_ n6_ n7_ n8_ n9_ n10_
          (try clear hb)
          (try clear hb2)
          (try clear hk)
          (try clear hi)
          obtain ⟨Ao112, co112, eo112⟩ := Kd.R_slice HO234.out
          (first | subst eo112 | (injection eo112 with f1_ f2_ f3_; have f4_ := f1_.symm; have f5_ := f3_.symm; clear f1_ f2_ f3_; subst f4_; subst f5_))
          refine hK.out _ _ ⟨(blk_cell BK189.out 0).trans rfl, (blk_cell BK189.out 1).trans rfl, (blk_cell BK190.out 0).trans rfl, (blk_cell BK190.out 1).trans rfl, (blk_cell BK190.out 2).trans rfl⟩ (fun hHeld => ?_)
          clear hK K
          refine norm_ (a' := ?_) ?_ ?_
          rotate_left
          · show Act.put _ (some 83) _ = _
            simp only [Act.put, sT, sZ, sU, i64_w, i32_w]
            rfl
          refine one_ (i := 4) (N := some 84) #[true, true, true, true, true, false, false, false, true, false, false] rfl rfl (one_of HT_.out (by kernel_rfl)) (by decide) (fun K hK => ?_)
          refine goes_ Try.func21 (by kernel_rfl) rfl #[.agg #[.int .i64 t231, .slice Ao112 t232.length co112], .agg #[.int .i64 t235, .int .i64 t236, .int .i64 t237]] (by rfl) rfl rfl (by (try simp only [List.map_toArray, List.map_cons, List.map_nil]); first | done | rfl | (simp only [List.length_drop, List.length_take]; rfl)) ?_
          with_reducible refine (impl_TightenTable.calls kj66 t231 _ _ t232 t235 t236 t237 t238 t239 t242 _ ?side1 ?side2 A98.out).mono ?_
          (case side1 => repeat (first | exact (Kd.R_reads' HO234.out).2.2 | (with_reducible refine Kd.C_alloc ?_ _) | (with_reducible refine Kd.C_drewN ?_ _) | (with_reducible refine Kd.C_drew ?_)))
          (case side2 => exact (Kd.R_reads' HO234.out).2.1)
          rintro e w113 ⟨v240, rfl, ho0, hb⟩
          refine ⟨_, rfl, ?_⟩
          have n0_ := mK (Kd.R_elder' (by (with_reducible repeat (first | apply rA | apply rN | apply rD)); exact HO_205001.out) (Kd.R_base ho0) hb)
          have n1_ := mK (Kd.R_elder' (by (with_reducible repeat (first | apply rA | apply rN | apply rD)); exact HO_210001.out) (Kd.R_base ho0) hb)
          have n2_ := mK (Kd.R_elder' (by (with_reducible repeat (first | apply rA | apply rN | apply rD)); exact HO_219001.out) (Kd.R_base ho0) hb)
          have n3_ := mK (Kd.R_elder' (by (with_reducible repeat (first | apply rA | apply rN | apply rD)); exact HO234.out) (Kd.R_base ho0) hb)
          have n4_ := mK (Kd.R_lower (Kd.R_new' (Kd.R_new' (Kd.R_new' (Kd.R_new' ho0 (Kd.R_lt (by (with_reducible repeat (first | apply rA | apply rN | apply rD)); exact HO_205001.out))) (Kd.R_lt (by (with_reducible repeat (first | apply rA | apply rN | apply rD)); exact HO_210001.out))) (Kd.R_lt (by (with_reducible repeat (first | apply rA | apply rN | apply rD)); exact HO_219001.out))) (Kd.R_lt (by (with_reducible repeat (first | apply rA | apply rN | apply rD)); exact HO234.out))) (below_size (by repeat (first | (with_reducible first | exact HB.out | apply bA | apply bN | apply bD | refine bS ?_ GE189.out | refine bS ?_ GE190.out | refine bS ?_ GE204.out | refine bS ?_ GE209.out | refine bS ?_ GE218.out | refine bS ?_ GE243.out) | exact HB.out))))
          have n5_ := mK (blk_below (by (with_reducible repeat (first | refine kN ?_ _ | refine kD ?_ | refine kA ?_ _)); exact BK189.out) hb)
          have n6_ := mK (blk_below (by (with_reducible repeat (first | refine kN ?_ _ | refine kD ?_ | refine kA ?_ _)); exact BK190.out) hb)
          have n7_ := mK (blk_below (by (with_reducible repeat (first | refine kN ?_ _ | refine kD ?_ | refine kA ?_ _)); exact BK204.out) hb)
          have n8_ := mK (blk_below (by (with_reducible repeat (first | refine kN ?_ _ | refine kD ?_ | refine kA ?_ _)); exact BK209.out) hb)
          have n9_ := mK (blk_below (by (with_reducible repeat (first | refine kN ?_ _ | refine kD ?_ | refine kA ?_ _)); exact BK218.out) hb)
          have n10_ := mK (blk_below (by (with_reducible repeat (first | refine kN ?_ _ | refine kD ?_ | refine kA ?_ _)); exact BK243.out) hb)
          have n11_ := mK (below_step (by repeat (first | (with_reducible first | exact HB.out | apply bA | apply bN | apply bD | refine bS ?_ GE189.out | refine bS ?_ GE190.out | refine bS ?_ GE204.out | refine bS ?_ GE209.out | refine bS ?_ GE218.out | refine bS ?_ GE243.out) | exact HB.out)) hb)
          clear HO_205001
          clear HO_210001
          clear HO_219001
          clear HO234
          clear BK189
          clear BK190
          clear BK204
          clear BK209
          clear BK218
          clear BK243
          clear HB
          have HO_205001 := n0_
          have HO_210001 := n1_
          have HO_219001 := n2_
          have HO234 := n3_
          have HO241 := n4_
          have BK189 := n5_
          have BK190 := n6_
          have BK204 := n7_
          have BK209 := n8_
          have BK218 := n9_
          have BK243 := n10_
          have HB := n11_
          clear n0_ n1_ n2_ n3_ n4_ n5_ n6_ n7_ n8_ n9_ n10_ n11_
          (try clear hb)
          (try clear hb2)
          (try clear hk)
          (try clear hi)
          (try clear ho0)
          refine hK.out _ _ ⟨(blk_cell BK189.out 0).trans rfl, (blk_cell BK189.out 1).trans rfl, (blk_cell BK190.out 0).trans rfl, (blk_cell BK190.out 1).trans rfl, (blk_cell BK190.out 2).trans rfl⟩ (fun hHeld => ?_)
          clear hK K
          refine norm_ (a' := ?_) ?_ ?_
          rotate_left
          · show Act.put _ (some 84) _ = _
            simp only [Act.put, sT, sZ, sU, i64_w, i32_w]
            rfl
          refine pure_ (i := 5) (N := some 79) (v := ?_) (a' := ?_) #[true, true, true, true, true, true, false, false, true, false, false] rfl rfl (any_of HT_.out (by kernel_rfl)) (fun _ _ _ h => h) (Or.inl ⟨by rfl, ?_⟩) ?_ ?_
          rotate_left
          · intro w'
            go_simp
            with_reducible rfl
          rotate_left
          · simp only [Act.put, sT, sZ, sU, i64_w, i32_w]
            rfl
          refine pure_ (i := 6) (N := some 85) (v := ?_) (a' := ?_) #[true, true, true, true, true, true, true, false, true, false, false] rfl rfl (any_of HT_.out (by kernel_rfl)) (fun _ _ _ h => h) (Or.inl ⟨by rfl, ?_⟩) ?_ ?_
          rotate_left
          · intro w'
            go_simp
            with_reducible rfl
          rotate_left
          · simp only [Act.put, sT, sZ, sU, i64_w, i32_w]
            rfl
          refine pure_ (i := 7) (N := some 86) (v := ?_) (a' := ?_) #[true, true, true, true, true, true, true, true, true, false, false] rfl rfl (any_of HT_.out (by kernel_rfl)) (fun _ _ _ h => h) (Or.inl ⟨by rfl, ?_⟩) ?_ ?_
          rotate_left
          · intro w'
            go_simp
            with_reducible rfl
          rotate_left
          · simp only [Act.put, sT, sZ, sU, i64_w, i32_w]
            rfl
          exact norm_ (by simp only [putAll, Act.put, sT, sZ, sU]) (hCont (.slice Ao112 t232.length co112, v240, gb243) _ ⟨hHeld, (by (with_reducible repeat (first | apply rA | apply rN | apply rD)); exact Kd.R_mono HO234.out (fun _ hk => ⟨hk.2, ⟨hk.1.1.1.2, ⟨hk.1.1.2, hk.1.2⟩⟩⟩)), (by (with_reducible repeat (first | apply rA | apply rN | apply rD)); exact Kd.R_mono HO241.out (fun _ hk => ⟨hk.2, ⟨hk.1.1.1.2, ⟨hk.1.1.2, hk.1.2⟩⟩⟩)), (by (with_reducible repeat (first | apply rA | apply rN | apply rD)); exact Kd.R_mono HO_205001.out (fun _ hk => ⟨hk.1.2, ⟨hk.2, ⟨hk.1.1.1, hk.1.1.2⟩⟩⟩)), (by (with_reducible repeat (first | apply rA | apply rN | apply rD)); exact Kd.R_mono HO_210001.out (fun _ hk => ⟨hk.1.2, ⟨hk.2, ⟨hk.1.1.1, hk.1.1.2⟩⟩⟩)), (by (with_reducible repeat (first | apply rA | apply rN | apply rD)); exact Kd.R_mono HO_219001.out (fun _ hk => ⟨hk.1.2, ⟨hk.2, ⟨hk.1.1.1, hk.1.1.2⟩⟩⟩)), (by (with_reducible repeat (first | refine kN ?_ _ | refine kD ?_ | refine kA ?_ _)); exact BK189.out), (by (with_reducible repeat (first | refine kN ?_ _ | refine kD ?_ | refine kA ?_ _)); exact BK190.out), (by (with_reducible repeat (first | refine kN ?_ _ | refine kD ?_ | refine kA ?_ _)); exact BK204.out), (by (with_reducible repeat (first | refine kN ?_ _ | refine kD ?_ | refine kA ?_ _)); exact BK209.out), (by (with_reducible repeat (first | refine kN ?_ _ | refine kD ?_ | refine kA ?_ _)); exact BK218.out), (by (with_reducible repeat (first | refine kN ?_ _ | refine kD ?_ | refine kA ?_ _)); exact BK243.out), GW243.out, GE243.out, NB189_243.out, NB243_189.out, NB190_243.out, NB243_190.out, NB204_243.out, NB243_204.out, NB209_243.out, NB243_209.out, NB218_243.out, NB243_218.out, (by repeat (first | (with_reducible first | exact HB.out | apply bA | apply bN | apply bD | refine bS ?_ GE189.out | refine bS ?_ GE190.out | refine bS ?_ GE204.out | refine bS ?_ GE209.out | refine bS ?_ GE218.out | refine bS ?_ GE243.out) | exact HB.out))⟩)
      rintro ⟨v233, v240, gb243⟩ w114 ⟨hS_, h0_, h1_, h2_, h3_, h4_, h5_, h6_, h7_, h8_, h9_, h10_, h11_, h12_, h13_, h14_, h15_, h16_, h17_, h18_, h19_, h20_, h21_, h22_, h23_⟩
      have n0_ : Aside0 (Kd.R (Kd.int .i64) 3 w114 w.heap.size (fun k_ => some k_ ≠ (v240 : Value).ownBlock ∧ some k_ ≠ (.slice Ao30 t200.length co30 : Value).ownBlock ∧ some k_ ≠ (.slice Ao40 t226.length co40 : Value).ownBlock ∧ some k_ ≠ (.slice Ao48 t214.length co48 : Value).ownBlock) v233 t232) := ⟨h0_⟩
      have n1_ : Aside0 (Kd.R (Kd.int .i64) 3 w114 w.heap.size (fun k_ => some k_ ≠ (v233 : Value).ownBlock ∧ some k_ ≠ (.slice Ao30 t200.length co30 : Value).ownBlock ∧ some k_ ≠ (.slice Ao40 t226.length co40 : Value).ownBlock ∧ some k_ ≠ (.slice Ao48 t214.length co48 : Value).ownBlock) v240 t239) := ⟨h1_⟩
      have n2_ : Aside0 (Kd.R (Kd.int .i64) 3 w114 w.heap.size (fun k_ => some k_ ≠ (v233 : Value).ownBlock ∧ some k_ ≠ (v240 : Value).ownBlock ∧ some k_ ≠ (.slice Ao40 t226.length co40 : Value).ownBlock ∧ some k_ ≠ (.slice Ao48 t214.length co48 : Value).ownBlock) (.slice Ao30 t200.length co30) t200) := ⟨h2_⟩
      have n3_ : Aside0 (Kd.R (Kd.int .i64) 3 w114 w.heap.size (fun k_ => some k_ ≠ (v233 : Value).ownBlock ∧ some k_ ≠ (v240 : Value).ownBlock ∧ some k_ ≠ (.slice Ao30 t200.length co30 : Value).ownBlock ∧ some k_ ≠ (.slice Ao48 t214.length co48 : Value).ownBlock) (.slice Ao40 t226.length co40) t226) := ⟨h3_⟩
      have n4_ : Aside0 (Kd.R (Kd.int .i64) 3 w114 w.heap.size (fun k_ => some k_ ≠ (v233 : Value).ownBlock ∧ some k_ ≠ (v240 : Value).ownBlock ∧ some k_ ≠ (.slice Ao30 t200.length co30 : Value).ownBlock ∧ some k_ ≠ (.slice Ao40 t226.length co40 : Value).ownBlock) (.slice Ao48 t214.length co48) t229) := ⟨h4_⟩
      have n5_ : Aside0 (w114.heap[gb189]? = some (.cells #[.int .i64 a0_0, .slice A0_1 l0_1.length c0_1] 42 (0, 0))) := ⟨h5_⟩
      have n6_ : Aside0 (w114.heap[gb190]? = some (.cells #[.int .i64 a1_0, .int .i64 a1_1, .int .i64 a1_2] 68 (0, 0))) := ⟨h6_⟩
      have n7_ : Aside0 (w114.heap[gb204]? = some (.cells #[.int .i64 t199, .slice Ao30 t200.length co30] 29 (0, 0))) := ⟨h7_⟩
      have n8_ : Aside0 (w114.heap[gb209]? = some (.cells #[.int .i64 t205, .slice Ao40 t226.length co40] 29 (0, 0))) := ⟨h8_⟩
      have n9_ : Aside0 (w114.heap[gb218]? = some (.cells #[.int .i64 t213, .slice Ao48 t214.length co48] 29 (0, 0))) := ⟨h9_⟩
      have n10_ : Aside0 (w114.heap[gb243]? = some (.cells #[.int .i64 0, .slice none 0 0] 29 (0, 0))) := ⟨h10_⟩
      have n11_ : Aside0 (w.heap.size ≤ gb243) := ⟨h11_⟩
      have n12_ : Aside0 (w.heap.size ≤ gb243) := ⟨h12_⟩
      have n13_ : Aside0 (gb189 ≠ gb243) := ⟨h13_⟩
      have n14_ : Aside0 (gb243 ≠ gb189) := ⟨h14_⟩
      have n15_ : Aside0 (gb190 ≠ gb243) := ⟨h15_⟩
      have n16_ : Aside0 (gb243 ≠ gb190) := ⟨h16_⟩
      have n17_ : Aside0 (gb204 ≠ gb243) := ⟨h17_⟩
      have n18_ : Aside0 (gb243 ≠ gb204) := ⟨h18_⟩
      have n19_ : Aside0 (gb209 ≠ gb243) := ⟨h19_⟩
      have n20_ : Aside0 (gb243 ≠ gb209) := ⟨h20_⟩
      have n21_ : Aside0 (gb218 ≠ gb243) := ⟨h21_⟩
      have n22_ : Aside0 (gb243 ≠ gb218) := ⟨h22_⟩
      have n23_ : Aside0 (Below w.heap.size w w114) := ⟨h23_⟩
      clear HO_205001
      clear HO_210001
      clear HO_219001
      clear BK189
      clear BK190
      clear BK204
      clear BK209
      clear BK218
      clear HB
      clear h0_ h1_ h2_ h3_ h4_ h5_ h6_ h7_ h8_ h9_ h10_ h11_ h12_ h13_ h14_ h15_ h16_ h17_ h18_ h19_ h20_ h21_ h22_ h23_
      have HO234 := n0_
      have HO241 := n1_
      have HO_205001 := n2_
      have HO_210001 := n3_
      have HO_219001 := n4_
      have BK189 := n5_
      have BK190 := n6_
      have BK204 := n7_
      have BK209 := n8_
      have BK218 := n9_
      have BK243 := n10_
      have GW243 := n11_
      have GE243 := n12_
      have NB189_243 := n13_
      have NB243_189 := n14_
      have NB190_243 := n15_
      have NB243_190 := n16_
      have NB204_243 := n17_
      have NB243_204 := n18_
      have NB209_243 := n19_
      have NB243_209 := n20_
      have NB218_243 := n21_
      have NB243_218 := n22_
      have HB := n23_
      clear n0_ n1_ n2_ n3_ n4_ n5_ n6_ n7_ n8_ n9_ n10_ n11_ n12_ n13_ n14_ n15_ n16_ n17_ n18_ n19_ n20_ n21_ n22_ n23_
      have hHeld : w114.cell? ⟨gb189, 0, none⟩ = some (.int .i64 a0_0) ∧ w114.cell? ⟨gb189, 1, none⟩ = some (.slice A0_1 l0_1.length c0_1) ∧ w114.cell? ⟨gb190, 0, none⟩ = some (.int .i64 a1_0) ∧ w114.cell? ⟨gb190, 1, none⟩ = some (.int .i64 a1_1) ∧ w114.cell? ⟨gb190, 2, none⟩ = some (.int .i64 a1_2) := hS_
      obtain ⟨Ao116, co116, eo116⟩ := Kd.R_slice HO241.out
      (first | subst eo116 | (injection eo116 with f1_ f2_ f3_; have f4_ := f1_.symm; have f5_ := f3_.symm; clear f1_ f2_ f3_; subst f4_; subst f5_))
      refine norm_ (a' := ?_) ?_ ?_
      rotate_left
      · simp only [putAll, Act.put, sT, sZ, sU]
        rfl
      refine one_ (i := 9) (N := none) #[true, true, true, true, true, true, true, true, true, true, false] rfl rfl (one_of HT_.out (by kernel_rfl)) (by decide) (fun K hK => ?_)
      have hs115 : w114.cell? ⟨gb243, 0, none⟩ = some (.int .i64 0) := (blk_cell BK243.out 0).trans rfl
      have hfs115 := blk_frozen BK243.out 0
      have hns115_0 := NB189_243.out
      have hns115_1 := NB190_243.out
      have hns115_2 := NB204_243.out
      have hns115_3 := NB209_243.out
      have hns115_4 := NB218_243.out
      have hms115_0 := NB243_189.out
      have hms115_1 := NB243_190.out
      have hms115_2 := NB243_204.out
      have hms115_3 := NB243_209.out
      have hms115_4 := NB243_218.out
      have hs117 : w114.cell? ⟨gb243, 1, none⟩ = some (.slice none 0 0) := (blk_cell BK243.out 1).trans rfl
      have hfs117 := blk_frozen BK243.out 1
      have hns117_0 := NB189_243.out
      have hns117_1 := NB190_243.out
      have hns117_2 := NB204_243.out
      have hns117_3 := NB209_243.out
      have hns117_4 := NB218_243.out
      have hms117_0 := NB243_189.out
      have hms117_1 := NB243_190.out
      have hms117_2 := NB243_204.out
      have hms117_3 := NB243_209.out
      have hms117_4 := NB243_218.out
      refine skip_ (w1 := ?_) (by rfl) rfl ?_ ?_
      rotate_left
      · go_simp
        rfl
      refine hK.out _ _ ⟨((cell_far (p := ⟨gb243, _, none⟩) NB189_243.out _).trans (((cell_far (p := ⟨gb243, _, none⟩) NB189_243.out _).trans (hHeld.1)))), ((cell_far (p := ⟨gb243, _, none⟩) NB189_243.out _).trans (((cell_far (p := ⟨gb243, _, none⟩) NB189_243.out _).trans (hHeld.2.1)))), ((cell_far (p := ⟨gb243, _, none⟩) NB190_243.out _).trans (((cell_far (p := ⟨gb243, _, none⟩) NB190_243.out _).trans (hHeld.2.2.1)))), ((cell_far (p := ⟨gb243, _, none⟩) NB190_243.out _).trans (((cell_far (p := ⟨gb243, _, none⟩) NB190_243.out _).trans (hHeld.2.2.2.1)))), ((cell_far (p := ⟨gb243, _, none⟩) NB190_243.out _).trans (((cell_far (p := ⟨gb243, _, none⟩) NB190_243.out _).trans (hHeld.2.2.2.2))))⟩ (fun hHeld => ?_)
      clear hK K
      refine pure_ (i := 10) (N := some 15) (v := ?_) (a' := ?_) #[true, true, true, true, true, true, true, true, true, true, true] rfl rfl (any_of HT_.out (by kernel_rfl)) (fun _ _ _ h => h) (Or.inl ⟨by rfl, ?_⟩) ?_ ?_
      rotate_left
      · intro w'
        go_simp
        with_reducible rfl
      rotate_left
      · simp only [Act.put, sT, sZ, sU, i64_w, i32_w]
        rfl
      refine done_ (done_of HT_.out (by kernel_rfl)) ?_
      go_upto_region 25 with (fail)
      go_cut [95] (fun v95 wc => ∃ (kq : Nat) (x95_98 : Bool), v95 = .bool x95_98 ∧ Aside0 (laws_FnExactTightenTable.j2 kq t228 x95_98 t213 t229 = some r) ∧ Aside0 (kq ≤ kj66) ∧ Aside0 (Kd.R (Kd.int .i64) 3 wc w.heap.size (fun k_ => some k_ ≠ ((.slice Ao40 t226.length co40) : Value).ownBlock ∧ some k_ ≠ ((.slice Ao48 t214.length co48) : Value).ownBlock ∧ some k_ ≠ ((.slice Ao116 t239.length co116) : Value).ownBlock) (.slice Ao30 t200.length co30) t200) ∧ Aside0 (Kd.R (Kd.int .i64) 3 wc w.heap.size (fun k_ => some k_ ≠ ((.slice Ao30 t200.length co30) : Value).ownBlock ∧ some k_ ≠ ((.slice Ao48 t214.length co48) : Value).ownBlock ∧ some k_ ≠ ((.slice Ao116 t239.length co116) : Value).ownBlock) (.slice Ao40 t226.length co40) t226) ∧ Aside0 (Kd.R (Kd.int .i64) 3 wc w.heap.size (fun k_ => some k_ ≠ ((.slice Ao30 t200.length co30) : Value).ownBlock ∧ some k_ ≠ ((.slice Ao40 t226.length co40) : Value).ownBlock ∧ some k_ ≠ ((.slice Ao116 t239.length co116) : Value).ownBlock) (.slice Ao48 t214.length co48) t229) ∧ Aside0 (Kd.R (Kd.int .i64) 3 wc w.heap.size (fun k_ => some k_ ≠ ((.slice Ao30 t200.length co30) : Value).ownBlock ∧ some k_ ≠ ((.slice Ao40 t226.length co40) : Value).ownBlock ∧ some k_ ≠ ((.slice Ao48 t214.length co48) : Value).ownBlock) (.slice Ao116 t239.length co116) t239) ∧ Aside0 (wc.heap[gb189]? = some (.cells #[.int .i64 a0_0, (.slice A0_1 l0_1.length c0_1)] 42 (0, 0))) ∧ Aside0 (wc.heap[gb190]? = some (.cells #[.int .i64 a1_0, .int .i64 a1_1, .int .i64 a1_2] 68 (0, 0))) ∧ Aside0 (wc.heap[gb204]? = some (.cells #[.int .i64 t199, (.slice Ao30 t200.length co30)] 29 (0, 0))) ∧ Aside0 (wc.heap[gb209]? = some (.cells #[.int .i64 t205, (.slice Ao40 t226.length co40)] 29 (0, 0))) ∧ Aside0 (wc.heap[gb218]? = some (.cells #[.int .i64 t213, (.slice Ao48 t214.length co48)] 29 (0, 0))) ∧ Aside0 (wc.heap[gb243]? = some (.cells #[.int .i64 t238, (.slice Ao116 t239.length co116)] 29 (0, 0))) ∧ Aside0 (Below w.heap.size w wc))
      case first =>
       have H := HC99.out
       clear HC99
       replace H := Option.bind_eq_some_iff.mp H
       obtain ⟨t244, A1180, H⟩ := H
       replace H : (if t244 = true then (laws_FnExactTightenTable.j2 kj66 t228 (t242 != t203) t213 t229) else (laws_FnExactTightenTable.j2 kj66 t228 true t213 t229)) = some r := H
       have A118 := mK A1180
       clear A1180
       by_cases c119 : t244 = true
       rotate_left
       · replace c119 := Bool.eq_false_iff.mpr c119
         subst c119
         have H1 : (laws_FnExactTightenTable.j2 kj66 t228 true t213 t229) = some r := by rw [if_neg (show ¬ (false = true) by decide)] at H; exact H
         clear H
         have H := H1
         clear H1
         subst hr_
         exact absurd H (by cases kj66 <;> simp [laws_FnExactTightenTable.j2])
       subst c119
       have H1 : (laws_FnExactTightenTable.j2 kj66 t228 (t242 != t203) t213 t229) = some r := by rw [if_pos rfl] at H; exact H
       clear H
       have H := H1
       clear H1
       have H' := mK H
       clear H
       have hnb120 := NB243_189.out
       have hnc120 := NB189_243.out
       have hnb121 := NB243_190.out
       have hnc121 := NB190_243.out
       have hnb122 := NB243_204.out
       have hnc122 := NB204_243.out
       have hnb123 := NB243_209.out
       have hnc123 := NB209_243.out
       have hnb124 := NB243_218.out
       have hnc124 := NB218_243.out
       have hcz125_0 : w114.cell? ⟨gb243, 0, none⟩ = some (.int .i64 0) := (blk_cell BK243.out 0).trans rfl
       have hcz125_1 : w114.cell? ⟨gb243, 1, none⟩ = some (.slice none 0 0) := (blk_cell BK243.out 1).trans rfl
       have hfz125_0 := blk_frozen BK243.out 0
       have hfz125_1 := blk_frozen BK243.out 1
       have hnb126 := NB204_189.out
       have hnc126 := NB189_204.out
       have hnb127 := NB204_190.out
       have hnc127 := NB190_204.out
       have hnb128 := NB204_209.out
       have hnc128 := NB209_204.out
       have hnb129 := NB204_218.out
       have hnc129 := NB218_204.out
       have hcz130_0 : w114.cell? ⟨gb204, 0, none⟩ = some (.int .i64 t199) := (blk_cell BK204.out 0).trans rfl
       have hcz130_1 : w114.cell? ⟨gb204, 1, none⟩ = some (.slice Ao30 t200.length co30) := (blk_cell BK204.out 1).trans rfl
       have hfz130_0 := blk_frozen BK204.out 0
       have hfz130_1 := blk_frozen BK204.out 1
       go_wp2_with (first | ((with_reducible refine gate_callee (f := 26) rfl ?_); refine goesL_ (some 89) rfl rfl Try.func26 (by kernel_rfl) rfl #[.agg #[.int .i64 t238, .slice Ao116 t239.length co116], .agg #[.int .i64 t199, .slice Ao30 t200.length co30]] rfl (by (try simp only [List.map_toArray, List.map_cons, List.map_nil]); first | done | rfl | (simp only [List.length_drop, List.length_take]; rfl)) ?_; (with_reducible refine (laws_eqTable.calls kj66 t238 _ _ t239 t199 _ _ t200 true _ ?side1 ?side2 ?side3 ?side4 A118.out).mono ?_); (case side1 => refine (Kd.R_reads' (e := 3) (base := w.heap.size) (ok := fun k_ => (some k_ ≠ (v233 : Value).ownBlock ∧ (some k_ ≠ (.slice Ao30 t200.length co30 : Value).ownBlock ∧ (some k_ ≠ (.slice Ao40 t226.length co40 : Value).ownBlock ∧ some k_ ≠ (.slice Ao48 t214.length co48 : Value).ownBlock)))) (n := t239.length) (c := co116) ?_).2.2; exact (by (with_reducible repeat (first | apply rA | apply rN | apply rD)); exact (Kd.R_mono (Kd.R_far (p := ⟨gb243, 1, none⟩) (Kd.R_far (p := ⟨gb243, 0, none⟩) (Kd.R_types HO241.out BK243.out (by decide)) (fun _ hk => hk.2) (.int .i64 t238)) (fun _ hk => hk.2) (.slice Ao116 t239.length co116)) (fun _ h_ => h_.1)))); (case side2 => exact (Kd.R_reads' HO241.out).2.1); (case side3 => refine (Kd.R_reads' (e := 3) (base := w.heap.size) (ok := fun k_ => (some k_ ≠ (v233 : Value).ownBlock ∧ (some k_ ≠ (.slice Ao116 t239.length co116 : Value).ownBlock ∧ (some k_ ≠ (.slice Ao40 t226.length co40 : Value).ownBlock ∧ some k_ ≠ (.slice Ao48 t214.length co48 : Value).ownBlock)))) (n := t200.length) (c := co30) ?_).2.2; exact (by (with_reducible repeat (first | apply rA | apply rN | apply rD)); exact (Kd.R_mono (Kd.R_far (p := ⟨gb243, 1, none⟩) (Kd.R_far (p := ⟨gb243, 0, none⟩) (Kd.R_types HO_205001.out BK243.out (by decide)) (fun _ hk => hk.2) (.int .i64 t238)) (fun _ hk => hk.2) (.slice Ao116 t239.length co116)) (fun _ h_ => h_.1)))); (case side4 => exact (Kd.R_reads' HO_205001.out).2.1); rintro e w131 ⟨rfl, hb⟩; refine ⟨_, rfl, ?_⟩; have n0_ := mK (Kd.R_below (by (with_reducible repeat (first | apply rA | apply rN | apply rD)); exact (Kd.R_mono (Kd.R_far (p := ⟨gb243, 1, none⟩) (Kd.R_far (p := ⟨gb243, 0, none⟩) (Kd.R_types HO_205001.out BK243.out (by decide)) (fun _ hk => hk.2) (.int .i64 t238)) (fun _ hk => hk.2) (.slice Ao116 t239.length co116)) (fun _ h_ => h_.1))) hb); have n1_ := mK (Kd.R_below (by (with_reducible repeat (first | apply rA | apply rN | apply rD)); exact (Kd.R_mono (Kd.R_far (p := ⟨gb243, 1, none⟩) (Kd.R_far (p := ⟨gb243, 0, none⟩) (Kd.R_types HO_210001.out BK243.out (by decide)) (fun _ hk => hk.2) (.int .i64 t238)) (fun _ hk => hk.2) (.slice Ao116 t239.length co116)) (fun _ h_ => h_.1))) hb); have n2_ := mK (Kd.R_below (by (with_reducible repeat (first | apply rA | apply rN | apply rD)); exact (Kd.R_mono (Kd.R_far (p := ⟨gb243, 1, none⟩) (Kd.R_far (p := ⟨gb243, 0, none⟩) (Kd.R_types HO_219001.out BK243.out (by decide)) (fun _ hk => hk.2) (.int .i64 t238)) (fun _ hk => hk.2) (.slice Ao116 t239.length co116)) (fun _ h_ => h_.1))) hb); have n3_ := mK (Kd.R_below (by (with_reducible repeat (first | apply rA | apply rN | apply rD)); exact (Kd.R_mono (Kd.R_far (p := ⟨gb243, 1, none⟩) (Kd.R_far (p := ⟨gb243, 0, none⟩) (Kd.R_types HO234.out BK243.out (by decide)) (fun _ hk => hk.2) (.int .i64 t238)) (fun _ hk => hk.2) (.slice Ao116 t239.length co116)) (fun _ h_ => h_.1))) hb); have n4_ := mK (Kd.R_below (by (with_reducible repeat (first | apply rA | apply rN | apply rD)); exact (Kd.R_mono (Kd.R_far (p := ⟨gb243, 1, none⟩) (Kd.R_far (p := ⟨gb243, 0, none⟩) (Kd.R_types HO241.out BK243.out (by decide)) (fun _ hk => hk.2) (.int .i64 t238)) (fun _ hk => hk.2) (.slice Ao116 t239.length co116)) (fun _ h_ => h_.1))) hb); have n5_ := mK (blk_below (g := gb189) (o := .cells #[.int .i64 a0_0, .slice A0_1 l0_1.length c0_1] 42 (0, 0)) (by (with_reducible repeat (first | refine kN ?_ _ | refine kD ?_ | refine kA ?_ _)); refine blk_far ?_ NB189_243.out _; (with_reducible repeat (first | refine kN ?_ _ | refine kD ?_ | refine kA ?_ _)); refine blk_far ?_ NB189_243.out _; (with_reducible repeat (first | refine kN ?_ _ | refine kD ?_ | refine kA ?_ _)); exact BK189.out) hb); have n6_ := mK (blk_below (g := gb190) (o := .cells #[.int .i64 a1_0, .int .i64 a1_1, .int .i64 a1_2] 68 (0, 0)) (by (with_reducible repeat (first | refine kN ?_ _ | refine kD ?_ | refine kA ?_ _)); refine blk_far ?_ NB190_243.out _; (with_reducible repeat (first | refine kN ?_ _ | refine kD ?_ | refine kA ?_ _)); refine blk_far ?_ NB190_243.out _; (with_reducible repeat (first | refine kN ?_ _ | refine kD ?_ | refine kA ?_ _)); exact BK190.out) hb); have n7_ := mK (blk_below (g := gb204) (o := .cells #[.int .i64 t199, .slice Ao30 t200.length co30] 29 (0, 0)) (by (with_reducible repeat (first | refine kN ?_ _ | refine kD ?_ | refine kA ?_ _)); refine blk_far ?_ NB204_243.out _; (with_reducible repeat (first | refine kN ?_ _ | refine kD ?_ | refine kA ?_ _)); refine blk_far ?_ NB204_243.out _; (with_reducible repeat (first | refine kN ?_ _ | refine kD ?_ | refine kA ?_ _)); exact BK204.out) hb); have n8_ := mK (blk_below (g := gb209) (o := .cells #[.int .i64 t205, .slice Ao40 t226.length co40] 29 (0, 0)) (by (with_reducible repeat (first | refine kN ?_ _ | refine kD ?_ | refine kA ?_ _)); refine blk_far ?_ NB209_243.out _; (with_reducible repeat (first | refine kN ?_ _ | refine kD ?_ | refine kA ?_ _)); refine blk_far ?_ NB209_243.out _; (with_reducible repeat (first | refine kN ?_ _ | refine kD ?_ | refine kA ?_ _)); exact BK209.out) hb); have n9_ := mK (blk_below (g := gb218) (o := .cells #[.int .i64 t213, .slice Ao48 t214.length co48] 29 (0, 0)) (by (with_reducible repeat (first | refine kN ?_ _ | refine kD ?_ | refine kA ?_ _)); refine blk_far ?_ NB218_243.out _; (with_reducible repeat (first | refine kN ?_ _ | refine kD ?_ | refine kA ?_ _)); refine blk_far ?_ NB218_243.out _; (with_reducible repeat (first | refine kN ?_ _ | refine kD ?_ | refine kA ?_ _)); exact BK218.out) hb); have n10_ := mK (blk_below (g := gb243) (o := .cells #[.int .i64 t238, .slice Ao116 t239.length co116] 29 (0, 0)) (by (with_reducible repeat (first | refine kN ?_ _ | refine kD ?_ | refine kA ?_ _)); refine blk_put (cs := #[.int .i64 t238, .slice none 0 0]) ?_ 1 _ rfl; (with_reducible repeat (first | refine kN ?_ _ | refine kD ?_ | refine kA ?_ _)); refine blk_put (cs := #[.int .i64 0, .slice none 0 0]) ?_ 0 _ rfl; (with_reducible repeat (first | refine kN ?_ _ | refine kD ?_ | refine kA ?_ _)); exact BK243.out) hb); have n11_ := mK (below_step (by repeat (first | (with_reducible first | exact HB.out | apply bA | apply bN | apply bD | refine bS ?_ GE189.out | refine bS ?_ GE190.out | refine bS ?_ GE204.out | refine bS ?_ GE209.out | refine bS ?_ GE218.out | refine bS ?_ GE243.out) | exact HB.out)) hb); clear HO_205001; clear HO_210001; clear HO_219001; clear HO234; clear HO241; clear BK189; clear BK190; clear BK204; clear BK209; clear BK218; clear BK243; clear HB; have HO_205001 := n0_; have HO_210001 := n1_; have HO_219001 := n2_; have HO234 := n3_; have HO241 := n4_; have BK189 := n5_; have BK190 := n6_; have BK204 := n7_; have BK209 := n8_; have BK218 := n9_; have BK243 := n10_; have HB := n11_; clear n0_ n1_ n2_ n3_ n4_ n5_ n6_ n7_ n8_ n9_ n10_ n11_; (try clear hb); (try clear hb2); (try clear hk); (try clear hi)))
       go_meet
       case rel => exact ⟨_, ((t242 != t203)), (by first | rfl | (simp; done) | (simp [*]; done)), H', ⟨by have := HJ15.out; have := HJ66.out; first | omega | exact Nat.le_refl _⟩, ⟨by (try simp only [hl210001_66]); (with_reducible repeat (first | apply rA | apply rN | apply rD)); exact Kd.R_mono HO_205001.out (fun _ hk => ⟨hk.2.2.1, ⟨hk.2.2.2, hk.2.1⟩⟩)⟩, ⟨by (try simp only [hl210001_66]); (with_reducible repeat (first | apply rA | apply rN | apply rD)); exact Kd.R_mono HO_210001.out (fun _ hk => ⟨hk.2.2.1, ⟨hk.2.2.2, hk.2.1⟩⟩)⟩, ⟨by (try simp only [hl210001_66]); (with_reducible repeat (first | apply rA | apply rN | apply rD)); exact Kd.R_mono HO_219001.out (fun _ hk => ⟨hk.2.2.1, ⟨hk.2.2.2, hk.2.1⟩⟩)⟩, ⟨by (try simp only [hl210001_66]); (with_reducible repeat (first | apply rA | apply rN | apply rD)); exact Kd.R_mono HO241.out (fun _ hk => ⟨hk.2.1, ⟨hk.2.2.1, hk.2.2.2⟩⟩)⟩, ⟨by (try simp only [hl210001_66]); (with_reducible repeat (first | refine kN ?_ _ | refine kD ?_ | refine kA ?_ _)); exact BK189.out⟩, ⟨by (try simp only [hl210001_66]); (with_reducible repeat (first | refine kN ?_ _ | refine kD ?_ | refine kA ?_ _)); exact BK190.out⟩, ⟨by (try simp only [hl210001_66]); (with_reducible repeat (first | refine kN ?_ _ | refine kD ?_ | refine kA ?_ _)); exact BK204.out⟩, ⟨by (try simp only [hl210001_66]); (with_reducible repeat (first | refine kN ?_ _ | refine kD ?_ | refine kA ?_ _)); exact BK209.out⟩, ⟨by (try simp only [hl210001_66]); (with_reducible repeat (first | refine kN ?_ _ | refine kD ?_ | refine kA ?_ _)); exact BK218.out⟩, ⟨by (try simp only [hl210001_66]); (with_reducible repeat (first | refine kN ?_ _ | refine kD ?_ | refine kA ?_ _)); exact BK243.out⟩, ⟨by repeat (first | (with_reducible first | exact HB.out | apply bA | apply bN | apply bD | refine bS ?_ GE189.out | refine bS ?_ GE190.out | refine bS ?_ GE204.out | refine bS ?_ GE209.out | refine bS ?_ GE218.out | refine bS ?_ GE243.out) | exact HB.out)⟩⟩
      case rest =>
       clear HC99
       try clear c1
       try clear c2
       try clear p2
       try clear c5
       try clear c11
       try clear c12
       try clear c21
       try clear c24
       try clear c26
       try clear c50
       try clear c119
       try clear c120
       try clear c121
       try clear c122
       try clear c123
       try clear c124
       try clear c126
       try clear c127
       try clear c128
       try clear c129
       try clear hcz125_0
       try clear hcz125_1
       try clear hcz130_0
       try clear hcz130_1
       try clear hfz125_0
       try clear hfz125_1
       try clear hfz130_0
       try clear hfz130_1
       obtain ⟨kq, x95_98, rfl, HA, HJ98, HO_205001, HO_210001, HO_219001, HO_244001, BK189, BK190, BK204, BK209, BK218, BK243, HB⟩ := hcut
       have hl219001_98 := (Kd.R_reads' HO_219001.out).1
       rw [hl219001_98] at HO_219001
       (try simp only [hl219001_98])
       (try simp only [hl219001_98] at BK189)
       (try simp only [hl219001_98] at BK190)
       (try simp only [hl219001_98] at BK204)
       (try simp only [hl219001_98] at BK209)
       (try simp only [hl219001_98] at BK218)
       (try simp only [hl219001_98] at BK243)
       (try simp only [hl219001_98] at HO_205001)
       (try simp only [hl219001_98] at HO_210001)
       (try simp only [hl219001_98] at HO_244001)
       cases kq with
       | zero => exact absurd HA.out (by simp [laws_FnExactTightenTable.j2])
       | succ kj98 =>
        have H := HA.out
        clear HA
        simp only [laws_FnExactTightenTable.j2] at H
        by_cases c132 : x95_98 = true
        · subst c132
          have H1 : (some false) = some r := by rw [if_pos rfl] at H; exact H
          clear H
          have H := H1
          clear H1
          obtain rfl := Option.some.inj H
          exact absurd hr_ (by decide)
        replace c132 := Bool.eq_false_iff.mpr c132
        subst c132
        have H1 : ((laws_heldTable.f kj98 t213 t229 1).bind fun t245 => (if t245 < 0 then (some false) else (if t245 = t228 then (some true) else (some false)))) = some r := by rw [if_neg (show ¬ (false = true) by decide)] at H; exact H
        clear H
        have H := H1
        clear H1
        replace H := Option.bind_eq_some_iff.mp H
        obtain ⟨t245, A1330, H⟩ := H
        replace H : (if t245 < 0 then (some false) else (if t245 = t228 then (some true) else (some false))) = some r := H
        have A133 := mK A1330
        clear A1330
        by_cases c134 : t245 < 0
        · rw [if_pos c134] at H
          have c134b0 : decide (t245 < 0) = true := decide_eq_true c134
          clear c134
          obtain rfl := Option.some.inj H
          exact absurd hr_ (by decide)
        rw [if_neg c134] at H
        have c134b0 : decide (t245 < 0) = false := decide_eq_false c134
        clear c134
        by_cases c135 : t245 = t228
        rotate_left
        · rw [if_neg c135] at H
          have c135b0 : (t245 == t228) = false := beq_eq_false_iff_ne.mpr c135
          have c135b1 : (t245 != t228) = true := bne_iff_ne.mpr c135
          obtain rfl := Option.some.inj H
          exact absurd hr_ (by decide)
        rw [if_pos c135] at H
        have c135b0 : (t245 == t228) = true := beq_iff_eq.mpr c135
        have c135b1 : (t245 != t228) = false := bne_eq_false_iff_eq.mpr c135
        clear c135
        obtain rfl := Option.some.inj H
        clear hr_
        have hnb136 := NB218_189.out
        have hnc136 := NB189_218.out
        have hnb137 := NB218_190.out
        have hnc137 := NB190_218.out
        have hnb138 := NB218_204.out
        have hnc138 := NB204_218.out
        have hnb139 := NB218_209.out
        have hnc139 := NB209_218.out
        have hnb140 := NB218_243.out
        have hnc140 := NB243_218.out
        have hcz141_0 : wc.cell? ⟨gb218, 0, none⟩ = some (.int .i64 t213) := (blk_cell BK218.out 0).trans rfl
        have hcz141_1 : wc.cell? ⟨gb218, 1, none⟩ = some (.slice Ao48 t229.length co48) := (blk_cell BK218.out 1).trans rfl
        have hfz141_0 := blk_frozen BK218.out 0
        have hfz141_1 := blk_frozen BK218.out 1
        go_wp2_with (first | ((with_reducible refine gate_callee (f := 51) rfl ?_); refine goesL_ (some 98) rfl rfl Try.func51 (by kernel_rfl) rfl #[.agg #[.int .i64 t213, .slice Ao48 t229.length co48], .int .i64 1] rfl (by (try simp only [List.map_toArray, List.map_cons, List.map_nil]); first | done | rfl | (simp only [List.length_drop, List.length_take]; rfl)) ?_; (with_reducible refine (laws_heldTable.calls kj98 t213 _ _ t229 1 t245 _ ?side1 ?side2 A133.out).mono ?_); (case side1 => repeat (first | exact (Kd.R_reads' HO_219001.out).2.2 | (with_reducible refine Kd.C_alloc ?_ _) | (with_reducible refine Kd.C_drewN ?_ _) | (with_reducible refine Kd.C_drew ?_))); (case side2 => exact (Kd.R_reads' HO_219001.out).2.1); rintro e w142 ⟨rfl, hb⟩; refine ⟨_, rfl, ?_⟩; have n0_ := mK (Kd.R_below (by (with_reducible repeat (first | apply rA | apply rN | apply rD)); exact HO_205001.out) hb); have n1_ := mK (Kd.R_below (by (with_reducible repeat (first | apply rA | apply rN | apply rD)); exact HO_210001.out) hb); have n2_ := mK (Kd.R_below (by (with_reducible repeat (first | apply rA | apply rN | apply rD)); exact HO_219001.out) hb); have n3_ := mK (Kd.R_below (by (with_reducible repeat (first | apply rA | apply rN | apply rD)); exact HO_244001.out) hb); have n4_ := mK (blk_below (by (with_reducible repeat (first | refine kN ?_ _ | refine kD ?_ | refine kA ?_ _)); exact BK189.out) hb); have n5_ := mK (blk_below (by (with_reducible repeat (first | refine kN ?_ _ | refine kD ?_ | refine kA ?_ _)); exact BK190.out) hb); have n6_ := mK (blk_below (by (with_reducible repeat (first | refine kN ?_ _ | refine kD ?_ | refine kA ?_ _)); exact BK204.out) hb); have n7_ := mK (blk_below (by (with_reducible repeat (first | refine kN ?_ _ | refine kD ?_ | refine kA ?_ _)); exact BK209.out) hb); have n8_ := mK (blk_below (by (with_reducible repeat (first | refine kN ?_ _ | refine kD ?_ | refine kA ?_ _)); exact BK218.out) hb); have n9_ := mK (blk_below (by (with_reducible repeat (first | refine kN ?_ _ | refine kD ?_ | refine kA ?_ _)); exact BK243.out) hb); have n10_ := mK (below_step (by repeat (first | (with_reducible first | exact HB.out | apply bA | apply bN | apply bD | refine bS ?_ GE189.out | refine bS ?_ GE190.out | refine bS ?_ GE204.out | refine bS ?_ GE209.out | refine bS ?_ GE218.out | refine bS ?_ GE243.out) | exact HB.out)) hb); clear HO_205001; clear HO_210001; clear HO_219001; clear HO_244001; clear BK189; clear BK190; clear BK204; clear BK209; clear BK218; clear BK243; clear HB; have HO_205001 := n0_; have HO_210001 := n1_; have HO_219001 := n2_; have HO_244001 := n3_; have BK189 := n4_; have BK190 := n5_; have BK204 := n6_; have BK209 := n7_; have BK218 := n8_; have BK243 := n9_; have HB := n10_; clear n0_ n1_ n2_ n3_ n4_ n5_ n6_ n7_ n8_ n9_ n10_; (try clear hb); (try clear hb2); (try clear hk); (try clear hi)))
        go_ret
        exact ⟨by first | rfl | (simp [errW_none, errW_some] <;> rfl) | (simp [*, errW_none, errW_some] <;> rfl), by repeat (first | (with_reducible first | exact HB.out | apply bA | apply bN | apply bD | refine bS ?_ GE189.out | refine bS ?_ GE190.out | refine bS ?_ GE204.out | refine bS ?_ GE209.out | refine bS ?_ GE218.out | refine bS ?_ GE243.out) | exact HB.out)⟩

/-- THE ONE PURE STATEMENT of laws_FnExactTightenTable: yours. -/
def laws_FnExactTightenTable.Pure : Prop := ∀ (a0_0 : Int) (l0_1 : List Int) (a1_0 : Int) (a1_1 : Int) (a1_2 : Int), (Lit.int .i64 a0_0).wf = true → l0_1.length ≤ maxLen → (∀ yl0_1 ∈ l0_1, (Lit.int .i64 yl0_1).wf = true) → (Lit.int .i64 a1_0).wf = true → (Lit.int .i64 a1_1).wf = true → (Lit.int .i64 a1_2).wf = true → ∃ k, laws_FnExactTightenTable.f k a0_0 l0_1 a1_0 a1_1 a1_2 = some true
theorem laws_FnExactTightenTable.walk (P : laws_FnExactTightenTable.Pure) (a0_0 : Int) (A0_1 : Option Addr) (c0_1 : Nat) (l0_1 : List Int) (a1_0 : Int) (a1_1 : Int) (a1_2 : Int) (w : World) (hr0_1 : Kd.C (Kd.int .i64) w A0_1 l0_1.length l0_1) (hc0_1 : l0_1.length ≤ c0_1) (q0_0 : (Lit.int .i64 a0_0).wf = true) (q0_1 : l0_1.length ≤ maxLen) (q0_2 : (∀ yl0_1 ∈ l0_1, (Lit.int .i64 yl0_1).wf = true)) (q1_0 : (Lit.int .i64 a1_0).wf = true) (q1_1 : (Lit.int .i64 a1_1).wf = true) (q1_2 : (Lit.int .i64 a1_2).wf = true) :
    Calls Try.prog 12 #[.agg #[.int .i64 a0_0, .slice A0_1 l0_1.length c0_1], .agg #[.int .i64 a1_0, .int .i64 a1_1, .int .i64 a1_2]] w fun e w' => e = .returned (.bool true) ∧ Below w.heap.size w w' := by
  obtain ⟨k, h⟩ := P a0_0 l0_1 a1_0 a1_1 a1_2 q0_0 q0_1 q0_2 q1_0 q1_1 q1_2
  refine (laws_FnExactTightenTable.calls k a0_0 A0_1 c0_1 l0_1 a1_0 a1_1 a1_2 true w hr0_1 hc0_1 h rfl).mono ?_
  rintro e w' ⟨rfl, hd⟩
  exact ⟨rfl, hd⟩

end Go.Proofs.Ytegkkbncnmakaaa.QFnExactTightenTable
