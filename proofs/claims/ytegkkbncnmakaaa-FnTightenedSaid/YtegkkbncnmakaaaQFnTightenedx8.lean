-- Written by this session's program wip/tools/mk.py out of the translation; Lean checks it.
import Derived.Test.YtegkkbncnmakaaaQFnTightenedx8a
namespace Go.Proofs.Ytegkkbncnmakaaa.QFnTightened
open Go.RowKit Go.Proofs.YtegkkbncnmakaaaW.PrintWords Go.Proofs.YtegkkbncnmakaaaW.PrintLast Go.Proofs.YtegkkbncnmakaaaW.PrintMore
attribute [local go_sem] max2_int min2_int max_two min_two max_three min_three max_four min_four   -- for this text's walks alone
set_option linter.unusedVariables false
set_option linter.unusedSimpArgs false


set_option maxHeartbeats 8000000 in
set_option maxRecDepth 100000 in
theorem laws_FnTightened.calls (k : Nat) (A0 : Option Addr) (c0 : Nat) (l0 : List Int) (r : Bool) (w : World) (hr0 : Kd.C (Kd.int .u8) w A0 l0.length l0) (hc0 : l0.length ≤ c0) (h : laws_FnTightened.f k l0 = some r) (hr_ : r = true) :
    Calls Try.prog 3 #[.slice A0 l0.length c0] w fun e w' => e = .returned (.bool r) ∧ Below w.heap.size w w' := by
 have hu25 := Try.underlying25
 have hu29 := Try.underlying29
 have hu36 := Try.underlying36
 have hu39 := Try.underlying39
 have HR0 := mK hr0
 have HC0 := mK hc0
 clear hr0 hc0
 have HB := mK (Below.refl w.heap.size w)
 have H : (if (l0.length : Int) > 1048576 then (some true) else ((spec_MakeGraph.f k l0).bind fun bt230 => ((impl_CloseGraph.f k bt230.1 bt230.2).bind fun bt235 => (if bt235.2.2 = true then ((spec_MakeNum.f k l0 30).bind fun t246 => (if bt230.1 = 0 then (none) else ((spec_MakeNum.f k l0 32).bind fun t247 => ((spec_MakeNum.f k l0 34).bind fun t248 => ((impl_TightenTable.f k bt235.1 bt235.2.1 (Int.tmod t246 bt230.1) (Int.tmod t247 bt230.1) (wrap64 ((Int.tmod t248 12) - 3))).bind fun bt250 => ((some (([] : List (S39)) : List (S39))).bind fun y256 => (if y256.length + bt230.2.length < 5864062014805 then ((some (y256 ++ bt230.2 : List (S39))).bind fun y259 => ((some (([(⟨Int.tmod t246 bt230.1, Int.tmod t247 bt230.1, wrap64 ((Int.tmod t248 12) - 3)⟩ : S39)] : List (S39)) : List (S39))).bind fun y262 => (if y259.length + y262.length < 5864062014805 then ((impl_CloseGraph.f k bt230.1 (y259 ++ y262)).bind fun bt269 => (if (bt250.2.2 != bt269.2.2) = true then (laws_FnTightened.j0 k true bt250.1 bt250.2.1 bt269.1 bt269.2.1) else (laws_FnTightened.j0 k ((bt250.2.1.length : Int) != (bt269.2.1.length : Int)) bt250.1 bt250.2.1 bt269.1 bt269.2.1))) else (none)))) else (none)))))))) else ((impl_GraphOk.f bt230.1 bt230.2).bind fun t241 => (if t241 = true then ((impl_EdgesOf.f k bt235.1 bt235.2.1).bind fun t242 => (if (t242.length : Int) = 0 then ((impl_Contains.f 0 1 1).bind fun t245 => (some t245)) else (some false))) else (some false))))))) = some r := h
 clear h
 by_cases c2 : (l0.length : Int) > 1048576
 {
 rw [if_pos c2] at H
 have c2b0 : decide (1048576 < (l0.length : Int)) = true := decide_eq_true c2
 have c2b1 : decide (1048576 < l0.length) = true := decide_eq_true (by omega)
 clear c2
 obtain rfl := Option.some.inj H
 clear hr_
 go_enter Try.func3, Try.ntmps3
 go_wp2
 go_ret
 exact ⟨by first | rfl | (simp [errW_none, errW_some] <;> rfl) | (simp [*, errW_none, errW_some] <;> rfl), by repeat first|(with_reducible first|exact HB.out|apply bA|apply bN|apply bD)|exact HB.out⟩
 }
 rw [if_neg c2] at H
 have c2b0 : decide (1048576 < (l0.length : Int)) = false := decide_eq_false c2
 have c2b1 : decide (1048576 < l0.length) = false := decide_eq_false (by omega)
 clear c2
 replace H := Option.bind_eq_some_iff.mp H
 obtain ⟨⟨t230, t231⟩, A30, H⟩ := H
 replace H : ((impl_CloseGraph.f k t230 t231).bind fun bt235 => (if bt235.2.2 = true then ((spec_MakeNum.f k l0 30).bind fun t246 => (if t230 = 0 then (none) else ((spec_MakeNum.f k l0 32).bind fun t247 => ((spec_MakeNum.f k l0 34).bind fun t248 => ((impl_TightenTable.f k bt235.1 bt235.2.1 (Int.tmod t246 t230) (Int.tmod t247 t230) (wrap64 ((Int.tmod t248 12) - 3))).bind fun bt250 => ((some (([] : List (S39)) : List (S39))).bind fun y256 => (if y256.length + t231.length < 5864062014805 then ((some (y256 ++ t231 : List (S39))).bind fun y259 => ((some (([(⟨Int.tmod t246 t230, Int.tmod t247 t230, wrap64 ((Int.tmod t248 12) - 3)⟩ : S39)] : List (S39)) : List (S39))).bind fun y262 => (if y259.length + y262.length < 5864062014805 then ((impl_CloseGraph.f k t230 (y259 ++ y262)).bind fun bt269 => (if (bt250.2.2 != bt269.2.2) = true then (laws_FnTightened.j0 k true bt250.1 bt250.2.1 bt269.1 bt269.2.1) else (laws_FnTightened.j0 k ((bt250.2.1.length : Int) != (bt269.2.1.length : Int)) bt250.1 bt250.2.1 bt269.1 bt269.2.1))) else (none)))) else (none)))))))) else ((impl_GraphOk.f t230 t231).bind fun t241 => (if t241 = true then ((impl_EdgesOf.f k bt235.1 bt235.2.1).bind fun t242 => (if (t242.length : Int) = 0 then ((impl_Contains.f 0 1 1).bind fun t245 => (some t245)) else (some false))) else (some false))))) = some r := H
 have A3 := mK A30
 clear A30
 replace H := Option.bind_eq_some_iff.mp H
 obtain ⟨⟨t235, t236, t239⟩, A40, H⟩ := H
 replace H : (if t239 = true then ((spec_MakeNum.f k l0 30).bind fun t246 => (if t230 = 0 then (none) else ((spec_MakeNum.f k l0 32).bind fun t247 => ((spec_MakeNum.f k l0 34).bind fun t248 => ((impl_TightenTable.f k t235 t236 (Int.tmod t246 t230) (Int.tmod t247 t230) (wrap64 ((Int.tmod t248 12) - 3))).bind fun bt250 => ((some (([] : List (S39)) : List (S39))).bind fun y256 => (if y256.length + t231.length < 5864062014805 then ((some (y256 ++ t231 : List (S39))).bind fun y259 => ((some (([(⟨Int.tmod t246 t230, Int.tmod t247 t230, wrap64 ((Int.tmod t248 12) - 3)⟩ : S39)] : List (S39)) : List (S39))).bind fun y262 => (if y259.length + y262.length < 5864062014805 then ((impl_CloseGraph.f k t230 (y259 ++ y262)).bind fun bt269 => (if (bt250.2.2 != bt269.2.2) = true then (laws_FnTightened.j0 k true bt250.1 bt250.2.1 bt269.1 bt269.2.1) else (laws_FnTightened.j0 k ((bt250.2.1.length : Int) != (bt269.2.1.length : Int)) bt250.1 bt250.2.1 bt269.1 bt269.2.1))) else (none)))) else (none)))))))) else ((impl_GraphOk.f t230 t231).bind fun t241 => (if t241 = true then ((impl_EdgesOf.f k t235 t236).bind fun t242 => (if (t242.length : Int) = 0 then ((impl_Contains.f 0 1 1).bind fun t245 => (some t245)) else (some false))) else (some false)))) = some r := H
 have A4 := mK A40
 clear A40
 by_cases c5 : t239 = true
 rotate_left
 {
 replace c5 := Bool.eq_false_iff.mpr c5
 subst c5
 have H1 : ((impl_GraphOk.f t230 t231).bind fun t241 => (if t241 = true then ((impl_EdgesOf.f k t235 t236).bind fun t242 => (if (t242.length : Int) = 0 then ((impl_Contains.f 0 1 1).bind fun t245 => (some t245)) else (some false))) else (some false))) = some r := by rw [if_neg (show ¬ (false = true) by decide)] at H; exact H
 clear H
 have H := H1
 clear H1
 replace H := Option.bind_eq_some_iff.mp H
 obtain ⟨t241, A1040, H⟩ := H
 replace H : (if t241 = true then ((impl_EdgesOf.f k t235 t236).bind fun t242 => (if (t242.length : Int) = 0 then ((impl_Contains.f 0 1 1).bind fun t245 => (some t245)) else (some false))) else (some false)) = some r := H
 have A104 := mK A1040
 clear A1040
 by_cases c105 : t241 = true
 rotate_left
 {
 replace c105 := Bool.eq_false_iff.mpr c105
 subst c105
 have H1 : (some false) = some r := by rw [if_neg (show ¬ (false = true) by decide)] at H; exact H
 clear H
 have H := H1
 clear H1
 obtain rfl := Option.some.inj H
 exact absurd hr_ (by decide)
 }
 subst c105
 have H1 : ((impl_EdgesOf.f k t235 t236).bind fun t242 => (if (t242.length : Int) = 0 then ((impl_Contains.f 0 1 1).bind fun t245 => (some t245)) else (some false))) = some r := by rw [if_pos rfl] at H; exact H
 clear H
 have H := H1
 clear H1
 replace H := Option.bind_eq_some_iff.mp H
 obtain ⟨t242, A1060, H⟩ := H
 replace H : (if (t242.length : Int) = 0 then ((impl_Contains.f 0 1 1).bind fun t245 => (some t245)) else (some false)) = some r := H
 have A106 := mK A1060
 clear A1060
 by_cases c107 : (t242.length : Int) = 0
 rotate_left
 {
 rw [if_neg c107] at H
 have c107b0 : ((t242.length : Int) == 0) = false := beq_eq_false_iff_ne.mpr c107
 have c107b1 : ((t242.length : Int) != 0) = true := bne_iff_ne.mpr c107
 have c107b2 : ¬ (t242 = []) := fun h_ => c107 (by rw [h_]; rfl)
 obtain rfl := Option.some.inj H
 exact absurd hr_ (by decide)
 }
 rw [if_pos c107] at H
 have c107b0 : ((t242.length : Int) == 0) = true := beq_iff_eq.mpr c107
 have c107b1 : ((t242.length : Int) != 0) = false := bne_eq_false_iff_eq.mpr c107
 clear c107
 replace H := Option.bind_eq_some_iff.mp H
 obtain ⟨t245, A1080, H⟩ := H
 replace H : (some t245) = some r := H
 have A108 := mK A1080
 clear A1080
 obtain rfl := Option.some.inj H
 clear hr_
 go_enter Try.func3, Try.ntmps3
 go_wp2_with (first | ((with_reducible refine gate_callee (f := 15) rfl ?_); refine goesL_ (some 18) rfl rfl Try.func15 (by kernel_rfl) rfl #[.slice A0 l0.length c0] rfl (by (try simp only [List.map_toArray, List.map_cons, List.map_nil]); first | done | rfl | (simp only [List.length_drop, List.length_take]; rfl)) ?_; (with_reducible refine (spec_MakeGraph.calls k _ _ l0 t230 t231 _ ?side1 ?side2 A3.out).mono ?_); (case side1 => repeat (first | exact HR0.out | (with_reducible refine Kd.C_alloc ?_ _) | (with_reducible refine Kd.C_drewN ?_ _) | (with_reducible refine Kd.C_drew ?_))); (case side2 => exact HC0.out); rintro e w109 ⟨v232, rfl, ho0, hb⟩; refine ⟨_, rfl, ?_⟩; have n0_ := mK (Kd.R_lower ho0 (bZ (by repeat first|(with_reducible first|exact HB.out|apply bA|apply bN|apply bD)|exact HB.out))); have n1_ := mK (bP (by repeat first|(with_reducible first|exact HB.out|apply bA|apply bN|apply bD)|exact HB.out) hb); clear HB; have HO233 := n0_; have HB := n1_; clear n0_ n1_; (try clear hb); (try clear hb2); (try clear hk); (try clear hi); (try clear ho0)) | ((with_reducible refine gate_dst (N := 3) rfl ?_); (try (refine gate_guard (by rfl) ?_; dsimp only)); refine box_event ?hg (N := 3) ?hd (cs := #[.int .i64 0, .slice none 0 0]) (t := 25) ?hr ?_; (case hd => rfl); (case hg => rfl); (case hr => go_simp <;> rfl); intro gb234 hg w110 hbox hb; have n0_ := mK (rB (by (with_reducible repeat first|apply rA|apply rN|apply rD); exact HO233.out) hb); have n1_ := mK (bP (by repeat first|(with_reducible first|exact HB.out|apply bA|apply bN|apply bD)|exact HB.out) hb); have n2_ := mK (hbox); have n3_ := mK ((by rw [hg]; exact (bZ (by repeat first|(with_reducible first|exact HB.out|apply bA|apply bN|apply bD)|exact HB.out)) : w.heap.size ≤ gb234)); have n4_ := mK ((by rw [hg]; exact (bZ (by repeat first|(with_reducible first|exact HB.out|apply bA|apply bN|apply bD)|exact HB.out)) : w.heap.size ≤ gb234)); clear HO233; clear HB; have HO233 := n0_; have HB := n1_; have BK234 := n2_; have GW234 := n3_; have GE234 := n4_; clear n0_ n1_ n2_ n3_ n4_; clear hb hbox hg; have hcz111_0 : w110.cell? ⟨gb234, 0, none⟩ = some (.int .i64 0) := (kC BK234.out 0).trans rfl; have hcz111_1 : w110.cell? ⟨gb234, 1, none⟩ = some (.slice none 0 0) := (kC BK234.out 1).trans rfl; have hfz111_0 := blk_frozen BK234.out 0; have hfz111_1 := blk_frozen BK234.out 1; obtain ⟨Ao112, co112, eo112⟩ := Kd.R_slice HO233.out; subst eo112) | ((with_reducible refine gate_callee (f := 16) rfl ?_); refine goesL_ (some 21) rfl rfl Try.func16 (by kernel_rfl) rfl #[.agg #[.int .i64 t230, .slice Ao112 t231.length co112]] rfl (by (try simp only [List.map_toArray, List.map_cons, List.map_nil]); first | done | rfl | (simp only [List.length_drop, List.length_take]; rfl)) ?_; (with_reducible refine (impl_CloseGraph.calls k t230 _ _ t231 t235 t236 false _ ?side1 ?side2 A4.out).mono ?_); (case side1 => refine (Kd.R_reads' (e := 39) (base := w.heap.size) (ok := fun k_ => True) (n := t231.length) (c := co112) ?_).2.2; exact (by (with_reducible repeat first|apply rA|apply rN|apply rD); exact (rM (Kd.R_far (p := ⟨gb234, 1, none⟩) (Kd.R_far (p := ⟨gb234, 0, none⟩) (Kd.R_types HO233.out BK234.out (by decide)) (fun _ hk => hk.2) (.int .i64 t230)) (fun _ hk => hk.2) (.slice Ao112 t231.length co112)) (fun _ h_ => h_.1)))); (case side2 => exact (Kd.R_reads' HO233.out).2.1); rintro e w113 ⟨v237, rfl, ho0, hb⟩; refine ⟨_, rfl, ?_⟩; have n0_ := mK (rB (by (with_reducible repeat first|apply rA|apply rN|apply rD); exact (rM (Kd.R_far (p := ⟨gb234, 1, none⟩) (Kd.R_far (p := ⟨gb234, 0, none⟩) (Kd.R_types HO233.out BK234.out (by decide)) (fun _ hk => hk.2) (.int .i64 t230)) (fun _ hk => hk.2) (.slice Ao112 t231.length co112)) (fun _ h_ => h_.1))) hb); have n1_ := mK (Kd.R_lower ho0 (bZ (by repeat first|(with_reducible first|exact HB.out|apply bA|apply bN|apply bD|refine bS ?_ GE234.out)|exact HB.out))); have n2_ := mK (kB (g := gb234) (o := .cells #[.int .i64 t230, .slice Ao112 t231.length co112] 25 (0, 0)) (by (with_reducible repeat first|apply kN|apply kD|apply kA); refine blk_put (cs := #[.int .i64 t230, .slice none 0 0]) ?_ 1 _ rfl; (with_reducible repeat first|apply kN|apply kD|apply kA); refine blk_put (cs := #[.int .i64 0, .slice none 0 0]) ?_ 0 _ rfl; (with_reducible repeat first|apply kN|apply kD|apply kA); exact BK234.out) hb); have n3_ := mK (bP (by repeat first|(with_reducible first|exact HB.out|apply bA|apply bN|apply bD|refine bS ?_ GE234.out)|exact HB.out) hb); clear HO233; clear BK234; clear HB; have HO233 := n0_; have HO238 := n1_; have BK234 := n2_; have HB := n3_; clear n0_ n1_ n2_ n3_; (try clear hb); (try clear hb2); (try clear hk); (try clear hi); (try clear ho0)) | ((with_reducible refine gate_dst (N := 4) rfl ?_); (try (refine gate_guard (by rfl) ?_; dsimp only)); refine box_event ?hg (N := 4) ?hd (cs := #[.int .i64 0, .slice none 0 0]) (t := 29) ?hr ?_; (case hd => rfl); (case hg => rfl); (case hr => go_simp <;> rfl); intro gb240 hg w114 hbox hb; have n0_ := mK (rB (by (with_reducible repeat first|apply rA|apply rN|apply rD); exact HO233.out) hb); have n1_ := mK (rB (by (with_reducible repeat first|apply rA|apply rN|apply rD); exact HO238.out) hb); have n2_ := mK (kB (by (with_reducible repeat first|apply kN|apply kD|apply kA); exact BK234.out) hb); have n3_ := mK (bP (by repeat first|(with_reducible first|exact HB.out|apply bA|apply bN|apply bD|refine bS ?_ GE234.out)|exact HB.out) hb); have n4_ := mK (hbox); have n5_ := mK ((by rw [hg]; exact (bZ (by repeat first|(with_reducible first|exact HB.out|apply bA|apply bN|apply bD|refine bS ?_ GE234.out)|exact HB.out)) : w.heap.size ≤ gb240)); have n6_ := mK ((by rw [hg]; exact (bZ (by repeat first|(with_reducible first|exact HB.out|apply bA|apply bN|apply bD|refine bS ?_ GE234.out)|exact HB.out)) : w.heap.size ≤ gb240)); have n7_ := mK ((by rw [hg]; exact Nat.ne_of_lt (blk_lt (by (with_reducible repeat first|apply kN|apply kD|apply kA); exact BK234.out)) : gb234 ≠ gb240)); have n8_ := mK ((by rw [hg]; exact Nat.ne_of_gt (blk_lt (by (with_reducible repeat first|apply kN|apply kD|apply kA); exact BK234.out)) : gb240 ≠ gb234)); clear HO233; clear HO238; clear BK234; clear HB; have HO233 := n0_; have HO238 := n1_; have BK234 := n2_; have HB := n3_; have BK240 := n4_; have GW240 := n5_; have GE240 := n6_; have NB234_240 := n7_; have NB240_234 := n8_; clear n0_ n1_ n2_ n3_ n4_ n5_ n6_ n7_ n8_; clear hb hbox hg; have hnb115 := NB240_234.out; have hnc115 := NB234_240.out; have hcz116_0 : w114.cell? ⟨gb240, 0, none⟩ = some (.int .i64 0) := (kC BK240.out 0).trans rfl; have hcz116_1 : w114.cell? ⟨gb240, 1, none⟩ = some (.slice none 0 0) := (kC BK240.out 1).trans rfl; have hfz116_0 := blk_frozen BK240.out 0; have hfz116_1 := blk_frozen BK240.out 1; obtain ⟨Ao117, co117, eo117⟩ := Kd.R_slice HO238.out; subst eo117; have hcz118_0 : w114.cell? ⟨gb234, 0, none⟩ = some (.int .i64 t230) := (kC BK234.out 0).trans rfl; have hcz118_1 : w114.cell? ⟨gb234, 1, none⟩ = some (.slice Ao112 t231.length co112) := (kC BK234.out 1).trans rfl; have hfz118_0 := blk_frozen BK234.out 0; have hfz118_1 := blk_frozen BK234.out 1) | ((with_reducible refine gate_callee (f := 17) rfl ?_); refine goesL_ (some 27) rfl rfl Try.func17 (by kernel_rfl) rfl #[.agg #[.int .i64 t230, .slice Ao112 t231.length co112]] rfl (by (try simp only [List.map_toArray, List.map_cons, List.map_nil]); first | done | rfl | (simp only [List.length_drop, List.length_take]; rfl)) ?_; (with_reducible refine (impl_GraphOk.calls t230 _ _ t231 true _ ?side1 ?side2 A104.out).mono ?_); (case side1 => refine (Kd.R_reads' (e := 39) (base := w.heap.size) (ok := fun k_ => True) (n := t231.length) (c := co112) ?_).2.2; exact (by (with_reducible repeat first|apply rA|apply rN|apply rD); exact (rM (Kd.R_far (p := ⟨gb240, 1, none⟩) (Kd.R_far (p := ⟨gb240, 0, none⟩) (Kd.R_types HO233.out BK240.out (by decide)) (fun _ hk => hk.2) (.int .i64 t235)) (fun _ hk => hk.2) (.slice Ao117 t236.length co117)) (fun _ h_ => h_.1)))); (case side2 => exact (Kd.R_reads' HO233.out).2.1); rintro e w119 ⟨rfl, hb⟩; refine ⟨_, rfl, ?_⟩; have n0_ := mK (rB (by (with_reducible repeat first|apply rA|apply rN|apply rD); exact (rM (Kd.R_far (p := ⟨gb240, 1, none⟩) (Kd.R_far (p := ⟨gb240, 0, none⟩) (Kd.R_types HO233.out BK240.out (by decide)) (fun _ hk => hk.2) (.int .i64 t235)) (fun _ hk => hk.2) (.slice Ao117 t236.length co117)) (fun _ h_ => h_.1))) hb); have n1_ := mK (rB (by (with_reducible repeat first|apply rA|apply rN|apply rD); exact (rM (Kd.R_far (p := ⟨gb240, 1, none⟩) (Kd.R_far (p := ⟨gb240, 0, none⟩) (Kd.R_types HO238.out BK240.out (by decide)) (fun _ hk => hk.2) (.int .i64 t235)) (fun _ hk => hk.2) (.slice Ao117 t236.length co117)) (fun _ h_ => h_.1))) hb); have n2_ := mK (kB (g := gb234) (o := .cells #[.int .i64 t230, .slice Ao112 t231.length co112] 25 (0, 0)) (by (with_reducible repeat first|apply kN|apply kD|apply kA); refine blk_far ?_ NB234_240.out _; (with_reducible repeat first|apply kN|apply kD|apply kA); refine blk_far ?_ NB234_240.out _; (with_reducible repeat first|apply kN|apply kD|apply kA); exact BK234.out) hb); have n3_ := mK (kB (g := gb240) (o := .cells #[.int .i64 t235, .slice Ao117 t236.length co117] 29 (0, 0)) (by (with_reducible repeat first|apply kN|apply kD|apply kA); refine blk_put (cs := #[.int .i64 t235, .slice none 0 0]) ?_ 1 _ rfl; (with_reducible repeat first|apply kN|apply kD|apply kA); refine blk_put (cs := #[.int .i64 0, .slice none 0 0]) ?_ 0 _ rfl; (with_reducible repeat first|apply kN|apply kD|apply kA); exact BK240.out) hb); have n4_ := mK (bP (by repeat first|(with_reducible first|exact HB.out|apply bA|apply bN|apply bD|refine bS ?_ GE234.out|refine bS ?_ GE240.out)|exact HB.out) hb); clear HO233; clear HO238; clear BK234; clear BK240; clear HB; have HO233 := n0_; have HO238 := n1_; have BK234 := n2_; have BK240 := n3_; have HB := n4_; clear n0_ n1_ n2_ n3_ n4_; (try clear hb); (try clear hb2); (try clear hk); (try clear hi); have hcz120_0 : w119.cell? ⟨gb240, 0, none⟩ = some (.int .i64 t235) := (kC BK240.out 0).trans rfl; have hcz120_1 : w119.cell? ⟨gb240, 1, none⟩ = some (.slice Ao117 t236.length co117) := (kC BK240.out 1).trans rfl; have hfz120_0 := blk_frozen BK240.out 0; have hfz120_1 := blk_frozen BK240.out 1) | (go_at_call 18; (with_reducible refine (impl_EdgesOf.calls k t235 _ _ t236 t242 _ ?side1 ?side2 A106.out).mono ?_); (case side1 => repeat (first | exact (Kd.R_reads' HO238.out).2.2 | (with_reducible refine Kd.C_alloc ?_ _) | (with_reducible refine Kd.C_drewN ?_ _) | (with_reducible refine Kd.C_drew ?_))); (case side2 => exact (Kd.R_reads' HO238.out).2.1); rintro e w121 ⟨v243, rfl, ho0, hb⟩; have n0_ := mK (Kd.R_elder' (by (with_reducible repeat first|apply rA|apply rN|apply rD); exact HO233.out) (Kd.R_base ho0) hb); have n1_ := mK (rB (by (with_reducible repeat first|apply rA|apply rN|apply rD); exact HO238.out) hb); have n2_ := mK (Kd.R_lower (Kd.R_new' ho0 (Kd.R_lt (by (with_reducible repeat first|apply rA|apply rN|apply rD); exact HO233.out))) (bZ (by repeat first|(with_reducible first|exact HB.out|apply bA|apply bN|apply bD|refine bS ?_ GE234.out|refine bS ?_ GE240.out)|exact HB.out))); have n3_ := mK (kB (by (with_reducible repeat first|apply kN|apply kD|apply kA); exact BK234.out) hb); have n4_ := mK (kB (by (with_reducible repeat first|apply kN|apply kD|apply kA); exact BK240.out) hb); have n5_ := mK (bP (by repeat first|(with_reducible first|exact HB.out|apply bA|apply bN|apply bD|refine bS ?_ GE234.out|refine bS ?_ GE240.out)|exact HB.out) hb); clear HO233; clear HO238; clear BK234; clear BK240; clear HB; have HO233 := n0_; have HO238 := n1_; have HO244 := n2_; have BK234 := n3_; have BK240 := n4_; have HB := n5_; clear n0_ n1_ n2_ n3_ n4_ n5_; (try clear hb); (try clear hb2); (try clear hk); (try clear hi); (try clear ho0); obtain ⟨Ao122, co122, eo122⟩ := Kd.R_slice HO244.out; subst eo122) | (go_at_call 19; (with_reducible refine (impl_Contains.calls 0 1 1 t245 _ A108.out).mono ?_); rintro e w123 ⟨rfl, hb⟩; have n0_ := mK (rB (by (with_reducible repeat first|apply rA|apply rN|apply rD); exact HO233.out) hb); have n1_ := mK (rB (by (with_reducible repeat first|apply rA|apply rN|apply rD); exact HO238.out) hb); have n2_ := mK (rB (by (with_reducible repeat first|apply rA|apply rN|apply rD); exact HO244.out) hb); have n3_ := mK (kB (by (with_reducible repeat first|apply kN|apply kD|apply kA); exact BK234.out) hb); have n4_ := mK (kB (by (with_reducible repeat first|apply kN|apply kD|apply kA); exact BK240.out) hb); have n5_ := mK (bP (by repeat first|(with_reducible first|exact HB.out|apply bA|apply bN|apply bD|refine bS ?_ GE234.out|refine bS ?_ GE240.out)|exact HB.out) hb); clear HO233; clear HO238; clear HO244; clear BK234; clear BK240; clear HB; have HO233 := n0_; have HO238 := n1_; have HO244 := n2_; have BK234 := n3_; have BK240 := n4_; have HB := n5_; clear n0_ n1_ n2_ n3_ n4_ n5_; (try clear hb); (try clear hb2); (try clear hk); (try clear hi)))
 go_ret
 exact ⟨by first | rfl | (simp [errW_none, errW_some] <;> rfl) | (simp [*, errW_none, errW_some] <;> rfl), by repeat first|(with_reducible first|exact HB.out|apply bA|apply bN|apply bD|refine bS ?_ GE234.out|refine bS ?_ GE240.out)|exact HB.out⟩
 }
 subst c5
 have H1 : ((spec_MakeNum.f k l0 30).bind fun t246 => (if t230 = 0 then (none) else ((spec_MakeNum.f k l0 32).bind fun t247 => ((spec_MakeNum.f k l0 34).bind fun t248 => ((impl_TightenTable.f k t235 t236 (Int.tmod t246 t230) (Int.tmod t247 t230) (wrap64 ((Int.tmod t248 12) - 3))).bind fun bt250 => ((some (([] : List (S39)) : List (S39))).bind fun y256 => (if y256.length + t231.length < 5864062014805 then ((some (y256 ++ t231 : List (S39))).bind fun y259 => ((some (([(⟨Int.tmod t246 t230, Int.tmod t247 t230, wrap64 ((Int.tmod t248 12) - 3)⟩ : S39)] : List (S39)) : List (S39))).bind fun y262 => (if y259.length + y262.length < 5864062014805 then ((impl_CloseGraph.f k t230 (y259 ++ y262)).bind fun bt269 => (if (bt250.2.2 != bt269.2.2) = true then (laws_FnTightened.j0 k true bt250.1 bt250.2.1 bt269.1 bt269.2.1) else (laws_FnTightened.j0 k ((bt250.2.1.length : Int) != (bt269.2.1.length : Int)) bt250.1 bt250.2.1 bt269.1 bt269.2.1))) else (none)))) else (none)))))))) = some r := by rw [if_pos rfl] at H; exact H
 clear H
 have H := H1
 clear H1
 replace H := Option.bind_eq_some_iff.mp H
 obtain ⟨t246, A60, H⟩ := H
 replace H : (if t230 = 0 then (none) else ((spec_MakeNum.f k l0 32).bind fun t247 => ((spec_MakeNum.f k l0 34).bind fun t248 => ((impl_TightenTable.f k t235 t236 (Int.tmod t246 t230) (Int.tmod t247 t230) (wrap64 ((Int.tmod t248 12) - 3))).bind fun bt250 => ((some (([] : List (S39)) : List (S39))).bind fun y256 => (if y256.length + t231.length < 5864062014805 then ((some (y256 ++ t231 : List (S39))).bind fun y259 => ((some (([(⟨Int.tmod t246 t230, Int.tmod t247 t230, wrap64 ((Int.tmod t248 12) - 3)⟩ : S39)] : List (S39)) : List (S39))).bind fun y262 => (if y259.length + y262.length < 5864062014805 then ((impl_CloseGraph.f k t230 (y259 ++ y262)).bind fun bt269 => (if (bt250.2.2 != bt269.2.2) = true then (laws_FnTightened.j0 k true bt250.1 bt250.2.1 bt269.1 bt269.2.1) else (laws_FnTightened.j0 k ((bt250.2.1.length : Int) != (bt269.2.1.length : Int)) bt250.1 bt250.2.1 bt269.1 bt269.2.1))) else (none)))) else (none))))))) = some r := H
 have A6 := mK A60
 clear A60
 by_cases c7 : t230 = 0
 {
 rw [if_pos c7] at H
 exact absurd H (by simp)
 }
 rw [if_neg c7] at H
 have c7b0 : (t230 == 0) = false := beq_eq_false_iff_ne.mpr c7
 have c7b1 : (t230 != 0) = true := bne_iff_ne.mpr c7
 replace H := Option.bind_eq_some_iff.mp H
 obtain ⟨t247, A80, H⟩ := H
 replace H : ((spec_MakeNum.f k l0 34).bind fun t248 => ((impl_TightenTable.f k t235 t236 (Int.tmod t246 t230) (Int.tmod t247 t230) (wrap64 ((Int.tmod t248 12) - 3))).bind fun bt250 => ((some (([] : List (S39)) : List (S39))).bind fun y256 => (if y256.length + t231.length < 5864062014805 then ((some (y256 ++ t231 : List (S39))).bind fun y259 => ((some (([(⟨Int.tmod t246 t230, Int.tmod t247 t230, wrap64 ((Int.tmod t248 12) - 3)⟩ : S39)] : List (S39)) : List (S39))).bind fun y262 => (if y259.length + y262.length < 5864062014805 then ((impl_CloseGraph.f k t230 (y259 ++ y262)).bind fun bt269 => (if (bt250.2.2 != bt269.2.2) = true then (laws_FnTightened.j0 k true bt250.1 bt250.2.1 bt269.1 bt269.2.1) else (laws_FnTightened.j0 k ((bt250.2.1.length : Int) != (bt269.2.1.length : Int)) bt250.1 bt250.2.1 bt269.1 bt269.2.1))) else (none)))) else (none))))) = some r := H
 have A8 := mK A80
 clear A80
 replace H := Option.bind_eq_some_iff.mp H
 obtain ⟨t248, A90, H⟩ := H
 replace H : ((impl_TightenTable.f k t235 t236 (Int.tmod t246 t230) (Int.tmod t247 t230) (wrap64 ((Int.tmod t248 12) - 3))).bind fun bt250 => ((some (([] : List (S39)) : List (S39))).bind fun y256 => (if y256.length + t231.length < 5864062014805 then ((some (y256 ++ t231 : List (S39))).bind fun y259 => ((some (([(⟨Int.tmod t246 t230, Int.tmod t247 t230, wrap64 ((Int.tmod t248 12) - 3)⟩ : S39)] : List (S39)) : List (S39))).bind fun y262 => (if y259.length + y262.length < 5864062014805 then ((impl_CloseGraph.f k t230 (y259 ++ y262)).bind fun bt269 => (if (bt250.2.2 != bt269.2.2) = true then (laws_FnTightened.j0 k true bt250.1 bt250.2.1 bt269.1 bt269.2.1) else (laws_FnTightened.j0 k ((bt250.2.1.length : Int) != (bt269.2.1.length : Int)) bt250.1 bt250.2.1 bt269.1 bt269.2.1))) else (none)))) else (none)))) = some r := H
 have A9 := mK A90
 clear A90
 replace H := Option.bind_eq_some_iff.mp H
 obtain ⟨⟨t250, t251, t254⟩, A100, H⟩ := H
 replace H : ((some (([] : List (S39)) : List (S39))).bind fun y256 => (if y256.length + t231.length < 5864062014805 then ((some (y256 ++ t231 : List (S39))).bind fun y259 => ((some (([(⟨Int.tmod t246 t230, Int.tmod t247 t230, wrap64 ((Int.tmod t248 12) - 3)⟩ : S39)] : List (S39)) : List (S39))).bind fun y262 => (if y259.length + y262.length < 5864062014805 then ((impl_CloseGraph.f k t230 (y259 ++ y262)).bind fun bt269 => (if (t254 != bt269.2.2) = true then (laws_FnTightened.j0 k true t250 t251 bt269.1 bt269.2.1) else (laws_FnTightened.j0 k ((t251.length : Int) != (bt269.2.1.length : Int)) t250 t251 bt269.1 bt269.2.1))) else (none)))) else (none))) = some r := H
 have A10 := mK A100
 clear A100
 obtain ⟨y256, hy256⟩ : ∃ y_ : List (S39), y_ = (([] : List (S39))) := ⟨_, rfl⟩
 replace H : (if y256.length + t231.length < 5864062014805 then ((some (y256 ++ t231 : List (S39))).bind fun y259 => ((some (([(⟨Int.tmod t246 t230, Int.tmod t247 t230, wrap64 ((Int.tmod t248 12) - 3)⟩ : S39)] : List (S39)) : List (S39))).bind fun y262 => (if y259.length + y262.length < 5864062014805 then ((impl_CloseGraph.f k t230 (y259 ++ y262)).bind fun bt269 => (if (t254 != bt269.2.2) = true then (laws_FnTightened.j0 k true t250 t251 bt269.1 bt269.2.1) else (laws_FnTightened.j0 k ((t251.length : Int) != (bt269.2.1.length : Int)) t250 t251 bt269.1 bt269.2.1))) else (none)))) else (none)) = some r := by first | (rw [hy256]; with_reducible exact H) | (have H2_ := (Option.bind_some _ _).symm.trans H; rw [hy256]; with_reducible exact H2_) | (have H2_ := (Option.bind_some _ _).symm.trans H; with_reducible exact H2_) | with_reducible exact H | (rw [hy256]; exact H) | exact H
 have Ny256 := mK hy256
 clear hy256
 by_cases c11 : y256.length + t231.length < 5864062014805
 rotate_left
 {
 rw [if_neg c11] at H
 exact absurd H (by simp)
 }
 rw [if_pos c11] at H
 have LMc11 := mK c11
 clear c11
 obtain ⟨y259, hy259⟩ : ∃ y_ : List (S39), y_ = (y256 ++ t231) := ⟨_, rfl⟩
 replace H : ((some (([(⟨Int.tmod t246 t230, Int.tmod t247 t230, wrap64 ((Int.tmod t248 12) - 3)⟩ : S39)] : List (S39)) : List (S39))).bind fun y262 => (if y259.length + y262.length < 5864062014805 then ((impl_CloseGraph.f k t230 (y259 ++ y262)).bind fun bt269 => (if (t254 != bt269.2.2) = true then (laws_FnTightened.j0 k true t250 t251 bt269.1 bt269.2.1) else (laws_FnTightened.j0 k ((t251.length : Int) != (bt269.2.1.length : Int)) t250 t251 bt269.1 bt269.2.1))) else (none))) = some r := by first | (rw [hy259]; with_reducible exact H) | (have H2_ := (Option.bind_some _ _).symm.trans H; rw [hy259]; with_reducible exact H2_) | (have H2_ := (Option.bind_some _ _).symm.trans H; with_reducible exact H2_) | with_reducible exact H | (rw [hy259]; exact H) | exact H
 have Ny259 := mK hy259
 clear hy259
 obtain ⟨y262, hy262⟩ : ∃ y_ : List (S39), y_ = (([(⟨Int.tmod t246 t230, Int.tmod t247 t230, wrap64 ((Int.tmod t248 12) - 3)⟩ : S39)] : List (S39))) := ⟨_, rfl⟩
 replace H : (if y259.length + y262.length < 5864062014805 then ((impl_CloseGraph.f k t230 (y259 ++ y262)).bind fun bt269 => (if (t254 != bt269.2.2) = true then (laws_FnTightened.j0 k true t250 t251 bt269.1 bt269.2.1) else (laws_FnTightened.j0 k ((t251.length : Int) != (bt269.2.1.length : Int)) t250 t251 bt269.1 bt269.2.1))) else (none)) = some r := by first | (rw [hy262]; with_reducible exact H) | (have H2_ := (Option.bind_some _ _).symm.trans H; rw [hy262]; with_reducible exact H2_) | (have H2_ := (Option.bind_some _ _).symm.trans H; with_reducible exact H2_) | with_reducible exact H | (rw [hy262]; exact H) | exact H
 have Ny262 := mK hy262
 clear hy262
 by_cases c12 : y259.length + y262.length < 5864062014805
 rotate_left
 {
 rw [if_neg c12] at H
 exact absurd H (by simp)
 }
 rw [if_pos c12] at H
 have LMc12 := mK c12
 clear c12
 obtain ⟨y265, hy265⟩ : ∃ y_ : List (S39), y_ = (y259 ++ y262) := ⟨_, rfl⟩
 replace H : ((impl_CloseGraph.f k t230 y265).bind fun bt269 => (if (t254 != bt269.2.2) = true then (laws_FnTightened.j0 k true t250 t251 bt269.1 bt269.2.1) else (laws_FnTightened.j0 k ((t251.length : Int) != (bt269.2.1.length : Int)) t250 t251 bt269.1 bt269.2.1))) = some r := by first | (rw [hy265]; with_reducible exact H) | (have H2_ := (Option.bind_some _ _).symm.trans H; rw [hy265]; with_reducible exact H2_) | (have H2_ := (Option.bind_some _ _).symm.trans H; with_reducible exact H2_) | with_reducible exact H | (rw [hy265]; exact H) | exact H
 have Ny265 := mK hy265
 clear hy265
 replace H := Option.bind_eq_some_iff.mp H
 obtain ⟨⟨t269, t270, t273⟩, A130, H⟩ := H
 replace H : (if (t254 != t273) = true then (laws_FnTightened.j0 k true t250 t251 t269 t270) else (laws_FnTightened.j0 k ((t251.length : Int) != (t270.length : Int)) t250 t251 t269 t270)) = some r := H
 have A13 := mK A130
 clear A130
 have HC14 := mK H
 clear H
 go_enter Try.func3, Try.ntmps3
 try go_wp2_with (first | ((with_reducible refine gate_callee (f := 15) rfl ?_); refine goesL_ (some 18) rfl rfl Try.func15 (by kernel_rfl) rfl #[.slice A0 l0.length c0] rfl (by (try simp only [List.map_toArray, List.map_cons, List.map_nil]); first | done | rfl | (simp only [List.length_drop, List.length_take]; rfl)) ?_; (with_reducible refine (spec_MakeGraph.calls k _ _ l0 t230 t231 _ ?side1 ?side2 A3.out).mono ?_); (case side1 => repeat (first | exact HR0.out | (with_reducible refine Kd.C_alloc ?_ _) | (with_reducible refine Kd.C_drewN ?_ _) | (with_reducible refine Kd.C_drew ?_))); (case side2 => exact HC0.out); rintro e w15 ⟨v232, rfl, ho0, hb⟩; refine ⟨_, rfl, ?_⟩; have n0_ := mK (Kd.R_lower ho0 (bZ (by repeat first|(with_reducible first|exact HB.out|apply bA|apply bN|apply bD)|exact HB.out))); have n1_ := mK (bP (by repeat first|(with_reducible first|exact HB.out|apply bA|apply bN|apply bD)|exact HB.out) hb); clear HB; have HO233 := n0_; have HB := n1_; clear n0_ n1_; (try clear hb); (try clear hb2); (try clear hk); (try clear hi); (try clear ho0)) | ((with_reducible refine gate_dst (N := 3) rfl ?_); (try (refine gate_guard (by rfl) ?_; dsimp only)); refine box_event ?hg (N := 3) ?hd (cs := #[.int .i64 0, .slice none 0 0]) (t := 25) ?hr ?_; (case hd => rfl); (case hg => rfl); (case hr => go_simp <;> rfl); intro gb234 hg w16 hbox hb; have n0_ := mK (rB (by (with_reducible repeat first|apply rA|apply rN|apply rD); exact HO233.out) hb); have n1_ := mK (bP (by repeat first|(with_reducible first|exact HB.out|apply bA|apply bN|apply bD)|exact HB.out) hb); have n2_ := mK (hbox); have n3_ := mK ((by rw [hg]; exact (bZ (by repeat first|(with_reducible first|exact HB.out|apply bA|apply bN|apply bD)|exact HB.out)) : w.heap.size ≤ gb234)); have n4_ := mK ((by rw [hg]; exact (bZ (by repeat first|(with_reducible first|exact HB.out|apply bA|apply bN|apply bD)|exact HB.out)) : w.heap.size ≤ gb234)); clear HO233; clear HB; have HO233 := n0_; have HB := n1_; have BK234 := n2_; have GW234 := n3_; have GE234 := n4_; clear n0_ n1_ n2_ n3_ n4_; clear hb hbox hg; have hcz17_0 : w16.cell? ⟨gb234, 0, none⟩ = some (.int .i64 0) := (kC BK234.out 0).trans rfl; have hcz17_1 : w16.cell? ⟨gb234, 1, none⟩ = some (.slice none 0 0) := (kC BK234.out 1).trans rfl; have hfz17_0 := blk_frozen BK234.out 0; have hfz17_1 := blk_frozen BK234.out 1; obtain ⟨Ao18, co18, eo18⟩ := Kd.R_slice HO233.out; subst eo18) | ((with_reducible refine gate_callee (f := 16) rfl ?_); refine goesL_ (some 21) rfl rfl Try.func16 (by kernel_rfl) rfl #[.agg #[.int .i64 t230, .slice Ao18 t231.length co18]] rfl (by (try simp only [List.map_toArray, List.map_cons, List.map_nil]); first | done | rfl | (simp only [List.length_drop, List.length_take]; rfl)) ?_; (with_reducible refine (impl_CloseGraph.calls k t230 _ _ t231 t235 t236 true _ ?side1 ?side2 A4.out).mono ?_); (case side1 => refine (Kd.R_reads' (e := 39) (base := w.heap.size) (ok := fun k_ => True) (n := t231.length) (c := co18) ?_).2.2; exact (by (with_reducible repeat first|apply rA|apply rN|apply rD); exact (rM (Kd.R_far (p := ⟨gb234, 1, none⟩) (Kd.R_far (p := ⟨gb234, 0, none⟩) (Kd.R_types HO233.out BK234.out (by decide)) (fun _ hk => hk.2) (.int .i64 t230)) (fun _ hk => hk.2) (.slice Ao18 t231.length co18)) (fun _ h_ => h_.1)))); (case side2 => exact (Kd.R_reads' HO233.out).2.1); rintro e w19 ⟨v237, rfl, ho0, hb⟩; refine ⟨_, rfl, ?_⟩; have n0_ := mK (rB (by (with_reducible repeat first|apply rA|apply rN|apply rD); exact (rM (Kd.R_far (p := ⟨gb234, 1, none⟩) (Kd.R_far (p := ⟨gb234, 0, none⟩) (Kd.R_types HO233.out BK234.out (by decide)) (fun _ hk => hk.2) (.int .i64 t230)) (fun _ hk => hk.2) (.slice Ao18 t231.length co18)) (fun _ h_ => h_.1))) hb); have n1_ := mK (Kd.R_lower ho0 (bZ (by repeat first|(with_reducible first|exact HB.out|apply bA|apply bN|apply bD|refine bS ?_ GE234.out)|exact HB.out))); have n2_ := mK (kB (g := gb234) (o := .cells #[.int .i64 t230, .slice Ao18 t231.length co18] 25 (0, 0)) (by (with_reducible repeat first|apply kN|apply kD|apply kA); refine blk_put (cs := #[.int .i64 t230, .slice none 0 0]) ?_ 1 _ rfl; (with_reducible repeat first|apply kN|apply kD|apply kA); refine blk_put (cs := #[.int .i64 0, .slice none 0 0]) ?_ 0 _ rfl; (with_reducible repeat first|apply kN|apply kD|apply kA); exact BK234.out) hb); have n3_ := mK (bP (by repeat first|(with_reducible first|exact HB.out|apply bA|apply bN|apply bD|refine bS ?_ GE234.out)|exact HB.out) hb); clear HO233; clear BK234; clear HB; have HO233 := n0_; have HO238 := n1_; have BK234 := n2_; have HB := n3_; clear n0_ n1_ n2_ n3_; (try clear hb); (try clear hb2); (try clear hk); (try clear hi); (try clear ho0)) | ((with_reducible refine gate_dst (N := 4) rfl ?_); (try (refine gate_guard (by rfl) ?_; dsimp only)); refine box_event ?hg (N := 4) ?hd (cs := #[.int .i64 0, .slice none 0 0]) (t := 29) ?hr ?_; (case hd => rfl); (case hg => rfl); (case hr => go_simp <;> rfl); intro gb240 hg w20 hbox hb; have n0_ := mK (rB (by (with_reducible repeat first|apply rA|apply rN|apply rD); exact HO233.out) hb); have n1_ := mK (rB (by (with_reducible repeat first|apply rA|apply rN|apply rD); exact HO238.out) hb); have n2_ := mK (kB (by (with_reducible repeat first|apply kN|apply kD|apply kA); exact BK234.out) hb); have n3_ := mK (bP (by repeat first|(with_reducible first|exact HB.out|apply bA|apply bN|apply bD|refine bS ?_ GE234.out)|exact HB.out) hb); have n4_ := mK (hbox); have n5_ := mK ((by rw [hg]; exact (bZ (by repeat first|(with_reducible first|exact HB.out|apply bA|apply bN|apply bD|refine bS ?_ GE234.out)|exact HB.out)) : w.heap.size ≤ gb240)); have n6_ := mK ((by rw [hg]; exact (bZ (by repeat first|(with_reducible first|exact HB.out|apply bA|apply bN|apply bD|refine bS ?_ GE234.out)|exact HB.out)) : w.heap.size ≤ gb240)); have n7_ := mK ((by rw [hg]; exact Nat.ne_of_lt (blk_lt (by (with_reducible repeat first|apply kN|apply kD|apply kA); exact BK234.out)) : gb234 ≠ gb240)); have n8_ := mK ((by rw [hg]; exact Nat.ne_of_gt (blk_lt (by (with_reducible repeat first|apply kN|apply kD|apply kA); exact BK234.out)) : gb240 ≠ gb234)); clear HO233; clear HO238; clear BK234; clear HB; have HO233 := n0_; have HO238 := n1_; have BK234 := n2_; have HB := n3_; have BK240 := n4_; have GW240 := n5_; have GE240 := n6_; have NB234_240 := n7_; have NB240_234 := n8_; clear n0_ n1_ n2_ n3_ n4_ n5_ n6_ n7_ n8_; clear hb hbox hg; have hnb21 := NB240_234.out; have hnc21 := NB234_240.out; have hcz22_0 : w20.cell? ⟨gb240, 0, none⟩ = some (.int .i64 0) := (kC BK240.out 0).trans rfl; have hcz22_1 : w20.cell? ⟨gb240, 1, none⟩ = some (.slice none 0 0) := (kC BK240.out 1).trans rfl; have hfz22_0 := blk_frozen BK240.out 0; have hfz22_1 := blk_frozen BK240.out 1; obtain ⟨Ao23, co23, eo23⟩ := Kd.R_slice HO238.out; subst eo23))
 have n0_ : Aside0 (Kd.R k39 39 ((w20.setCell ⟨gb240, 0, none⟩ (.int .i64 t235)).setCell ⟨gb240, 1, none⟩ (.slice Ao23 t236.length co23)) w.heap.size (fun _ => True) (.slice Ao18 t231.length co18) t231) := ⟨by (with_reducible repeat first|apply rA|apply rN|apply rD); exact rM (Kd.R_far (p := ⟨gb240, 1, none⟩) (Kd.R_far (p := ⟨gb240, 0, none⟩) (Kd.R_types HO233.out BK240.out (by decide)) (fun _ hk => hk.2) (.int .i64 t235)) (fun _ hk => hk.2) (.slice Ao23 t236.length co23)) (fun _ hk => trivial)⟩
 have n1_ : Aside0 (Kd.R (Kd.int .i64) 3 ((w20.setCell ⟨gb240, 0, none⟩ (.int .i64 t235)).setCell ⟨gb240, 1, none⟩ (.slice Ao23 t236.length co23)) w.heap.size (fun _ => True) (.slice Ao23 t236.length co23) t236) := ⟨by (with_reducible repeat first|apply rA|apply rN|apply rD); exact rM (Kd.R_far (p := ⟨gb240, 1, none⟩) (Kd.R_far (p := ⟨gb240, 0, none⟩) (Kd.R_types HO238.out BK240.out (by decide)) (fun _ hk => hk.2) (.int .i64 t235)) (fun _ hk => hk.2) (.slice Ao23 t236.length co23)) (fun _ hk => trivial)⟩
 have n2_ : Aside0 (((w20.setCell ⟨gb240, 0, none⟩ (.int .i64 t235)).setCell ⟨gb240, 1, none⟩ (.slice Ao23 t236.length co23)).heap[gb234]? = some (.cells #[.int .i64 t230, .slice Ao18 t231.length co18] 25 (0, 0))) := ⟨by (with_reducible repeat first|apply kN|apply kD|apply kA); refine blk_far ?_ NB234_240.out _; (with_reducible repeat first|apply kN|apply kD|apply kA); refine blk_far ?_ NB234_240.out _; (with_reducible repeat first|apply kN|apply kD|apply kA); exact BK234.out⟩
 have n3_ : Aside0 (((w20.setCell ⟨gb240, 0, none⟩ (.int .i64 t235)).setCell ⟨gb240, 1, none⟩ (.slice Ao23 t236.length co23)).heap[gb240]? = some (.cells #[.int .i64 t235, .slice Ao23 t236.length co23] 29 (0, 0))) := ⟨by (with_reducible repeat first|apply kN|apply kD|apply kA); refine blk_put (cs := #[.int .i64 t235, .slice none 0 0]) ?_ 1 _ rfl; (with_reducible repeat first|apply kN|apply kD|apply kA); refine blk_put (cs := #[.int .i64 0, .slice none 0 0]) ?_ 0 _ rfl; (with_reducible repeat first|apply kN|apply kD|apply kA); exact BK240.out⟩
 have n4_ : Aside0 (Below w.heap.size w ((w20.setCell ⟨gb240, 0, none⟩ (.int .i64 t235)).setCell ⟨gb240, 1, none⟩ (.slice Ao23 t236.length co23))) := ⟨by repeat first|(with_reducible first|exact HB.out|apply bA|apply bN|apply bD|refine bS ?_ GE234.out|refine bS ?_ GE240.out)|exact HB.out⟩
 (try clear HO233)
 (try clear HO238)
 (try clear BK234)
 (try clear BK240)
 (try clear HB)
 generalize ((w20.setCell ⟨gb240, 0, none⟩ (.int .i64 t235)).setCell ⟨gb240, 1, none⟩ (.slice Ao23 t236.length co23)) = w24 at n0_ n1_ n2_ n3_ n4_ ⊢
 have HO233 := n0_
 have HO238 := n1_
 have BK234 := n2_
 have BK240 := n3_
 have HB := n4_
 clear n0_ n1_ n2_ n3_ n4_
 have n0_ := mK (Kd.R_drew HO233.out)
 have n1_ := mK (Kd.R_drew HO238.out)
 have n2_ := mK (blk_drew BK234.out)
 have n3_ := mK (blk_drew BK240.out)
 have n4_ := mK (below_drew1 HB.out)
 clear HO233
 clear HO238
 clear BK234
 clear BK240
 clear HB
 have HO233 := n0_
 have HO238 := n1_
 have BK234 := n2_
 have BK240 := n3_
 have HB := n4_
 clear n0_ n1_ n2_ n3_ n4_
 refine start_ (n := 17) (S := fun w' => w'.cell? ⟨gb234, 0, none⟩ = some (.int .i64 t230) ∧ w'.cell? ⟨gb234, 1, none⟩ = some (.slice Ao18 t231.length co18)) (ds := []) #[false,false,false,false,false,false,false,false,false,false,false,false,false,false,false,false,false] (by kernel_rfl) rfl rfl ⟨(kC BK234.out 0).trans rfl, (kC BK234.out 1).trans rfl⟩ (fun hHeld => ?_); refine with_tabW laws_FnTightened.tab7 laws_FnTightened.bits7 (fun HT_ HW_ => ?_)
 generalize w24.drew = w25 at HO233 HO238 BK234 BK240 HB hHeld ⊢
 refine pure_ (i := 0) (N := some 38) (v := ?_) (a' := ?_) #[true,false,false,false,false,false,false,false,false,false,false,false,false,false,false,false,false] rfl rfl (any_of HT_.out (by kernel_rfl)) (fun _ _ _ h => h) (Or.inl ⟨by rfl, ?_⟩) ?_ ?_
 rotate_left
 {
 intro w'
 go_simp
 with_reducible rfl
 }
 rotate_left
 {
 simp only [Act.put, sT, sZ, sU, i64_w, i32_w]
 rfl
 }
 refine pure_ (i := 2) (N := some 40) (v := ?_) (a' := ?_) #[true,false,true,false,false,false,false,false,false,false,false,false,false,false,false,false,false] rfl rfl (any_of HT_.out (by kernel_rfl)) (fun _ _ _ h => h) (Or.inl ⟨by rfl, ?_⟩) ?_ ?_
 rotate_left
 {
 intro w'
 go_simp
 with_reducible rfl
 }
 rotate_left
 {
 simp only [Act.put, sT, sZ, sU, i64_w, i32_w]
 rfl
 }
 refine pure_ (i := 5) (N := some 43) (v := ?_) (a' := ?_) #[true,false,true,false,false,true,false,false,false,false,false,false,false,false,false,false,false] rfl rfl (any_of HT_.out (by kernel_rfl)) (fun _ _ _ h => h) (Or.inl ⟨by rfl, ?_⟩) ?_ ?_
 rotate_left
 {
 intro w'
 go_simp
 with_reducible rfl
 }
 rotate_left
 {
 simp only [Act.put, sT, sZ, sU, i64_w, i32_w]
 rfl
 }
 refine pure_ (i := 7) (N := some 45) (v := ?_) (a' := ?_) #[true,false,true,false,false,true,false,true,false,false,false,false,false,false,false,false,false] rfl rfl (any_of HT_.out (by kernel_rfl)) (fun _ _ _ h => h) (Or.inl ⟨by rfl, ?_⟩) ?_ ?_
 rotate_left
 {
 intro w'
 go_simp
 with_reducible rfl
 }
 rotate_left
 {
 simp only [Act.put, sT, sZ, sU, i64_w, i32_w]
 rfl
 }
 refine pure_ (i := 10) (N := some 48) (v := ?_) (a' := ?_) #[true,false,true,false,false,true,false,true,false,false,true,false,false,false,false,false,false] rfl rfl (any_of HT_.out (by kernel_rfl)) (fun _ _ _ h => h) (Or.inl ⟨by rfl, ?_⟩) ?_ ?_
 rotate_left
 {
 intro w'
 go_simp
 with_reducible rfl
 }
 rotate_left
 {
 simp only [Act.put, sT, sZ, sU, i64_w, i32_w]
 rfl
 }
 refine take_ (i := 3) (N := some 41) (v := ?_) (a' := ?_) #[true,false,true,true,false,true,false,true,false,false,true,false,false,false,false,false,false] rfl rfl (take_ofW HT_.out HW_.out (by kernel_rfl)) (fun _ _ _ h => h) (Or.inl ⟨by rfl, ?_⟩) hHeld ?_ ?_
 rotate_left
 {
 rintro w' ⟨s0, s1⟩
 go_simp
 with_reducible rfl
 }
 rotate_left
 {
 simp only [Act.put, sT, sZ, sU, i64_w, i32_w]
 rfl
 }
 refine take_ (i := 8) (N := some 46) (v := ?_) (a' := ?_) #[true,false,true,true,false,true,false,true,true,false,true,false,false,false,false,false,false] rfl rfl (take_ofW HT_.out HW_.out (by kernel_rfl)) (fun _ _ _ h => h) (Or.inl ⟨by rfl, ?_⟩) hHeld ?_ ?_
 rotate_left
 {
 rintro w' ⟨s0, s1⟩
 go_simp
 with_reducible rfl
 }
 rotate_left
 {
 simp only [Act.put, sT, sZ, sU, i64_w, i32_w]
 rfl
 }
 refine join_ (σ := Nat) 1 #[true,true,true,true,true,true,true,true,true,true,true,true,true,true,true,true,false] (fun s_ => [(39, .int .i64 t246), (44, .int .i64 t247), (49, .int .i64 t248), (6, .pointer (some ⟨s_, 0, none⟩)), (42, .int .i64 (Int.tmod t246 t230)), (47, .int .i64 (Int.tmod t247 t230)), (50, .int .i64 (Int.tmod t248 12)), (51, .int .i64 (wrap64 ((Int.tmod t248 12) - 3))), (52, .agg #[.int .i64 (Int.tmod t246 t230), .int .i64 (Int.tmod t247 t230), .int .i64 (wrap64 ((Int.tmod t248 12) - 3))])]) (fun s_ w' => (w'.cell? ⟨gb234, 0, none⟩ = some (.int .i64 t230) ∧ w'.cell? ⟨gb234, 1, none⟩ = some (.slice Ao18 t231.length co18)) ∧ (Kd.R k39 39 w' w.heap.size (fun k_ => k_ ≠ s_) (.slice Ao18 t231.length co18) t231) ∧ (Kd.R (Kd.int .i64) 3 w' w.heap.size (fun _ => True) (.slice Ao23 t236.length co23) t236) ∧ (w'.heap[gb234]? = some (.cells #[.int .i64 t230, .slice Ao18 t231.length co18] 25 (0, 0))) ∧ (w'.heap[gb240]? = some (.cells #[.int .i64 t235, .slice Ao23 t236.length co23] 29 (0, 0))) ∧ (w'.heap[s_]? = some (.cells #[.int .i64 0, .int .i64 0, .int .i64 0] 39 (0, 0))) ∧ (w.heap.size ≤ s_) ∧ (w.heap.size ≤ s_) ∧ (gb234 ≠ s_) ∧ (s_ ≠ gb234) ∧ (gb240 ≠ s_) ∧ (s_ ≠ gb240) ∧ (Below w.heap.size w w')) ?_ ?_
 rotate_left
 {
 intro hCont
 refine two_ (i := 1) (j := 15) (Ni := some 39) (Nj := some 6) #[true,true,true,true,false,true,false,true,true,false,true,false,false,false,false,false,false] #[true,false,true,true,false,true,false,true,true,false,true,false,false,false,false,true,false] rfl rfl rfl rfl (two_of HT_.out (by kernel_rfl)) (by decide) (by decide) (fun K hK => ?_) (fun K hK => ?_)
 {
 skip
 refine goes_ Try.func20 (by kernel_rfl) rfl #[.slice A0 l0.length c0, .int .i64 30] (by rfl) rfl rfl (by (try simp only [List.map_toArray, List.map_cons, List.map_nil]); first | done | rfl | (simp only [List.length_drop, List.length_take]; rfl)) ?_
 with_reducible refine (spec_MakeNum.calls k _ _ l0 30 t246 _ ?side1 ?side2 A6.out).mono ?_
 (case side1 => repeat (first | exact (Kd.C_below HR0.out HB.out) | (with_reducible refine Kd.C_alloc ?_ _) | (with_reducible refine Kd.C_drewN ?_ _) | (with_reducible refine Kd.C_drew ?_)))
 (case side2 => exact HC0.out)
 rintro e w26 ⟨rfl, hb⟩
 refine ⟨_, rfl, ?_⟩
 have n0_ := mK (rB (by (with_reducible repeat first|apply rA|apply rN|apply rD); exact HO233.out) hb)
 have n1_ := mK (rB (by (with_reducible repeat first|apply rA|apply rN|apply rD); exact HO238.out) hb)
 have n2_ := mK (kB (by (with_reducible repeat first|apply kN|apply kD|apply kA); exact BK234.out) hb)
 have n3_ := mK (kB (by (with_reducible repeat first|apply kN|apply kD|apply kA); exact BK240.out) hb)
 have n4_ := mK (bP (by repeat first|(with_reducible first|exact HB.out|apply bA|apply bN|apply bD|refine bS ?_ GE234.out|refine bS ?_ GE240.out)|exact HB.out) hb)
 clear HO233
 clear HO238
 clear BK234
 clear BK240
 clear HB
 have HO233 := n0_
 have HO238 := n1_
 have BK234 := n2_
 have BK240 := n3_
 have HB := n4_
 clear n0_ n1_ n2_ n3_ n4_
 (try clear hb)
 (try clear hb2)
 (try clear hk)
 (try clear hi)
 refine hK.out _ _ ⟨(kC BK234.out 0).trans rfl, (kC BK234.out 1).trans rfl⟩ (fun hHeld => ?_)
 clear hK K
 refine norm_ (a' := ?_) ?_ ?_
 rotate_left
 {
 show Act.put _ (some 39) _ = _
 simp only [Act.put, sT, sZ, sU, i64_w, i32_w]
 rfl
 }
 refine pure_ (i := 4) (N := some 42) (v := ?_) (a' := ?_) #[true,true,true,true,true,true,false,true,true,false,true,false,false,false,false,false,false] rfl rfl (any_of HT_.out (by kernel_rfl)) (fun _ _ _ h => h) (Or.inl ⟨by rfl, ?_⟩) ?_ ?_
 rotate_left
 {
 intro w'
 go_simp
 with_reducible rfl
 }
 rotate_left
 {
 simp only [Act.put, sT, sZ, sU, i64_w, i32_w]
 rfl
 }
 refine two_ (i := 6) (j := 15) (Ni := some 44) (Nj := some 6) #[true,true,true,true,true,true,true,true,true,false,true,false,false,false,false,false,false] #[true,true,true,true,true,true,false,true,true,false,true,false,false,false,false,true,false] rfl rfl rfl rfl (two_of HT_.out (by kernel_rfl)) (by decide) (by decide) (fun K hK => ?_) (fun K hK => ?_)
 {
 skip
 refine goes_ Try.func20 (by kernel_rfl) rfl #[.slice A0 l0.length c0, .int .i64 32] (by rfl) rfl rfl (by (try simp only [List.map_toArray, List.map_cons, List.map_nil]); first | done | rfl | (simp only [List.length_drop, List.length_take]; rfl)) ?_
 with_reducible refine (spec_MakeNum.calls k _ _ l0 32 t247 _ ?side1 ?side2 A8.out).mono ?_
 (case side1 => repeat (first | exact (Kd.C_below HR0.out HB.out) | (with_reducible refine Kd.C_alloc ?_ _) | (with_reducible refine Kd.C_drewN ?_ _) | (with_reducible refine Kd.C_drew ?_)))
 (case side2 => exact HC0.out)
 rintro e w27 ⟨rfl, hb⟩
 refine ⟨_, rfl, ?_⟩
 have n0_ := mK (rB (by (with_reducible repeat first|apply rA|apply rN|apply rD); exact HO233.out) hb)
 have n1_ := mK (rB (by (with_reducible repeat first|apply rA|apply rN|apply rD); exact HO238.out) hb)
 have n2_ := mK (kB (by (with_reducible repeat first|apply kN|apply kD|apply kA); exact BK234.out) hb)
 have n3_ := mK (kB (by (with_reducible repeat first|apply kN|apply kD|apply kA); exact BK240.out) hb)
 have n4_ := mK (bP (by repeat first|(with_reducible first|exact HB.out|apply bA|apply bN|apply bD|refine bS ?_ GE234.out|refine bS ?_ GE240.out)|exact HB.out) hb)
 clear HO233
 clear HO238
 clear BK234
 clear BK240
 clear HB
 have HO233 := n0_
 have HO238 := n1_
 have BK234 := n2_
 have BK240 := n3_
 have HB := n4_
 clear n0_ n1_ n2_ n3_ n4_
 (try clear hb)
 (try clear hb2)
 (try clear hk)
 (try clear hi)
 refine hK.out _ _ ⟨(kC BK234.out 0).trans rfl, (kC BK234.out 1).trans rfl⟩ (fun hHeld => ?_)
 clear hK K
 refine norm_ (a' := ?_) ?_ ?_
 rotate_left
 {
 show Act.put _ (some 44) _ = _
 simp only [Act.put, sT, sZ, sU, i64_w, i32_w]
 rfl
 }
 refine pure_ (i := 9) (N := some 47) (v := ?_) (a' := ?_) #[true,true,true,true,true,true,true,true,true,true,true,false,false,false,false,false,false] rfl rfl (any_of HT_.out (by kernel_rfl)) (fun _ _ _ h => h) (Or.inl ⟨by rfl, ?_⟩) ?_ ?_
 rotate_left
 {
 intro w'
 go_simp
 with_reducible rfl
 }
 rotate_left
 {
 simp only [Act.put, sT, sZ, sU, i64_w, i32_w]
 rfl
 }
 refine two_ (i := 11) (j := 15) (Ni := some 49) (Nj := some 6) #[true,true,true,true,true,true,true,true,true,true,true,true,false,false,false,false,false] #[true,true,true,true,true,true,true,true,true,true,true,false,false,false,false,true,false] rfl rfl rfl rfl (two_of HT_.out (by kernel_rfl)) (by decide) (by decide) (fun K hK => ?_) (fun K hK => ?_)
 {
 skip
 refine goes_ Try.func20 (by kernel_rfl) rfl #[.slice A0 l0.length c0, .int .i64 34] (by rfl) rfl rfl (by (try simp only [List.map_toArray, List.map_cons, List.map_nil]); first | done | rfl | (simp only [List.length_drop, List.length_take]; rfl)) ?_
 with_reducible refine (spec_MakeNum.calls k _ _ l0 34 t248 _ ?side1 ?side2 A9.out).mono ?_
 (case side1 => repeat (first | exact (Kd.C_below HR0.out HB.out) | (with_reducible refine Kd.C_alloc ?_ _) | (with_reducible refine Kd.C_drewN ?_ _) | (with_reducible refine Kd.C_drew ?_)))
 (case side2 => exact HC0.out)
 rintro e w28 ⟨rfl, hb⟩
 refine ⟨_, rfl, ?_⟩
 have n0_ := mK (rB (by (with_reducible repeat first|apply rA|apply rN|apply rD); exact HO233.out) hb)
 have n1_ := mK (rB (by (with_reducible repeat first|apply rA|apply rN|apply rD); exact HO238.out) hb)
 have n2_ := mK (kB (by (with_reducible repeat first|apply kN|apply kD|apply kA); exact BK234.out) hb)
 have n3_ := mK (kB (by (with_reducible repeat first|apply kN|apply kD|apply kA); exact BK240.out) hb)
 have n4_ := mK (bP (by repeat first|(with_reducible first|exact HB.out|apply bA|apply bN|apply bD|refine bS ?_ GE234.out|refine bS ?_ GE240.out)|exact HB.out) hb)
 clear HO233
 clear HO238
 clear BK234
 clear BK240
 clear HB
 have HO233 := n0_
 have HO238 := n1_
 have BK234 := n2_
 have BK240 := n3_
 have HB := n4_
 clear n0_ n1_ n2_ n3_ n4_
 (try clear hb)
 (try clear hb2)
 (try clear hk)
 (try clear hi)
 refine hK.out _ _ ⟨(kC BK234.out 0).trans rfl, (kC BK234.out 1).trans rfl⟩ (fun hHeld => ?_)
 clear hK K
 refine norm_ (a' := ?_) ?_ ?_
 rotate_left
 {
 show Act.put _ (some 49) _ = _
 simp only [Act.put, sT, sZ, sU, i64_w, i32_w]
 rfl
 }
 refine pure_ (i := 12) (N := some 50) (v := ?_) (a' := ?_) #[true,true,true,true,true,true,true,true,true,true,true,true,true,false,false,false,false] rfl rfl (any_of HT_.out (by kernel_rfl)) (fun _ _ _ h => h) (Or.inl ⟨by rfl, ?_⟩) ?_ ?_
 rotate_left
 {
 intro w'
 go_simp
 with_reducible rfl
 }
 rotate_left
 {
 simp only [Act.put, sT, sZ, sU, i64_w, i32_w]
 rfl
 }
 refine pure_ (i := 13) (N := some 51) (v := ?_) (a' := ?_) #[true,true,true,true,true,true,true,true,true,true,true,true,true,true,false,false,false] rfl rfl (any_of HT_.out (by kernel_rfl)) (fun _ _ _ h => h) (Or.inl ⟨by rfl, ?_⟩) ?_ ?_
 rotate_left
 {
 intro w'
 go_simp
 with_reducible rfl
 }
 rotate_left
 {
 simp only [Act.put, sT, sZ, sU, i64_w, i32_w]
 rfl
 }
 refine pure_ (i := 14) (N := some 52) (v := ?_) (a' := ?_) #[true,true,true,true,true,true,true,true,true,true,true,true,true,true,true,false,false] rfl rfl (any_of HT_.out (by kernel_rfl)) (fun _ _ _ h => h) (Or.inl ⟨by rfl, ?_⟩) ?_ ?_
 rotate_left
 {
 intro w'
 go_simp
 with_reducible rfl
 }
 rotate_left
 {
 simp only [Act.put, sT, sZ, sU, i64_w, i32_w]
 rfl
 }
 refine one_ (i := 15) (N := some 6) #[true,true,true,true,true,true,true,true,true,true,true,true,true,true,true,true,false] rfl rfl (one_of HT_.out (by kernel_rfl)) (by decide) (fun K hK => ?_)
 refine box_step ?hg (N := 6) ?hd (cs := #[.int .i64 0, .int .i64 0, .int .i64 0]) (t := 39) ?hr ?_; (case hd => rfl); (case hg => rfl); (case hr => go_simp <;> rfl)
 intro gb249 hg w29 hbox hb
 have n0_ := mK (rB (Kd.R_elderB (by (with_reducible repeat first|apply rA|apply rN|apply rD); exact HO233.out) gb249 (Nat.le_of_eq hg.symm)) hb)
 have n1_ := mK (rB (by (with_reducible repeat first|apply rA|apply rN|apply rD); exact HO238.out) hb)
 have n2_ := mK (kB (by (with_reducible repeat first|apply kN|apply kD|apply kA); exact BK234.out) hb)
 have n3_ := mK (kB (by (with_reducible repeat first|apply kN|apply kD|apply kA); exact BK240.out) hb)
 have n4_ := mK (bP (by repeat first|(with_reducible first|exact HB.out|apply bA|apply bN|apply bD|refine bS ?_ GE234.out|refine bS ?_ GE240.out)|exact HB.out) hb)
 have n5_ := mK (hbox)
 have n6_ := mK ((by rw [hg]; exact (bZ (by repeat first|(with_reducible first|exact HB.out|apply bA|apply bN|apply bD|refine bS ?_ GE234.out|refine bS ?_ GE240.out)|exact HB.out)) : w.heap.size ≤ gb249))
 have n7_ := mK ((by rw [hg]; exact (bZ (by repeat first|(with_reducible first|exact HB.out|apply bA|apply bN|apply bD|refine bS ?_ GE234.out|refine bS ?_ GE240.out)|exact HB.out)) : w.heap.size ≤ gb249))
 have n8_ := mK ((by rw [hg]; exact Nat.ne_of_lt (blk_lt (by (with_reducible repeat first|apply kN|apply kD|apply kA); exact BK234.out)) : gb234 ≠ gb249))
 have n9_ := mK ((by rw [hg]; exact Nat.ne_of_gt (blk_lt (by (with_reducible repeat first|apply kN|apply kD|apply kA); exact BK234.out)) : gb249 ≠ gb234))
 have n10_ := mK ((by rw [hg]; exact Nat.ne_of_lt (blk_lt (by (with_reducible repeat first|apply kN|apply kD|apply kA); exact BK240.out)) : gb240 ≠ gb249))
 have n11_ := mK ((by rw [hg]; exact Nat.ne_of_gt (blk_lt (by (with_reducible repeat first|apply kN|apply kD|apply kA); exact BK240.out)) : gb249 ≠ gb240))
 clear HO233
 clear HO238
 clear BK234
 clear BK240
 clear HB
 have HO233 := n0_
 have HO238 := n1_
 have BK234 := n2_
 have BK240 := n3_
 have HB := n4_
 have BK249 := n5_
 have GW249 := n6_
 have GE249 := n7_
 have NB234_249 := n8_
 have NB249_234 := n9_
 have NB240_249 := n10_
 have NB249_240 := n11_
 clear n0_ n1_ n2_ n3_ n4_ n5_ n6_ n7_ n8_ n9_ n10_ n11_
 clear hb hbox hg
 refine hK.out _ _ ⟨(kC BK234.out 0).trans rfl, (kC BK234.out 1).trans rfl⟩ (fun hHeld => ?_)
 clear hK K
 refine norm_ (a' := ?_) ?_ ?_
 rotate_left
 {
 show Act.put _ (some 6) _ = _
 simp only [Act.put, sT, sZ, sU, i64_w, i32_w]
 rfl
 }
 exact norm_ (by simp only [putAll, Act.put, sT, sZ, sU]) (hCont (gb249) _ ⟨hHeld, (rM HO233.out (fun _ hk => hk.2)), HO238.out, BK234.out, BK240.out, BK249.out, GW249.out, GE249.out, NB234_249.out, NB249_234.out, NB240_249.out, NB249_240.out, HB.out⟩)
 }
 {
 skip
 refine box_step ?hg (N := 6) ?hd (cs := #[.int .i64 0, .int .i64 0, .int .i64 0]) (t := 39) ?hr ?_; (case hd => rfl); (case hg => rfl); (case hr => go_simp <;> rfl)
 intro gb249 hg w28 hbox hb
 have n0_ := mK (rB (Kd.R_elderB (by (with_reducible repeat first|apply rA|apply rN|apply rD); exact HO233.out) gb249 (Nat.le_of_eq hg.symm)) hb)
 have n1_ := mK (rB (by (with_reducible repeat first|apply rA|apply rN|apply rD); exact HO238.out) hb)
 have n2_ := mK (kB (by (with_reducible repeat first|apply kN|apply kD|apply kA); exact BK234.out) hb)
 have n3_ := mK (kB (by (with_reducible repeat first|apply kN|apply kD|apply kA); exact BK240.out) hb)
 have n4_ := mK (bP (by repeat first|(with_reducible first|exact HB.out|apply bA|apply bN|apply bD|refine bS ?_ GE234.out|refine bS ?_ GE240.out)|exact HB.out) hb)
 have n5_ := mK (hbox)
 have n6_ := mK ((by rw [hg]; exact (bZ (by repeat first|(with_reducible first|exact HB.out|apply bA|apply bN|apply bD|refine bS ?_ GE234.out|refine bS ?_ GE240.out)|exact HB.out)) : w.heap.size ≤ gb249))
 have n7_ := mK ((by rw [hg]; exact (bZ (by repeat first|(with_reducible first|exact HB.out|apply bA|apply bN|apply bD|refine bS ?_ GE234.out|refine bS ?_ GE240.out)|exact HB.out)) : w.heap.size ≤ gb249))
 have n8_ := mK ((by rw [hg]; exact Nat.ne_of_lt (blk_lt (by (with_reducible repeat first|apply kN|apply kD|apply kA); exact BK234.out)) : gb234 ≠ gb249))
 have n9_ := mK ((by rw [hg]; exact Nat.ne_of_gt (blk_lt (by (with_reducible repeat first|apply kN|apply kD|apply kA); exact BK234.out)) : gb249 ≠ gb234))
 have n10_ := mK ((by rw [hg]; exact Nat.ne_of_lt (blk_lt (by (with_reducible repeat first|apply kN|apply kD|apply kA); exact BK240.out)) : gb240 ≠ gb249))
 have n11_ := mK ((by rw [hg]; exact Nat.ne_of_gt (blk_lt (by (with_reducible repeat first|apply kN|apply kD|apply kA); exact BK240.out)) : gb249 ≠ gb240))
 clear HO233
 clear HO238
 clear BK234
 clear BK240
 clear HB
 have HO233 := n0_
 have HO238 := n1_
 have BK234 := n2_
 have BK240 := n3_
 have HB := n4_
 have BK249 := n5_
 have GW249 := n6_
 have GE249 := n7_
 have NB234_249 := n8_
 have NB249_234 := n9_
 have NB240_249 := n10_
 have NB249_240 := n11_
 clear n0_ n1_ n2_ n3_ n4_ n5_ n6_ n7_ n8_ n9_ n10_ n11_
 clear hb hbox hg
 refine hK.out _ _ ⟨(kC BK234.out 0).trans rfl, (kC BK234.out 1).trans rfl⟩ (fun hHeld => ?_)
 clear hK K
 refine norm_ (a' := ?_) ?_ ?_
 rotate_left
 {
 show Act.put _ (some 6) _ = _
 simp only [Act.put, sT, sZ, sU, i64_w, i32_w]
 rfl
 }
 refine one_ (i := 11) (N := some 49) #[true,true,true,true,true,true,true,true,true,true,true,true,false,false,false,true,false] rfl rfl (one_of HT_.out (by kernel_rfl)) (by decide) (fun K hK => ?_)
 refine goes_ Try.func20 (by kernel_rfl) rfl #[.slice A0 l0.length c0, .int .i64 34] (by rfl) rfl rfl (by (try simp only [List.map_toArray, List.map_cons, List.map_nil]); first | done | rfl | (simp only [List.length_drop, List.length_take]; rfl)) ?_
 with_reducible refine (spec_MakeNum.calls k _ _ l0 34 t248 _ ?side1 ?side2 A9.out).mono ?_
 (case side1 => repeat (first | exact (Kd.C_below HR0.out HB.out) | (with_reducible refine Kd.C_alloc ?_ _) | (with_reducible refine Kd.C_drewN ?_ _) | (with_reducible refine Kd.C_drew ?_)))
 (case side2 => exact HC0.out)
 rintro e w29 ⟨rfl, hb⟩
 refine ⟨_, rfl, ?_⟩
 have n0_ := mK (rB (by (with_reducible repeat first|apply rA|apply rN|apply rD); exact HO233.out) hb)
 have n1_ := mK (rB (by (with_reducible repeat first|apply rA|apply rN|apply rD); exact HO238.out) hb)
 have n2_ := mK (kB (by (with_reducible repeat first|apply kN|apply kD|apply kA); exact BK234.out) hb)
 have n3_ := mK (kB (by (with_reducible repeat first|apply kN|apply kD|apply kA); exact BK240.out) hb)
 have n4_ := mK (kB (by (with_reducible repeat first|apply kN|apply kD|apply kA); exact BK249.out) hb)
 have n5_ := mK (bP (by repeat first|(with_reducible first|exact HB.out|apply bA|apply bN|apply bD|refine bS ?_ GE234.out|refine bS ?_ GE240.out|refine bS ?_ GE249.out)|exact HB.out) hb)
 clear HO233
 clear HO238
 clear BK234
 clear BK240
 clear BK249
 clear HB
 have HO233 := n0_
 have HO238 := n1_
 have BK234 := n2_
 have BK240 := n3_
 have BK249 := n4_
 have HB := n5_
 clear n0_ n1_ n2_ n3_ n4_ n5_
 (try clear hb)
 (try clear hb2)
 (try clear hk)
 (try clear hi)
 refine hK.out _ _ ⟨(kC BK234.out 0).trans rfl, (kC BK234.out 1).trans rfl⟩ (fun hHeld => ?_)
 clear hK K
 refine norm_ (a' := ?_) ?_ ?_
 rotate_left
 {
 show Act.put _ (some 49) _ = _
 simp only [Act.put, sT, sZ, sU, i64_w, i32_w]
 rfl
 }
 refine pure_ (i := 12) (N := some 50) (v := ?_) (a' := ?_) #[true,true,true,true,true,true,true,true,true,true,true,true,true,false,false,true,false] rfl rfl (any_of HT_.out (by kernel_rfl)) (fun _ _ _ h => h) (Or.inl ⟨by rfl, ?_⟩) ?_ ?_
 rotate_left
 {
 intro w'
 go_simp
 with_reducible rfl
 }
 rotate_left
 {
 simp only [Act.put, sT, sZ, sU, i64_w, i32_w]
 rfl
 }
 refine pure_ (i := 13) (N := some 51) (v := ?_) (a' := ?_) #[true,true,true,true,true,true,true,true,true,true,true,true,true,true,false,true,false] rfl rfl (any_of HT_.out (by kernel_rfl)) (fun _ _ _ h => h) (Or.inl ⟨by rfl, ?_⟩) ?_ ?_
 rotate_left
 {
 intro w'
 go_simp
 with_reducible rfl
 }
 rotate_left
 {
 simp only [Act.put, sT, sZ, sU, i64_w, i32_w]
 rfl
 }
 refine pure_ (i := 14) (N := some 52) (v := ?_) (a' := ?_) #[true,true,true,true,true,true,true,true,true,true,true,true,true,true,true,true,false] rfl rfl (any_of HT_.out (by kernel_rfl)) (fun _ _ _ h => h) (Or.inl ⟨by rfl, ?_⟩) ?_ ?_
 rotate_left
 {
 intro w'
 go_simp
 with_reducible rfl
 }
 rotate_left
 {
 simp only [Act.put, sT, sZ, sU, i64_w, i32_w]
 rfl
 }
 exact norm_ (by simp only [putAll, Act.put, sT, sZ, sU]) (hCont (gb249) _ ⟨hHeld, (rM HO233.out (fun _ hk => hk.2)), HO238.out, BK234.out, BK240.out, BK249.out, GW249.out, GE249.out, NB234_249.out, NB249_234.out, NB240_249.out, NB249_240.out, HB.out⟩)
 }
 }
 {
 skip
 refine box_step ?hg (N := 6) ?hd (cs := #[.int .i64 0, .int .i64 0, .int .i64 0]) (t := 39) ?hr ?_; (case hd => rfl); (case hg => rfl); (case hr => go_simp <;> rfl)
 intro gb249 hg w27 hbox hb
 have n0_ := mK (rB (Kd.R_elderB (by (with_reducible repeat first|apply rA|apply rN|apply rD); exact HO233.out) gb249 (Nat.le_of_eq hg.symm)) hb)
 have n1_ := mK (rB (by (with_reducible repeat first|apply rA|apply rN|apply rD); exact HO238.out) hb)
 have n2_ := mK (kB (by (with_reducible repeat first|apply kN|apply kD|apply kA); exact BK234.out) hb)
 have n3_ := mK (kB (by (with_reducible repeat first|apply kN|apply kD|apply kA); exact BK240.out) hb)
 have n4_ := mK (bP (by repeat first|(with_reducible first|exact HB.out|apply bA|apply bN|apply bD|refine bS ?_ GE234.out|refine bS ?_ GE240.out)|exact HB.out) hb)
 have n5_ := mK (hbox)
 have n6_ := mK ((by rw [hg]; exact (bZ (by repeat first|(with_reducible first|exact HB.out|apply bA|apply bN|apply bD|refine bS ?_ GE234.out|refine bS ?_ GE240.out)|exact HB.out)) : w.heap.size ≤ gb249))
 have n7_ := mK ((by rw [hg]; exact (bZ (by repeat first|(with_reducible first|exact HB.out|apply bA|apply bN|apply bD|refine bS ?_ GE234.out|refine bS ?_ GE240.out)|exact HB.out)) : w.heap.size ≤ gb249))
 have n8_ := mK ((by rw [hg]; exact Nat.ne_of_lt (blk_lt (by (with_reducible repeat first|apply kN|apply kD|apply kA); exact BK234.out)) : gb234 ≠ gb249))
 have n9_ := mK ((by rw [hg]; exact Nat.ne_of_gt (blk_lt (by (with_reducible repeat first|apply kN|apply kD|apply kA); exact BK234.out)) : gb249 ≠ gb234))
 have n10_ := mK ((by rw [hg]; exact Nat.ne_of_lt (blk_lt (by (with_reducible repeat first|apply kN|apply kD|apply kA); exact BK240.out)) : gb240 ≠ gb249))
 have n11_ := mK ((by rw [hg]; exact Nat.ne_of_gt (blk_lt (by (with_reducible repeat first|apply kN|apply kD|apply kA); exact BK240.out)) : gb249 ≠ gb240))
 clear HO233
 clear HO238
 clear BK234
 clear BK240
 clear HB
 have HO233 := n0_
 have HO238 := n1_
 have BK234 := n2_
 have BK240 := n3_
 have HB := n4_
 have BK249 := n5_
 have GW249 := n6_
 have GE249 := n7_
 have NB234_249 := n8_
 have NB249_234 := n9_
 have NB240_249 := n10_
 have NB249_240 := n11_
 clear n0_ n1_ n2_ n3_ n4_ n5_ n6_ n7_ n8_ n9_ n10_ n11_
 clear hb hbox hg
 refine hK.out _ _ ⟨(kC BK234.out 0).trans rfl, (kC BK234.out 1).trans rfl⟩ (fun hHeld => ?_)
 clear hK K
 refine norm_ (a' := ?_) ?_ ?_
 rotate_left
 {
 show Act.put _ (some 6) _ = _
 simp only [Act.put, sT, sZ, sU, i64_w, i32_w]
 rfl
 }
 refine one_ (i := 6) (N := some 44) #[true,true,true,true,true,true,true,true,true,false,true,false,false,false,false,true,false] rfl rfl (one_of HT_.out (by kernel_rfl)) (by decide) (fun K hK => ?_)
 refine goes_ Try.func20 (by kernel_rfl) rfl #[.slice A0 l0.length c0, .int .i64 32] (by rfl) rfl rfl (by (try simp only [List.map_toArray, List.map_cons, List.map_nil]); first | done | rfl | (simp only [List.length_drop, List.length_take]; rfl)) ?_
 with_reducible refine (spec_MakeNum.calls k _ _ l0 32 t247 _ ?side1 ?side2 A8.out).mono ?_
 (case side1 => repeat (first | exact (Kd.C_below HR0.out HB.out) | (with_reducible refine Kd.C_alloc ?_ _) | (with_reducible refine Kd.C_drewN ?_ _) | (with_reducible refine Kd.C_drew ?_)))
 (case side2 => exact HC0.out)
 rintro e w28 ⟨rfl, hb⟩
 refine ⟨_, rfl, ?_⟩
 have n0_ := mK (rB (by (with_reducible repeat first|apply rA|apply rN|apply rD); exact HO233.out) hb)
 have n1_ := mK (rB (by (with_reducible repeat first|apply rA|apply rN|apply rD); exact HO238.out) hb)
 have n2_ := mK (kB (by (with_reducible repeat first|apply kN|apply kD|apply kA); exact BK234.out) hb)
 have n3_ := mK (kB (by (with_reducible repeat first|apply kN|apply kD|apply kA); exact BK240.out) hb)
 have n4_ := mK (kB (by (with_reducible repeat first|apply kN|apply kD|apply kA); exact BK249.out) hb)
 have n5_ := mK (bP (by repeat first|(with_reducible first|exact HB.out|apply bA|apply bN|apply bD|refine bS ?_ GE234.out|refine bS ?_ GE240.out|refine bS ?_ GE249.out)|exact HB.out) hb)
 clear HO233
 clear HO238
 clear BK234
 clear BK240
 clear BK249
 clear HB
 have HO233 := n0_
 have HO238 := n1_
 have BK234 := n2_
 have BK240 := n3_
 have BK249 := n4_
 have HB := n5_
 clear n0_ n1_ n2_ n3_ n4_ n5_
 (try clear hb)
 (try clear hb2)
 (try clear hk)
 (try clear hi)
 refine hK.out _ _ ⟨(kC BK234.out 0).trans rfl, (kC BK234.out 1).trans rfl⟩ (fun hHeld => ?_)
 clear hK K
 refine norm_ (a' := ?_) ?_ ?_
 rotate_left
 {
 show Act.put _ (some 44) _ = _
 simp only [Act.put, sT, sZ, sU, i64_w, i32_w]
 rfl
 }
 refine pure_ (i := 9) (N := some 47) (v := ?_) (a' := ?_) #[true,true,true,true,true,true,true,true,true,true,true,false,false,false,false,true,false] rfl rfl (any_of HT_.out (by kernel_rfl)) (fun _ _ _ h => h) (Or.inl ⟨by rfl, ?_⟩) ?_ ?_
 rotate_left
 {
 intro w'
 go_simp
 with_reducible rfl
 }
 rotate_left
 {
 simp only [Act.put, sT, sZ, sU, i64_w, i32_w]
 rfl
 }
 refine one_ (i := 11) (N := some 49) #[true,true,true,true,true,true,true,true,true,true,true,true,false,false,false,true,false] rfl rfl (one_of HT_.out (by kernel_rfl)) (by decide) (fun K hK => ?_)
 refine goes_ Try.func20 (by kernel_rfl) rfl #[.slice A0 l0.length c0, .int .i64 34] (by rfl) rfl rfl (by (try simp only [List.map_toArray, List.map_cons, List.map_nil]); first | done | rfl | (simp only [List.length_drop, List.length_take]; rfl)) ?_
 with_reducible refine (spec_MakeNum.calls k _ _ l0 34 t248 _ ?side1 ?side2 A9.out).mono ?_
 (case side1 => repeat (first | exact (Kd.C_below HR0.out HB.out) | (with_reducible refine Kd.C_alloc ?_ _) | (with_reducible refine Kd.C_drewN ?_ _) | (with_reducible refine Kd.C_drew ?_)))
 (case side2 => exact HC0.out)
 rintro e w29 ⟨rfl, hb⟩
 refine ⟨_, rfl, ?_⟩
 have n0_ := mK (rB (by (with_reducible repeat first|apply rA|apply rN|apply rD); exact HO233.out) hb)
 have n1_ := mK (rB (by (with_reducible repeat first|apply rA|apply rN|apply rD); exact HO238.out) hb)
 have n2_ := mK (kB (by (with_reducible repeat first|apply kN|apply kD|apply kA); exact BK234.out) hb)
 have n3_ := mK (kB (by (with_reducible repeat first|apply kN|apply kD|apply kA); exact BK240.out) hb)
 have n4_ := mK (kB (by (with_reducible repeat first|apply kN|apply kD|apply kA); exact BK249.out) hb)
 have n5_ := mK (bP (by repeat first|(with_reducible first|exact HB.out|apply bA|apply bN|apply bD|refine bS ?_ GE234.out|refine bS ?_ GE240.out|refine bS ?_ GE249.out)|exact HB.out) hb)
 clear HO233
 clear HO238
 clear BK234
 clear BK240
 clear BK249
 clear HB
 have HO233 := n0_
 have HO238 := n1_
 have BK234 := n2_
 have BK240 := n3_
 have BK249 := n4_
 have HB := n5_
 clear n0_ n1_ n2_ n3_ n4_ n5_
 (try clear hb)
 (try clear hb2)
 (try clear hk)
 (try clear hi)
 refine hK.out _ _ ⟨(kC BK234.out 0).trans rfl, (kC BK234.out 1).trans rfl⟩ (fun hHeld => ?_)
 clear hK K
 refine norm_ (a' := ?_) ?_ ?_
 rotate_left
 {
 show Act.put _ (some 49) _ = _
 simp only [Act.put, sT, sZ, sU, i64_w, i32_w]
 rfl
 }
 refine pure_ (i := 12) (N := some 50) (v := ?_) (a' := ?_) #[true,true,true,true,true,true,true,true,true,true,true,true,true,false,false,true,false] rfl rfl (any_of HT_.out (by kernel_rfl)) (fun _ _ _ h => h) (Or.inl ⟨by rfl, ?_⟩) ?_ ?_
 rotate_left
 {
 intro w'
 go_simp
 with_reducible rfl
 }
 rotate_left
 {
 simp only [Act.put, sT, sZ, sU, i64_w, i32_w]
 rfl
 }
 refine pure_ (i := 13) (N := some 51) (v := ?_) (a' := ?_) #[true,true,true,true,true,true,true,true,true,true,true,true,true,true,false,true,false] rfl rfl (any_of HT_.out (by kernel_rfl)) (fun _ _ _ h => h) (Or.inl ⟨by rfl, ?_⟩) ?_ ?_
 rotate_left
 {
 intro w'
 go_simp
 with_reducible rfl
 }
 rotate_left
 {
 simp only [Act.put, sT, sZ, sU, i64_w, i32_w]
 rfl
 }
 refine pure_ (i := 14) (N := some 52) (v := ?_) (a' := ?_) #[true,true,true,true,true,true,true,true,true,true,true,true,true,true,true,true,false] rfl rfl (any_of HT_.out (by kernel_rfl)) (fun _ _ _ h => h) (Or.inl ⟨by rfl, ?_⟩) ?_ ?_
 rotate_left
 {
 intro w'
 go_simp
 with_reducible rfl
 }
 rotate_left
 {
 simp only [Act.put, sT, sZ, sU, i64_w, i32_w]
 rfl
 }
 exact norm_ (by simp only [putAll, Act.put, sT, sZ, sU]) (hCont (gb249) _ ⟨hHeld, (rM HO233.out (fun _ hk => hk.2)), HO238.out, BK234.out, BK240.out, BK249.out, GW249.out, GE249.out, NB234_249.out, NB249_234.out, NB240_249.out, NB249_240.out, HB.out⟩)
 }
 }
 {
 skip
 refine box_step ?hg (N := 6) ?hd (cs := #[.int .i64 0, .int .i64 0, .int .i64 0]) (t := 39) ?hr ?_; (case hd => rfl); (case hg => rfl); (case hr => go_simp <;> rfl)
 intro gb249 hg w26 hbox hb
 have n0_ := mK (rB (Kd.R_elderB (by (with_reducible repeat first|apply rA|apply rN|apply rD); exact HO233.out) gb249 (Nat.le_of_eq hg.symm)) hb)
 have n1_ := mK (rB (by (with_reducible repeat first|apply rA|apply rN|apply rD); exact HO238.out) hb)
 have n2_ := mK (kB (by (with_reducible repeat first|apply kN|apply kD|apply kA); exact BK234.out) hb)
 have n3_ := mK (kB (by (with_reducible repeat first|apply kN|apply kD|apply kA); exact BK240.out) hb)
 have n4_ := mK (bP (by repeat first|(with_reducible first|exact HB.out|apply bA|apply bN|apply bD|refine bS ?_ GE234.out|refine bS ?_ GE240.out)|exact HB.out) hb)
 have n5_ := mK (hbox)
 have n6_ := mK ((by rw [hg]; exact (bZ (by repeat first|(with_reducible first|exact HB.out|apply bA|apply bN|apply bD|refine bS ?_ GE234.out|refine bS ?_ GE240.out)|exact HB.out)) : w.heap.size ≤ gb249))
 have n7_ := mK ((by rw [hg]; exact (bZ (by repeat first|(with_reducible first|exact HB.out|apply bA|apply bN|apply bD|refine bS ?_ GE234.out|refine bS ?_ GE240.out)|exact HB.out)) : w.heap.size ≤ gb249))
 have n8_ := mK ((by rw [hg]; exact Nat.ne_of_lt (blk_lt (by (with_reducible repeat first|apply kN|apply kD|apply kA); exact BK234.out)) : gb234 ≠ gb249))
 have n9_ := mK ((by rw [hg]; exact Nat.ne_of_gt (blk_lt (by (with_reducible repeat first|apply kN|apply kD|apply kA); exact BK234.out)) : gb249 ≠ gb234))
 have n10_ := mK ((by rw [hg]; exact Nat.ne_of_lt (blk_lt (by (with_reducible repeat first|apply kN|apply kD|apply kA); exact BK240.out)) : gb240 ≠ gb249))
 have n11_ := mK ((by rw [hg]; exact Nat.ne_of_gt (blk_lt (by (with_reducible repeat first|apply kN|apply kD|apply kA); exact BK240.out)) : gb249 ≠ gb240))
 clear HO233
 clear HO238
 clear BK234
 clear BK240
 clear HB
 have HO233 := n0_
 have HO238 := n1_
 have BK234 := n2_
 have BK240 := n3_
 have HB := n4_
 have BK249 := n5_
 have GW249 := n6_
 have GE249 := n7_
 have NB234_249 := n8_
 have NB249_234 := n9_
 have NB240_249 := n10_
 have NB249_240 := n11_
 clear n0_ n1_ n2_ n3_ n4_ n5_ n6_ n7_ n8_ n9_ n10_ n11_
 clear hb hbox hg
 refine hK.out _ _ ⟨(kC BK234.out 0).trans rfl, (kC BK234.out 1).trans rfl⟩ (fun hHeld => ?_)
 clear hK K
 refine norm_ (a' := ?_) ?_ ?_
 rotate_left
 {
 show Act.put _ (some 6) _ = _
 simp only [Act.put, sT, sZ, sU, i64_w, i32_w]
 rfl
 }
 refine one_ (i := 1) (N := some 39) #[true,true,true,true,false,true,false,true,true,false,true,false,false,false,false,true,false] rfl rfl (one_of HT_.out (by kernel_rfl)) (by decide) (fun K hK => ?_)
 refine goes_ Try.func20 (by kernel_rfl) rfl #[.slice A0 l0.length c0, .int .i64 30] (by rfl) rfl rfl (by (try simp only [List.map_toArray, List.map_cons, List.map_nil]); first | done | rfl | (simp only [List.length_drop, List.length_take]; rfl)) ?_
 with_reducible refine (spec_MakeNum.calls k _ _ l0 30 t246 _ ?side1 ?side2 A6.out).mono ?_
 (case side1 => repeat (first | exact (Kd.C_below HR0.out HB.out) | (with_reducible refine Kd.C_alloc ?_ _) | (with_reducible refine Kd.C_drewN ?_ _) | (with_reducible refine Kd.C_drew ?_)))
 (case side2 => exact HC0.out)
 rintro e w27 ⟨rfl, hb⟩
 refine ⟨_, rfl, ?_⟩
 have n0_ := mK (rB (by (with_reducible repeat first|apply rA|apply rN|apply rD); exact HO233.out) hb)
 have n1_ := mK (rB (by (with_reducible repeat first|apply rA|apply rN|apply rD); exact HO238.out) hb)
 have n2_ := mK (kB (by (with_reducible repeat first|apply kN|apply kD|apply kA); exact BK234.out) hb)
 have n3_ := mK (kB (by (with_reducible repeat first|apply kN|apply kD|apply kA); exact BK240.out) hb)
 have n4_ := mK (kB (by (with_reducible repeat first|apply kN|apply kD|apply kA); exact BK249.out) hb)
 have n5_ := mK (bP (by repeat first|(with_reducible first|exact HB.out|apply bA|apply bN|apply bD|refine bS ?_ GE234.out|refine bS ?_ GE240.out|refine bS ?_ GE249.out)|exact HB.out) hb)
 clear HO233
 clear HO238
 clear BK234
 clear BK240
 clear BK249
 clear HB
 have HO233 := n0_
 have HO238 := n1_
 have BK234 := n2_
 have BK240 := n3_
 have BK249 := n4_
 have HB := n5_
 clear n0_ n1_ n2_ n3_ n4_ n5_
 (try clear hb)
 (try clear hb2)
 (try clear hk)
 (try clear hi)
 refine hK.out _ _ ⟨(kC BK234.out 0).trans rfl, (kC BK234.out 1).trans rfl⟩ (fun hHeld => ?_)
 clear hK K
 refine norm_ (a' := ?_) ?_ ?_
 rotate_left
 {
 show Act.put _ (some 39) _ = _
 simp only [Act.put, sT, sZ, sU, i64_w, i32_w]
 rfl
 }
 refine pure_ (i := 4) (N := some 42) (v := ?_) (a' := ?_) #[true,true,true,true,true,true,false,true,true,false,true,false,false,false,false,true,false] rfl rfl (any_of HT_.out (by kernel_rfl)) (fun _ _ _ h => h) (Or.inl ⟨by rfl, ?_⟩) ?_ ?_
 rotate_left
 {
 intro w'
 go_simp
 with_reducible rfl
 }
 rotate_left
 {
 simp only [Act.put, sT, sZ, sU, i64_w, i32_w]
 rfl
 }
 refine one_ (i := 6) (N := some 44) #[true,true,true,true,true,true,true,true,true,false,true,false,false,false,false,true,false] rfl rfl (one_of HT_.out (by kernel_rfl)) (by decide) (fun K hK => ?_)
 refine goes_ Try.func20 (by kernel_rfl) rfl #[.slice A0 l0.length c0, .int .i64 32] (by rfl) rfl rfl (by (try simp only [List.map_toArray, List.map_cons, List.map_nil]); first | done | rfl | (simp only [List.length_drop, List.length_take]; rfl)) ?_
 with_reducible refine (spec_MakeNum.calls k _ _ l0 32 t247 _ ?side1 ?side2 A8.out).mono ?_
 (case side1 => repeat (first | exact (Kd.C_below HR0.out HB.out) | (with_reducible refine Kd.C_alloc ?_ _) | (with_reducible refine Kd.C_drewN ?_ _) | (with_reducible refine Kd.C_drew ?_)))
 (case side2 => exact HC0.out)
 rintro e w28 ⟨rfl, hb⟩
 refine ⟨_, rfl, ?_⟩
 have n0_ := mK (rB (by (with_reducible repeat first|apply rA|apply rN|apply rD); exact HO233.out) hb)
 have n1_ := mK (rB (by (with_reducible repeat first|apply rA|apply rN|apply rD); exact HO238.out) hb)
 have n2_ := mK (kB (by (with_reducible repeat first|apply kN|apply kD|apply kA); exact BK234.out) hb)
 have n3_ := mK (kB (by (with_reducible repeat first|apply kN|apply kD|apply kA); exact BK240.out) hb)
 have n4_ := mK (kB (by (with_reducible repeat first|apply kN|apply kD|apply kA); exact BK249.out) hb)
 have n5_ := mK (bP (by repeat first|(with_reducible first|exact HB.out|apply bA|apply bN|apply bD|refine bS ?_ GE234.out|refine bS ?_ GE240.out|refine bS ?_ GE249.out)|exact HB.out) hb)
 clear HO233
 clear HO238
 clear BK234
 clear BK240
 clear BK249
 clear HB
 have HO233 := n0_
 have HO238 := n1_
 have BK234 := n2_
 have BK240 := n3_
 have BK249 := n4_
 have HB := n5_
 clear n0_ n1_ n2_ n3_ n4_ n5_
 (try clear hb)
 (try clear hb2)
 (try clear hk)
 (try clear hi)
 refine hK.out _ _ ⟨(kC BK234.out 0).trans rfl, (kC BK234.out 1).trans rfl⟩ (fun hHeld => ?_)
 clear hK K
 refine norm_ (a' := ?_) ?_ ?_
 rotate_left
 {
 show Act.put _ (some 44) _ = _
 simp only [Act.put, sT, sZ, sU, i64_w, i32_w]
 rfl
 }
 refine pure_ (i := 9) (N := some 47) (v := ?_) (a' := ?_) #[true,true,true,true,true,true,true,true,true,true,true,false,false,false,false,true,false] rfl rfl (any_of HT_.out (by kernel_rfl)) (fun _ _ _ h => h) (Or.inl ⟨by rfl, ?_⟩) ?_ ?_
 rotate_left
 {
 intro w'
 go_simp
 with_reducible rfl
 }
 rotate_left
 {
 simp only [Act.put, sT, sZ, sU, i64_w, i32_w]
 rfl
 }
 refine one_ (i := 11) (N := some 49) #[true,true,true,true,true,true,true,true,true,true,true,true,false,false,false,true,false] rfl rfl (one_of HT_.out (by kernel_rfl)) (by decide) (fun K hK => ?_)
 refine goes_ Try.func20 (by kernel_rfl) rfl #[.slice A0 l0.length c0, .int .i64 34] (by rfl) rfl rfl (by (try simp only [List.map_toArray, List.map_cons, List.map_nil]); first | done | rfl | (simp only [List.length_drop, List.length_take]; rfl)) ?_
 with_reducible refine (spec_MakeNum.calls k _ _ l0 34 t248 _ ?side1 ?side2 A9.out).mono ?_
 (case side1 => repeat (first | exact (Kd.C_below HR0.out HB.out) | (with_reducible refine Kd.C_alloc ?_ _) | (with_reducible refine Kd.C_drewN ?_ _) | (with_reducible refine Kd.C_drew ?_)))
 (case side2 => exact HC0.out)
 rintro e w29 ⟨rfl, hb⟩
 refine ⟨_, rfl, ?_⟩
 have n0_ := mK (rB (by (with_reducible repeat first|apply rA|apply rN|apply rD); exact HO233.out) hb)
 have n1_ := mK (rB (by (with_reducible repeat first|apply rA|apply rN|apply rD); exact HO238.out) hb)
 have n2_ := mK (kB (by (with_reducible repeat first|apply kN|apply kD|apply kA); exact BK234.out) hb)
 have n3_ := mK (kB (by (with_reducible repeat first|apply kN|apply kD|apply kA); exact BK240.out) hb)
 have n4_ := mK (kB (by (with_reducible repeat first|apply kN|apply kD|apply kA); exact BK249.out) hb)
 have n5_ := mK (bP (by repeat first|(with_reducible first|exact HB.out|apply bA|apply bN|apply bD|refine bS ?_ GE234.out|refine bS ?_ GE240.out|refine bS ?_ GE249.out)|exact HB.out) hb)
 clear HO233
 clear HO238
 clear BK234
 clear BK240
 clear BK249
 clear HB
 have HO233 := n0_
 have HO238 := n1_
 have BK234 := n2_
 have BK240 := n3_
 have BK249 := n4_
 have HB := n5_
 clear n0_ n1_ n2_ n3_ n4_ n5_
 (try clear hb)
 (try clear hb2)
 (try clear hk)
 (try clear hi)
 refine hK.out _ _ ⟨(kC BK234.out 0).trans rfl, (kC BK234.out 1).trans rfl⟩ (fun hHeld => ?_)
 clear hK K
 refine norm_ (a' := ?_) ?_ ?_
 rotate_left
 {
 show Act.put _ (some 49) _ = _
 simp only [Act.put, sT, sZ, sU, i64_w, i32_w]
 rfl
 }
 refine pure_ (i := 12) (N := some 50) (v := ?_) (a' := ?_) #[true,true,true,true,true,true,true,true,true,true,true,true,true,false,false,true,false] rfl rfl (any_of HT_.out (by kernel_rfl)) (fun _ _ _ h => h) (Or.inl ⟨by rfl, ?_⟩) ?_ ?_
 rotate_left
 {
 intro w'
 go_simp
 with_reducible rfl
 }
 rotate_left
 {
 simp only [Act.put, sT, sZ, sU, i64_w, i32_w]
 rfl
 }
 refine pure_ (i := 13) (N := some 51) (v := ?_) (a' := ?_) #[true,true,true,true,true,true,true,true,true,true,true,true,true,true,false,true,false] rfl rfl (any_of HT_.out (by kernel_rfl)) (fun _ _ _ h => h) (Or.inl ⟨by rfl, ?_⟩) ?_ ?_
 rotate_left
 {
 intro w'
 go_simp
 with_reducible rfl
 }
 rotate_left
 {
 simp only [Act.put, sT, sZ, sU, i64_w, i32_w]
 rfl
 }
 refine pure_ (i := 14) (N := some 52) (v := ?_) (a' := ?_) #[true,true,true,true,true,true,true,true,true,true,true,true,true,true,true,true,false] rfl rfl (any_of HT_.out (by kernel_rfl)) (fun _ _ _ h => h) (Or.inl ⟨by rfl, ?_⟩) ?_ ?_
 rotate_left
 {
 intro w'
 go_simp
 with_reducible rfl
 }
 rotate_left
 {
 simp only [Act.put, sT, sZ, sU, i64_w, i32_w]
 rfl
 }
 exact norm_ (by simp only [putAll, Act.put, sT, sZ, sU]) (hCont (gb249) _ ⟨hHeld, (rM HO233.out (fun _ hk => hk.2)), HO238.out, BK234.out, BK240.out, BK249.out, GW249.out, GE249.out, NB234_249.out, NB249_234.out, NB240_249.out, NB249_240.out, HB.out⟩)
 }
 }
 rintro gb249 w30 ⟨hS_, h0_, h1_, h2_, h3_, h4_, h5_, h6_, h7_, h8_, h9_, h10_, h11_⟩
 have n0_ : Aside0 (Kd.R k39 39 w30 w.heap.size (fun k_ => k_ ≠ gb249) (.slice Ao18 t231.length co18) t231) := ⟨h0_⟩
 have n1_ : Aside0 (Kd.R (Kd.int .i64) 3 w30 w.heap.size (fun _ => True) (.slice Ao23 t236.length co23) t236) := ⟨h1_⟩
 have n2_ : Aside0 (w30.heap[gb234]? = some (.cells #[.int .i64 t230, .slice Ao18 t231.length co18] 25 (0, 0))) := ⟨h2_⟩
 have n3_ : Aside0 (w30.heap[gb240]? = some (.cells #[.int .i64 t235, .slice Ao23 t236.length co23] 29 (0, 0))) := ⟨h3_⟩
 have n4_ : Aside0 (w30.heap[gb249]? = some (.cells #[.int .i64 0, .int .i64 0, .int .i64 0] 39 (0, 0))) := ⟨h4_⟩
 have n5_ : Aside0 (w.heap.size ≤ gb249) := ⟨h5_⟩
 have n6_ : Aside0 (w.heap.size ≤ gb249) := ⟨h6_⟩
 have n7_ : Aside0 (gb234 ≠ gb249) := ⟨h7_⟩
 have n8_ : Aside0 (gb249 ≠ gb234) := ⟨h8_⟩
 have n9_ : Aside0 (gb240 ≠ gb249) := ⟨h9_⟩
 have n10_ : Aside0 (gb249 ≠ gb240) := ⟨h10_⟩
 have n11_ : Aside0 (Below w.heap.size w w30) := ⟨h11_⟩
 clear HO233
 clear HO238
 clear BK234
 clear BK240
 clear HB
 clear h0_ h1_ h2_ h3_ h4_ h5_ h6_ h7_ h8_ h9_ h10_ h11_
 have HO233 := n0_
 have HO238 := n1_
 have BK234 := n2_
 have BK240 := n3_
 have BK249 := n4_
 have GW249 := n5_
 have GE249 := n6_
 have NB234_249 := n7_
 have NB249_234 := n8_
 have NB240_249 := n9_
 have NB249_240 := n10_
 have HB := n11_
 clear n0_ n1_ n2_ n3_ n4_ n5_ n6_ n7_ n8_ n9_ n10_ n11_
 have hHeld : w30.cell? ⟨gb234, 0, none⟩ = some (.int .i64 t230) ∧ w30.cell? ⟨gb234, 1, none⟩ = some (.slice Ao18 t231.length co18) := hS_
 refine norm_ (a' := ?_) ?_ ?_
 rotate_left
 {
 simp only [putAll, Act.put, sT, sZ, sU]
 rfl
 }
 refine one_ (i := 16) (N := none) #[true,true,true,true,true,true,true,true,true,true,true,true,true,true,true,true,true] rfl rfl (one_of HT_.out (by kernel_rfl)) (by decide) (fun K hK => ?_)
 have hs31 : w30.cell? ⟨gb249, 0, none⟩ = some (.int .i64 0) := (kC BK249.out 0).trans rfl
 have hfs31 := blk_frozen BK249.out 0
 have hns31_0 := NB234_249.out
 have hns31_1 := NB240_249.out
 have hms31_0 := NB249_234.out
 have hms31_1 := NB249_240.out
 have hs32 : w30.cell? ⟨gb249, 1, none⟩ = some (.int .i64 0) := (kC BK249.out 1).trans rfl
 have hfs32 := blk_frozen BK249.out 1
 have hns32_0 := NB234_249.out
 have hns32_1 := NB240_249.out
 have hms32_0 := NB249_234.out
 have hms32_1 := NB249_240.out
 have hs33 : w30.cell? ⟨gb249, 2, none⟩ = some (.int .i64 0) := (kC BK249.out 2).trans rfl
 have hfs33 := blk_frozen BK249.out 2
 have hns33_0 := NB234_249.out
 have hns33_1 := NB240_249.out
 have hms33_0 := NB249_234.out
 have hms33_1 := NB249_240.out
 refine skip_ (w1 := ?_) (by rfl) rfl ?_ ?_
 rotate_left
 {
 go_simp
 rfl
 }
 refine hK.out _ _ ⟨((cell_far (p := ⟨gb249, _, none⟩) NB234_249.out _).trans (((cell_far (p := ⟨gb249, _, none⟩) NB234_249.out _).trans (((cell_far (p := ⟨gb249, _, none⟩) NB234_249.out _).trans (hHeld.1)))))), ((cell_far (p := ⟨gb249, _, none⟩) NB234_249.out _).trans (((cell_far (p := ⟨gb249, _, none⟩) NB234_249.out _).trans (((cell_far (p := ⟨gb249, _, none⟩) NB234_249.out _).trans (hHeld.2))))))⟩ (fun hHeld => ?_)
 clear hK K
 refine done_ (done_of HT_.out (by kernel_rfl)) ?_
 have hnb34 := NB240_249.out
 have hnc34 := NB249_240.out
 have hcz35_0 : w30.cell? ⟨gb240, 0, none⟩ = some (.int .i64 t235) := (kC BK240.out 0).trans rfl
 have hcz35_1 : w30.cell? ⟨gb240, 1, none⟩ = some (.slice Ao23 t236.length co23) := (kC BK240.out 1).trans rfl
 have hfz35_0 := blk_frozen BK240.out 0
 have hfz35_1 := blk_frozen BK240.out 1
 have hnb36 := NB249_234.out
 have hnc36 := NB234_249.out
 have hcz37_0 : w30.cell? ⟨gb249, 0, none⟩ = some (.int .i64 0) := (kC BK249.out 0).trans rfl
 have hcz37_1 : w30.cell? ⟨gb249, 1, none⟩ = some (.int .i64 0) := (kC BK249.out 1).trans rfl
 have hcz37_2 : w30.cell? ⟨gb249, 2, none⟩ = some (.int .i64 0) := (kC BK249.out 2).trans rfl
 have hfz37_0 := blk_frozen BK249.out 0
 have hfz37_1 := blk_frozen BK249.out 1
 have hfz37_2 := blk_frozen BK249.out 2
 try go_wp2_with (first | ((with_reducible refine gate_callee (f := 21) rfl ?_); refine goesL_ (some 56) rfl rfl Try.func21 (by kernel_rfl) rfl #[.agg #[.int .i64 t235, .slice Ao23 t236.length co23], .agg #[.int .i64 (Int.tmod t246 t230), .int .i64 (Int.tmod t247 t230), .int .i64 (wrap64 ((Int.tmod t248 12) - 3))]] rfl (by (try simp only [List.map_toArray, List.map_cons, List.map_nil]); first | done | rfl | (simp only [List.length_drop, List.length_take]; rfl)) ?_; (with_reducible refine (impl_TightenTable.calls k t235 _ _ t236 (Int.tmod t246 t230) (Int.tmod t247 t230) (wrap64 ((Int.tmod t248 12) - 3)) t250 t251 t254 _ ?side1 ?side2 A10.out).mono ?_); (case side1 => refine (Kd.R_reads' (e := 3) (base := w.heap.size) (ok := fun k_ => True) (n := t236.length) (c := co23) ?_).2.2; exact (by (with_reducible repeat first|apply rA|apply rN|apply rD); exact (rM (Kd.R_far (p := ⟨gb249, 2, none⟩) (Kd.R_far (p := ⟨gb249, 1, none⟩) (Kd.R_far (p := ⟨gb249, 0, none⟩) (Kd.R_types HO238.out BK249.out (by decide)) (fun _ hk => hk.2) (.int .i64 (Int.tmod t246 t230))) (fun _ hk => hk.2) (.int .i64 (Int.tmod t247 t230))) (fun _ hk => hk.2) (.int .i64 (wrap64 ((Int.tmod t248 12) - 3)))) (fun _ h_ => h_.1)))); (case side2 => exact (Kd.R_reads' HO238.out).2.1); rintro e w38 ⟨v252, rfl, ho0, hb⟩; refine ⟨_, rfl, ?_⟩; have n0_ := mK (rB (by (with_reducible repeat first|apply rA|apply rN|apply rD); exact (rM (Kd.R_far (p := ⟨gb249, 2, none⟩) (Kd.R_far (p := ⟨gb249, 1, none⟩) (Kd.R_far (p := ⟨gb249, 0, none⟩) (rM HO233.out (fun k_ hk => (⟨hk, hk⟩ : _ ∧ k_ ≠ gb249))) (fun _ hk => hk.2) (.int .i64 (Int.tmod t246 t230))) (fun _ hk => hk.2) (.int .i64 (Int.tmod t247 t230))) (fun _ hk => hk.2) (.int .i64 (wrap64 ((Int.tmod t248 12) - 3)))) (fun _ h_ => h_.1))) hb); have n1_ := mK (Kd.R_elder' (by (with_reducible repeat first|apply rA|apply rN|apply rD); exact (rM (Kd.R_far (p := ⟨gb249, 2, none⟩) (Kd.R_far (p := ⟨gb249, 1, none⟩) (Kd.R_far (p := ⟨gb249, 0, none⟩) (Kd.R_types HO238.out BK249.out (by decide)) (fun _ hk => hk.2) (.int .i64 (Int.tmod t246 t230))) (fun _ hk => hk.2) (.int .i64 (Int.tmod t247 t230))) (fun _ hk => hk.2) (.int .i64 (wrap64 ((Int.tmod t248 12) - 3)))) (fun _ h_ => h_.1))) (Kd.R_base ho0) hb); have n2_ := mK (Kd.R_lower (Kd.R_new' ho0 (Kd.R_lt (by (with_reducible repeat first|apply rA|apply rN|apply rD); exact (rM (Kd.R_far (p := ⟨gb249, 2, none⟩) (Kd.R_far (p := ⟨gb249, 1, none⟩) (Kd.R_far (p := ⟨gb249, 0, none⟩) (Kd.R_types HO238.out BK249.out (by decide)) (fun _ hk => hk.2) (.int .i64 (Int.tmod t246 t230))) (fun _ hk => hk.2) (.int .i64 (Int.tmod t247 t230))) (fun _ hk => hk.2) (.int .i64 (wrap64 ((Int.tmod t248 12) - 3)))) (fun _ h_ => h_.1))))) (bZ (by repeat first|(with_reducible first|exact HB.out|apply bA|apply bN|apply bD|refine bS ?_ GE234.out|refine bS ?_ GE240.out|refine bS ?_ GE249.out)|exact HB.out))); have n3_ := mK (kB (g := gb234) (o := .cells #[.int .i64 t230, .slice Ao18 t231.length co18] 25 (0, 0)) (by (with_reducible repeat first|apply kN|apply kD|apply kA); refine blk_far ?_ NB234_249.out _; (with_reducible repeat first|apply kN|apply kD|apply kA); refine blk_far ?_ NB234_249.out _; (with_reducible repeat first|apply kN|apply kD|apply kA); refine blk_far ?_ NB234_249.out _; (with_reducible repeat first|apply kN|apply kD|apply kA); exact BK234.out) hb); have n4_ := mK (kB (g := gb240) (o := .cells #[.int .i64 t235, .slice Ao23 t236.length co23] 29 (0, 0)) (by (with_reducible repeat first|apply kN|apply kD|apply kA); refine blk_far ?_ NB240_249.out _; (with_reducible repeat first|apply kN|apply kD|apply kA); refine blk_far ?_ NB240_249.out _; (with_reducible repeat first|apply kN|apply kD|apply kA); refine blk_far ?_ NB240_249.out _; (with_reducible repeat first|apply kN|apply kD|apply kA); exact BK240.out) hb); have n5_ := mK (kB (g := gb249) (o := .cells #[.int .i64 (Int.tmod t246 t230), .int .i64 (Int.tmod t247 t230), .int .i64 (wrap64 ((Int.tmod t248 12) - 3))] 39 (0, 0)) (by (with_reducible repeat first|apply kN|apply kD|apply kA); refine blk_put (cs := #[.int .i64 (Int.tmod t246 t230), .int .i64 (Int.tmod t247 t230), .int .i64 0]) ?_ 2 _ rfl; (with_reducible repeat first|apply kN|apply kD|apply kA); refine blk_put (cs := #[.int .i64 (Int.tmod t246 t230), .int .i64 0, .int .i64 0]) ?_ 1 _ rfl; (with_reducible repeat first|apply kN|apply kD|apply kA); refine blk_put (cs := #[.int .i64 0, .int .i64 0, .int .i64 0]) ?_ 0 _ rfl; (with_reducible repeat first|apply kN|apply kD|apply kA); exact BK249.out) hb); have n6_ := mK (bP (by repeat first|(with_reducible first|exact HB.out|apply bA|apply bN|apply bD|refine bS ?_ GE234.out|refine bS ?_ GE240.out|refine bS ?_ GE249.out)|exact HB.out) hb); clear HO233; clear HO238; clear BK234; clear BK240; clear BK249; clear HB; have HO233 := n0_; have HO238 := n1_; have HO253 := n2_; have BK234 := n3_; have BK240 := n4_; have BK249 := n5_; have HB := n6_; clear n0_ n1_ n2_ n3_ n4_ n5_ n6_; (try clear hb); (try clear hb2); (try clear hk); (try clear hi); (try clear ho0)) | ((with_reducible refine gate_dst (N := 7) rfl ?_); (try (refine gate_guard (by rfl) ?_; dsimp only)); refine box_event ?hg (N := 7) ?hd (cs := #[.int .i64 0, .slice none 0 0]) (t := 29) ?hr ?_; (case hd => rfl); (case hg => rfl); (case hr => go_simp <;> rfl); intro gb255 hg w39 hbox hb; have n0_ := mK (rB (by (with_reducible repeat first|apply rA|apply rN|apply rD); exact HO233.out) hb); have n1_ := mK (rB (by (with_reducible repeat first|apply rA|apply rN|apply rD); exact HO238.out) hb); have n2_ := mK (rB (by (with_reducible repeat first|apply rA|apply rN|apply rD); exact HO253.out) hb); have n3_ := mK (kB (by (with_reducible repeat first|apply kN|apply kD|apply kA); exact BK234.out) hb); have n4_ := mK (kB (by (with_reducible repeat first|apply kN|apply kD|apply kA); exact BK240.out) hb); have n5_ := mK (kB (by (with_reducible repeat first|apply kN|apply kD|apply kA); exact BK249.out) hb); have n6_ := mK (bP (by repeat first|(with_reducible first|exact HB.out|apply bA|apply bN|apply bD|refine bS ?_ GE234.out|refine bS ?_ GE240.out|refine bS ?_ GE249.out)|exact HB.out) hb); have n7_ := mK (hbox); have n8_ := mK ((by rw [hg]; exact (bZ (by repeat first|(with_reducible first|exact HB.out|apply bA|apply bN|apply bD|refine bS ?_ GE234.out|refine bS ?_ GE240.out|refine bS ?_ GE249.out)|exact HB.out)) : w.heap.size ≤ gb255)); have n9_ := mK ((by rw [hg]; exact (bZ (by repeat first|(with_reducible first|exact HB.out|apply bA|apply bN|apply bD|refine bS ?_ GE234.out|refine bS ?_ GE240.out|refine bS ?_ GE249.out)|exact HB.out)) : w.heap.size ≤ gb255)); have n10_ := mK ((by rw [hg]; exact Nat.ne_of_lt (blk_lt (by (with_reducible repeat first|apply kN|apply kD|apply kA); exact BK234.out)) : gb234 ≠ gb255)); have n11_ := mK ((by rw [hg]; exact Nat.ne_of_gt (blk_lt (by (with_reducible repeat first|apply kN|apply kD|apply kA); exact BK234.out)) : gb255 ≠ gb234)); have n12_ := mK ((by rw [hg]; exact Nat.ne_of_lt (blk_lt (by (with_reducible repeat first|apply kN|apply kD|apply kA); exact BK240.out)) : gb240 ≠ gb255)); have n13_ := mK ((by rw [hg]; exact Nat.ne_of_gt (blk_lt (by (with_reducible repeat first|apply kN|apply kD|apply kA); exact BK240.out)) : gb255 ≠ gb240)); have n14_ := mK ((by rw [hg]; exact Nat.ne_of_lt (blk_lt (by (with_reducible repeat first|apply kN|apply kD|apply kA); exact BK249.out)) : gb249 ≠ gb255)); have n15_ := mK ((by rw [hg]; exact Nat.ne_of_gt (blk_lt (by (with_reducible repeat first|apply kN|apply kD|apply kA); exact BK249.out)) : gb255 ≠ gb249)); clear HO233; clear HO238; clear HO253; clear BK234; clear BK240; clear BK249; clear HB; have HO233 := n0_; have HO238 := n1_; have HO253 := n2_; have BK234 := n3_; have BK240 := n4_; have BK249 := n5_; have HB := n6_; have BK255 := n7_; have GW255 := n8_; have GE255 := n9_; have NB234_255 := n10_; have NB255_234 := n11_; have NB240_255 := n12_; have NB255_240 := n13_; have NB249_255 := n14_; have NB255_249 := n15_; clear n0_ n1_ n2_ n3_ n4_ n5_ n6_ n7_ n8_ n9_ n10_ n11_ n12_ n13_ n14_ n15_; clear hb hbox hg; have hnb40 := NB255_234.out; have hnc40 := NB234_255.out; have hnb41 := NB255_240.out; have hnc41 := NB240_255.out; have hnb42 := NB255_249.out; have hnc42 := NB249_255.out; have hcz43_0 : w39.cell? ⟨gb255, 0, none⟩ = some (.int .i64 0) := (kC BK255.out 0).trans rfl; have hcz43_1 : w39.cell? ⟨gb255, 1, none⟩ = some (.slice none 0 0) := (kC BK255.out 1).trans rfl; have hfz43_0 := blk_frozen BK255.out 0; have hfz43_1 := blk_frozen BK255.out 1; obtain ⟨Ao44, co44, eo44⟩ := Kd.R_slice HO253.out; subst eo44))
 have n0_ : Aside0 (Kd.R k39 39 ((w39.setCell ⟨gb255, 0, none⟩ (.int .i64 t250)).setCell ⟨gb255, 1, none⟩ (.slice Ao44 t251.length co44)) w.heap.size (fun k_ => k_ ≠ gb249) (.slice Ao18 t231.length co18) t231) := ⟨by (with_reducible repeat first|apply rA|apply rN|apply rD); exact rM (Kd.R_far (p := ⟨gb255, 1, none⟩) (Kd.R_far (p := ⟨gb255, 0, none⟩) (Kd.R_types HO233.out BK255.out (by decide)) (fun _ hk => hk.2) (.int .i64 t250)) (fun _ hk => hk.2) (.slice Ao44 t251.length co44)) (fun _ hk => hk.1)⟩
 have n1_ : Aside0 (Kd.R (Kd.int .i64) 3 ((w39.setCell ⟨gb255, 0, none⟩ (.int .i64 t250)).setCell ⟨gb255, 1, none⟩ (.slice Ao44 t251.length co44)) w.heap.size (fun k_ => some k_ ≠ (.slice Ao44 t251.length co44 : Value).ownBlock) (.slice Ao23 t236.length co23) t236) := ⟨by (with_reducible repeat first|apply rA|apply rN|apply rD); exact rM (Kd.R_far (p := ⟨gb255, 1, none⟩) (Kd.R_far (p := ⟨gb255, 0, none⟩) (Kd.R_types HO238.out BK255.out (by decide)) (fun _ hk => hk.2) (.int .i64 t250)) (fun _ hk => hk.2) (.slice Ao44 t251.length co44)) (fun _ hk => hk.1.2)⟩
 have n2_ : Aside0 (Kd.R (Kd.int .i64) 3 ((w39.setCell ⟨gb255, 0, none⟩ (.int .i64 t250)).setCell ⟨gb255, 1, none⟩ (.slice Ao44 t251.length co44)) w.heap.size (fun k_ => some k_ ≠ (.slice Ao23 t236.length co23 : Value).ownBlock) (.slice Ao44 t251.length co44) t251) := ⟨by (with_reducible repeat first|apply rA|apply rN|apply rD); exact rM (Kd.R_far (p := ⟨gb255, 1, none⟩) (Kd.R_far (p := ⟨gb255, 0, none⟩) (Kd.R_types HO253.out BK255.out (by decide)) (fun _ hk => hk.2) (.int .i64 t250)) (fun _ hk => hk.2) (.slice Ao44 t251.length co44)) (fun _ hk => hk.1.2)⟩
 have n3_ : Aside0 (((w39.setCell ⟨gb255, 0, none⟩ (.int .i64 t250)).setCell ⟨gb255, 1, none⟩ (.slice Ao44 t251.length co44)).heap[gb234]? = some (.cells #[.int .i64 t230, .slice Ao18 t231.length co18] 25 (0, 0))) := ⟨by (with_reducible repeat first|apply kN|apply kD|apply kA); refine blk_far ?_ NB234_255.out _; (with_reducible repeat first|apply kN|apply kD|apply kA); refine blk_far ?_ NB234_255.out _; (with_reducible repeat first|apply kN|apply kD|apply kA); exact BK234.out⟩
 have n4_ : Aside0 (((w39.setCell ⟨gb255, 0, none⟩ (.int .i64 t250)).setCell ⟨gb255, 1, none⟩ (.slice Ao44 t251.length co44)).heap[gb240]? = some (.cells #[.int .i64 t235, .slice Ao23 t236.length co23] 29 (0, 0))) := ⟨by (with_reducible repeat first|apply kN|apply kD|apply kA); refine blk_far ?_ NB240_255.out _; (with_reducible repeat first|apply kN|apply kD|apply kA); refine blk_far ?_ NB240_255.out _; (with_reducible repeat first|apply kN|apply kD|apply kA); exact BK240.out⟩
 have n5_ : Aside0 (((w39.setCell ⟨gb255, 0, none⟩ (.int .i64 t250)).setCell ⟨gb255, 1, none⟩ (.slice Ao44 t251.length co44)).heap[gb249]? = some (.cells #[.int .i64 (Int.tmod t246 t230), .int .i64 (Int.tmod t247 t230), .int .i64 (wrap64 ((Int.tmod t248 12) - 3))] 39 (0, 0))) := ⟨by (with_reducible repeat first|apply kN|apply kD|apply kA); refine blk_far ?_ NB249_255.out _; (with_reducible repeat first|apply kN|apply kD|apply kA); refine blk_far ?_ NB249_255.out _; (with_reducible repeat first|apply kN|apply kD|apply kA); exact BK249.out⟩
 have n6_ : Aside0 (((w39.setCell ⟨gb255, 0, none⟩ (.int .i64 t250)).setCell ⟨gb255, 1, none⟩ (.slice Ao44 t251.length co44)).heap[gb255]? = some (.cells #[.int .i64 t250, .slice Ao44 t251.length co44] 29 (0, 0))) := ⟨by (with_reducible repeat first|apply kN|apply kD|apply kA); refine blk_put (cs := #[.int .i64 t250, .slice none 0 0]) ?_ 1 _ rfl; (with_reducible repeat first|apply kN|apply kD|apply kA); refine blk_put (cs := #[.int .i64 0, .slice none 0 0]) ?_ 0 _ rfl; (with_reducible repeat first|apply kN|apply kD|apply kA); exact BK255.out⟩
 have n7_ : Aside0 (Below w.heap.size w ((w39.setCell ⟨gb255, 0, none⟩ (.int .i64 t250)).setCell ⟨gb255, 1, none⟩ (.slice Ao44 t251.length co44))) := ⟨by repeat first|(with_reducible first|exact HB.out|apply bA|apply bN|apply bD|refine bS ?_ GE234.out|refine bS ?_ GE240.out|refine bS ?_ GE249.out|refine bS ?_ GE255.out)|exact HB.out⟩
 (try clear HO233)
 (try clear HO238)
 (try clear HO253)
 (try clear BK234)
 (try clear BK240)
 (try clear BK249)
 (try clear BK255)
 (try clear HB)
 generalize ((w39.setCell ⟨gb255, 0, none⟩ (.int .i64 t250)).setCell ⟨gb255, 1, none⟩ (.slice Ao44 t251.length co44)) = w45 at n0_ n1_ n2_ n3_ n4_ n5_ n6_ n7_ ⊢
 have HO233 := n0_
 have HO238 := n1_
 have HO253 := n2_
 have BK234 := n3_
 have BK240 := n4_
 have BK249 := n5_
 have BK255 := n6_
 have HB := n7_
 clear n0_ n1_ n2_ n3_ n4_ n5_ n6_ n7_
 have n0_ := mK (Kd.R_drew HO233.out)
 have n1_ := mK (Kd.R_drew HO238.out)
 have n2_ := mK (Kd.R_drew HO253.out)
 have n3_ := mK (blk_drew BK234.out)
 have n4_ := mK (blk_drew BK240.out)
 have n5_ := mK (blk_drew BK249.out)
 have n6_ := mK (blk_drew BK255.out)
 have n7_ := mK (below_drew1 HB.out)
 clear HO233
 clear HO238
 clear HO253
 clear BK234
 clear BK240
 clear BK249
 clear BK255
 clear HB
 have HO233 := n0_
 have HO238 := n1_
 have HO253 := n2_
 have BK234 := n3_
 have BK240 := n4_
 have BK249 := n5_
 have BK255 := n6_
 have HB := n7_
 clear n0_ n1_ n2_ n3_ n4_ n5_ n6_ n7_
 refine start_ (n := 12) (S := fun w' => w'.cell? ⟨gb234, 0, none⟩ = some (.int .i64 t230) ∧ w'.cell? ⟨gb234, 1, none⟩ = some (.slice Ao18 t231.length co18) ∧ w'.cell? ⟨gb249, 0, none⟩ = some (.int .i64 (Int.tmod t246 t230)) ∧ w'.cell? ⟨gb249, 1, none⟩ = some (.int .i64 (Int.tmod t247 t230)) ∧ w'.cell? ⟨gb249, 2, none⟩ = some (.int .i64 (wrap64 ((Int.tmod t248 12) - 3)))) (ds := []) #[false,false,false,false,false,false,false,false,false,false,false,false] (by kernel_rfl) rfl rfl ⟨(kC BK234.out 0).trans rfl, (kC BK234.out 1).trans rfl, (kC BK249.out 0).trans rfl, (kC BK249.out 1).trans rfl, (kC BK249.out 2).trans rfl⟩ (fun hHeld => ?_); refine with_tabW laws_FnTightened.tab9 laws_FnTightened.bits9 (fun HT_ HW_ => ?_)
 generalize w45.drew = w46 at HO233 HO238 HO253 BK234 BK240 BK249 BK255 HB hHeld ⊢
 refine pure_ (i := 0) (N := some 59) (v := ?_) (a' := ?_) #[true,false,false,false,false,false,false,false,false,false,false,false] rfl rfl (any_of HT_.out (by kernel_rfl)) (fun _ _ _ h => h) (Or.inl ⟨by rfl, ?_⟩) ?_ ?_
 rotate_left
 {
 intro w'
 go_simp
 with_reducible rfl
 }
 rotate_left
 {
 simp only [Act.put, sT, sZ, sU, i64_w, i32_w]
 rfl
 }
 refine pure_ (i := 3) (N := some 62) (v := ?_) (a' := ?_) #[true,false,false,true,false,false,false,false,false,false,false,false] rfl rfl (any_of HT_.out (by kernel_rfl)) (fun _ _ _ h => h) (Or.inl ⟨by rfl, ?_⟩) ?_ ?_
 rotate_left
 {
 intro w'
 go_simp
 with_reducible rfl
 }
 rotate_left
 {
 simp only [Act.put, sT, sZ, sU, i64_w, i32_w]
 rfl
 }
 refine take_ (i := 1) (N := some 60) (v := ?_) (a' := ?_) #[true,true,false,true,false,false,false,false,false,false,false,false] rfl rfl (take_ofW HT_.out HW_.out (by kernel_rfl)) (fun _ _ _ h => h) (Or.inl ⟨by rfl, ?_⟩) hHeld ?_ ?_
 rotate_left
 {
 rintro w' ⟨s0, s1, s2, s3, s4⟩
 go_simp
 with_reducible rfl
 }
 rotate_left
 {
 simp only [Act.put, sT, sZ, sU, i64_w, i32_w]
 rfl
 }
 refine take_ (i := 4) (N := some 63) (v := ?_) (a' := ?_) #[true,true,false,true,true,false,false,false,false,false,false,false] rfl rfl (take_ofW HT_.out HW_.out (by kernel_rfl)) (fun _ _ _ h => h) (Or.inl ⟨by rfl, ?_⟩) hHeld ?_ ?_
 rotate_left
 {
 rintro w' ⟨s0, s1, s2, s3, s4⟩
 go_simp
 with_reducible rfl
 }
 rotate_left
 {
 simp only [Act.put, sT, sZ, sU, i64_w, i32_w]
 rfl
 }
 refine take_ (i := 6) (N := some 65) (v := ?_) (a' := ?_) #[true,true,false,true,true,false,true,false,false,false,false,false] rfl rfl (take_ofW HT_.out HW_.out (by kernel_rfl)) (fun _ _ _ h => h) (Or.inl ⟨by rfl, ?_⟩) hHeld ?_ ?_
 rotate_left
 {
 rintro w' ⟨s0, s1, s2, s3, s4⟩
 go_simp
 with_reducible rfl
 }
 rotate_left
 {
 simp only [Act.put, sT, sZ, sU, i64_w, i32_w]
 rfl
 }
 refine join_ (σ := Value × Value × Value × Value × Nat) 1 #[true,true,true,true,true,true,true,true,true,true,true,false] (fun s_ => [(61, s_.1), (64, s_.2.1), (66, s_.2.2.1), (67, s_.2.2.2.1), (9, .pointer (some ⟨s_.2.2.2.2, 0, none⟩)), (68, .agg #[.int .i64 t230, s_.2.2.2.1])]) (fun s_ w' => (w'.cell? ⟨gb234, 0, none⟩ = some (.int .i64 t230) ∧ w'.cell? ⟨gb234, 1, none⟩ = some (.slice Ao18 t231.length co18) ∧ w'.cell? ⟨gb249, 0, none⟩ = some (.int .i64 (Int.tmod t246 t230)) ∧ w'.cell? ⟨gb249, 1, none⟩ = some (.int .i64 (Int.tmod t247 t230)) ∧ w'.cell? ⟨gb249, 2, none⟩ = some (.int .i64 (wrap64 ((Int.tmod t248 12) - 3)))) ∧ (Kd.R k39 39 w' w.heap.size (fun k_ => some k_ ≠ (s_.2.2.1 : Value).ownBlock ∧ some k_ ≠ (s_.2.2.2.1 : Value).ownBlock ∧ k_ ≠ gb249) (.slice Ao18 t231.length co18) t231) ∧ (Kd.R (Kd.int .i64) 3 w' w.heap.size (fun k_ => some k_ ≠ (.slice Ao44 t251.length co44 : Value).ownBlock) (.slice Ao23 t236.length co23) t236) ∧ (Kd.R (Kd.int .i64) 3 w' w.heap.size (fun k_ => some k_ ≠ (.slice Ao23 t236.length co23 : Value).ownBlock) (.slice Ao44 t251.length co44) t251) ∧ (Kd.R k39 39 w' w.heap.size (fun k_ => some k_ ≠ (.slice Ao18 t231.length co18 : Value).ownBlock ∧ some k_ ≠ (s_.2.2.2.1 : Value).ownBlock ∧ k_ ≠ gb249) s_.2.2.1 y262) ∧ (Kd.R k39 39 w' w.heap.size (fun k_ => some k_ ≠ (.slice Ao18 t231.length co18 : Value).ownBlock ∧ some k_ ≠ (s_.2.2.1 : Value).ownBlock ∧ k_ ≠ gb249) s_.2.2.2.1 y265) ∧ (w'.heap[gb234]? = some (.cells #[.int .i64 t230, .slice Ao18 t231.length co18] 25 (0, 0))) ∧ (w'.heap[gb240]? = some (.cells #[.int .i64 t235, .slice Ao23 t236.length co23] 29 (0, 0))) ∧ (w'.heap[gb249]? = some (.cells #[.int .i64 (Int.tmod t246 t230), .int .i64 (Int.tmod t247 t230), .int .i64 (wrap64 ((Int.tmod t248 12) - 3))] 39 (0, 0))) ∧ (w'.heap[gb255]? = some (.cells #[.int .i64 t250, .slice Ao44 t251.length co44] 29 (0, 0))) ∧ (w'.heap[s_.2.2.2.2]? = some (.cells #[.int .i64 0, .slice none 0 0] 25 (0, 0))) ∧ (w.heap.size ≤ s_.2.2.2.2) ∧ (w.heap.size ≤ s_.2.2.2.2) ∧ (gb234 ≠ s_.2.2.2.2) ∧ (s_.2.2.2.2 ≠ gb234) ∧ (gb240 ≠ s_.2.2.2.2) ∧ (s_.2.2.2.2 ≠ gb240) ∧ (gb249 ≠ s_.2.2.2.2) ∧ (s_.2.2.2.2 ≠ gb249) ∧ (gb255 ≠ s_.2.2.2.2) ∧ (s_.2.2.2.2 ≠ gb255) ∧ (Below w.heap.size w w')) ?_ ?_
 rotate_left
 {
 intro hJ2_5_7_8_10
 refine join_ (σ := Value × Value × Value × Value) 2 #[true,true,true,true,true,true,true,true,true,true,false,false] (fun s_ => [(61, s_.1), (64, s_.2.1), (66, s_.2.2.1), (67, s_.2.2.2), (68, .agg #[.int .i64 t230, s_.2.2.2])]) (fun s_ w' => (w'.cell? ⟨gb234, 0, none⟩ = some (.int .i64 t230) ∧ w'.cell? ⟨gb234, 1, none⟩ = some (.slice Ao18 t231.length co18) ∧ w'.cell? ⟨gb249, 0, none⟩ = some (.int .i64 (Int.tmod t246 t230)) ∧ w'.cell? ⟨gb249, 1, none⟩ = some (.int .i64 (Int.tmod t247 t230)) ∧ w'.cell? ⟨gb249, 2, none⟩ = some (.int .i64 (wrap64 ((Int.tmod t248 12) - 3)))) ∧ (Kd.R k39 39 w' w.heap.size (fun k_ => some k_ ≠ (s_.2.2.1 : Value).ownBlock ∧ some k_ ≠ (s_.2.2.2 : Value).ownBlock ∧ k_ ≠ gb249) (.slice Ao18 t231.length co18) t231) ∧ (Kd.R (Kd.int .i64) 3 w' w.heap.size (fun k_ => some k_ ≠ (.slice Ao44 t251.length co44 : Value).ownBlock) (.slice Ao23 t236.length co23) t236) ∧ (Kd.R (Kd.int .i64) 3 w' w.heap.size (fun k_ => some k_ ≠ (.slice Ao23 t236.length co23 : Value).ownBlock) (.slice Ao44 t251.length co44) t251) ∧ (Kd.R k39 39 w' w.heap.size (fun k_ => some k_ ≠ (.slice Ao18 t231.length co18 : Value).ownBlock ∧ some k_ ≠ (s_.2.2.2 : Value).ownBlock ∧ k_ ≠ gb249) s_.2.2.1 y262) ∧ (Kd.R k39 39 w' w.heap.size (fun k_ => some k_ ≠ (.slice Ao18 t231.length co18 : Value).ownBlock ∧ some k_ ≠ (s_.2.2.1 : Value).ownBlock ∧ k_ ≠ gb249) s_.2.2.2 y265) ∧ (w'.heap[gb234]? = some (.cells #[.int .i64 t230, .slice Ao18 t231.length co18] 25 (0, 0))) ∧ (w'.heap[gb240]? = some (.cells #[.int .i64 t235, .slice Ao23 t236.length co23] 29 (0, 0))) ∧ (w'.heap[gb249]? = some (.cells #[.int .i64 (Int.tmod t246 t230), .int .i64 (Int.tmod t247 t230), .int .i64 (wrap64 ((Int.tmod t248 12) - 3))] 39 (0, 0))) ∧ (w'.heap[gb255]? = some (.cells #[.int .i64 t250, .slice Ao44 t251.length co44] 29 (0, 0))) ∧ (Below w.heap.size w w')) ?_ ?_
 rotate_left
 {
 intro hJ2_5_7_8
 refine join_ (σ := Value × Value × Value × Nat) 3 #[true,true,true,true,true,true,true,true,false,false,true,false] (fun s_ => [(61, s_.1), (64, s_.2.1), (66, s_.2.2.1), (9, .pointer (some ⟨s_.2.2.2, 0, none⟩))]) (fun s_ w' => (w'.cell? ⟨gb234, 0, none⟩ = some (.int .i64 t230) ∧ w'.cell? ⟨gb234, 1, none⟩ = some (.slice Ao18 t231.length co18) ∧ w'.cell? ⟨gb249, 0, none⟩ = some (.int .i64 (Int.tmod t246 t230)) ∧ w'.cell? ⟨gb249, 1, none⟩ = some (.int .i64 (Int.tmod t247 t230)) ∧ w'.cell? ⟨gb249, 2, none⟩ = some (.int .i64 (wrap64 ((Int.tmod t248 12) - 3)))) ∧ (Kd.R k39 39 w' w.heap.size (fun k_ => some k_ ≠ (s_.2.1 : Value).ownBlock ∧ some k_ ≠ (s_.2.2.1 : Value).ownBlock ∧ k_ ≠ gb249) (.slice Ao18 t231.length co18) t231) ∧ (Kd.R (Kd.int .i64) 3 w' w.heap.size (fun k_ => some k_ ≠ (.slice Ao44 t251.length co44 : Value).ownBlock) (.slice Ao23 t236.length co23) t236) ∧ (Kd.R (Kd.int .i64) 3 w' w.heap.size (fun k_ => some k_ ≠ (.slice Ao23 t236.length co23 : Value).ownBlock) (.slice Ao44 t251.length co44) t251) ∧ (Kd.R k39 39 w' w.heap.size (fun k_ => some k_ ≠ (.slice Ao18 t231.length co18 : Value).ownBlock ∧ some k_ ≠ (s_.2.2.1 : Value).ownBlock ∧ k_ ≠ gb249) s_.2.1 y259) ∧ (Kd.R k39 39 w' w.heap.size (fun k_ => some k_ ≠ (.slice Ao18 t231.length co18 : Value).ownBlock ∧ some k_ ≠ (s_.2.1 : Value).ownBlock ∧ k_ ≠ gb249) s_.2.2.1 y262) ∧ (w'.heap[gb234]? = some (.cells #[.int .i64 t230, .slice Ao18 t231.length co18] 25 (0, 0))) ∧ (w'.heap[gb240]? = some (.cells #[.int .i64 t235, .slice Ao23 t236.length co23] 29 (0, 0))) ∧ (w'.heap[gb249]? = some (.cells #[.int .i64 (Int.tmod t246 t230), .int .i64 (Int.tmod t247 t230), .int .i64 (wrap64 ((Int.tmod t248 12) - 3))] 39 (0, 0))) ∧ (w'.heap[gb255]? = some (.cells #[.int .i64 t250, .slice Ao44 t251.length co44] 29 (0, 0))) ∧ (w'.heap[s_.2.2.2]? = some (.cells #[.int .i64 0, .slice none 0 0] 25 (0, 0))) ∧ (w.heap.size ≤ s_.2.2.2) ∧ (w.heap.size ≤ s_.2.2.2) ∧ (gb234 ≠ s_.2.2.2) ∧ (s_.2.2.2 ≠ gb234) ∧ (gb240 ≠ s_.2.2.2) ∧ (s_.2.2.2 ≠ gb240) ∧ (gb249 ≠ s_.2.2.2) ∧ (s_.2.2.2 ≠ gb249) ∧ (gb255 ≠ s_.2.2.2) ∧ (s_.2.2.2 ≠ gb255) ∧ (Below w.heap.size w w')) ?_ ?_
 rotate_left
 {
 intro hJ2_5_7_10
 refine join_ (σ := Value × Value × Value) 4 #[true,true,true,true,true,true,true,true,false,false,false,false] (fun s_ => [(61, s_.1), (64, s_.2.1), (66, s_.2.2)]) (fun s_ w' => (w'.cell? ⟨gb234, 0, none⟩ = some (.int .i64 t230) ∧ w'.cell? ⟨gb234, 1, none⟩ = some (.slice Ao18 t231.length co18) ∧ w'.cell? ⟨gb249, 0, none⟩ = some (.int .i64 (Int.tmod t246 t230)) ∧ w'.cell? ⟨gb249, 1, none⟩ = some (.int .i64 (Int.tmod t247 t230)) ∧ w'.cell? ⟨gb249, 2, none⟩ = some (.int .i64 (wrap64 ((Int.tmod t248 12) - 3)))) ∧ (Kd.R k39 39 w' w.heap.size (fun k_ => some k_ ≠ (s_.2.1 : Value).ownBlock ∧ some k_ ≠ (s_.2.2 : Value).ownBlock ∧ k_ ≠ gb249) (.slice Ao18 t231.length co18) t231) ∧ (Kd.R (Kd.int .i64) 3 w' w.heap.size (fun k_ => some k_ ≠ (.slice Ao44 t251.length co44 : Value).ownBlock) (.slice Ao23 t236.length co23) t236) ∧ (Kd.R (Kd.int .i64) 3 w' w.heap.size (fun k_ => some k_ ≠ (.slice Ao23 t236.length co23 : Value).ownBlock) (.slice Ao44 t251.length co44) t251) ∧ (Kd.R k39 39 w' w.heap.size (fun k_ => some k_ ≠ (.slice Ao18 t231.length co18 : Value).ownBlock ∧ some k_ ≠ (s_.2.2 : Value).ownBlock ∧ k_ ≠ gb249) s_.2.1 y259) ∧ (Kd.R k39 39 w' w.heap.size (fun k_ => some k_ ≠ (.slice Ao18 t231.length co18 : Value).ownBlock ∧ some k_ ≠ (s_.2.1 : Value).ownBlock ∧ k_ ≠ gb249) s_.2.2 y262) ∧ (w'.heap[gb234]? = some (.cells #[.int .i64 t230, .slice Ao18 t231.length co18] 25 (0, 0))) ∧ (w'.heap[gb240]? = some (.cells #[.int .i64 t235, .slice Ao23 t236.length co23] 29 (0, 0))) ∧ (w'.heap[gb249]? = some (.cells #[.int .i64 (Int.tmod t246 t230), .int .i64 (Int.tmod t247 t230), .int .i64 (wrap64 ((Int.tmod t248 12) - 3))] 39 (0, 0))) ∧ (w'.heap[gb255]? = some (.cells #[.int .i64 t250, .slice Ao44 t251.length co44] 29 (0, 0))) ∧ (Below w.heap.size w w')) ?_ ?_
 rotate_left
 {
 intro hJ2_5_7
 refine join_ (σ := Value × Value × Nat) 4 #[true,true,true,true,true,true,true,false,false,false,true,false] (fun s_ => [(61, s_.1), (64, s_.2.1), (9, .pointer (some ⟨s_.2.2, 0, none⟩))]) (fun s_ w' => (w'.cell? ⟨gb234, 0, none⟩ = some (.int .i64 t230) ∧ w'.cell? ⟨gb234, 1, none⟩ = some (.slice Ao18 t231.length co18) ∧ w'.cell? ⟨gb249, 0, none⟩ = some (.int .i64 (Int.tmod t246 t230)) ∧ w'.cell? ⟨gb249, 1, none⟩ = some (.int .i64 (Int.tmod t247 t230)) ∧ w'.cell? ⟨gb249, 2, none⟩ = some (.int .i64 (wrap64 ((Int.tmod t248 12) - 3)))) ∧ (Kd.R k39 39 w' w.heap.size (fun k_ => some k_ ≠ (s_.2.1 : Value).ownBlock ∧ k_ ≠ gb249) (.slice Ao18 t231.length co18) t231) ∧ (Kd.R (Kd.int .i64) 3 w' w.heap.size (fun k_ => some k_ ≠ (.slice Ao44 t251.length co44 : Value).ownBlock) (.slice Ao23 t236.length co23) t236) ∧ (Kd.R (Kd.int .i64) 3 w' w.heap.size (fun k_ => some k_ ≠ (.slice Ao23 t236.length co23 : Value).ownBlock) (.slice Ao44 t251.length co44) t251) ∧ (Kd.R k39 39 w' w.heap.size (fun k_ => some k_ ≠ (.slice Ao18 t231.length co18 : Value).ownBlock ∧ k_ ≠ gb249) s_.2.1 y259) ∧ (w'.heap[gb234]? = some (.cells #[.int .i64 t230, .slice Ao18 t231.length co18] 25 (0, 0))) ∧ (w'.heap[gb240]? = some (.cells #[.int .i64 t235, .slice Ao23 t236.length co23] 29 (0, 0))) ∧ (w'.heap[gb249]? = some (.cells #[.int .i64 (Int.tmod t246 t230), .int .i64 (Int.tmod t247 t230), .int .i64 (wrap64 ((Int.tmod t248 12) - 3))] 39 (0, 0))) ∧ (w'.heap[gb255]? = some (.cells #[.int .i64 t250, .slice Ao44 t251.length co44] 29 (0, 0))) ∧ (w'.heap[s_.2.2]? = some (.cells #[.int .i64 0, .slice none 0 0] 25 (0, 0))) ∧ (w.heap.size ≤ s_.2.2) ∧ (w.heap.size ≤ s_.2.2) ∧ (gb234 ≠ s_.2.2) ∧ (s_.2.2 ≠ gb234) ∧ (gb240 ≠ s_.2.2) ∧ (s_.2.2 ≠ gb240) ∧ (gb249 ≠ s_.2.2) ∧ (s_.2.2 ≠ gb249) ∧ (gb255 ≠ s_.2.2) ∧ (s_.2.2 ≠ gb255) ∧ (Below w.heap.size w w')) ?_ ?_
 rotate_left
 {
 intro hJ2_5_10
 refine join_ (σ := Value × Value × Nat) 4 #[true,true,true,true,true,false,true,true,false,false,true,false] (fun s_ => [(61, s_.1), (66, s_.2.1), (9, .pointer (some ⟨s_.2.2, 0, none⟩))]) (fun s_ w' => (w'.cell? ⟨gb234, 0, none⟩ = some (.int .i64 t230) ∧ w'.cell? ⟨gb234, 1, none⟩ = some (.slice Ao18 t231.length co18) ∧ w'.cell? ⟨gb249, 0, none⟩ = some (.int .i64 (Int.tmod t246 t230)) ∧ w'.cell? ⟨gb249, 1, none⟩ = some (.int .i64 (Int.tmod t247 t230)) ∧ w'.cell? ⟨gb249, 2, none⟩ = some (.int .i64 (wrap64 ((Int.tmod t248 12) - 3)))) ∧ (Kd.R k39 39 w' w.heap.size (fun k_ => some k_ ≠ (s_.1 : Value).ownBlock ∧ some k_ ≠ (s_.2.1 : Value).ownBlock ∧ k_ ≠ gb249) (.slice Ao18 t231.length co18) t231) ∧ (Kd.R (Kd.int .i64) 3 w' w.heap.size (fun k_ => some k_ ≠ (.slice Ao44 t251.length co44 : Value).ownBlock) (.slice Ao23 t236.length co23) t236) ∧ (Kd.R (Kd.int .i64) 3 w' w.heap.size (fun k_ => some k_ ≠ (.slice Ao23 t236.length co23 : Value).ownBlock) (.slice Ao44 t251.length co44) t251) ∧ (Kd.R k39 39 w' w.heap.size (fun k_ => some k_ ≠ (.slice Ao18 t231.length co18 : Value).ownBlock ∧ some k_ ≠ (s_.2.1 : Value).ownBlock ∧ k_ ≠ gb249) s_.1 y256) ∧ (Kd.R k39 39 w' w.heap.size (fun k_ => some k_ ≠ (.slice Ao18 t231.length co18 : Value).ownBlock ∧ some k_ ≠ (s_.1 : Value).ownBlock ∧ k_ ≠ gb249) s_.2.1 y262) ∧ (w'.heap[gb234]? = some (.cells #[.int .i64 t230, .slice Ao18 t231.length co18] 25 (0, 0))) ∧ (w'.heap[gb240]? = some (.cells #[.int .i64 t235, .slice Ao23 t236.length co23] 29 (0, 0))) ∧ (w'.heap[gb249]? = some (.cells #[.int .i64 (Int.tmod t246 t230), .int .i64 (Int.tmod t247 t230), .int .i64 (wrap64 ((Int.tmod t248 12) - 3))] 39 (0, 0))) ∧ (w'.heap[gb255]? = some (.cells #[.int .i64 t250, .slice Ao44 t251.length co44] 29 (0, 0))) ∧ (w'.heap[s_.2.2]? = some (.cells #[.int .i64 0, .slice none 0 0] 25 (0, 0))) ∧ (w.heap.size ≤ s_.2.2) ∧ (w.heap.size ≤ s_.2.2) ∧ (gb234 ≠ s_.2.2) ∧ (s_.2.2 ≠ gb234) ∧ (gb240 ≠ s_.2.2) ∧ (s_.2.2 ≠ gb240) ∧ (gb249 ≠ s_.2.2) ∧ (s_.2.2 ≠ gb249) ∧ (gb255 ≠ s_.2.2) ∧ (s_.2.2 ≠ gb255) ∧ (Below w.heap.size w w')) ?_ ?_
 rotate_left
 {
 intro hJ2_7_10
 refine join_ (σ := Value × Value) 5 #[true,true,true,true,true,true,true,false,false,false,false,false] (fun s_ => [(61, s_.1), (64, s_.2)]) (fun s_ w' => (w'.cell? ⟨gb234, 0, none⟩ = some (.int .i64 t230) ∧ w'.cell? ⟨gb234, 1, none⟩ = some (.slice Ao18 t231.length co18) ∧ w'.cell? ⟨gb249, 0, none⟩ = some (.int .i64 (Int.tmod t246 t230)) ∧ w'.cell? ⟨gb249, 1, none⟩ = some (.int .i64 (Int.tmod t247 t230)) ∧ w'.cell? ⟨gb249, 2, none⟩ = some (.int .i64 (wrap64 ((Int.tmod t248 12) - 3)))) ∧ (Kd.R k39 39 w' w.heap.size (fun k_ => some k_ ≠ (s_.2 : Value).ownBlock ∧ k_ ≠ gb249) (.slice Ao18 t231.length co18) t231) ∧ (Kd.R (Kd.int .i64) 3 w' w.heap.size (fun k_ => some k_ ≠ (.slice Ao44 t251.length co44 : Value).ownBlock) (.slice Ao23 t236.length co23) t236) ∧ (Kd.R (Kd.int .i64) 3 w' w.heap.size (fun k_ => some k_ ≠ (.slice Ao23 t236.length co23 : Value).ownBlock) (.slice Ao44 t251.length co44) t251) ∧ (Kd.R k39 39 w' w.heap.size (fun k_ => some k_ ≠ (.slice Ao18 t231.length co18 : Value).ownBlock ∧ k_ ≠ gb249) s_.2 y259) ∧ (w'.heap[gb234]? = some (.cells #[.int .i64 t230, .slice Ao18 t231.length co18] 25 (0, 0))) ∧ (w'.heap[gb240]? = some (.cells #[.int .i64 t235, .slice Ao23 t236.length co23] 29 (0, 0))) ∧ (w'.heap[gb249]? = some (.cells #[.int .i64 (Int.tmod t246 t230), .int .i64 (Int.tmod t247 t230), .int .i64 (wrap64 ((Int.tmod t248 12) - 3))] 39 (0, 0))) ∧ (w'.heap[gb255]? = some (.cells #[.int .i64 t250, .slice Ao44 t251.length co44] 29 (0, 0))) ∧ (Below w.heap.size w w')) ?_ ?_
 rotate_left
 {
 intro hJ2_5
 refine join_ (σ := Value × Value) 5 #[true,true,true,true,true,false,true,true,false,false,false,false] (fun s_ => [(61, s_.1), (66, s_.2)]) (fun s_ w' => (w'.cell? ⟨gb234, 0, none⟩ = some (.int .i64 t230) ∧ w'.cell? ⟨gb234, 1, none⟩ = some (.slice Ao18 t231.length co18) ∧ w'.cell? ⟨gb249, 0, none⟩ = some (.int .i64 (Int.tmod t246 t230)) ∧ w'.cell? ⟨gb249, 1, none⟩ = some (.int .i64 (Int.tmod t247 t230)) ∧ w'.cell? ⟨gb249, 2, none⟩ = some (.int .i64 (wrap64 ((Int.tmod t248 12) - 3)))) ∧ (Kd.R k39 39 w' w.heap.size (fun k_ => some k_ ≠ (s_.1 : Value).ownBlock ∧ some k_ ≠ (s_.2 : Value).ownBlock ∧ k_ ≠ gb249) (.slice Ao18 t231.length co18) t231) ∧ (Kd.R (Kd.int .i64) 3 w' w.heap.size (fun k_ => some k_ ≠ (.slice Ao44 t251.length co44 : Value).ownBlock) (.slice Ao23 t236.length co23) t236) ∧ (Kd.R (Kd.int .i64) 3 w' w.heap.size (fun k_ => some k_ ≠ (.slice Ao23 t236.length co23 : Value).ownBlock) (.slice Ao44 t251.length co44) t251) ∧ (Kd.R k39 39 w' w.heap.size (fun k_ => some k_ ≠ (.slice Ao18 t231.length co18 : Value).ownBlock ∧ some k_ ≠ (s_.2 : Value).ownBlock ∧ k_ ≠ gb249) s_.1 y256) ∧ (Kd.R k39 39 w' w.heap.size (fun k_ => some k_ ≠ (.slice Ao18 t231.length co18 : Value).ownBlock ∧ some k_ ≠ (s_.1 : Value).ownBlock ∧ k_ ≠ gb249) s_.2 y262) ∧ (w'.heap[gb234]? = some (.cells #[.int .i64 t230, .slice Ao18 t231.length co18] 25 (0, 0))) ∧ (w'.heap[gb240]? = some (.cells #[.int .i64 t235, .slice Ao23 t236.length co23] 29 (0, 0))) ∧ (w'.heap[gb249]? = some (.cells #[.int .i64 (Int.tmod t246 t230), .int .i64 (Int.tmod t247 t230), .int .i64 (wrap64 ((Int.tmod t248 12) - 3))] 39 (0, 0))) ∧ (w'.heap[gb255]? = some (.cells #[.int .i64 t250, .slice Ao44 t251.length co44] 29 (0, 0))) ∧ (Below w.heap.size w w')) ?_ ?_
 rotate_left
 {
 intro hJ2_7
 refine join_ (σ := Value × Nat) 5 #[true,true,true,true,true,false,true,false,false,false,true,false] (fun s_ => [(61, s_.1), (9, .pointer (some ⟨s_.2, 0, none⟩))]) (fun s_ w' => (w'.cell? ⟨gb234, 0, none⟩ = some (.int .i64 t230) ∧ w'.cell? ⟨gb234, 1, none⟩ = some (.slice Ao18 t231.length co18) ∧ w'.cell? ⟨gb249, 0, none⟩ = some (.int .i64 (Int.tmod t246 t230)) ∧ w'.cell? ⟨gb249, 1, none⟩ = some (.int .i64 (Int.tmod t247 t230)) ∧ w'.cell? ⟨gb249, 2, none⟩ = some (.int .i64 (wrap64 ((Int.tmod t248 12) - 3)))) ∧ (Kd.R k39 39 w' w.heap.size (fun k_ => some k_ ≠ (s_.1 : Value).ownBlock ∧ k_ ≠ gb249) (.slice Ao18 t231.length co18) t231) ∧ (Kd.R (Kd.int .i64) 3 w' w.heap.size (fun k_ => some k_ ≠ (.slice Ao44 t251.length co44 : Value).ownBlock) (.slice Ao23 t236.length co23) t236) ∧ (Kd.R (Kd.int .i64) 3 w' w.heap.size (fun k_ => some k_ ≠ (.slice Ao23 t236.length co23 : Value).ownBlock) (.slice Ao44 t251.length co44) t251) ∧ (Kd.R k39 39 w' w.heap.size (fun k_ => some k_ ≠ (.slice Ao18 t231.length co18 : Value).ownBlock ∧ k_ ≠ gb249) s_.1 y256) ∧ (w'.heap[gb234]? = some (.cells #[.int .i64 t230, .slice Ao18 t231.length co18] 25 (0, 0))) ∧ (w'.heap[gb240]? = some (.cells #[.int .i64 t235, .slice Ao23 t236.length co23] 29 (0, 0))) ∧ (w'.heap[gb249]? = some (.cells #[.int .i64 (Int.tmod t246 t230), .int .i64 (Int.tmod t247 t230), .int .i64 (wrap64 ((Int.tmod t248 12) - 3))] 39 (0, 0))) ∧ (w'.heap[gb255]? = some (.cells #[.int .i64 t250, .slice Ao44 t251.length co44] 29 (0, 0))) ∧ (w'.heap[s_.2]? = some (.cells #[.int .i64 0, .slice none 0 0] 25 (0, 0))) ∧ (w.heap.size ≤ s_.2) ∧ (w.heap.size ≤ s_.2) ∧ (gb234 ≠ s_.2) ∧ (s_.2 ≠ gb234) ∧ (gb240 ≠ s_.2) ∧ (s_.2 ≠ gb240) ∧ (gb249 ≠ s_.2) ∧ (s_.2 ≠ gb249) ∧ (gb255 ≠ s_.2) ∧ (s_.2 ≠ gb255) ∧ (Below w.heap.size w w')) ?_ ?_
 rotate_left
 {
 intro hJ2_10
 refine join_ (σ := Value × Nat) 5 #[true,true,false,true,true,false,true,true,false,false,true,false] (fun s_ => [(66, s_.1), (9, .pointer (some ⟨s_.2, 0, none⟩))]) (fun s_ w' => (w'.cell? ⟨gb234, 0, none⟩ = some (.int .i64 t230) ∧ w'.cell? ⟨gb234, 1, none⟩ = some (.slice Ao18 t231.length co18) ∧ w'.cell? ⟨gb249, 0, none⟩ = some (.int .i64 (Int.tmod t246 t230)) ∧ w'.cell? ⟨gb249, 1, none⟩ = some (.int .i64 (Int.tmod t247 t230)) ∧ w'.cell? ⟨gb249, 2, none⟩ = some (.int .i64 (wrap64 ((Int.tmod t248 12) - 3)))) ∧ (Kd.R k39 39 w' w.heap.size (fun k_ => some k_ ≠ (s_.1 : Value).ownBlock ∧ k_ ≠ gb249) (.slice Ao18 t231.length co18) t231) ∧ (Kd.R (Kd.int .i64) 3 w' w.heap.size (fun k_ => some k_ ≠ (.slice Ao44 t251.length co44 : Value).ownBlock) (.slice Ao23 t236.length co23) t236) ∧ (Kd.R (Kd.int .i64) 3 w' w.heap.size (fun k_ => some k_ ≠ (.slice Ao23 t236.length co23 : Value).ownBlock) (.slice Ao44 t251.length co44) t251) ∧ (Kd.R k39 39 w' w.heap.size (fun k_ => some k_ ≠ (.slice Ao18 t231.length co18 : Value).ownBlock ∧ k_ ≠ gb249) s_.1 y262) ∧ (w'.heap[gb234]? = some (.cells #[.int .i64 t230, .slice Ao18 t231.length co18] 25 (0, 0))) ∧ (w'.heap[gb240]? = some (.cells #[.int .i64 t235, .slice Ao23 t236.length co23] 29 (0, 0))) ∧ (w'.heap[gb249]? = some (.cells #[.int .i64 (Int.tmod t246 t230), .int .i64 (Int.tmod t247 t230), .int .i64 (wrap64 ((Int.tmod t248 12) - 3))] 39 (0, 0))) ∧ (w'.heap[gb255]? = some (.cells #[.int .i64 t250, .slice Ao44 t251.length co44] 29 (0, 0))) ∧ (w'.heap[s_.2]? = some (.cells #[.int .i64 0, .slice none 0 0] 25 (0, 0))) ∧ (w.heap.size ≤ s_.2) ∧ (w.heap.size ≤ s_.2) ∧ (gb234 ≠ s_.2) ∧ (s_.2 ≠ gb234) ∧ (gb240 ≠ s_.2) ∧ (s_.2 ≠ gb240) ∧ (gb249 ≠ s_.2) ∧ (s_.2 ≠ gb249) ∧ (gb255 ≠ s_.2) ∧ (s_.2 ≠ gb255) ∧ (Below w.heap.size w w')) ?_ ?_
 rotate_left
 {
 intro hJ7_10
 refine join_ (σ := Value) 6 #[true,true,true,true,true,false,true,false,false,false,false,false] (fun s_ => [(61, s_)]) (fun s_ w' => (w'.cell? ⟨gb234, 0, none⟩ = some (.int .i64 t230) ∧ w'.cell? ⟨gb234, 1, none⟩ = some (.slice Ao18 t231.length co18) ∧ w'.cell? ⟨gb249, 0, none⟩ = some (.int .i64 (Int.tmod t246 t230)) ∧ w'.cell? ⟨gb249, 1, none⟩ = some (.int .i64 (Int.tmod t247 t230)) ∧ w'.cell? ⟨gb249, 2, none⟩ = some (.int .i64 (wrap64 ((Int.tmod t248 12) - 3)))) ∧ (Kd.R k39 39 w' w.heap.size (fun k_ => some k_ ≠ (s_ : Value).ownBlock ∧ k_ ≠ gb249) (.slice Ao18 t231.length co18) t231) ∧ (Kd.R (Kd.int .i64) 3 w' w.heap.size (fun k_ => some k_ ≠ (.slice Ao44 t251.length co44 : Value).ownBlock) (.slice Ao23 t236.length co23) t236) ∧ (Kd.R (Kd.int .i64) 3 w' w.heap.size (fun k_ => some k_ ≠ (.slice Ao23 t236.length co23 : Value).ownBlock) (.slice Ao44 t251.length co44) t251) ∧ (Kd.R k39 39 w' w.heap.size (fun k_ => some k_ ≠ (.slice Ao18 t231.length co18 : Value).ownBlock ∧ k_ ≠ gb249) s_ y256) ∧ (w'.heap[gb234]? = some (.cells #[.int .i64 t230, .slice Ao18 t231.length co18] 25 (0, 0))) ∧ (w'.heap[gb240]? = some (.cells #[.int .i64 t235, .slice Ao23 t236.length co23] 29 (0, 0))) ∧ (w'.heap[gb249]? = some (.cells #[.int .i64 (Int.tmod t246 t230), .int .i64 (Int.tmod t247 t230), .int .i64 (wrap64 ((Int.tmod t248 12) - 3))] 39 (0, 0))) ∧ (w'.heap[gb255]? = some (.cells #[.int .i64 t250, .slice Ao44 t251.length co44] 29 (0, 0))) ∧ (Below w.heap.size w w')) ?_ ?_
 rotate_left
 {
 intro hJ2
 refine join_ (σ := Value) 6 #[true,true,false,true,true,false,true,true,false,false,false,false] (fun s_ => [(66, s_)]) (fun s_ w' => (w'.cell? ⟨gb234, 0, none⟩ = some (.int .i64 t230) ∧ w'.cell? ⟨gb234, 1, none⟩ = some (.slice Ao18 t231.length co18) ∧ w'.cell? ⟨gb249, 0, none⟩ = some (.int .i64 (Int.tmod t246 t230)) ∧ w'.cell? ⟨gb249, 1, none⟩ = some (.int .i64 (Int.tmod t247 t230)) ∧ w'.cell? ⟨gb249, 2, none⟩ = some (.int .i64 (wrap64 ((Int.tmod t248 12) - 3)))) ∧ (Kd.R k39 39 w' w.heap.size (fun k_ => some k_ ≠ (s_ : Value).ownBlock ∧ k_ ≠ gb249) (.slice Ao18 t231.length co18) t231) ∧ (Kd.R (Kd.int .i64) 3 w' w.heap.size (fun k_ => some k_ ≠ (.slice Ao44 t251.length co44 : Value).ownBlock) (.slice Ao23 t236.length co23) t236) ∧ (Kd.R (Kd.int .i64) 3 w' w.heap.size (fun k_ => some k_ ≠ (.slice Ao23 t236.length co23 : Value).ownBlock) (.slice Ao44 t251.length co44) t251) ∧ (Kd.R k39 39 w' w.heap.size (fun k_ => some k_ ≠ (.slice Ao18 t231.length co18 : Value).ownBlock ∧ k_ ≠ gb249) s_ y262) ∧ (w'.heap[gb234]? = some (.cells #[.int .i64 t230, .slice Ao18 t231.length co18] 25 (0, 0))) ∧ (w'.heap[gb240]? = some (.cells #[.int .i64 t235, .slice Ao23 t236.length co23] 29 (0, 0))) ∧ (w'.heap[gb249]? = some (.cells #[.int .i64 (Int.tmod t246 t230), .int .i64 (Int.tmod t247 t230), .int .i64 (wrap64 ((Int.tmod t248 12) - 3))] 39 (0, 0))) ∧ (w'.heap[gb255]? = some (.cells #[.int .i64 t250, .slice Ao44 t251.length co44] 29 (0, 0))) ∧ (Below w.heap.size w w')) ?_ ?_
 rotate_left
 {
 intro hJ7
 refine join_ (σ := Nat) 6 #[true,true,false,true,true,false,true,false,false,false,true,false] (fun s_ => [(9, .pointer (some ⟨s_, 0, none⟩))]) (fun s_ w' => (w'.cell? ⟨gb234, 0, none⟩ = some (.int .i64 t230) ∧ w'.cell? ⟨gb234, 1, none⟩ = some (.slice Ao18 t231.length co18) ∧ w'.cell? ⟨gb249, 0, none⟩ = some (.int .i64 (Int.tmod t246 t230)) ∧ w'.cell? ⟨gb249, 1, none⟩ = some (.int .i64 (Int.tmod t247 t230)) ∧ w'.cell? ⟨gb249, 2, none⟩ = some (.int .i64 (wrap64 ((Int.tmod t248 12) - 3)))) ∧ (Kd.R k39 39 w' w.heap.size (fun k_ => k_ ≠ gb249) (.slice Ao18 t231.length co18) t231) ∧ (Kd.R (Kd.int .i64) 3 w' w.heap.size (fun k_ => some k_ ≠ (.slice Ao44 t251.length co44 : Value).ownBlock) (.slice Ao23 t236.length co23) t236) ∧ (Kd.R (Kd.int .i64) 3 w' w.heap.size (fun k_ => some k_ ≠ (.slice Ao23 t236.length co23 : Value).ownBlock) (.slice Ao44 t251.length co44) t251) ∧ (w'.heap[gb234]? = some (.cells #[.int .i64 t230, .slice Ao18 t231.length co18] 25 (0, 0))) ∧ (w'.heap[gb240]? = some (.cells #[.int .i64 t235, .slice Ao23 t236.length co23] 29 (0, 0))) ∧ (w'.heap[gb249]? = some (.cells #[.int .i64 (Int.tmod t246 t230), .int .i64 (Int.tmod t247 t230), .int .i64 (wrap64 ((Int.tmod t248 12) - 3))] 39 (0, 0))) ∧ (w'.heap[gb255]? = some (.cells #[.int .i64 t250, .slice Ao44 t251.length co44] 29 (0, 0))) ∧ (w'.heap[s_]? = some (.cells #[.int .i64 0, .slice none 0 0] 25 (0, 0))) ∧ (w.heap.size ≤ s_) ∧ (w.heap.size ≤ s_) ∧ (gb234 ≠ s_) ∧ (s_ ≠ gb234) ∧ (gb240 ≠ s_) ∧ (s_ ≠ gb240) ∧ (gb249 ≠ s_) ∧ (s_ ≠ gb249) ∧ (gb255 ≠ s_) ∧ (s_ ≠ gb255) ∧ (Below w.heap.size w w')) ?_ ?_
 rotate_left
 {
 intro hJ10
 refine three_ (i := 2) (j := 7) (k := 10) (Ni := some 61) (Nj := some 66) (Nk := some 9) #[true,true,true,true,true,false,true,false,false,false,false,false] #[true,true,false,true,true,false,true,true,false,false,false,false] #[true,true,false,true,true,false,true,false,false,false,true,false] rfl rfl rfl rfl rfl rfl (three_of HT_.out (by kernel_rfl)) (by decide) (by decide) (by decide) (fun K hK => ?_) (fun K hK => ?_) (fun K hK => ?_)
 {
 skip
 refine Kd.R_lit_step k39 _ 39 ?hg (N := 61) ?hd (xs := ([] : List (S39))) (inner := []) (ok := fun _ => True) (okp := fun _ => True) ?hr ?hp (fun _ hk => hk) trivial (Below.refl _ _) (Nat.le_refl _) (by simp) ?_; (case hd => rfl); (case hg => rfl); (case hr => go_simp <;> rfl); (case hp => exact (Reps.none _ _))
 intro v257 w47 ho48 hb hg_ hnew_
 clear hg_ hnew_
 (first | rw [← Ny256.out] at ho48 | (simp only [Int.reduceToNat] at ho48; rw [← Ny256.out] at ho48))
 have n0_ := mK (Kd.R_elder' (by (with_reducible repeat first|apply rA|apply rN|apply rD); exact HO233.out) (Kd.R_base ho48) hb)
 have n1_ := mK (rB (by (with_reducible repeat first|apply rA|apply rN|apply rD); exact HO238.out) hb)
 have n2_ := mK (rB (by (with_reducible repeat first|apply rA|apply rN|apply rD); exact HO253.out) hb)
 have n3_ := mK (Kd.R_lower (Kd.R_newB (Kd.R_new' ho48 (Kd.R_lt (by (with_reducible repeat first|apply rA|apply rN|apply rD); exact HO233.out))) (by (with_reducible repeat first|apply kN|apply kD|apply kA); exact BK249.out)) (bZ (by repeat first|(with_reducible first|exact HB.out|apply bA|apply bN|apply bD|refine bS ?_ GE234.out|refine bS ?_ GE240.out|refine bS ?_ GE249.out|refine bS ?_ GE255.out)|exact HB.out)))
 have n4_ := mK (kB (by (with_reducible repeat first|apply kN|apply kD|apply kA); exact BK234.out) hb)
 have n5_ := mK (kB (by (with_reducible repeat first|apply kN|apply kD|apply kA); exact BK240.out) hb)
 have n6_ := mK (kB (by (with_reducible repeat first|apply kN|apply kD|apply kA); exact BK249.out) hb)
 have n7_ := mK (kB (by (with_reducible repeat first|apply kN|apply kD|apply kA); exact BK255.out) hb)
 have n8_ := mK (bP (by repeat first|(with_reducible first|exact HB.out|apply bA|apply bN|apply bD|refine bS ?_ GE234.out|refine bS ?_ GE240.out|refine bS ?_ GE249.out|refine bS ?_ GE255.out)|exact HB.out) hb)
 clear HO233
 clear HO238
 clear HO253
 clear BK234
 clear BK240
 clear BK249
 clear BK255
 clear HB
 have HO233 := n0_
 have HO238 := n1_
 have HO253 := n2_
 have HO258 := n3_
 have BK234 := n4_
 have BK240 := n5_
 have BK249 := n6_
 have BK255 := n7_
 have HB := n8_
 clear n0_ n1_ n2_ n3_ n4_ n5_ n6_ n7_ n8_
 clear hb ho48
 refine hK.out _ _ ⟨(kC BK234.out 0).trans rfl, (kC BK234.out 1).trans rfl, (kC BK249.out 0).trans rfl, (kC BK249.out 1).trans rfl, (kC BK249.out 2).trans rfl⟩ (fun hHeld => ?_)
 clear hK K
 refine norm_ (a' := ?_) ?_ ?_
 rotate_left
 {
 show Act.put _ (some 61) _ = _
 simp only [Act.put, sT, sZ, sU, i64_w, i32_w]
 rfl
 }
 exact norm_ (by simp only [putAll, Act.put, sT, sZ, sU] <;> rfl) (hJ2 (v257) _ ⟨hHeld, (rM HO233.out (fun _ hk => ⟨hk.2, hk.1⟩)), HO238.out, HO253.out, (rM HO258.out (fun _ hk => ⟨hk.1.2, hk.2⟩)), BK234.out, BK240.out, BK249.out, BK255.out, HB.out⟩)
 }
 {
 skip
 refine Kd.R_lit_step k39 _ 39 ?hg (N := 66) ?hd (xs := ([(⟨Int.tmod t246 t230, Int.tmod t247 t230, wrap64 ((Int.tmod t248 12) - 3)⟩ : S39)] : List (S39))) (inner := [.int .i64 (Int.tmod t246 t230), .int .i64 (Int.tmod t247 t230), .int .i64 (wrap64 ((Int.tmod t248 12) - 3))]) (ok := fun _ => True) (okp := fun _ => True) ?hr ?hp (fun _ hk => hk) trivial (Below.refl _ _) (Nat.le_refl _) (by simp) ?_; (case hd => rfl); (case hg => rfl); (case hr => go_simp <;> rfl); (case hp => exact (Reps.c3 (show Kd.M k39 _ _ _ (⟨Int.tmod t246 t230, Int.tmod t247 t230, wrap64 ((Int.tmod t248 12) - 3)⟩ : S39) [.int .i64 (Int.tmod t246 t230), .int .i64 (Int.tmod t247 t230), .int .i64 (wrap64 ((Int.tmod t248 12) - 3))] from (k39_mkM _ _ _ (⟨Int.tmod t246 t230, Int.tmod t247 t230, wrap64 ((Int.tmod t248 12) - 3)⟩ : S39) )) (Reps.none _ _)))
 intro v263 w47 ho48 hb hg_ hnew_
 clear hg_ hnew_
 (first | rw [← Ny262.out] at ho48 | (simp only [Int.reduceToNat] at ho48; rw [← Ny262.out] at ho48))
 have n0_ := mK (Kd.R_elder' (by (with_reducible repeat first|apply rA|apply rN|apply rD); exact HO233.out) (Kd.R_base ho48) hb)
 have n1_ := mK (rB (by (with_reducible repeat first|apply rA|apply rN|apply rD); exact HO238.out) hb)
 have n2_ := mK (rB (by (with_reducible repeat first|apply rA|apply rN|apply rD); exact HO253.out) hb)
 have n3_ := mK (Kd.R_lower (Kd.R_newB (Kd.R_new' ho48 (Kd.R_lt (by (with_reducible repeat first|apply rA|apply rN|apply rD); exact HO233.out))) (by (with_reducible repeat first|apply kN|apply kD|apply kA); exact BK249.out)) (bZ (by repeat first|(with_reducible first|exact HB.out|apply bA|apply bN|apply bD|refine bS ?_ GE234.out|refine bS ?_ GE240.out|refine bS ?_ GE249.out|refine bS ?_ GE255.out)|exact HB.out)))
 have n4_ := mK (kB (by (with_reducible repeat first|apply kN|apply kD|apply kA); exact BK234.out) hb)
 have n5_ := mK (kB (by (with_reducible repeat first|apply kN|apply kD|apply kA); exact BK240.out) hb)
 have n6_ := mK (kB (by (with_reducible repeat first|apply kN|apply kD|apply kA); exact BK249.out) hb)
 have n7_ := mK (kB (by (with_reducible repeat first|apply kN|apply kD|apply kA); exact BK255.out) hb)
 have n8_ := mK (bP (by repeat first|(with_reducible first|exact HB.out|apply bA|apply bN|apply bD|refine bS ?_ GE234.out|refine bS ?_ GE240.out|refine bS ?_ GE249.out|refine bS ?_ GE255.out)|exact HB.out) hb)
 clear HO233
 clear HO238
 clear HO253
 clear BK234
 clear BK240
 clear BK249
 clear BK255
 clear HB
 have HO233 := n0_
 have HO238 := n1_
 have HO253 := n2_
 have HO264 := n3_
 have BK234 := n4_
 have BK240 := n5_
 have BK249 := n6_
 have BK255 := n7_
 have HB := n8_
 clear n0_ n1_ n2_ n3_ n4_ n5_ n6_ n7_ n8_
 clear hb ho48
 refine hK.out _ _ ⟨(kC BK234.out 0).trans rfl, (kC BK234.out 1).trans rfl, (kC BK249.out 0).trans rfl, (kC BK249.out 1).trans rfl, (kC BK249.out 2).trans rfl⟩ (fun hHeld => ?_)
 clear hK K
 refine norm_ (a' := ?_) ?_ ?_
 rotate_left
 {
 show Act.put _ (some 66) _ = _
 simp only [Act.put, sT, sZ, sU, i64_w, i32_w]
 rfl
 }
 exact norm_ (by simp only [putAll, Act.put, sT, sZ, sU] <;> rfl) (hJ7 (v263) _ ⟨hHeld, (rM HO233.out (fun _ hk => ⟨hk.2, hk.1⟩)), HO238.out, HO253.out, (rM HO264.out (fun _ hk => ⟨hk.1.2, hk.2⟩)), BK234.out, BK240.out, BK249.out, BK255.out, HB.out⟩)
 }
 {
 skip
 refine box_step ?hg (N := 9) ?hd (cs := #[.int .i64 0, .slice none 0 0]) (t := 25) ?hr ?_; (case hd => rfl); (case hg => rfl); (case hr => go_simp <;> rfl)
 intro gb268 hg w47 hbox hb
 have n0_ := mK (rB (by (with_reducible repeat first|apply rA|apply rN|apply rD); exact HO233.out) hb)
 have n1_ := mK (rB (by (with_reducible repeat first|apply rA|apply rN|apply rD); exact HO238.out) hb)
 have n2_ := mK (rB (by (with_reducible repeat first|apply rA|apply rN|apply rD); exact HO253.out) hb)
 have n3_ := mK (kB (by (with_reducible repeat first|apply kN|apply kD|apply kA); exact BK234.out) hb)
 have n4_ := mK (kB (by (with_reducible repeat first|apply kN|apply kD|apply kA); exact BK240.out) hb)
 have n5_ := mK (kB (by (with_reducible repeat first|apply kN|apply kD|apply kA); exact BK249.out) hb)
 have n6_ := mK (kB (by (with_reducible repeat first|apply kN|apply kD|apply kA); exact BK255.out) hb)
 have n7_ := mK (bP (by repeat first|(with_reducible first|exact HB.out|apply bA|apply bN|apply bD|refine bS ?_ GE234.out|refine bS ?_ GE240.out|refine bS ?_ GE249.out|refine bS ?_ GE255.out)|exact HB.out) hb)
 have n8_ := mK (hbox)
 have n9_ := mK ((by rw [hg]; exact (bZ (by repeat first|(with_reducible first|exact HB.out|apply bA|apply bN|apply bD|refine bS ?_ GE234.out|refine bS ?_ GE240.out|refine bS ?_ GE249.out|refine bS ?_ GE255.out)|exact HB.out)) : w.heap.size ≤ gb268))
 have n10_ := mK ((by rw [hg]; exact (bZ (by repeat first|(with_reducible first|exact HB.out|apply bA|apply bN|apply bD|refine bS ?_ GE234.out|refine bS ?_ GE240.out|refine bS ?_ GE249.out|refine bS ?_ GE255.out)|exact HB.out)) : w.heap.size ≤ gb268))
 have n11_ := mK ((by rw [hg]; exact Nat.ne_of_lt (blk_lt (by (with_reducible repeat first|apply kN|apply kD|apply kA); exact BK234.out)) : gb234 ≠ gb268))
 have n12_ := mK ((by rw [hg]; exact Nat.ne_of_gt (blk_lt (by (with_reducible repeat first|apply kN|apply kD|apply kA); exact BK234.out)) : gb268 ≠ gb234))
 have n13_ := mK ((by rw [hg]; exact Nat.ne_of_lt (blk_lt (by (with_reducible repeat first|apply kN|apply kD|apply kA); exact BK240.out)) : gb240 ≠ gb268))
 have n14_ := mK ((by rw [hg]; exact Nat.ne_of_gt (blk_lt (by (with_reducible repeat first|apply kN|apply kD|apply kA); exact BK240.out)) : gb268 ≠ gb240))
 have n15_ := mK ((by rw [hg]; exact Nat.ne_of_lt (blk_lt (by (with_reducible repeat first|apply kN|apply kD|apply kA); exact BK249.out)) : gb249 ≠ gb268))
 have n16_ := mK ((by rw [hg]; exact Nat.ne_of_gt (blk_lt (by (with_reducible repeat first|apply kN|apply kD|apply kA); exact BK249.out)) : gb268 ≠ gb249))
 have n17_ := mK ((by rw [hg]; exact Nat.ne_of_lt (blk_lt (by (with_reducible repeat first|apply kN|apply kD|apply kA); exact BK255.out)) : gb255 ≠ gb268))
 have n18_ := mK ((by rw [hg]; exact Nat.ne_of_gt (blk_lt (by (with_reducible repeat first|apply kN|apply kD|apply kA); exact BK255.out)) : gb268 ≠ gb255))
 clear HO233
 clear HO238
 clear HO253
 clear BK234
 clear BK240
 clear BK249
 clear BK255
 clear HB
 have HO233 := n0_
 have HO238 := n1_
 have HO253 := n2_
 have BK234 := n3_
 have BK240 := n4_
 have BK249 := n5_
 have BK255 := n6_
 have HB := n7_
 have BK268 := n8_
 have GW268 := n9_
 have GE268 := n10_
 have NB234_268 := n11_
 have NB268_234 := n12_
 have NB240_268 := n13_
 have NB268_240 := n14_
 have NB249_268 := n15_
 have NB268_249 := n16_
 have NB255_268 := n17_
 have NB268_255 := n18_
 clear n0_ n1_ n2_ n3_ n4_ n5_ n6_ n7_ n8_ n9_ n10_ n11_ n12_ n13_ n14_ n15_ n16_ n17_ n18_
 clear hb hbox hg
 refine hK.out _ _ ⟨(kC BK234.out 0).trans rfl, (kC BK234.out 1).trans rfl, (kC BK249.out 0).trans rfl, (kC BK249.out 1).trans rfl, (kC BK249.out 2).trans rfl⟩ (fun hHeld => ?_)
 clear hK K
 refine norm_ (a' := ?_) ?_ ?_
 rotate_left
 {
 show Act.put _ (some 9) _ = _
 simp only [Act.put, sT, sZ, sU, i64_w, i32_w]
 rfl
 }
 exact norm_ (by simp only [putAll, Act.put, sT, sZ, sU] <;> rfl) (hJ10 (gb268) _ ⟨hHeld, HO233.out, HO238.out, HO253.out, BK234.out, BK240.out, BK249.out, BK255.out, BK268.out, GW268.out, GE268.out, NB234_268.out, NB268_234.out, NB240_268.out, NB268_240.out, NB249_268.out, NB268_249.out, NB255_268.out, NB268_255.out, HB.out⟩)
 }
 }
 {
 skip
 rintro gb268 w48 ⟨hS_, h0_, h1_, h2_, h3_, h4_, h5_, h6_, h7_, h8_, h9_, h10_, h11_, h12_, h13_, h14_, h15_, h16_, h17_, h18_⟩
 have n0_ : Aside0 (Kd.R k39 39 w48 w.heap.size (fun k_ => k_ ≠ gb249) (.slice Ao18 t231.length co18) t231) := ⟨h0_⟩
 have n1_ : Aside0 (Kd.R (Kd.int .i64) 3 w48 w.heap.size (fun k_ => some k_ ≠ (.slice Ao44 t251.length co44 : Value).ownBlock) (.slice Ao23 t236.length co23) t236) := ⟨h1_⟩
 have n2_ : Aside0 (Kd.R (Kd.int .i64) 3 w48 w.heap.size (fun k_ => some k_ ≠ (.slice Ao23 t236.length co23 : Value).ownBlock) (.slice Ao44 t251.length co44) t251) := ⟨h2_⟩
 have n3_ : Aside0 (w48.heap[gb234]? = some (.cells #[.int .i64 t230, .slice Ao18 t231.length co18] 25 (0, 0))) := ⟨h3_⟩
 have n4_ : Aside0 (w48.heap[gb240]? = some (.cells #[.int .i64 t235, .slice Ao23 t236.length co23] 29 (0, 0))) := ⟨h4_⟩
 have n5_ : Aside0 (w48.heap[gb249]? = some (.cells #[.int .i64 (Int.tmod t246 t230), .int .i64 (Int.tmod t247 t230), .int .i64 (wrap64 ((Int.tmod t248 12) - 3))] 39 (0, 0))) := ⟨h5_⟩
 have n6_ : Aside0 (w48.heap[gb255]? = some (.cells #[.int .i64 t250, .slice Ao44 t251.length co44] 29 (0, 0))) := ⟨h6_⟩
 have n7_ : Aside0 (w48.heap[gb268]? = some (.cells #[.int .i64 0, .slice none 0 0] 25 (0, 0))) := ⟨h7_⟩
 have n8_ : Aside0 (w.heap.size ≤ gb268) := ⟨h8_⟩
 have n9_ : Aside0 (w.heap.size ≤ gb268) := ⟨h9_⟩
 have n10_ : Aside0 (gb234 ≠ gb268) := ⟨h10_⟩
 have n11_ : Aside0 (gb268 ≠ gb234) := ⟨h11_⟩
 have n12_ : Aside0 (gb240 ≠ gb268) := ⟨h12_⟩
 have n13_ : Aside0 (gb268 ≠ gb240) := ⟨h13_⟩
 have n14_ : Aside0 (gb249 ≠ gb268) := ⟨h14_⟩
 have n15_ : Aside0 (gb268 ≠ gb249) := ⟨h15_⟩
 have n16_ : Aside0 (gb255 ≠ gb268) := ⟨h16_⟩
 have n17_ : Aside0 (gb268 ≠ gb255) := ⟨h17_⟩
 have n18_ : Aside0 (Below w.heap.size w w48) := ⟨h18_⟩
 clear HO233
 clear HO238
 clear HO253
 clear BK234
 clear BK240
 clear BK249
 clear BK255
 clear HB
 clear h0_ h1_ h2_ h3_ h4_ h5_ h6_ h7_ h8_ h9_ h10_ h11_ h12_ h13_ h14_ h15_ h16_ h17_ h18_
 have HO233 := n0_
 have HO238 := n1_
 have HO253 := n2_
 have BK234 := n3_
 have BK240 := n4_
 have BK249 := n5_
 have BK255 := n6_
 have BK268 := n7_
 have GW268 := n8_
 have GE268 := n9_
 have NB234_268 := n10_
 have NB268_234 := n11_
 have NB240_268 := n12_
 have NB268_240 := n13_
 have NB249_268 := n14_
 have NB268_249 := n15_
 have NB255_268 := n16_
 have NB268_255 := n17_
 have HB := n18_
 clear n0_ n1_ n2_ n3_ n4_ n5_ n6_ n7_ n8_ n9_ n10_ n11_ n12_ n13_ n14_ n15_ n16_ n17_ n18_
 have hHeld : w48.cell? ⟨gb234, 0, none⟩ = some (.int .i64 t230) ∧ w48.cell? ⟨gb234, 1, none⟩ = some (.slice Ao18 t231.length co18) ∧ w48.cell? ⟨gb249, 0, none⟩ = some (.int .i64 (Int.tmod t246 t230)) ∧ w48.cell? ⟨gb249, 1, none⟩ = some (.int .i64 (Int.tmod t247 t230)) ∧ w48.cell? ⟨gb249, 2, none⟩ = some (.int .i64 (wrap64 ((Int.tmod t248 12) - 3))) := hS_
 refine norm_ (a' := ?_) ?_ ?_
 rotate_left
 {
 simp only [putAll, Act.put, sT, sZ, sU]
 rfl
 }
 refine two_ (i := 2) (j := 7) (Ni := some 61) (Nj := some 66) #[true,true,true,true,true,false,true,false,false,false,true,false] #[true,true,false,true,true,false,true,true,false,false,true,false] rfl rfl rfl rfl (two_of HT_.out (by kernel_rfl)) (by decide) (by decide) (fun K hK => ?_) (fun K hK => ?_)
 {
 skip
 refine Kd.R_lit_step k39 _ 39 ?hg (N := 61) ?hd (xs := ([] : List (S39))) (inner := []) (ok := fun _ => True) (okp := fun _ => True) ?hr ?hp (fun _ hk => hk) trivial (Below.refl _ _) (Nat.le_refl _) (by simp) ?_; (case hd => rfl); (case hg => rfl); (case hr => go_simp <;> rfl); (case hp => exact (Reps.none _ _))
 intro v257 w49 ho50 hb hg_ hnew_
 clear hg_ hnew_
 (first | rw [← Ny256.out] at ho50 | (simp only [Int.reduceToNat] at ho50; rw [← Ny256.out] at ho50))
 have n0_ := mK (Kd.R_elder' (by (with_reducible repeat first|apply rA|apply rN|apply rD); exact HO233.out) (Kd.R_base ho50) hb)
 have n1_ := mK (rB (by (with_reducible repeat first|apply rA|apply rN|apply rD); exact HO238.out) hb)
 have n2_ := mK (rB (by (with_reducible repeat first|apply rA|apply rN|apply rD); exact HO253.out) hb)
 have n3_ := mK (Kd.R_lower (Kd.R_newB (Kd.R_new' ho50 (Kd.R_lt (by (with_reducible repeat first|apply rA|apply rN|apply rD); exact HO233.out))) (by (with_reducible repeat first|apply kN|apply kD|apply kA); exact BK249.out)) (bZ (by repeat first|(with_reducible first|exact HB.out|apply bA|apply bN|apply bD|refine bS ?_ GE234.out|refine bS ?_ GE240.out|refine bS ?_ GE249.out|refine bS ?_ GE255.out|refine bS ?_ GE268.out)|exact HB.out)))
 have n4_ := mK (kB (by (with_reducible repeat first|apply kN|apply kD|apply kA); exact BK234.out) hb)
 have n5_ := mK (kB (by (with_reducible repeat first|apply kN|apply kD|apply kA); exact BK240.out) hb)
 have n6_ := mK (kB (by (with_reducible repeat first|apply kN|apply kD|apply kA); exact BK249.out) hb)
 have n7_ := mK (kB (by (with_reducible repeat first|apply kN|apply kD|apply kA); exact BK255.out) hb)
 have n8_ := mK (kB (by (with_reducible repeat first|apply kN|apply kD|apply kA); exact BK268.out) hb)
 have n9_ := mK (bP (by repeat first|(with_reducible first|exact HB.out|apply bA|apply bN|apply bD|refine bS ?_ GE234.out|refine bS ?_ GE240.out|refine bS ?_ GE249.out|refine bS ?_ GE255.out|refine bS ?_ GE268.out)|exact HB.out) hb)
 clear HO233
 clear HO238
 clear HO253
 clear BK234
 clear BK240
 clear BK249
 clear BK255
 clear BK268
 clear HB
 have HO233 := n0_
 have HO238 := n1_
 have HO253 := n2_
 have HO258 := n3_
 have BK234 := n4_
 have BK240 := n5_
 have BK249 := n6_
 have BK255 := n7_
 have BK268 := n8_
 have HB := n9_
 clear n0_ n1_ n2_ n3_ n4_ n5_ n6_ n7_ n8_ n9_
 clear hb ho50
 refine hK.out _ _ ⟨(kC BK234.out 0).trans rfl, (kC BK234.out 1).trans rfl, (kC BK249.out 0).trans rfl, (kC BK249.out 1).trans rfl, (kC BK249.out 2).trans rfl⟩ (fun hHeld => ?_)
 clear hK K
 refine norm_ (a' := ?_) ?_ ?_
 rotate_left
 {
 show Act.put _ (some 61) _ = _
 simp only [Act.put, sT, sZ, sU, i64_w, i32_w]
 rfl
 }
 exact norm_ (by simp only [putAll, Act.put, sT, sZ, sU] <;> rfl) (hJ2_10 (v257, gb268) _ ⟨hHeld, (rM HO233.out (fun _ hk => ⟨hk.2, hk.1⟩)), HO238.out, HO253.out, (rM HO258.out (fun _ hk => ⟨hk.1.2, hk.2⟩)), BK234.out, BK240.out, BK249.out, BK255.out, BK268.out, GW268.out, GE268.out, NB234_268.out, NB268_234.out, NB240_268.out, NB268_240.out, NB249_268.out, NB268_249.out, NB255_268.out, NB268_255.out, HB.out⟩)
 }
 {
 skip
 refine Kd.R_lit_step k39 _ 39 ?hg (N := 66) ?hd (xs := ([(⟨Int.tmod t246 t230, Int.tmod t247 t230, wrap64 ((Int.tmod t248 12) - 3)⟩ : S39)] : List (S39))) (inner := [.int .i64 (Int.tmod t246 t230), .int .i64 (Int.tmod t247 t230), .int .i64 (wrap64 ((Int.tmod t248 12) - 3))]) (ok := fun _ => True) (okp := fun _ => True) ?hr ?hp (fun _ hk => hk) trivial (Below.refl _ _) (Nat.le_refl _) (by simp) ?_; (case hd => rfl); (case hg => rfl); (case hr => go_simp <;> rfl); (case hp => exact (Reps.c3 (show Kd.M k39 _ _ _ (⟨Int.tmod t246 t230, Int.tmod t247 t230, wrap64 ((Int.tmod t248 12) - 3)⟩ : S39) [.int .i64 (Int.tmod t246 t230), .int .i64 (Int.tmod t247 t230), .int .i64 (wrap64 ((Int.tmod t248 12) - 3))] from (k39_mkM _ _ _ (⟨Int.tmod t246 t230, Int.tmod t247 t230, wrap64 ((Int.tmod t248 12) - 3)⟩ : S39) )) (Reps.none _ _)))
 intro v263 w49 ho50 hb hg_ hnew_
 clear hg_ hnew_
 (first | rw [← Ny262.out] at ho50 | (simp only [Int.reduceToNat] at ho50; rw [← Ny262.out] at ho50))
 have n0_ := mK (Kd.R_elder' (by (with_reducible repeat first|apply rA|apply rN|apply rD); exact HO233.out) (Kd.R_base ho50) hb)
 have n1_ := mK (rB (by (with_reducible repeat first|apply rA|apply rN|apply rD); exact HO238.out) hb)
 have n2_ := mK (rB (by (with_reducible repeat first|apply rA|apply rN|apply rD); exact HO253.out) hb)
 have n3_ := mK (Kd.R_lower (Kd.R_newB (Kd.R_new' ho50 (Kd.R_lt (by (with_reducible repeat first|apply rA|apply rN|apply rD); exact HO233.out))) (by (with_reducible repeat first|apply kN|apply kD|apply kA); exact BK249.out)) (bZ (by repeat first|(with_reducible first|exact HB.out|apply bA|apply bN|apply bD|refine bS ?_ GE234.out|refine bS ?_ GE240.out|refine bS ?_ GE249.out|refine bS ?_ GE255.out|refine bS ?_ GE268.out)|exact HB.out)))
 have n4_ := mK (kB (by (with_reducible repeat first|apply kN|apply kD|apply kA); exact BK234.out) hb)
 have n5_ := mK (kB (by (with_reducible repeat first|apply kN|apply kD|apply kA); exact BK240.out) hb)
 have n6_ := mK (kB (by (with_reducible repeat first|apply kN|apply kD|apply kA); exact BK249.out) hb)
 have n7_ := mK (kB (by (with_reducible repeat first|apply kN|apply kD|apply kA); exact BK255.out) hb)
 have n8_ := mK (kB (by (with_reducible repeat first|apply kN|apply kD|apply kA); exact BK268.out) hb)
 have n9_ := mK (bP (by repeat first|(with_reducible first|exact HB.out|apply bA|apply bN|apply bD|refine bS ?_ GE234.out|refine bS ?_ GE240.out|refine bS ?_ GE249.out|refine bS ?_ GE255.out|refine bS ?_ GE268.out)|exact HB.out) hb)
 clear HO233
 clear HO238
 clear HO253
 clear BK234
 clear BK240
 clear BK249
 clear BK255
 clear BK268
 clear HB
 have HO233 := n0_
 have HO238 := n1_
 have HO253 := n2_
 have HO264 := n3_
 have BK234 := n4_
 have BK240 := n5_
 have BK249 := n6_
 have BK255 := n7_
 have BK268 := n8_
 have HB := n9_
 clear n0_ n1_ n2_ n3_ n4_ n5_ n6_ n7_ n8_ n9_
 clear hb ho50
 refine hK.out _ _ ⟨(kC BK234.out 0).trans rfl, (kC BK234.out 1).trans rfl, (kC BK249.out 0).trans rfl, (kC BK249.out 1).trans rfl, (kC BK249.out 2).trans rfl⟩ (fun hHeld => ?_)
 clear hK K
 refine norm_ (a' := ?_) ?_ ?_
 rotate_left
 {
 show Act.put _ (some 66) _ = _
 simp only [Act.put, sT, sZ, sU, i64_w, i32_w]
 rfl
 }
 exact norm_ (by simp only [putAll, Act.put, sT, sZ, sU] <;> rfl) (hJ7_10 (v263, gb268) _ ⟨hHeld, (rM HO233.out (fun _ hk => ⟨hk.2, hk.1⟩)), HO238.out, HO253.out, (rM HO264.out (fun _ hk => ⟨hk.1.2, hk.2⟩)), BK234.out, BK240.out, BK249.out, BK255.out, BK268.out, GW268.out, GE268.out, NB234_268.out, NB268_234.out, NB240_268.out, NB268_240.out, NB249_268.out, NB268_249.out, NB255_268.out, NB268_255.out, HB.out⟩)
 }
 }
 }
 {
 skip
 rintro v263 w49 ⟨hS_, h0_, h1_, h2_, h3_, h4_, h5_, h6_, h7_, h8_⟩
 have n0_ : Aside0 (Kd.R k39 39 w49 w.heap.size (fun k_ => some k_ ≠ (v263 : Value).ownBlock ∧ k_ ≠ gb249) (.slice Ao18 t231.length co18) t231) := ⟨h0_⟩
 have n1_ : Aside0 (Kd.R (Kd.int .i64) 3 w49 w.heap.size (fun k_ => some k_ ≠ (.slice Ao44 t251.length co44 : Value).ownBlock) (.slice Ao23 t236.length co23) t236) := ⟨h1_⟩
 have n2_ : Aside0 (Kd.R (Kd.int .i64) 3 w49 w.heap.size (fun k_ => some k_ ≠ (.slice Ao23 t236.length co23 : Value).ownBlock) (.slice Ao44 t251.length co44) t251) := ⟨h2_⟩
 have n3_ : Aside0 (Kd.R k39 39 w49 w.heap.size (fun k_ => some k_ ≠ (.slice Ao18 t231.length co18 : Value).ownBlock ∧ k_ ≠ gb249) v263 y262) := ⟨h3_⟩
 have n4_ : Aside0 (w49.heap[gb234]? = some (.cells #[.int .i64 t230, .slice Ao18 t231.length co18] 25 (0, 0))) := ⟨h4_⟩
 have n5_ : Aside0 (w49.heap[gb240]? = some (.cells #[.int .i64 t235, .slice Ao23 t236.length co23] 29 (0, 0))) := ⟨h5_⟩
 have n6_ : Aside0 (w49.heap[gb249]? = some (.cells #[.int .i64 (Int.tmod t246 t230), .int .i64 (Int.tmod t247 t230), .int .i64 (wrap64 ((Int.tmod t248 12) - 3))] 39 (0, 0))) := ⟨h6_⟩
 have n7_ : Aside0 (w49.heap[gb255]? = some (.cells #[.int .i64 t250, .slice Ao44 t251.length co44] 29 (0, 0))) := ⟨h7_⟩
 have n8_ : Aside0 (Below w.heap.size w w49) := ⟨h8_⟩
 clear HO233
 clear HO238
 clear HO253
 clear BK234
 clear BK240
 clear BK249
 clear BK255
 clear HB
 clear h0_ h1_ h2_ h3_ h4_ h5_ h6_ h7_ h8_
 have HO233 := n0_
 have HO238 := n1_
 have HO253 := n2_
 have HO264 := n3_
 have BK234 := n4_
 have BK240 := n5_
 have BK249 := n6_
 have BK255 := n7_
 have HB := n8_
 clear n0_ n1_ n2_ n3_ n4_ n5_ n6_ n7_ n8_
 have hHeld : w49.cell? ⟨gb234, 0, none⟩ = some (.int .i64 t230) ∧ w49.cell? ⟨gb234, 1, none⟩ = some (.slice Ao18 t231.length co18) ∧ w49.cell? ⟨gb249, 0, none⟩ = some (.int .i64 (Int.tmod t246 t230)) ∧ w49.cell? ⟨gb249, 1, none⟩ = some (.int .i64 (Int.tmod t247 t230)) ∧ w49.cell? ⟨gb249, 2, none⟩ = some (.int .i64 (wrap64 ((Int.tmod t248 12) - 3))) := hS_
 refine norm_ (a' := ?_) ?_ ?_
 rotate_left
 {
 simp only [putAll, Act.put, sT, sZ, sU]
 rfl
 }
 refine two_ (i := 2) (j := 10) (Ni := some 61) (Nj := some 9) #[true,true,true,true,true,false,true,true,false,false,false,false] #[true,true,false,true,true,false,true,true,false,false,true,false] rfl rfl rfl rfl (two_of HT_.out (by kernel_rfl)) (by decide) (by decide) (fun K hK => ?_) (fun K hK => ?_)
 {
 skip
 refine Kd.R_lit_step k39 _ 39 ?hg (N := 61) ?hd (xs := ([] : List (S39))) (inner := []) (ok := fun _ => True) (okp := fun _ => True) ?hr ?hp (fun _ hk => hk) trivial (Below.refl _ _) (Nat.le_refl _) (by simp) ?_; (case hd => rfl); (case hg => rfl); (case hr => go_simp <;> rfl); (case hp => exact (Reps.none _ _))
 intro v257 w50 ho51 hb hg_ hnew_
 clear hg_ hnew_
 (first | rw [← Ny256.out] at ho51 | (simp only [Int.reduceToNat] at ho51; rw [← Ny256.out] at ho51))
 have n0_ := mK (Kd.R_elder' (by (with_reducible repeat first|apply rA|apply rN|apply rD); exact HO233.out) (Kd.R_base ho51) hb)
 have n1_ := mK (rB (by (with_reducible repeat first|apply rA|apply rN|apply rD); exact HO238.out) hb)
 have n2_ := mK (rB (by (with_reducible repeat first|apply rA|apply rN|apply rD); exact HO253.out) hb)
 have n3_ := mK (Kd.R_elder' (by (with_reducible repeat first|apply rA|apply rN|apply rD); exact HO264.out) (Kd.R_base ho51) hb)
 have n4_ := mK (Kd.R_lower (Kd.R_newB (Kd.R_new' (Kd.R_new' ho51 (Kd.R_lt (by (with_reducible repeat first|apply rA|apply rN|apply rD); exact HO233.out))) (Kd.R_lt (by (with_reducible repeat first|apply rA|apply rN|apply rD); exact HO264.out))) (by (with_reducible repeat first|apply kN|apply kD|apply kA); exact BK249.out)) (bZ (by repeat first|(with_reducible first|exact HB.out|apply bA|apply bN|apply bD|refine bS ?_ GE234.out|refine bS ?_ GE240.out|refine bS ?_ GE249.out|refine bS ?_ GE255.out)|exact HB.out)))
 have n5_ := mK (kB (by (with_reducible repeat first|apply kN|apply kD|apply kA); exact BK234.out) hb)
 have n6_ := mK (kB (by (with_reducible repeat first|apply kN|apply kD|apply kA); exact BK240.out) hb)
 have n7_ := mK (kB (by (with_reducible repeat first|apply kN|apply kD|apply kA); exact BK249.out) hb)
 have n8_ := mK (kB (by (with_reducible repeat first|apply kN|apply kD|apply kA); exact BK255.out) hb)
 have n9_ := mK (bP (by repeat first|(with_reducible first|exact HB.out|apply bA|apply bN|apply bD|refine bS ?_ GE234.out|refine bS ?_ GE240.out|refine bS ?_ GE249.out|refine bS ?_ GE255.out)|exact HB.out) hb)
 clear HO233
 clear HO238
 clear HO253
 clear HO264
 clear BK234
 clear BK240
 clear BK249
 clear BK255
 clear HB
 have HO233 := n0_
 have HO238 := n1_
 have HO253 := n2_
 have HO264 := n3_
 have HO258 := n4_
 have BK234 := n5_
 have BK240 := n6_
 have BK249 := n7_
 have BK255 := n8_
 have HB := n9_
 clear n0_ n1_ n2_ n3_ n4_ n5_ n6_ n7_ n8_ n9_
 clear hb ho51
 refine hK.out _ _ ⟨(kC BK234.out 0).trans rfl, (kC BK234.out 1).trans rfl, (kC BK249.out 0).trans rfl, (kC BK249.out 1).trans rfl, (kC BK249.out 2).trans rfl⟩ (fun hHeld => ?_)
 clear hK K
 refine norm_ (a' := ?_) ?_ ?_
 rotate_left
 {
 show Act.put _ (some 61) _ = _
 simp only [Act.put, sT, sZ, sU, i64_w, i32_w]
 rfl
 }
 exact norm_ (by simp only [putAll, Act.put, sT, sZ, sU] <;> rfl) (hJ2_7 (v257, v263) _ ⟨hHeld, (rM HO233.out (fun _ hk => ⟨hk.2, ⟨hk.1.1, hk.1.2⟩⟩)), HO238.out, HO253.out, (rM HO258.out (fun _ hk => ⟨hk.1.1.2, ⟨hk.1.2, hk.2⟩⟩)), (rM HO264.out (fun _ hk => ⟨hk.1.1, ⟨hk.2, hk.1.2⟩⟩)), BK234.out, BK240.out, BK249.out, BK255.out, HB.out⟩)
 }
 {
 skip
 refine box_step ?hg (N := 9) ?hd (cs := #[.int .i64 0, .slice none 0 0]) (t := 25) ?hr ?_; (case hd => rfl); (case hg => rfl); (case hr => go_simp <;> rfl)
 intro gb268 hg w50 hbox hb
 have n0_ := mK (rB (by (with_reducible repeat first|apply rA|apply rN|apply rD); exact HO233.out) hb)
 have n1_ := mK (rB (by (with_reducible repeat first|apply rA|apply rN|apply rD); exact HO238.out) hb)
 have n2_ := mK (rB (by (with_reducible repeat first|apply rA|apply rN|apply rD); exact HO253.out) hb)
 have n3_ := mK (rB (by (with_reducible repeat first|apply rA|apply rN|apply rD); exact HO264.out) hb)
 have n4_ := mK (kB (by (with_reducible repeat first|apply kN|apply kD|apply kA); exact BK234.out) hb)
 have n5_ := mK (kB (by (with_reducible repeat first|apply kN|apply kD|apply kA); exact BK240.out) hb)
 have n6_ := mK (kB (by (with_reducible repeat first|apply kN|apply kD|apply kA); exact BK249.out) hb)
 have n7_ := mK (kB (by (with_reducible repeat first|apply kN|apply kD|apply kA); exact BK255.out) hb)
 have n8_ := mK (bP (by repeat first|(with_reducible first|exact HB.out|apply bA|apply bN|apply bD|refine bS ?_ GE234.out|refine bS ?_ GE240.out|refine bS ?_ GE249.out|refine bS ?_ GE255.out)|exact HB.out) hb)
 have n9_ := mK (hbox)
 have n10_ := mK ((by rw [hg]; exact (bZ (by repeat first|(with_reducible first|exact HB.out|apply bA|apply bN|apply bD|refine bS ?_ GE234.out|refine bS ?_ GE240.out|refine bS ?_ GE249.out|refine bS ?_ GE255.out)|exact HB.out)) : w.heap.size ≤ gb268))
 have n11_ := mK ((by rw [hg]; exact (bZ (by repeat first|(with_reducible first|exact HB.out|apply bA|apply bN|apply bD|refine bS ?_ GE234.out|refine bS ?_ GE240.out|refine bS ?_ GE249.out|refine bS ?_ GE255.out)|exact HB.out)) : w.heap.size ≤ gb268))
 have n12_ := mK ((by rw [hg]; exact Nat.ne_of_lt (blk_lt (by (with_reducible repeat first|apply kN|apply kD|apply kA); exact BK234.out)) : gb234 ≠ gb268))
 have n13_ := mK ((by rw [hg]; exact Nat.ne_of_gt (blk_lt (by (with_reducible repeat first|apply kN|apply kD|apply kA); exact BK234.out)) : gb268 ≠ gb234))
 have n14_ := mK ((by rw [hg]; exact Nat.ne_of_lt (blk_lt (by (with_reducible repeat first|apply kN|apply kD|apply kA); exact BK240.out)) : gb240 ≠ gb268))
 have n15_ := mK ((by rw [hg]; exact Nat.ne_of_gt (blk_lt (by (with_reducible repeat first|apply kN|apply kD|apply kA); exact BK240.out)) : gb268 ≠ gb240))
 have n16_ := mK ((by rw [hg]; exact Nat.ne_of_lt (blk_lt (by (with_reducible repeat first|apply kN|apply kD|apply kA); exact BK249.out)) : gb249 ≠ gb268))
 have n17_ := mK ((by rw [hg]; exact Nat.ne_of_gt (blk_lt (by (with_reducible repeat first|apply kN|apply kD|apply kA); exact BK249.out)) : gb268 ≠ gb249))
 have n18_ := mK ((by rw [hg]; exact Nat.ne_of_lt (blk_lt (by (with_reducible repeat first|apply kN|apply kD|apply kA); exact BK255.out)) : gb255 ≠ gb268))
 have n19_ := mK ((by rw [hg]; exact Nat.ne_of_gt (blk_lt (by (with_reducible repeat first|apply kN|apply kD|apply kA); exact BK255.out)) : gb268 ≠ gb255))
 clear HO233
 clear HO238
 clear HO253
 clear HO264
 clear BK234
 clear BK240
 clear BK249
 clear BK255
 clear HB
 have HO233 := n0_
 have HO238 := n1_
 have HO253 := n2_
 have HO264 := n3_
 have BK234 := n4_
 have BK240 := n5_
 have BK249 := n6_
 have BK255 := n7_
 have HB := n8_
 have BK268 := n9_
 have GW268 := n10_
 have GE268 := n11_
 have NB234_268 := n12_
 have NB268_234 := n13_
 have NB240_268 := n14_
 have NB268_240 := n15_
 have NB249_268 := n16_
 have NB268_249 := n17_
 have NB255_268 := n18_
 have NB268_255 := n19_
 clear n0_ n1_ n2_ n3_ n4_ n5_ n6_ n7_ n8_ n9_ n10_ n11_ n12_ n13_ n14_ n15_ n16_ n17_ n18_ n19_
 clear hb hbox hg
 refine hK.out _ _ ⟨(kC BK234.out 0).trans rfl, (kC BK234.out 1).trans rfl, (kC BK249.out 0).trans rfl, (kC BK249.out 1).trans rfl, (kC BK249.out 2).trans rfl⟩ (fun hHeld => ?_)
 clear hK K
 refine norm_ (a' := ?_) ?_ ?_
 rotate_left
 {
 show Act.put _ (some 9) _ = _
 simp only [Act.put, sT, sZ, sU, i64_w, i32_w]
 rfl
 }
 exact norm_ (by simp only [putAll, Act.put, sT, sZ, sU] <;> rfl) (hJ7_10 (v263, gb268) _ ⟨hHeld, HO233.out, HO238.out, HO253.out, HO264.out, BK234.out, BK240.out, BK249.out, BK255.out, BK268.out, GW268.out, GE268.out, NB234_268.out, NB268_234.out, NB240_268.out, NB268_240.out, NB249_268.out, NB268_249.out, NB255_268.out, NB268_255.out, HB.out⟩)
 }
 }
 }
 {
 skip
 rintro v257 w49 ⟨hS_, h0_, h1_, h2_, h3_, h4_, h5_, h6_, h7_, h8_⟩
 have n0_ : Aside0 (Kd.R k39 39 w49 w.heap.size (fun k_ => some k_ ≠ (v257 : Value).ownBlock ∧ k_ ≠ gb249) (.slice Ao18 t231.length co18) t231) := ⟨h0_⟩
 have n1_ : Aside0 (Kd.R (Kd.int .i64) 3 w49 w.heap.size (fun k_ => some k_ ≠ (.slice Ao44 t251.length co44 : Value).ownBlock) (.slice Ao23 t236.length co23) t236) := ⟨h1_⟩
 have n2_ : Aside0 (Kd.R (Kd.int .i64) 3 w49 w.heap.size (fun k_ => some k_ ≠ (.slice Ao23 t236.length co23 : Value).ownBlock) (.slice Ao44 t251.length co44) t251) := ⟨h2_⟩
 have n3_ : Aside0 (Kd.R k39 39 w49 w.heap.size (fun k_ => some k_ ≠ (.slice Ao18 t231.length co18 : Value).ownBlock ∧ k_ ≠ gb249) v257 y256) := ⟨h3_⟩
 have n4_ : Aside0 (w49.heap[gb234]? = some (.cells #[.int .i64 t230, .slice Ao18 t231.length co18] 25 (0, 0))) := ⟨h4_⟩
 have n5_ : Aside0 (w49.heap[gb240]? = some (.cells #[.int .i64 t235, .slice Ao23 t236.length co23] 29 (0, 0))) := ⟨h5_⟩
 have n6_ : Aside0 (w49.heap[gb249]? = some (.cells #[.int .i64 (Int.tmod t246 t230), .int .i64 (Int.tmod t247 t230), .int .i64 (wrap64 ((Int.tmod t248 12) - 3))] 39 (0, 0))) := ⟨h6_⟩
 have n7_ : Aside0 (w49.heap[gb255]? = some (.cells #[.int .i64 t250, .slice Ao44 t251.length co44] 29 (0, 0))) := ⟨h7_⟩
 have n8_ : Aside0 (Below w.heap.size w w49) := ⟨h8_⟩
 clear HO233
 clear HO238
 clear HO253
 clear BK234
 clear BK240
 clear BK249
 clear BK255
 clear HB
 clear h0_ h1_ h2_ h3_ h4_ h5_ h6_ h7_ h8_
 have HO233 := n0_
 have HO238 := n1_
 have HO253 := n2_
 have HO258 := n3_
 have BK234 := n4_
 have BK240 := n5_
 have BK249 := n6_
 have BK255 := n7_
 have HB := n8_
 clear n0_ n1_ n2_ n3_ n4_ n5_ n6_ n7_ n8_
 have hHeld : w49.cell? ⟨gb234, 0, none⟩ = some (.int .i64 t230) ∧ w49.cell? ⟨gb234, 1, none⟩ = some (.slice Ao18 t231.length co18) ∧ w49.cell? ⟨gb249, 0, none⟩ = some (.int .i64 (Int.tmod t246 t230)) ∧ w49.cell? ⟨gb249, 1, none⟩ = some (.int .i64 (Int.tmod t247 t230)) ∧ w49.cell? ⟨gb249, 2, none⟩ = some (.int .i64 (wrap64 ((Int.tmod t248 12) - 3))) := hS_
 refine norm_ (a' := ?_) ?_ ?_
 rotate_left
 {
 simp only [putAll, Act.put, sT, sZ, sU]
 rfl
 }
 refine three_ (i := 5) (j := 7) (k := 10) (Ni := some 64) (Nj := some 66) (Nk := some 9) #[true,true,true,true,true,true,true,false,false,false,false,false] #[true,true,true,true,true,false,true,true,false,false,false,false] #[true,true,true,true,true,false,true,false,false,false,true,false] rfl rfl rfl rfl rfl rfl (three_of HT_.out (by kernel_rfl)) (by decide) (by decide) (by decide) (fun K hK => ?_) (fun K hK => ?_) (fun K hK => ?_)
 {
 skip
 refine Kd.R_append_rows_step k39 (w0 := w) w.heap.size (by rfl) (.tmp 61) (.tmp 63) 23 39 (.agg #[(.int .i64 0), (.int .i64 0), (.int .i64 0)]) 24 rfl Try.underlying23 info39 rfl (by decide) (by omega) v257 y256 t231 _ _ _ (fun k_ => some k_ ≠ (.slice Ao18 t231.length co18 : Value).ownBlock ∧ k_ ≠ gb249) (fun _ => False) rfl rfl ?aO ?aR (fun _ _ h => h) (fun _ h => h.elim) ?aF ?aB ?aS ?aL ?_
 (case aR => repeat (first | exact (Kd.R_reads' HO233.out).2.2 | (with_reducible refine Kd.C_alloc ?_ _) | (with_reducible refine Kd.C_drewN ?_ _) | (with_reducible refine Kd.C_drew ?_)))
 (case aB => exact (by repeat first|(with_reducible first|exact HB.out|apply bA|apply bN|apply bD|refine bS ?_ GE234.out|refine bS ?_ GE240.out|refine bS ?_ GE249.out|refine bS ?_ GE255.out)|exact HB.out))
 (case aF => exact (fun k_ hk => ⟨Kd.fresh' (Kd.R_lt (by (with_reducible repeat first|apply rA|apply rN|apply rD); exact HO233.out)) k_ hk, Kd.freshB (by (with_reducible repeat first|apply kN|apply kD|apply kA); exact BK249.out) k_ hk⟩))
 (case aO => exact (by (with_reducible repeat first|apply rA|apply rN|apply rD); exact HO258.out))
 (case aS => exact (bZ (by repeat first|(with_reducible first|exact HB.out|apply bA|apply bN|apply bD|refine bS ?_ GE234.out|refine bS ?_ GE240.out|refine bS ?_ GE249.out|refine bS ?_ GE255.out)|exact HB.out)))
 (case aL => have := LMc11.out; omega)
 intro v260 w50 ho hb hg hat
 rw [← Ny259.out] at ho
 have n0_ := mK (Kd.R_after (ok := (fun k_ => k_ ≠ gb249)) (by (with_reducible repeat first|apply rA|apply rN|apply rD); exact rM HO233.out (fun _ hk => ⟨hk.2, hk.1⟩)) hg hat)
 have n1_ := mK (blk_grown (by (with_reducible repeat first|apply kN|apply kD|apply kA); exact BK234.out) hg (Kd.R_ne HO258.out BK234.out (by decide)))
 have n2_ := mK (Kd.R_over' (by (with_reducible repeat first|apply rA|apply rN|apply rD); exact HO238.out) (Kd.R_typed (by (with_reducible repeat first|apply rA|apply rN|apply rD); exact HO258.out)) (by decide) hg)
 have n3_ := mK (blk_grown (by (with_reducible repeat first|apply kN|apply kD|apply kA); exact BK240.out) hg (Kd.R_ne HO258.out BK240.out (by decide)))
 have n4_ := mK (blk_grown (by (with_reducible repeat first|apply kN|apply kD|apply kA); exact BK249.out) hg (Kd.R_away HO258.out (fun _ hk => hk.2)))
 have n5_ := mK (Kd.R_over' (by (with_reducible repeat first|apply rA|apply rN|apply rD); exact HO253.out) (Kd.R_typed (by (with_reducible repeat first|apply rA|apply rN|apply rD); exact HO258.out)) (by decide) hg)
 have n6_ := mK (blk_grown (by (with_reducible repeat first|apply kN|apply kD|apply kA); exact BK255.out) hg (Kd.R_ne HO258.out BK255.out (by decide)))
 have n7_ := mK (hb)
 have n8_ := mK (ho)
 clear HO233
 clear BK234
 clear HO238
 clear BK240
 clear BK249
 clear HO253
 clear BK255
 clear HB
 clear HO258
 have HO233 := n0_
 have BK234 := n1_
 have HO238 := n2_
 have BK240 := n3_
 have BK249 := n4_
 have HO253 := n5_
 have BK255 := n6_
 have HB := n7_
 have HO261 := n8_
 clear n0_ n1_ n2_ n3_ n4_ n5_ n6_ n7_ n8_
 clear ho hb hg hat
 refine hK.out _ _ ⟨(kC BK234.out 0).trans rfl, (kC BK234.out 1).trans rfl, (kC BK249.out 0).trans rfl, (kC BK249.out 1).trans rfl, (kC BK249.out 2).trans rfl⟩ (fun hHeld => ?_)
 clear hK K
 refine norm_ (a' := ?_) ?_ ?_
 rotate_left
 {
 show Act.put _ (some 64) _ = _
 simp only [Act.put, sT, sZ, sU, i64_w, i32_w]
 rfl
 }
 exact norm_ (by simp only [putAll, Act.put, sT, sZ, sU] <;> rfl) (hJ2_5 (v257, v260) _ ⟨hHeld, (rM HO233.out (fun _ hk => ⟨hk.2, hk.1⟩)), HO238.out, HO253.out, HO261.out, BK234.out, BK240.out, BK249.out, BK255.out, HB.out⟩)
 }
 {
 skip
 refine Kd.R_lit_step k39 _ 39 ?hg (N := 66) ?hd (xs := ([(⟨Int.tmod t246 t230, Int.tmod t247 t230, wrap64 ((Int.tmod t248 12) - 3)⟩ : S39)] : List (S39))) (inner := [.int .i64 (Int.tmod t246 t230), .int .i64 (Int.tmod t247 t230), .int .i64 (wrap64 ((Int.tmod t248 12) - 3))]) (ok := fun _ => True) (okp := fun _ => True) ?hr ?hp (fun _ hk => hk) trivial (Below.refl _ _) (Nat.le_refl _) (by simp) ?_; (case hd => rfl); (case hg => rfl); (case hr => go_simp <;> rfl); (case hp => exact (Reps.c3 (show Kd.M k39 _ _ _ (⟨Int.tmod t246 t230, Int.tmod t247 t230, wrap64 ((Int.tmod t248 12) - 3)⟩ : S39) [.int .i64 (Int.tmod t246 t230), .int .i64 (Int.tmod t247 t230), .int .i64 (wrap64 ((Int.tmod t248 12) - 3))] from (k39_mkM _ _ _ (⟨Int.tmod t246 t230, Int.tmod t247 t230, wrap64 ((Int.tmod t248 12) - 3)⟩ : S39) )) (Reps.none _ _)))
 intro v263 w50 ho51 hb hg_ hnew_
 clear hg_ hnew_
 (first | rw [← Ny262.out] at ho51 | (simp only [Int.reduceToNat] at ho51; rw [← Ny262.out] at ho51))
 have n0_ := mK (Kd.R_elder' (by (with_reducible repeat first|apply rA|apply rN|apply rD); exact HO233.out) (Kd.R_base ho51) hb)
 have n1_ := mK (rB (by (with_reducible repeat first|apply rA|apply rN|apply rD); exact HO238.out) hb)
 have n2_ := mK (rB (by (with_reducible repeat first|apply rA|apply rN|apply rD); exact HO253.out) hb)
 have n3_ := mK (Kd.R_elder' (by (with_reducible repeat first|apply rA|apply rN|apply rD); exact HO258.out) (Kd.R_base ho51) hb)
 have n4_ := mK (Kd.R_lower (Kd.R_newB (Kd.R_new' (Kd.R_new' ho51 (Kd.R_lt (by (with_reducible repeat first|apply rA|apply rN|apply rD); exact HO233.out))) (Kd.R_lt (by (with_reducible repeat first|apply rA|apply rN|apply rD); exact HO258.out))) (by (with_reducible repeat first|apply kN|apply kD|apply kA); exact BK249.out)) (bZ (by repeat first|(with_reducible first|exact HB.out|apply bA|apply bN|apply bD|refine bS ?_ GE234.out|refine bS ?_ GE240.out|refine bS ?_ GE249.out|refine bS ?_ GE255.out)|exact HB.out)))
 have n5_ := mK (kB (by (with_reducible repeat first|apply kN|apply kD|apply kA); exact BK234.out) hb)
 have n6_ := mK (kB (by (with_reducible repeat first|apply kN|apply kD|apply kA); exact BK240.out) hb)
 have n7_ := mK (kB (by (with_reducible repeat first|apply kN|apply kD|apply kA); exact BK249.out) hb)
 have n8_ := mK (kB (by (with_reducible repeat first|apply kN|apply kD|apply kA); exact BK255.out) hb)
 have n9_ := mK (bP (by repeat first|(with_reducible first|exact HB.out|apply bA|apply bN|apply bD|refine bS ?_ GE234.out|refine bS ?_ GE240.out|refine bS ?_ GE249.out|refine bS ?_ GE255.out)|exact HB.out) hb)
 clear HO233
 clear HO238
 clear HO253
 clear HO258
 clear BK234
 clear BK240
 clear BK249
 clear BK255
 clear HB
 have HO233 := n0_
 have HO238 := n1_
 have HO253 := n2_
 have HO258 := n3_
 have HO264 := n4_
 have BK234 := n5_
 have BK240 := n6_
 have BK249 := n7_
 have BK255 := n8_
 have HB := n9_
 clear n0_ n1_ n2_ n3_ n4_ n5_ n6_ n7_ n8_ n9_
 clear hb ho51
 refine hK.out _ _ ⟨(kC BK234.out 0).trans rfl, (kC BK234.out 1).trans rfl, (kC BK249.out 0).trans rfl, (kC BK249.out 1).trans rfl, (kC BK249.out 2).trans rfl⟩ (fun hHeld => ?_)
 clear hK K
 refine norm_ (a' := ?_) ?_ ?_
 rotate_left
 {
 show Act.put _ (some 66) _ = _
 simp only [Act.put, sT, sZ, sU, i64_w, i32_w]
 rfl
 }
 exact norm_ (by simp only [putAll, Act.put, sT, sZ, sU] <;> rfl) (hJ2_7 (v257, v263) _ ⟨hHeld, (rM HO233.out (fun _ hk => ⟨hk.1.1, ⟨hk.2, hk.1.2⟩⟩)), HO238.out, HO253.out, (rM HO258.out (fun _ hk => ⟨hk.1.1, ⟨hk.2, hk.1.2⟩⟩)), (rM HO264.out (fun _ hk => ⟨hk.1.1.2, ⟨hk.1.2, hk.2⟩⟩)), BK234.out, BK240.out, BK249.out, BK255.out, HB.out⟩)
 }
 {
 skip
 refine box_step ?hg (N := 9) ?hd (cs := #[.int .i64 0, .slice none 0 0]) (t := 25) ?hr ?_; (case hd => rfl); (case hg => rfl); (case hr => go_simp <;> rfl)
 intro gb268 hg w50 hbox hb
 have n0_ := mK (rB (by (with_reducible repeat first|apply rA|apply rN|apply rD); exact HO233.out) hb)
 have n1_ := mK (rB (by (with_reducible repeat first|apply rA|apply rN|apply rD); exact HO238.out) hb)
 have n2_ := mK (rB (by (with_reducible repeat first|apply rA|apply rN|apply rD); exact HO253.out) hb)
 have n3_ := mK (rB (by (with_reducible repeat first|apply rA|apply rN|apply rD); exact HO258.out) hb)
 have n4_ := mK (kB (by (with_reducible repeat first|apply kN|apply kD|apply kA); exact BK234.out) hb)
 have n5_ := mK (kB (by (with_reducible repeat first|apply kN|apply kD|apply kA); exact BK240.out) hb)
 have n6_ := mK (kB (by (with_reducible repeat first|apply kN|apply kD|apply kA); exact BK249.out) hb)
 have n7_ := mK (kB (by (with_reducible repeat first|apply kN|apply kD|apply kA); exact BK255.out) hb)
 have n8_ := mK (bP (by repeat first|(with_reducible first|exact HB.out|apply bA|apply bN|apply bD|refine bS ?_ GE234.out|refine bS ?_ GE240.out|refine bS ?_ GE249.out|refine bS ?_ GE255.out)|exact HB.out) hb)
 have n9_ := mK (hbox)
 have n10_ := mK ((by rw [hg]; exact (bZ (by repeat first|(with_reducible first|exact HB.out|apply bA|apply bN|apply bD|refine bS ?_ GE234.out|refine bS ?_ GE240.out|refine bS ?_ GE249.out|refine bS ?_ GE255.out)|exact HB.out)) : w.heap.size ≤ gb268))
 have n11_ := mK ((by rw [hg]; exact (bZ (by repeat first|(with_reducible first|exact HB.out|apply bA|apply bN|apply bD|refine bS ?_ GE234.out|refine bS ?_ GE240.out|refine bS ?_ GE249.out|refine bS ?_ GE255.out)|exact HB.out)) : w.heap.size ≤ gb268))
 have n12_ := mK ((by rw [hg]; exact Nat.ne_of_lt (blk_lt (by (with_reducible repeat first|apply kN|apply kD|apply kA); exact BK234.out)) : gb234 ≠ gb268))
 have n13_ := mK ((by rw [hg]; exact Nat.ne_of_gt (blk_lt (by (with_reducible repeat first|apply kN|apply kD|apply kA); exact BK234.out)) : gb268 ≠ gb234))
 have n14_ := mK ((by rw [hg]; exact Nat.ne_of_lt (blk_lt (by (with_reducible repeat first|apply kN|apply kD|apply kA); exact BK240.out)) : gb240 ≠ gb268))
 have n15_ := mK ((by rw [hg]; exact Nat.ne_of_gt (blk_lt (by (with_reducible repeat first|apply kN|apply kD|apply kA); exact BK240.out)) : gb268 ≠ gb240))
 have n16_ := mK ((by rw [hg]; exact Nat.ne_of_lt (blk_lt (by (with_reducible repeat first|apply kN|apply kD|apply kA); exact BK249.out)) : gb249 ≠ gb268))
 have n17_ := mK ((by rw [hg]; exact Nat.ne_of_gt (blk_lt (by (with_reducible repeat first|apply kN|apply kD|apply kA); exact BK249.out)) : gb268 ≠ gb249))
 have n18_ := mK ((by rw [hg]; exact Nat.ne_of_lt (blk_lt (by (with_reducible repeat first|apply kN|apply kD|apply kA); exact BK255.out)) : gb255 ≠ gb268))
 have n19_ := mK ((by rw [hg]; exact Nat.ne_of_gt (blk_lt (by (with_reducible repeat first|apply kN|apply kD|apply kA); exact BK255.out)) : gb268 ≠ gb255))
 clear HO233
 clear HO238
 clear HO253
 clear HO258
 clear BK234
 clear BK240
 clear BK249
 clear BK255
 clear HB
 have HO233 := n0_
 have HO238 := n1_
 have HO253 := n2_
 have HO258 := n3_
 have BK234 := n4_
 have BK240 := n5_
 have BK249 := n6_
 have BK255 := n7_
 have HB := n8_
 have BK268 := n9_
 have GW268 := n10_
 have GE268 := n11_
 have NB234_268 := n12_
 have NB268_234 := n13_
 have NB240_268 := n14_
 have NB268_240 := n15_
 have NB249_268 := n16_
 have NB268_249 := n17_
 have NB255_268 := n18_
 have NB268_255 := n19_
 clear n0_ n1_ n2_ n3_ n4_ n5_ n6_ n7_ n8_ n9_ n10_ n11_ n12_ n13_ n14_ n15_ n16_ n17_ n18_ n19_
 clear hb hbox hg
 refine hK.out _ _ ⟨(kC BK234.out 0).trans rfl, (kC BK234.out 1).trans rfl, (kC BK249.out 0).trans rfl, (kC BK249.out 1).trans rfl, (kC BK249.out 2).trans rfl⟩ (fun hHeld => ?_)
 clear hK K
 refine norm_ (a' := ?_) ?_ ?_
 rotate_left
 {
 show Act.put _ (some 9) _ = _
 simp only [Act.put, sT, sZ, sU, i64_w, i32_w]
 rfl
 }
 exact norm_ (by simp only [putAll, Act.put, sT, sZ, sU] <;> rfl) (hJ2_10 (v257, gb268) _ ⟨hHeld, HO233.out, HO238.out, HO253.out, HO258.out, BK234.out, BK240.out, BK249.out, BK255.out, BK268.out, GW268.out, GE268.out, NB234_268.out, NB268_234.out, NB240_268.out, NB268_240.out, NB249_268.out, NB268_249.out, NB255_268.out, NB268_255.out, HB.out⟩)
 }
 }
 }
 {
 skip
 rintro ⟨v263, gb268⟩ w50 ⟨hS_, h0_, h1_, h2_, h3_, h4_, h5_, h6_, h7_, h8_, h9_, h10_, h11_, h12_, h13_, h14_, h15_, h16_, h17_, h18_, h19_⟩
 have n0_ : Aside0 (Kd.R k39 39 w50 w.heap.size (fun k_ => some k_ ≠ (v263 : Value).ownBlock ∧ k_ ≠ gb249) (.slice Ao18 t231.length co18) t231) := ⟨h0_⟩
 have n1_ : Aside0 (Kd.R (Kd.int .i64) 3 w50 w.heap.size (fun k_ => some k_ ≠ (.slice Ao44 t251.length co44 : Value).ownBlock) (.slice Ao23 t236.length co23) t236) := ⟨h1_⟩
 have n2_ : Aside0 (Kd.R (Kd.int .i64) 3 w50 w.heap.size (fun k_ => some k_ ≠ (.slice Ao23 t236.length co23 : Value).ownBlock) (.slice Ao44 t251.length co44) t251) := ⟨h2_⟩
 have n3_ : Aside0 (Kd.R k39 39 w50 w.heap.size (fun k_ => some k_ ≠ (.slice Ao18 t231.length co18 : Value).ownBlock ∧ k_ ≠ gb249) v263 y262) := ⟨h3_⟩
 have n4_ : Aside0 (w50.heap[gb234]? = some (.cells #[.int .i64 t230, .slice Ao18 t231.length co18] 25 (0, 0))) := ⟨h4_⟩
 have n5_ : Aside0 (w50.heap[gb240]? = some (.cells #[.int .i64 t235, .slice Ao23 t236.length co23] 29 (0, 0))) := ⟨h5_⟩
 have n6_ : Aside0 (w50.heap[gb249]? = some (.cells #[.int .i64 (Int.tmod t246 t230), .int .i64 (Int.tmod t247 t230), .int .i64 (wrap64 ((Int.tmod t248 12) - 3))] 39 (0, 0))) := ⟨h6_⟩
 have n7_ : Aside0 (w50.heap[gb255]? = some (.cells #[.int .i64 t250, .slice Ao44 t251.length co44] 29 (0, 0))) := ⟨h7_⟩
 have n8_ : Aside0 (w50.heap[gb268]? = some (.cells #[.int .i64 0, .slice none 0 0] 25 (0, 0))) := ⟨h8_⟩
 have n9_ : Aside0 (w.heap.size ≤ gb268) := ⟨h9_⟩
 have n10_ : Aside0 (w.heap.size ≤ gb268) := ⟨h10_⟩
 have n11_ : Aside0 (gb234 ≠ gb268) := ⟨h11_⟩
 have n12_ : Aside0 (gb268 ≠ gb234) := ⟨h12_⟩
 have n13_ : Aside0 (gb240 ≠ gb268) := ⟨h13_⟩
 have n14_ : Aside0 (gb268 ≠ gb240) := ⟨h14_⟩
 have n15_ : Aside0 (gb249 ≠ gb268) := ⟨h15_⟩
 have n16_ : Aside0 (gb268 ≠ gb249) := ⟨h16_⟩
 have n17_ : Aside0 (gb255 ≠ gb268) := ⟨h17_⟩
 have n18_ : Aside0 (gb268 ≠ gb255) := ⟨h18_⟩
 have n19_ : Aside0 (Below w.heap.size w w50) := ⟨h19_⟩
 clear HO233
 clear HO238
 clear HO253
 clear BK234
 clear BK240
 clear BK249
 clear BK255
 clear HB
 clear h0_ h1_ h2_ h3_ h4_ h5_ h6_ h7_ h8_ h9_ h10_ h11_ h12_ h13_ h14_ h15_ h16_ h17_ h18_ h19_
 have HO233 := n0_
 have HO238 := n1_
 have HO253 := n2_
 have HO264 := n3_
 have BK234 := n4_
 have BK240 := n5_
 have BK249 := n6_
 have BK255 := n7_
 have BK268 := n8_
 have GW268 := n9_
 have GE268 := n10_
 have NB234_268 := n11_
 have NB268_234 := n12_
 have NB240_268 := n13_
 have NB268_240 := n14_
 have NB249_268 := n15_
 have NB268_249 := n16_
 have NB255_268 := n17_
 have NB268_255 := n18_
 have HB := n19_
 clear n0_ n1_ n2_ n3_ n4_ n5_ n6_ n7_ n8_ n9_ n10_ n11_ n12_ n13_ n14_ n15_ n16_ n17_ n18_ n19_
 have hHeld : w50.cell? ⟨gb234, 0, none⟩ = some (.int .i64 t230) ∧ w50.cell? ⟨gb234, 1, none⟩ = some (.slice Ao18 t231.length co18) ∧ w50.cell? ⟨gb249, 0, none⟩ = some (.int .i64 (Int.tmod t246 t230)) ∧ w50.cell? ⟨gb249, 1, none⟩ = some (.int .i64 (Int.tmod t247 t230)) ∧ w50.cell? ⟨gb249, 2, none⟩ = some (.int .i64 (wrap64 ((Int.tmod t248 12) - 3))) := hS_
 refine norm_ (a' := ?_) ?_ ?_
 rotate_left
 {
 simp only [putAll, Act.put, sT, sZ, sU]
 rfl
 }
 refine one_ (i := 2) (N := some 61) #[true,true,true,true,true,false,true,true,false,false,true,false] rfl rfl (one_of HT_.out (by kernel_rfl)) (by decide) (fun K hK => ?_)
 refine Kd.R_lit_step k39 _ 39 ?hg (N := 61) ?hd (xs := ([] : List (S39))) (inner := []) (ok := fun _ => True) (okp := fun _ => True) ?hr ?hp (fun _ hk => hk) trivial (Below.refl _ _) (Nat.le_refl _) (by simp) ?_; (case hd => rfl); (case hg => rfl); (case hr => go_simp <;> rfl); (case hp => exact (Reps.none _ _))
 intro v257 w51 ho52 hb hg_ hnew_
 clear hg_ hnew_
 (first | rw [← Ny256.out] at ho52 | (simp only [Int.reduceToNat] at ho52; rw [← Ny256.out] at ho52))
 have n0_ := mK (Kd.R_elder' (by (with_reducible repeat first|apply rA|apply rN|apply rD); exact HO233.out) (Kd.R_base ho52) hb)
 have n1_ := mK (rB (by (with_reducible repeat first|apply rA|apply rN|apply rD); exact HO238.out) hb)
 have n2_ := mK (rB (by (with_reducible repeat first|apply rA|apply rN|apply rD); exact HO253.out) hb)
 have n3_ := mK (Kd.R_elder' (by (with_reducible repeat first|apply rA|apply rN|apply rD); exact HO264.out) (Kd.R_base ho52) hb)
 have n4_ := mK (Kd.R_lower (Kd.R_newB (Kd.R_new' (Kd.R_new' ho52 (Kd.R_lt (by (with_reducible repeat first|apply rA|apply rN|apply rD); exact HO233.out))) (Kd.R_lt (by (with_reducible repeat first|apply rA|apply rN|apply rD); exact HO264.out))) (by (with_reducible repeat first|apply kN|apply kD|apply kA); exact BK249.out)) (bZ (by repeat first|(with_reducible first|exact HB.out|apply bA|apply bN|apply bD|refine bS ?_ GE234.out|refine bS ?_ GE240.out|refine bS ?_ GE249.out|refine bS ?_ GE255.out|refine bS ?_ GE268.out)|exact HB.out)))
 have n5_ := mK (kB (by (with_reducible repeat first|apply kN|apply kD|apply kA); exact BK234.out) hb)
 have n6_ := mK (kB (by (with_reducible repeat first|apply kN|apply kD|apply kA); exact BK240.out) hb)
 have n7_ := mK (kB (by (with_reducible repeat first|apply kN|apply kD|apply kA); exact BK249.out) hb)
 have n8_ := mK (kB (by (with_reducible repeat first|apply kN|apply kD|apply kA); exact BK255.out) hb)
 have n9_ := mK (kB (by (with_reducible repeat first|apply kN|apply kD|apply kA); exact BK268.out) hb)
 have n10_ := mK (bP (by repeat first|(with_reducible first|exact HB.out|apply bA|apply bN|apply bD|refine bS ?_ GE234.out|refine bS ?_ GE240.out|refine bS ?_ GE249.out|refine bS ?_ GE255.out|refine bS ?_ GE268.out)|exact HB.out) hb)
 clear HO233
 clear HO238
 clear HO253
 clear HO264
 clear BK234
 clear BK240
 clear BK249
 clear BK255
 clear BK268
 clear HB
 have HO233 := n0_
 have HO238 := n1_
 have HO253 := n2_
 have HO264 := n3_
 have HO258 := n4_
 have BK234 := n5_
 have BK240 := n6_
 have BK249 := n7_
 have BK255 := n8_
 have BK268 := n9_
 have HB := n10_
 clear n0_ n1_ n2_ n3_ n4_ n5_ n6_ n7_ n8_ n9_ n10_
 clear hb ho52
 refine hK.out _ _ ⟨(kC BK234.out 0).trans rfl, (kC BK234.out 1).trans rfl, (kC BK249.out 0).trans rfl, (kC BK249.out 1).trans rfl, (kC BK249.out 2).trans rfl⟩ (fun hHeld => ?_)
 clear hK K
 refine norm_ (a' := ?_) ?_ ?_
 rotate_left
 {
 show Act.put _ (some 61) _ = _
 simp only [Act.put, sT, sZ, sU, i64_w, i32_w]
 rfl
 }
 exact norm_ (by simp only [putAll, Act.put, sT, sZ, sU] <;> rfl) (hJ2_7_10 (v257, v263, gb268) _ ⟨hHeld, (rM HO233.out (fun _ hk => ⟨hk.2, ⟨hk.1.1, hk.1.2⟩⟩)), HO238.out, HO253.out, (rM HO258.out (fun _ hk => ⟨hk.1.1.2, ⟨hk.1.2, hk.2⟩⟩)), (rM HO264.out (fun _ hk => ⟨hk.1.1, ⟨hk.2, hk.1.2⟩⟩)), BK234.out, BK240.out, BK249.out, BK255.out, BK268.out, GW268.out, GE268.out, NB234_268.out, NB268_234.out, NB240_268.out, NB268_240.out, NB249_268.out, NB268_249.out, NB255_268.out, NB268_255.out, HB.out⟩)
 }
 }
 {
 skip
 rintro ⟨v257, gb268⟩ w50 ⟨hS_, h0_, h1_, h2_, h3_, h4_, h5_, h6_, h7_, h8_, h9_, h10_, h11_, h12_, h13_, h14_, h15_, h16_, h17_, h18_, h19_⟩
 have n0_ : Aside0 (Kd.R k39 39 w50 w.heap.size (fun k_ => some k_ ≠ (v257 : Value).ownBlock ∧ k_ ≠ gb249) (.slice Ao18 t231.length co18) t231) := ⟨h0_⟩
 have n1_ : Aside0 (Kd.R (Kd.int .i64) 3 w50 w.heap.size (fun k_ => some k_ ≠ (.slice Ao44 t251.length co44 : Value).ownBlock) (.slice Ao23 t236.length co23) t236) := ⟨h1_⟩
 have n2_ : Aside0 (Kd.R (Kd.int .i64) 3 w50 w.heap.size (fun k_ => some k_ ≠ (.slice Ao23 t236.length co23 : Value).ownBlock) (.slice Ao44 t251.length co44) t251) := ⟨h2_⟩
 have n3_ : Aside0 (Kd.R k39 39 w50 w.heap.size (fun k_ => some k_ ≠ (.slice Ao18 t231.length co18 : Value).ownBlock ∧ k_ ≠ gb249) v257 y256) := ⟨h3_⟩
 have n4_ : Aside0 (w50.heap[gb234]? = some (.cells #[.int .i64 t230, .slice Ao18 t231.length co18] 25 (0, 0))) := ⟨h4_⟩
 have n5_ : Aside0 (w50.heap[gb240]? = some (.cells #[.int .i64 t235, .slice Ao23 t236.length co23] 29 (0, 0))) := ⟨h5_⟩
 have n6_ : Aside0 (w50.heap[gb249]? = some (.cells #[.int .i64 (Int.tmod t246 t230), .int .i64 (Int.tmod t247 t230), .int .i64 (wrap64 ((Int.tmod t248 12) - 3))] 39 (0, 0))) := ⟨h6_⟩
 have n7_ : Aside0 (w50.heap[gb255]? = some (.cells #[.int .i64 t250, .slice Ao44 t251.length co44] 29 (0, 0))) := ⟨h7_⟩
 have n8_ : Aside0 (w50.heap[gb268]? = some (.cells #[.int .i64 0, .slice none 0 0] 25 (0, 0))) := ⟨h8_⟩
 have n9_ : Aside0 (w.heap.size ≤ gb268) := ⟨h9_⟩
 have n10_ : Aside0 (w.heap.size ≤ gb268) := ⟨h10_⟩
 have n11_ : Aside0 (gb234 ≠ gb268) := ⟨h11_⟩
 have n12_ : Aside0 (gb268 ≠ gb234) := ⟨h12_⟩
 have n13_ : Aside0 (gb240 ≠ gb268) := ⟨h13_⟩
 have n14_ : Aside0 (gb268 ≠ gb240) := ⟨h14_⟩
 have n15_ : Aside0 (gb249 ≠ gb268) := ⟨h15_⟩
 have n16_ : Aside0 (gb268 ≠ gb249) := ⟨h16_⟩
 have n17_ : Aside0 (gb255 ≠ gb268) := ⟨h17_⟩
 have n18_ : Aside0 (gb268 ≠ gb255) := ⟨h18_⟩
 have n19_ : Aside0 (Below w.heap.size w w50) := ⟨h19_⟩
 clear HO233
 clear HO238
 clear HO253
 clear BK234
 clear BK240
 clear BK249
 clear BK255
 clear HB
 clear h0_ h1_ h2_ h3_ h4_ h5_ h6_ h7_ h8_ h9_ h10_ h11_ h12_ h13_ h14_ h15_ h16_ h17_ h18_ h19_
 have HO233 := n0_
 have HO238 := n1_
 have HO253 := n2_
 have HO258 := n3_
 have BK234 := n4_
 have BK240 := n5_
 have BK249 := n6_
 have BK255 := n7_
 have BK268 := n8_
 have GW268 := n9_
 have GE268 := n10_
 have NB234_268 := n11_
 have NB268_234 := n12_
 have NB240_268 := n13_
 have NB268_240 := n14_
 have NB249_268 := n15_
 have NB268_249 := n16_
 have NB255_268 := n17_
 have NB268_255 := n18_
 have HB := n19_
 clear n0_ n1_ n2_ n3_ n4_ n5_ n6_ n7_ n8_ n9_ n10_ n11_ n12_ n13_ n14_ n15_ n16_ n17_ n18_ n19_
 have hHeld : w50.cell? ⟨gb234, 0, none⟩ = some (.int .i64 t230) ∧ w50.cell? ⟨gb234, 1, none⟩ = some (.slice Ao18 t231.length co18) ∧ w50.cell? ⟨gb249, 0, none⟩ = some (.int .i64 (Int.tmod t246 t230)) ∧ w50.cell? ⟨gb249, 1, none⟩ = some (.int .i64 (Int.tmod t247 t230)) ∧ w50.cell? ⟨gb249, 2, none⟩ = some (.int .i64 (wrap64 ((Int.tmod t248 12) - 3))) := hS_
 refine norm_ (a' := ?_) ?_ ?_
 rotate_left
 {
 simp only [putAll, Act.put, sT, sZ, sU]
 rfl
 }
 refine two_ (i := 5) (j := 7) (Ni := some 64) (Nj := some 66) #[true,true,true,true,true,true,true,false,false,false,true,false] #[true,true,true,true,true,false,true,true,false,false,true,false] rfl rfl rfl rfl (two_of HT_.out (by kernel_rfl)) (by decide) (by decide) (fun K hK => ?_) (fun K hK => ?_)
 {
 skip
 refine Kd.R_append_rows_step k39 (w0 := w) w.heap.size (by rfl) (.tmp 61) (.tmp 63) 23 39 (.agg #[(.int .i64 0), (.int .i64 0), (.int .i64 0)]) 24 rfl Try.underlying23 info39 rfl (by decide) (by omega) v257 y256 t231 _ _ _ (fun k_ => some k_ ≠ (.slice Ao18 t231.length co18 : Value).ownBlock ∧ k_ ≠ gb249) (fun _ => False) rfl rfl ?aO ?aR (fun _ _ h => h) (fun _ h => h.elim) ?aF ?aB ?aS ?aL ?_
 (case aR => repeat (first | exact (Kd.R_reads' HO233.out).2.2 | (with_reducible refine Kd.C_alloc ?_ _) | (with_reducible refine Kd.C_drewN ?_ _) | (with_reducible refine Kd.C_drew ?_)))
 (case aB => exact (by repeat first|(with_reducible first|exact HB.out|apply bA|apply bN|apply bD|refine bS ?_ GE234.out|refine bS ?_ GE240.out|refine bS ?_ GE249.out|refine bS ?_ GE255.out|refine bS ?_ GE268.out)|exact HB.out))
 (case aF => exact (fun k_ hk => ⟨Kd.fresh' (Kd.R_lt (by (with_reducible repeat first|apply rA|apply rN|apply rD); exact HO233.out)) k_ hk, Kd.freshB (by (with_reducible repeat first|apply kN|apply kD|apply kA); exact BK249.out) k_ hk⟩))
 (case aO => exact (by (with_reducible repeat first|apply rA|apply rN|apply rD); exact HO258.out))
 (case aS => exact (bZ (by repeat first|(with_reducible first|exact HB.out|apply bA|apply bN|apply bD|refine bS ?_ GE234.out|refine bS ?_ GE240.out|refine bS ?_ GE249.out|refine bS ?_ GE255.out|refine bS ?_ GE268.out)|exact HB.out)))
 (case aL => have := LMc11.out; omega)
 intro v260 w51 ho hb hg hat
 rw [← Ny259.out] at ho
 have n0_ := mK (Kd.R_after (ok := (fun k_ => k_ ≠ gb249)) (by (with_reducible repeat first|apply rA|apply rN|apply rD); exact rM HO233.out (fun _ hk => ⟨hk.2, hk.1⟩)) hg hat)
 have n1_ := mK (blk_grown (by (with_reducible repeat first|apply kN|apply kD|apply kA); exact BK234.out) hg (Kd.R_ne HO258.out BK234.out (by decide)))
 have n2_ := mK (Kd.R_over' (by (with_reducible repeat first|apply rA|apply rN|apply rD); exact HO238.out) (Kd.R_typed (by (with_reducible repeat first|apply rA|apply rN|apply rD); exact HO258.out)) (by decide) hg)
 have n3_ := mK (blk_grown (by (with_reducible repeat first|apply kN|apply kD|apply kA); exact BK240.out) hg (Kd.R_ne HO258.out BK240.out (by decide)))
 have n4_ := mK (blk_grown (by (with_reducible repeat first|apply kN|apply kD|apply kA); exact BK249.out) hg (Kd.R_away HO258.out (fun _ hk => hk.2)))
 have n5_ := mK (Kd.R_over' (by (with_reducible repeat first|apply rA|apply rN|apply rD); exact HO253.out) (Kd.R_typed (by (with_reducible repeat first|apply rA|apply rN|apply rD); exact HO258.out)) (by decide) hg)
 have n6_ := mK (blk_grown (by (with_reducible repeat first|apply kN|apply kD|apply kA); exact BK255.out) hg (Kd.R_ne HO258.out BK255.out (by decide)))
 have n7_ := mK (blk_grown (by (with_reducible repeat first|apply kN|apply kD|apply kA); exact BK268.out) hg (Kd.R_ne HO258.out BK268.out (by decide)))
 have n8_ := mK (hb)
 have n9_ := mK (ho)
 clear HO233
 clear BK234
 clear HO238
 clear BK240
 clear BK249
 clear HO253
 clear BK255
 clear BK268
 clear HB
 clear HO258
 have HO233 := n0_
 have BK234 := n1_
 have HO238 := n2_
 have BK240 := n3_
 have BK249 := n4_
 have HO253 := n5_
 have BK255 := n6_
 have BK268 := n7_
 have HB := n8_
 have HO261 := n9_
 clear n0_ n1_ n2_ n3_ n4_ n5_ n6_ n7_ n8_ n9_
 clear ho hb hg hat
 refine hK.out _ _ ⟨(kC BK234.out 0).trans rfl, (kC BK234.out 1).trans rfl, (kC BK249.out 0).trans rfl, (kC BK249.out 1).trans rfl, (kC BK249.out 2).trans rfl⟩ (fun hHeld => ?_)
 clear hK K
 refine norm_ (a' := ?_) ?_ ?_
 rotate_left
 {
 show Act.put _ (some 64) _ = _
 simp only [Act.put, sT, sZ, sU, i64_w, i32_w]
 rfl
 }
 exact norm_ (by simp only [putAll, Act.put, sT, sZ, sU] <;> rfl) (hJ2_5_10 (v257, v260, gb268) _ ⟨hHeld, (rM HO233.out (fun _ hk => ⟨hk.2, hk.1⟩)), HO238.out, HO253.out, HO261.out, BK234.out, BK240.out, BK249.out, BK255.out, BK268.out, GW268.out, GE268.out, NB234_268.out, NB268_234.out, NB240_268.out, NB268_240.out, NB249_268.out, NB268_249.out, NB255_268.out, NB268_255.out, HB.out⟩)
 }
 {
 skip
 refine Kd.R_lit_step k39 _ 39 ?hg (N := 66) ?hd (xs := ([(⟨Int.tmod t246 t230, Int.tmod t247 t230, wrap64 ((Int.tmod t248 12) - 3)⟩ : S39)] : List (S39))) (inner := [.int .i64 (Int.tmod t246 t230), .int .i64 (Int.tmod t247 t230), .int .i64 (wrap64 ((Int.tmod t248 12) - 3))]) (ok := fun _ => True) (okp := fun _ => True) ?hr ?hp (fun _ hk => hk) trivial (Below.refl _ _) (Nat.le_refl _) (by simp) ?_; (case hd => rfl); (case hg => rfl); (case hr => go_simp <;> rfl); (case hp => exact (Reps.c3 (show Kd.M k39 _ _ _ (⟨Int.tmod t246 t230, Int.tmod t247 t230, wrap64 ((Int.tmod t248 12) - 3)⟩ : S39) [.int .i64 (Int.tmod t246 t230), .int .i64 (Int.tmod t247 t230), .int .i64 (wrap64 ((Int.tmod t248 12) - 3))] from (k39_mkM _ _ _ (⟨Int.tmod t246 t230, Int.tmod t247 t230, wrap64 ((Int.tmod t248 12) - 3)⟩ : S39) )) (Reps.none _ _)))
 intro v263 w51 ho52 hb hg_ hnew_
 clear hg_ hnew_
 (first | rw [← Ny262.out] at ho52 | (simp only [Int.reduceToNat] at ho52; rw [← Ny262.out] at ho52))
 have n0_ := mK (Kd.R_elder' (by (with_reducible repeat first|apply rA|apply rN|apply rD); exact HO233.out) (Kd.R_base ho52) hb)
 have n1_ := mK (rB (by (with_reducible repeat first|apply rA|apply rN|apply rD); exact HO238.out) hb)
 have n2_ := mK (rB (by (with_reducible repeat first|apply rA|apply rN|apply rD); exact HO253.out) hb)
 have n3_ := mK (Kd.R_elder' (by (with_reducible repeat first|apply rA|apply rN|apply rD); exact HO258.out) (Kd.R_base ho52) hb)
 have n4_ := mK (Kd.R_lower (Kd.R_newB (Kd.R_new' (Kd.R_new' ho52 (Kd.R_lt (by (with_reducible repeat first|apply rA|apply rN|apply rD); exact HO233.out))) (Kd.R_lt (by (with_reducible repeat first|apply rA|apply rN|apply rD); exact HO258.out))) (by (with_reducible repeat first|apply kN|apply kD|apply kA); exact BK249.out)) (bZ (by repeat first|(with_reducible first|exact HB.out|apply bA|apply bN|apply bD|refine bS ?_ GE234.out|refine bS ?_ GE240.out|refine bS ?_ GE249.out|refine bS ?_ GE255.out|refine bS ?_ GE268.out)|exact HB.out)))
 have n5_ := mK (kB (by (with_reducible repeat first|apply kN|apply kD|apply kA); exact BK234.out) hb)
 have n6_ := mK (kB (by (with_reducible repeat first|apply kN|apply kD|apply kA); exact BK240.out) hb)
 have n7_ := mK (kB (by (with_reducible repeat first|apply kN|apply kD|apply kA); exact BK249.out) hb)
 have n8_ := mK (kB (by (with_reducible repeat first|apply kN|apply kD|apply kA); exact BK255.out) hb)
 have n9_ := mK (kB (by (with_reducible repeat first|apply kN|apply kD|apply kA); exact BK268.out) hb)
 have n10_ := mK (bP (by repeat first|(with_reducible first|exact HB.out|apply bA|apply bN|apply bD|refine bS ?_ GE234.out|refine bS ?_ GE240.out|refine bS ?_ GE249.out|refine bS ?_ GE255.out|refine bS ?_ GE268.out)|exact HB.out) hb)
 clear HO233
 clear HO238
 clear HO253
 clear HO258
 clear BK234
 clear BK240
 clear BK249
 clear BK255
 clear BK268
 clear HB
 have HO233 := n0_
 have HO238 := n1_
 have HO253 := n2_
 have HO258 := n3_
 have HO264 := n4_
 have BK234 := n5_
 have BK240 := n6_
 have BK249 := n7_
 have BK255 := n8_
 have BK268 := n9_
 have HB := n10_
 clear n0_ n1_ n2_ n3_ n4_ n5_ n6_ n7_ n8_ n9_ n10_
 clear hb ho52
 refine hK.out _ _ ⟨(kC BK234.out 0).trans rfl, (kC BK234.out 1).trans rfl, (kC BK249.out 0).trans rfl, (kC BK249.out 1).trans rfl, (kC BK249.out 2).trans rfl⟩ (fun hHeld => ?_)
 clear hK K
 refine norm_ (a' := ?_) ?_ ?_
 rotate_left
 {
 show Act.put _ (some 66) _ = _
 simp only [Act.put, sT, sZ, sU, i64_w, i32_w]
 rfl
 }
 exact norm_ (by simp only [putAll, Act.put, sT, sZ, sU] <;> rfl) (hJ2_7_10 (v257, v263, gb268) _ ⟨hHeld, (rM HO233.out (fun _ hk => ⟨hk.1.1, ⟨hk.2, hk.1.2⟩⟩)), HO238.out, HO253.out, (rM HO258.out (fun _ hk => ⟨hk.1.1, ⟨hk.2, hk.1.2⟩⟩)), (rM HO264.out (fun _ hk => ⟨hk.1.1.2, ⟨hk.1.2, hk.2⟩⟩)), BK234.out, BK240.out, BK249.out, BK255.out, BK268.out, GW268.out, GE268.out, NB234_268.out, NB268_234.out, NB240_268.out, NB268_240.out, NB249_268.out, NB268_249.out, NB255_268.out, NB268_255.out, HB.out⟩)
 }
 }
 }
 {
 skip
 rintro ⟨v257, v263⟩ w51 ⟨hS_, h0_, h1_, h2_, h3_, h4_, h5_, h6_, h7_, h8_, h9_⟩
 have n0_ : Aside0 (Kd.R k39 39 w51 w.heap.size (fun k_ => some k_ ≠ (v257 : Value).ownBlock ∧ some k_ ≠ (v263 : Value).ownBlock ∧ k_ ≠ gb249) (.slice Ao18 t231.length co18) t231) := ⟨h0_⟩
 have n1_ : Aside0 (Kd.R (Kd.int .i64) 3 w51 w.heap.size (fun k_ => some k_ ≠ (.slice Ao44 t251.length co44 : Value).ownBlock) (.slice Ao23 t236.length co23) t236) := ⟨h1_⟩
 have n2_ : Aside0 (Kd.R (Kd.int .i64) 3 w51 w.heap.size (fun k_ => some k_ ≠ (.slice Ao23 t236.length co23 : Value).ownBlock) (.slice Ao44 t251.length co44) t251) := ⟨h2_⟩
 have n3_ : Aside0 (Kd.R k39 39 w51 w.heap.size (fun k_ => some k_ ≠ (.slice Ao18 t231.length co18 : Value).ownBlock ∧ some k_ ≠ (v263 : Value).ownBlock ∧ k_ ≠ gb249) v257 y256) := ⟨h3_⟩
 have n4_ : Aside0 (Kd.R k39 39 w51 w.heap.size (fun k_ => some k_ ≠ (.slice Ao18 t231.length co18 : Value).ownBlock ∧ some k_ ≠ (v257 : Value).ownBlock ∧ k_ ≠ gb249) v263 y262) := ⟨h4_⟩
 have n5_ : Aside0 (w51.heap[gb234]? = some (.cells #[.int .i64 t230, .slice Ao18 t231.length co18] 25 (0, 0))) := ⟨h5_⟩
 have n6_ : Aside0 (w51.heap[gb240]? = some (.cells #[.int .i64 t235, .slice Ao23 t236.length co23] 29 (0, 0))) := ⟨h6_⟩
 have n7_ : Aside0 (w51.heap[gb249]? = some (.cells #[.int .i64 (Int.tmod t246 t230), .int .i64 (Int.tmod t247 t230), .int .i64 (wrap64 ((Int.tmod t248 12) - 3))] 39 (0, 0))) := ⟨h7_⟩
 have n8_ : Aside0 (w51.heap[gb255]? = some (.cells #[.int .i64 t250, .slice Ao44 t251.length co44] 29 (0, 0))) := ⟨h8_⟩
 have n9_ : Aside0 (Below w.heap.size w w51) := ⟨h9_⟩
 clear HO233
 clear HO238
 clear HO253
 clear BK234
 clear BK240
 clear BK249
 clear BK255
 clear HB
 clear h0_ h1_ h2_ h3_ h4_ h5_ h6_ h7_ h8_ h9_
 have HO233 := n0_
 have HO238 := n1_
 have HO253 := n2_
 have HO258 := n3_
 have HO264 := n4_
 have BK234 := n5_
 have BK240 := n6_
 have BK249 := n7_
 have BK255 := n8_
 have HB := n9_
 clear n0_ n1_ n2_ n3_ n4_ n5_ n6_ n7_ n8_ n9_
 have hHeld : w51.cell? ⟨gb234, 0, none⟩ = some (.int .i64 t230) ∧ w51.cell? ⟨gb234, 1, none⟩ = some (.slice Ao18 t231.length co18) ∧ w51.cell? ⟨gb249, 0, none⟩ = some (.int .i64 (Int.tmod t246 t230)) ∧ w51.cell? ⟨gb249, 1, none⟩ = some (.int .i64 (Int.tmod t247 t230)) ∧ w51.cell? ⟨gb249, 2, none⟩ = some (.int .i64 (wrap64 ((Int.tmod t248 12) - 3))) := hS_
 refine norm_ (a' := ?_) ?_ ?_
 rotate_left
 {
 simp only [putAll, Act.put, sT, sZ, sU]
 rfl
 }
 refine two_ (i := 5) (j := 10) (Ni := some 64) (Nj := some 9) #[true,true,true,true,true,true,true,true,false,false,false,false] #[true,true,true,true,true,false,true,true,false,false,true,false] rfl rfl rfl rfl (two_of HT_.out (by kernel_rfl)) (by decide) (by decide) (fun K hK => ?_) (fun K hK => ?_)
 {
 skip
 refine Kd.R_append_rows_step k39 (w0 := w) w.heap.size (by rfl) (.tmp 61) (.tmp 63) 23 39 (.agg #[(.int .i64 0), (.int .i64 0), (.int .i64 0)]) 24 rfl Try.underlying23 info39 rfl (by decide) (by omega) v257 y256 t231 _ _ _ (fun k_ => some k_ ≠ (.slice Ao18 t231.length co18 : Value).ownBlock ∧ some k_ ≠ (v263 : Value).ownBlock ∧ k_ ≠ gb249) (fun _ => False) rfl rfl ?aO ?aR (fun _ _ h => h) (fun _ h => h.elim) ?aF ?aB ?aS ?aL ?_
 (case aR => repeat (first | exact (Kd.R_reads' HO233.out).2.2 | (with_reducible refine Kd.C_alloc ?_ _) | (with_reducible refine Kd.C_drewN ?_ _) | (with_reducible refine Kd.C_drew ?_)))
 (case aB => exact (by repeat first|(with_reducible first|exact HB.out|apply bA|apply bN|apply bD|refine bS ?_ GE234.out|refine bS ?_ GE240.out|refine bS ?_ GE249.out|refine bS ?_ GE255.out)|exact HB.out))
 (case aF => exact (fun k_ hk => ⟨Kd.fresh' (Kd.R_lt (by (with_reducible repeat first|apply rA|apply rN|apply rD); exact HO233.out)) k_ hk, Kd.fresh' (Kd.R_lt (by (with_reducible repeat first|apply rA|apply rN|apply rD); exact HO264.out)) k_ hk, Kd.freshB (by (with_reducible repeat first|apply kN|apply kD|apply kA); exact BK249.out) k_ hk⟩))
 (case aO => exact (by (with_reducible repeat first|apply rA|apply rN|apply rD); exact HO258.out))
 (case aS => exact (bZ (by repeat first|(with_reducible first|exact HB.out|apply bA|apply bN|apply bD|refine bS ?_ GE234.out|refine bS ?_ GE240.out|refine bS ?_ GE249.out|refine bS ?_ GE255.out)|exact HB.out)))
 (case aL => have := LMc11.out; omega)
 intro v260 w52 ho hb hg hat
 rw [← Ny259.out] at ho
 have n0_ := mK (Kd.R_after (ok := (fun k_ => some k_ ≠ (v263 : Value).ownBlock ∧ k_ ≠ gb249)) (by (with_reducible repeat first|apply rA|apply rN|apply rD); exact rM HO233.out (fun _ hk => ⟨⟨hk.2.1, hk.2.2⟩, hk.1⟩)) hg hat)
 have n1_ := mK (blk_grown (by (with_reducible repeat first|apply kN|apply kD|apply kA); exact BK234.out) hg (Kd.R_ne HO258.out BK234.out (by decide)))
 have n2_ := mK (Kd.R_over' (by (with_reducible repeat first|apply rA|apply rN|apply rD); exact HO238.out) (Kd.R_typed (by (with_reducible repeat first|apply rA|apply rN|apply rD); exact HO258.out)) (by decide) hg)
 have n3_ := mK (blk_grown (by (with_reducible repeat first|apply kN|apply kD|apply kA); exact BK240.out) hg (Kd.R_ne HO258.out BK240.out (by decide)))
 have n4_ := mK (blk_grown (by (with_reducible repeat first|apply kN|apply kD|apply kA); exact BK249.out) hg (Kd.R_away HO258.out (fun _ hk => hk.2.2)))
 have n5_ := mK (Kd.R_over' (by (with_reducible repeat first|apply rA|apply rN|apply rD); exact HO253.out) (Kd.R_typed (by (with_reducible repeat first|apply rA|apply rN|apply rD); exact HO258.out)) (by decide) hg)
 have n6_ := mK (blk_grown (by (with_reducible repeat first|apply kN|apply kD|apply kA); exact BK255.out) hg (Kd.R_ne HO258.out BK255.out (by decide)))
 have n7_ := mK (Kd.R_after (ok := (fun k_ => some k_ ≠ (.slice Ao18 t231.length co18 : Value).ownBlock ∧ k_ ≠ gb249)) (by (with_reducible repeat first|apply rA|apply rN|apply rD); exact rM HO264.out (fun _ hk => ⟨⟨hk.1, hk.2.2⟩, hk.2.1⟩)) hg hat)
 have n8_ := mK (hb)
 have n9_ := mK (ho)
 clear HO233
 clear BK234
 clear HO238
 clear BK240
 clear BK249
 clear HO253
 clear BK255
 clear HO264
 clear HB
 clear HO258
 have HO233 := n0_
 have BK234 := n1_
 have HO238 := n2_
 have BK240 := n3_
 have BK249 := n4_
 have HO253 := n5_
 have BK255 := n6_
 have HO264 := n7_
 have HB := n8_
 have HO261 := n9_
 clear n0_ n1_ n2_ n3_ n4_ n5_ n6_ n7_ n8_ n9_
 clear ho hb hg hat
 refine hK.out _ _ ⟨(kC BK234.out 0).trans rfl, (kC BK234.out 1).trans rfl, (kC BK249.out 0).trans rfl, (kC BK249.out 1).trans rfl, (kC BK249.out 2).trans rfl⟩ (fun hHeld => ?_)
 clear hK K
 refine norm_ (a' := ?_) ?_ ?_
 rotate_left
 {
 show Act.put _ (some 64) _ = _
 simp only [Act.put, sT, sZ, sU, i64_w, i32_w]
 rfl
 }
 exact norm_ (by simp only [putAll, Act.put, sT, sZ, sU] <;> rfl) (hJ2_5_7 (v257, v260, v263) _ ⟨hHeld, (rM HO233.out (fun _ hk => ⟨hk.2, ⟨hk.1.1, hk.1.2⟩⟩)), HO238.out, HO253.out, HO261.out, (rM HO264.out (fun _ hk => ⟨hk.1.1, ⟨hk.2, hk.1.2⟩⟩)), BK234.out, BK240.out, BK249.out, BK255.out, HB.out⟩)
 }
 {
 skip
 refine box_step ?hg (N := 9) ?hd (cs := #[.int .i64 0, .slice none 0 0]) (t := 25) ?hr ?_; (case hd => rfl); (case hg => rfl); (case hr => go_simp <;> rfl)
 intro gb268 hg w52 hbox hb
 have n0_ := mK (rB (by (with_reducible repeat first|apply rA|apply rN|apply rD); exact HO233.out) hb)
 have n1_ := mK (rB (by (with_reducible repeat first|apply rA|apply rN|apply rD); exact HO238.out) hb)
 have n2_ := mK (rB (by (with_reducible repeat first|apply rA|apply rN|apply rD); exact HO253.out) hb)
 have n3_ := mK (rB (by (with_reducible repeat first|apply rA|apply rN|apply rD); exact HO258.out) hb)
 have n4_ := mK (rB (by (with_reducible repeat first|apply rA|apply rN|apply rD); exact HO264.out) hb)
 have n5_ := mK (kB (by (with_reducible repeat first|apply kN|apply kD|apply kA); exact BK234.out) hb)
 have n6_ := mK (kB (by (with_reducible repeat first|apply kN|apply kD|apply kA); exact BK240.out) hb)
 have n7_ := mK (kB (by (with_reducible repeat first|apply kN|apply kD|apply kA); exact BK249.out) hb)
 have n8_ := mK (kB (by (with_reducible repeat first|apply kN|apply kD|apply kA); exact BK255.out) hb)
 have n9_ := mK (bP (by repeat first|(with_reducible first|exact HB.out|apply bA|apply bN|apply bD|refine bS ?_ GE234.out|refine bS ?_ GE240.out|refine bS ?_ GE249.out|refine bS ?_ GE255.out)|exact HB.out) hb)
 have n10_ := mK (hbox)
 have n11_ := mK ((by rw [hg]; exact (bZ (by repeat first|(with_reducible first|exact HB.out|apply bA|apply bN|apply bD|refine bS ?_ GE234.out|refine bS ?_ GE240.out|refine bS ?_ GE249.out|refine bS ?_ GE255.out)|exact HB.out)) : w.heap.size ≤ gb268))
 have n12_ := mK ((by rw [hg]; exact (bZ (by repeat first|(with_reducible first|exact HB.out|apply bA|apply bN|apply bD|refine bS ?_ GE234.out|refine bS ?_ GE240.out|refine bS ?_ GE249.out|refine bS ?_ GE255.out)|exact HB.out)) : w.heap.size ≤ gb268))
 have n13_ := mK ((by rw [hg]; exact Nat.ne_of_lt (blk_lt (by (with_reducible repeat first|apply kN|apply kD|apply kA); exact BK234.out)) : gb234 ≠ gb268))
 have n14_ := mK ((by rw [hg]; exact Nat.ne_of_gt (blk_lt (by (with_reducible repeat first|apply kN|apply kD|apply kA); exact BK234.out)) : gb268 ≠ gb234))
 have n15_ := mK ((by rw [hg]; exact Nat.ne_of_lt (blk_lt (by (with_reducible repeat first|apply kN|apply kD|apply kA); exact BK240.out)) : gb240 ≠ gb268))
 have n16_ := mK ((by rw [hg]; exact Nat.ne_of_gt (blk_lt (by (with_reducible repeat first|apply kN|apply kD|apply kA); exact BK240.out)) : gb268 ≠ gb240))
 have n17_ := mK ((by rw [hg]; exact Nat.ne_of_lt (blk_lt (by (with_reducible repeat first|apply kN|apply kD|apply kA); exact BK249.out)) : gb249 ≠ gb268))
 have n18_ := mK ((by rw [hg]; exact Nat.ne_of_gt (blk_lt (by (with_reducible repeat first|apply kN|apply kD|apply kA); exact BK249.out)) : gb268 ≠ gb249))
 have n19_ := mK ((by rw [hg]; exact Nat.ne_of_lt (blk_lt (by (with_reducible repeat first|apply kN|apply kD|apply kA); exact BK255.out)) : gb255 ≠ gb268))
 have n20_ := mK ((by rw [hg]; exact Nat.ne_of_gt (blk_lt (by (with_reducible repeat first|apply kN|apply kD|apply kA); exact BK255.out)) : gb268 ≠ gb255))
 clear HO233
 clear HO238
 clear HO253
 clear HO258
 clear HO264
 clear BK234
 clear BK240
 clear BK249
 clear BK255
 clear HB
 have HO233 := n0_
 have HO238 := n1_
 have HO253 := n2_
 have HO258 := n3_
 have HO264 := n4_
 have BK234 := n5_
 have BK240 := n6_
 have BK249 := n7_
 have BK255 := n8_
 have HB := n9_
 have BK268 := n10_
 have GW268 := n11_
 have GE268 := n12_
 have NB234_268 := n13_
 have NB268_234 := n14_
 have NB240_268 := n15_
 have NB268_240 := n16_
 have NB249_268 := n17_
 have NB268_249 := n18_
 have NB255_268 := n19_
 have NB268_255 := n20_
 clear n0_ n1_ n2_ n3_ n4_ n5_ n6_ n7_ n8_ n9_ n10_ n11_ n12_ n13_ n14_ n15_ n16_ n17_ n18_ n19_ n20_
 clear hb hbox hg
 refine hK.out _ _ ⟨(kC BK234.out 0).trans rfl, (kC BK234.out 1).trans rfl, (kC BK249.out 0).trans rfl, (kC BK249.out 1).trans rfl, (kC BK249.out 2).trans rfl⟩ (fun hHeld => ?_)
 clear hK K
 refine norm_ (a' := ?_) ?_ ?_
 rotate_left
 {
 show Act.put _ (some 9) _ = _
 simp only [Act.put, sT, sZ, sU, i64_w, i32_w]
 rfl
 }
 exact norm_ (by simp only [putAll, Act.put, sT, sZ, sU] <;> rfl) (hJ2_7_10 (v257, v263, gb268) _ ⟨hHeld, HO233.out, HO238.out, HO253.out, HO258.out, HO264.out, BK234.out, BK240.out, BK249.out, BK255.out, BK268.out, GW268.out, GE268.out, NB234_268.out, NB268_234.out, NB240_268.out, NB268_240.out, NB249_268.out, NB268_249.out, NB255_268.out, NB268_255.out, HB.out⟩)
 }
 }
 }
 {
 skip
 rintro ⟨v257, v260⟩ w50 ⟨hS_, h0_, h1_, h2_, h3_, h4_, h5_, h6_, h7_, h8_⟩
 have n0_ : Aside0 (Kd.R k39 39 w50 w.heap.size (fun k_ => some k_ ≠ (v260 : Value).ownBlock ∧ k_ ≠ gb249) (.slice Ao18 t231.length co18) t231) := ⟨h0_⟩
 have n1_ : Aside0 (Kd.R (Kd.int .i64) 3 w50 w.heap.size (fun k_ => some k_ ≠ (.slice Ao44 t251.length co44 : Value).ownBlock) (.slice Ao23 t236.length co23) t236) := ⟨h1_⟩
 have n2_ : Aside0 (Kd.R (Kd.int .i64) 3 w50 w.heap.size (fun k_ => some k_ ≠ (.slice Ao23 t236.length co23 : Value).ownBlock) (.slice Ao44 t251.length co44) t251) := ⟨h2_⟩
 have n3_ : Aside0 (Kd.R k39 39 w50 w.heap.size (fun k_ => some k_ ≠ (.slice Ao18 t231.length co18 : Value).ownBlock ∧ k_ ≠ gb249) v260 y259) := ⟨h3_⟩
 have n4_ : Aside0 (w50.heap[gb234]? = some (.cells #[.int .i64 t230, .slice Ao18 t231.length co18] 25 (0, 0))) := ⟨h4_⟩
 have n5_ : Aside0 (w50.heap[gb240]? = some (.cells #[.int .i64 t235, .slice Ao23 t236.length co23] 29 (0, 0))) := ⟨h5_⟩
 have n6_ : Aside0 (w50.heap[gb249]? = some (.cells #[.int .i64 (Int.tmod t246 t230), .int .i64 (Int.tmod t247 t230), .int .i64 (wrap64 ((Int.tmod t248 12) - 3))] 39 (0, 0))) := ⟨h6_⟩
 have n7_ : Aside0 (w50.heap[gb255]? = some (.cells #[.int .i64 t250, .slice Ao44 t251.length co44] 29 (0, 0))) := ⟨h7_⟩
 have n8_ : Aside0 (Below w.heap.size w w50) := ⟨h8_⟩
 clear HO233
 clear HO238
 clear HO253
 clear BK234
 clear BK240
 clear BK249
 clear BK255
 clear HB
 clear h0_ h1_ h2_ h3_ h4_ h5_ h6_ h7_ h8_
 have HO233 := n0_
 have HO238 := n1_
 have HO253 := n2_
 have HO261 := n3_
 have BK234 := n4_
 have BK240 := n5_
 have BK249 := n6_
 have BK255 := n7_
 have HB := n8_
 clear n0_ n1_ n2_ n3_ n4_ n5_ n6_ n7_ n8_
 have hHeld : w50.cell? ⟨gb234, 0, none⟩ = some (.int .i64 t230) ∧ w50.cell? ⟨gb234, 1, none⟩ = some (.slice Ao18 t231.length co18) ∧ w50.cell? ⟨gb249, 0, none⟩ = some (.int .i64 (Int.tmod t246 t230)) ∧ w50.cell? ⟨gb249, 1, none⟩ = some (.int .i64 (Int.tmod t247 t230)) ∧ w50.cell? ⟨gb249, 2, none⟩ = some (.int .i64 (wrap64 ((Int.tmod t248 12) - 3))) := hS_
 refine norm_ (a' := ?_) ?_ ?_
 rotate_left
 {
 simp only [putAll, Act.put, sT, sZ, sU]
 rfl
 }
 refine two_ (i := 7) (j := 10) (Ni := some 66) (Nj := some 9) #[true,true,true,true,true,true,true,true,false,false,false,false] #[true,true,true,true,true,true,true,false,false,false,true,false] rfl rfl rfl rfl (two_of HT_.out (by kernel_rfl)) (by decide) (by decide) (fun K hK => ?_) (fun K hK => ?_)
 {
 skip
 refine Kd.R_lit_step k39 _ 39 ?hg (N := 66) ?hd (xs := ([(⟨Int.tmod t246 t230, Int.tmod t247 t230, wrap64 ((Int.tmod t248 12) - 3)⟩ : S39)] : List (S39))) (inner := [.int .i64 (Int.tmod t246 t230), .int .i64 (Int.tmod t247 t230), .int .i64 (wrap64 ((Int.tmod t248 12) - 3))]) (ok := fun _ => True) (okp := fun _ => True) ?hr ?hp (fun _ hk => hk) trivial (Below.refl _ _) (Nat.le_refl _) (by simp) ?_; (case hd => rfl); (case hg => rfl); (case hr => go_simp <;> rfl); (case hp => exact (Reps.c3 (show Kd.M k39 _ _ _ (⟨Int.tmod t246 t230, Int.tmod t247 t230, wrap64 ((Int.tmod t248 12) - 3)⟩ : S39) [.int .i64 (Int.tmod t246 t230), .int .i64 (Int.tmod t247 t230), .int .i64 (wrap64 ((Int.tmod t248 12) - 3))] from (k39_mkM _ _ _ (⟨Int.tmod t246 t230, Int.tmod t247 t230, wrap64 ((Int.tmod t248 12) - 3)⟩ : S39) )) (Reps.none _ _)))
 intro v263 w51 ho52 hb hg_ hnew_
 clear hg_ hnew_
 (first | rw [← Ny262.out] at ho52 | (simp only [Int.reduceToNat] at ho52; rw [← Ny262.out] at ho52))
 have n0_ := mK (Kd.R_elder' (by (with_reducible repeat first|apply rA|apply rN|apply rD); exact HO233.out) (Kd.R_base ho52) hb)
 have n1_ := mK (rB (by (with_reducible repeat first|apply rA|apply rN|apply rD); exact HO238.out) hb)
 have n2_ := mK (rB (by (with_reducible repeat first|apply rA|apply rN|apply rD); exact HO253.out) hb)
 have n3_ := mK (Kd.R_elder' (by (with_reducible repeat first|apply rA|apply rN|apply rD); exact HO261.out) (Kd.R_base ho52) hb)
 have n4_ := mK (Kd.R_lower (Kd.R_newB (Kd.R_new' (Kd.R_new' ho52 (Kd.R_lt (by (with_reducible repeat first|apply rA|apply rN|apply rD); exact HO233.out))) (Kd.R_lt (by (with_reducible repeat first|apply rA|apply rN|apply rD); exact HO261.out))) (by (with_reducible repeat first|apply kN|apply kD|apply kA); exact BK249.out)) (bZ (by repeat first|(with_reducible first|exact HB.out|apply bA|apply bN|apply bD|refine bS ?_ GE234.out|refine bS ?_ GE240.out|refine bS ?_ GE249.out|refine bS ?_ GE255.out)|exact HB.out)))
 have n5_ := mK (kB (by (with_reducible repeat first|apply kN|apply kD|apply kA); exact BK234.out) hb)
 have n6_ := mK (kB (by (with_reducible repeat first|apply kN|apply kD|apply kA); exact BK240.out) hb)
 have n7_ := mK (kB (by (with_reducible repeat first|apply kN|apply kD|apply kA); exact BK249.out) hb)
 have n8_ := mK (kB (by (with_reducible repeat first|apply kN|apply kD|apply kA); exact BK255.out) hb)
 have n9_ := mK (bP (by repeat first|(with_reducible first|exact HB.out|apply bA|apply bN|apply bD|refine bS ?_ GE234.out|refine bS ?_ GE240.out|refine bS ?_ GE249.out|refine bS ?_ GE255.out)|exact HB.out) hb)
 clear HO233
 clear HO238
 clear HO253
 clear HO261
 clear BK234
 clear BK240
 clear BK249
 clear BK255
 clear HB
 have HO233 := n0_
 have HO238 := n1_
 have HO253 := n2_
 have HO261 := n3_
 have HO264 := n4_
 have BK234 := n5_
 have BK240 := n6_
 have BK249 := n7_
 have BK255 := n8_
 have HB := n9_
 clear n0_ n1_ n2_ n3_ n4_ n5_ n6_ n7_ n8_ n9_
 clear hb ho52
 refine hK.out _ _ ⟨(kC BK234.out 0).trans rfl, (kC BK234.out 1).trans rfl, (kC BK249.out 0).trans rfl, (kC BK249.out 1).trans rfl, (kC BK249.out 2).trans rfl⟩ (fun hHeld => ?_)
 clear hK K
 refine norm_ (a' := ?_) ?_ ?_
 rotate_left
 {
 show Act.put _ (some 66) _ = _
 simp only [Act.put, sT, sZ, sU, i64_w, i32_w]
 rfl
 }
 exact norm_ (by simp only [putAll, Act.put, sT, sZ, sU] <;> rfl) (hJ2_5_7 (v257, v260, v263) _ ⟨hHeld, (rM HO233.out (fun _ hk => ⟨hk.1.1, ⟨hk.2, hk.1.2⟩⟩)), HO238.out, HO253.out, (rM HO261.out (fun _ hk => ⟨hk.1.1, ⟨hk.2, hk.1.2⟩⟩)), (rM HO264.out (fun _ hk => ⟨hk.1.1.2, ⟨hk.1.2, hk.2⟩⟩)), BK234.out, BK240.out, BK249.out, BK255.out, HB.out⟩)
 }
 {
 skip
 refine box_step ?hg (N := 9) ?hd (cs := #[.int .i64 0, .slice none 0 0]) (t := 25) ?hr ?_; (case hd => rfl); (case hg => rfl); (case hr => go_simp <;> rfl)
 intro gb268 hg w51 hbox hb
 have n0_ := mK (rB (by (with_reducible repeat first|apply rA|apply rN|apply rD); exact HO233.out) hb)
 have n1_ := mK (rB (by (with_reducible repeat first|apply rA|apply rN|apply rD); exact HO238.out) hb)
 have n2_ := mK (rB (by (with_reducible repeat first|apply rA|apply rN|apply rD); exact HO253.out) hb)
 have n3_ := mK (rB (by (with_reducible repeat first|apply rA|apply rN|apply rD); exact HO261.out) hb)
 have n4_ := mK (kB (by (with_reducible repeat first|apply kN|apply kD|apply kA); exact BK234.out) hb)
 have n5_ := mK (kB (by (with_reducible repeat first|apply kN|apply kD|apply kA); exact BK240.out) hb)
 have n6_ := mK (kB (by (with_reducible repeat first|apply kN|apply kD|apply kA); exact BK249.out) hb)
 have n7_ := mK (kB (by (with_reducible repeat first|apply kN|apply kD|apply kA); exact BK255.out) hb)
 have n8_ := mK (bP (by repeat first|(with_reducible first|exact HB.out|apply bA|apply bN|apply bD|refine bS ?_ GE234.out|refine bS ?_ GE240.out|refine bS ?_ GE249.out|refine bS ?_ GE255.out)|exact HB.out) hb)
 have n9_ := mK (hbox)
 have n10_ := mK ((by rw [hg]; exact (bZ (by repeat first|(with_reducible first|exact HB.out|apply bA|apply bN|apply bD|refine bS ?_ GE234.out|refine bS ?_ GE240.out|refine bS ?_ GE249.out|refine bS ?_ GE255.out)|exact HB.out)) : w.heap.size ≤ gb268))
 have n11_ := mK ((by rw [hg]; exact (bZ (by repeat first|(with_reducible first|exact HB.out|apply bA|apply bN|apply bD|refine bS ?_ GE234.out|refine bS ?_ GE240.out|refine bS ?_ GE249.out|refine bS ?_ GE255.out)|exact HB.out)) : w.heap.size ≤ gb268))
 have n12_ := mK ((by rw [hg]; exact Nat.ne_of_lt (blk_lt (by (with_reducible repeat first|apply kN|apply kD|apply kA); exact BK234.out)) : gb234 ≠ gb268))
 have n13_ := mK ((by rw [hg]; exact Nat.ne_of_gt (blk_lt (by (with_reducible repeat first|apply kN|apply kD|apply kA); exact BK234.out)) : gb268 ≠ gb234))
 have n14_ := mK ((by rw [hg]; exact Nat.ne_of_lt (blk_lt (by (with_reducible repeat first|apply kN|apply kD|apply kA); exact BK240.out)) : gb240 ≠ gb268))
 have n15_ := mK ((by rw [hg]; exact Nat.ne_of_gt (blk_lt (by (with_reducible repeat first|apply kN|apply kD|apply kA); exact BK240.out)) : gb268 ≠ gb240))
 have n16_ := mK ((by rw [hg]; exact Nat.ne_of_lt (blk_lt (by (with_reducible repeat first|apply kN|apply kD|apply kA); exact BK249.out)) : gb249 ≠ gb268))
 have n17_ := mK ((by rw [hg]; exact Nat.ne_of_gt (blk_lt (by (with_reducible repeat first|apply kN|apply kD|apply kA); exact BK249.out)) : gb268 ≠ gb249))
 have n18_ := mK ((by rw [hg]; exact Nat.ne_of_lt (blk_lt (by (with_reducible repeat first|apply kN|apply kD|apply kA); exact BK255.out)) : gb255 ≠ gb268))
 have n19_ := mK ((by rw [hg]; exact Nat.ne_of_gt (blk_lt (by (with_reducible repeat first|apply kN|apply kD|apply kA); exact BK255.out)) : gb268 ≠ gb255))
 clear HO233
 clear HO238
 clear HO253
 clear HO261
 clear BK234
 clear BK240
 clear BK249
 clear BK255
 clear HB
 have HO233 := n0_
 have HO238 := n1_
 have HO253 := n2_
 have HO261 := n3_
 have BK234 := n4_
 have BK240 := n5_
 have BK249 := n6_
 have BK255 := n7_
 have HB := n8_
 have BK268 := n9_
 have GW268 := n10_
 have GE268 := n11_
 have NB234_268 := n12_
 have NB268_234 := n13_
 have NB240_268 := n14_
 have NB268_240 := n15_
 have NB249_268 := n16_
 have NB268_249 := n17_
 have NB255_268 := n18_
 have NB268_255 := n19_
 clear n0_ n1_ n2_ n3_ n4_ n5_ n6_ n7_ n8_ n9_ n10_ n11_ n12_ n13_ n14_ n15_ n16_ n17_ n18_ n19_
 clear hb hbox hg
 refine hK.out _ _ ⟨(kC BK234.out 0).trans rfl, (kC BK234.out 1).trans rfl, (kC BK249.out 0).trans rfl, (kC BK249.out 1).trans rfl, (kC BK249.out 2).trans rfl⟩ (fun hHeld => ?_)
 clear hK K
 refine norm_ (a' := ?_) ?_ ?_
 rotate_left
 {
 show Act.put _ (some 9) _ = _
 simp only [Act.put, sT, sZ, sU, i64_w, i32_w]
 rfl
 }
 exact norm_ (by simp only [putAll, Act.put, sT, sZ, sU] <;> rfl) (hJ2_5_10 (v257, v260, gb268) _ ⟨hHeld, HO233.out, HO238.out, HO253.out, HO261.out, BK234.out, BK240.out, BK249.out, BK255.out, BK268.out, GW268.out, GE268.out, NB234_268.out, NB268_234.out, NB240_268.out, NB268_240.out, NB249_268.out, NB268_249.out, NB255_268.out, NB268_255.out, HB.out⟩)
 }
 }
 }
 {
 skip
 rintro ⟨v257, v263, gb268⟩ w52 ⟨hS_, h0_, h1_, h2_, h3_, h4_, h5_, h6_, h7_, h8_, h9_, h10_, h11_, h12_, h13_, h14_, h15_, h16_, h17_, h18_, h19_, h20_⟩
 have n0_ : Aside0 (Kd.R k39 39 w52 w.heap.size (fun k_ => some k_ ≠ (v257 : Value).ownBlock ∧ some k_ ≠ (v263 : Value).ownBlock ∧ k_ ≠ gb249) (.slice Ao18 t231.length co18) t231) := ⟨h0_⟩
 have n1_ : Aside0 (Kd.R (Kd.int .i64) 3 w52 w.heap.size (fun k_ => some k_ ≠ (.slice Ao44 t251.length co44 : Value).ownBlock) (.slice Ao23 t236.length co23) t236) := ⟨h1_⟩
 have n2_ : Aside0 (Kd.R (Kd.int .i64) 3 w52 w.heap.size (fun k_ => some k_ ≠ (.slice Ao23 t236.length co23 : Value).ownBlock) (.slice Ao44 t251.length co44) t251) := ⟨h2_⟩
 have n3_ : Aside0 (Kd.R k39 39 w52 w.heap.size (fun k_ => some k_ ≠ (.slice Ao18 t231.length co18 : Value).ownBlock ∧ some k_ ≠ (v263 : Value).ownBlock ∧ k_ ≠ gb249) v257 y256) := ⟨h3_⟩
 have n4_ : Aside0 (Kd.R k39 39 w52 w.heap.size (fun k_ => some k_ ≠ (.slice Ao18 t231.length co18 : Value).ownBlock ∧ some k_ ≠ (v257 : Value).ownBlock ∧ k_ ≠ gb249) v263 y262) := ⟨h4_⟩
 have n5_ : Aside0 (w52.heap[gb234]? = some (.cells #[.int .i64 t230, .slice Ao18 t231.length co18] 25 (0, 0))) := ⟨h5_⟩
 have n6_ : Aside0 (w52.heap[gb240]? = some (.cells #[.int .i64 t235, .slice Ao23 t236.length co23] 29 (0, 0))) := ⟨h6_⟩
 have n7_ : Aside0 (w52.heap[gb249]? = some (.cells #[.int .i64 (Int.tmod t246 t230), .int .i64 (Int.tmod t247 t230), .int .i64 (wrap64 ((Int.tmod t248 12) - 3))] 39 (0, 0))) := ⟨h7_⟩
 have n8_ : Aside0 (w52.heap[gb255]? = some (.cells #[.int .i64 t250, .slice Ao44 t251.length co44] 29 (0, 0))) := ⟨h8_⟩
 have n9_ : Aside0 (w52.heap[gb268]? = some (.cells #[.int .i64 0, .slice none 0 0] 25 (0, 0))) := ⟨h9_⟩
 have n10_ : Aside0 (w.heap.size ≤ gb268) := ⟨h10_⟩
 have n11_ : Aside0 (w.heap.size ≤ gb268) := ⟨h11_⟩
 have n12_ : Aside0 (gb234 ≠ gb268) := ⟨h12_⟩
 have n13_ : Aside0 (gb268 ≠ gb234) := ⟨h13_⟩
 have n14_ : Aside0 (gb240 ≠ gb268) := ⟨h14_⟩
 have n15_ : Aside0 (gb268 ≠ gb240) := ⟨h15_⟩
 have n16_ : Aside0 (gb249 ≠ gb268) := ⟨h16_⟩
 have n17_ : Aside0 (gb268 ≠ gb249) := ⟨h17_⟩
 have n18_ : Aside0 (gb255 ≠ gb268) := ⟨h18_⟩
 have n19_ : Aside0 (gb268 ≠ gb255) := ⟨h19_⟩
 have n20_ : Aside0 (Below w.heap.size w w52) := ⟨h20_⟩
 clear HO233
 clear HO238
 clear HO253
 clear BK234
 clear BK240
 clear BK249
 clear BK255
 clear HB
 clear h0_ h1_ h2_ h3_ h4_ h5_ h6_ h7_ h8_ h9_ h10_ h11_ h12_ h13_ h14_ h15_ h16_ h17_ h18_ h19_ h20_
 have HO233 := n0_
 have HO238 := n1_
 have HO253 := n2_
 have HO258 := n3_
 have HO264 := n4_
 have BK234 := n5_
 have BK240 := n6_
 have BK249 := n7_
 have BK255 := n8_
 have BK268 := n9_
 have GW268 := n10_
 have GE268 := n11_
 have NB234_268 := n12_
 have NB268_234 := n13_
 have NB240_268 := n14_
 have NB268_240 := n15_
 have NB249_268 := n16_
 have NB268_249 := n17_
 have NB255_268 := n18_
 have NB268_255 := n19_
 have HB := n20_
 clear n0_ n1_ n2_ n3_ n4_ n5_ n6_ n7_ n8_ n9_ n10_ n11_ n12_ n13_ n14_ n15_ n16_ n17_ n18_ n19_ n20_
 have hHeld : w52.cell? ⟨gb234, 0, none⟩ = some (.int .i64 t230) ∧ w52.cell? ⟨gb234, 1, none⟩ = some (.slice Ao18 t231.length co18) ∧ w52.cell? ⟨gb249, 0, none⟩ = some (.int .i64 (Int.tmod t246 t230)) ∧ w52.cell? ⟨gb249, 1, none⟩ = some (.int .i64 (Int.tmod t247 t230)) ∧ w52.cell? ⟨gb249, 2, none⟩ = some (.int .i64 (wrap64 ((Int.tmod t248 12) - 3))) := hS_
 refine norm_ (a' := ?_) ?_ ?_
 rotate_left
 {
 simp only [putAll, Act.put, sT, sZ, sU]
 rfl
 }
 refine one_ (i := 5) (N := some 64) #[true,true,true,true,true,true,true,true,false,false,true,false] rfl rfl (one_of HT_.out (by kernel_rfl)) (by decide) (fun K hK => ?_)
 refine Kd.R_append_rows_step k39 (w0 := w) w.heap.size (by rfl) (.tmp 61) (.tmp 63) 23 39 (.agg #[(.int .i64 0), (.int .i64 0), (.int .i64 0)]) 24 rfl Try.underlying23 info39 rfl (by decide) (by omega) v257 y256 t231 _ _ _ (fun k_ => some k_ ≠ (.slice Ao18 t231.length co18 : Value).ownBlock ∧ some k_ ≠ (v263 : Value).ownBlock ∧ k_ ≠ gb249) (fun _ => False) rfl rfl ?aO ?aR (fun _ _ h => h) (fun _ h => h.elim) ?aF ?aB ?aS ?aL ?_
 (case aR => repeat (first | exact (Kd.R_reads' HO233.out).2.2 | (with_reducible refine Kd.C_alloc ?_ _) | (with_reducible refine Kd.C_drewN ?_ _) | (with_reducible refine Kd.C_drew ?_)))
 (case aB => exact (by repeat first|(with_reducible first|exact HB.out|apply bA|apply bN|apply bD|refine bS ?_ GE234.out|refine bS ?_ GE240.out|refine bS ?_ GE249.out|refine bS ?_ GE255.out|refine bS ?_ GE268.out)|exact HB.out))
 (case aF => exact (fun k_ hk => ⟨Kd.fresh' (Kd.R_lt (by (with_reducible repeat first|apply rA|apply rN|apply rD); exact HO233.out)) k_ hk, Kd.fresh' (Kd.R_lt (by (with_reducible repeat first|apply rA|apply rN|apply rD); exact HO264.out)) k_ hk, Kd.freshB (by (with_reducible repeat first|apply kN|apply kD|apply kA); exact BK249.out) k_ hk⟩))
 (case aO => exact (by (with_reducible repeat first|apply rA|apply rN|apply rD); exact HO258.out))
 (case aS => exact (bZ (by repeat first|(with_reducible first|exact HB.out|apply bA|apply bN|apply bD|refine bS ?_ GE234.out|refine bS ?_ GE240.out|refine bS ?_ GE249.out|refine bS ?_ GE255.out|refine bS ?_ GE268.out)|exact HB.out)))
 (case aL => have := LMc11.out; omega)
 intro v260 w53 ho hb hg hat
 rw [← Ny259.out] at ho
 have n0_ := mK (Kd.R_after (ok := (fun k_ => some k_ ≠ (v263 : Value).ownBlock ∧ k_ ≠ gb249)) (by (with_reducible repeat first|apply rA|apply rN|apply rD); exact rM HO233.out (fun _ hk => ⟨⟨hk.2.1, hk.2.2⟩, hk.1⟩)) hg hat)
 have n1_ := mK (blk_grown (by (with_reducible repeat first|apply kN|apply kD|apply kA); exact BK234.out) hg (Kd.R_ne HO258.out BK234.out (by decide)))
 have n2_ := mK (Kd.R_over' (by (with_reducible repeat first|apply rA|apply rN|apply rD); exact HO238.out) (Kd.R_typed (by (with_reducible repeat first|apply rA|apply rN|apply rD); exact HO258.out)) (by decide) hg)
 have n3_ := mK (blk_grown (by (with_reducible repeat first|apply kN|apply kD|apply kA); exact BK240.out) hg (Kd.R_ne HO258.out BK240.out (by decide)))
 have n4_ := mK (blk_grown (by (with_reducible repeat first|apply kN|apply kD|apply kA); exact BK249.out) hg (Kd.R_away HO258.out (fun _ hk => hk.2.2)))
 have n5_ := mK (Kd.R_over' (by (with_reducible repeat first|apply rA|apply rN|apply rD); exact HO253.out) (Kd.R_typed (by (with_reducible repeat first|apply rA|apply rN|apply rD); exact HO258.out)) (by decide) hg)
 have n6_ := mK (blk_grown (by (with_reducible repeat first|apply kN|apply kD|apply kA); exact BK255.out) hg (Kd.R_ne HO258.out BK255.out (by decide)))
 have n7_ := mK (Kd.R_after (ok := (fun k_ => some k_ ≠ (.slice Ao18 t231.length co18 : Value).ownBlock ∧ k_ ≠ gb249)) (by (with_reducible repeat first|apply rA|apply rN|apply rD); exact rM HO264.out (fun _ hk => ⟨⟨hk.1, hk.2.2⟩, hk.2.1⟩)) hg hat)
 have n8_ := mK (blk_grown (by (with_reducible repeat first|apply kN|apply kD|apply kA); exact BK268.out) hg (Kd.R_ne HO258.out BK268.out (by decide)))
 have n9_ := mK (hb)
 have n10_ := mK (ho)
 clear HO233
 clear BK234
 clear HO238
 clear BK240
 clear BK249
 clear HO253
 clear BK255
 clear HO264
 clear BK268
 clear HB
 clear HO258
 have HO233 := n0_
 have BK234 := n1_
 have HO238 := n2_
 have BK240 := n3_
 have BK249 := n4_
 have HO253 := n5_
 have BK255 := n6_
 have HO264 := n7_
 have BK268 := n8_
 have HB := n9_
 have HO261 := n10_
 clear n0_ n1_ n2_ n3_ n4_ n5_ n6_ n7_ n8_ n9_ n10_
 clear ho hb hg hat
 refine hK.out _ _ ⟨(kC BK234.out 0).trans rfl, (kC BK234.out 1).trans rfl, (kC BK249.out 0).trans rfl, (kC BK249.out 1).trans rfl, (kC BK249.out 2).trans rfl⟩ (fun hHeld => ?_)
 clear hK K
 refine norm_ (a' := ?_) ?_ ?_
 rotate_left
 {
 show Act.put _ (some 64) _ = _
 simp only [Act.put, sT, sZ, sU, i64_w, i32_w]
 rfl
 }
 exact norm_ (by simp only [putAll, Act.put, sT, sZ, sU] <;> rfl) (hJ2_5_7_10 (v257, v260, v263, gb268) _ ⟨hHeld, (rM HO233.out (fun _ hk => ⟨hk.2, ⟨hk.1.1, hk.1.2⟩⟩)), HO238.out, HO253.out, HO261.out, (rM HO264.out (fun _ hk => ⟨hk.1.1, ⟨hk.2, hk.1.2⟩⟩)), BK234.out, BK240.out, BK249.out, BK255.out, BK268.out, GW268.out, GE268.out, NB234_268.out, NB268_234.out, NB240_268.out, NB268_240.out, NB249_268.out, NB268_249.out, NB255_268.out, NB268_255.out, HB.out⟩)
 }
 }
 {
 skip
 rintro ⟨v257, v260, gb268⟩ w51 ⟨hS_, h0_, h1_, h2_, h3_, h4_, h5_, h6_, h7_, h8_, h9_, h10_, h11_, h12_, h13_, h14_, h15_, h16_, h17_, h18_, h19_⟩
 have n0_ : Aside0 (Kd.R k39 39 w51 w.heap.size (fun k_ => some k_ ≠ (v260 : Value).ownBlock ∧ k_ ≠ gb249) (.slice Ao18 t231.length co18) t231) := ⟨h0_⟩
 have n1_ : Aside0 (Kd.R (Kd.int .i64) 3 w51 w.heap.size (fun k_ => some k_ ≠ (.slice Ao44 t251.length co44 : Value).ownBlock) (.slice Ao23 t236.length co23) t236) := ⟨h1_⟩
 have n2_ : Aside0 (Kd.R (Kd.int .i64) 3 w51 w.heap.size (fun k_ => some k_ ≠ (.slice Ao23 t236.length co23 : Value).ownBlock) (.slice Ao44 t251.length co44) t251) := ⟨h2_⟩
 have n3_ : Aside0 (Kd.R k39 39 w51 w.heap.size (fun k_ => some k_ ≠ (.slice Ao18 t231.length co18 : Value).ownBlock ∧ k_ ≠ gb249) v260 y259) := ⟨h3_⟩
 have n4_ : Aside0 (w51.heap[gb234]? = some (.cells #[.int .i64 t230, .slice Ao18 t231.length co18] 25 (0, 0))) := ⟨h4_⟩
 have n5_ : Aside0 (w51.heap[gb240]? = some (.cells #[.int .i64 t235, .slice Ao23 t236.length co23] 29 (0, 0))) := ⟨h5_⟩
 have n6_ : Aside0 (w51.heap[gb249]? = some (.cells #[.int .i64 (Int.tmod t246 t230), .int .i64 (Int.tmod t247 t230), .int .i64 (wrap64 ((Int.tmod t248 12) - 3))] 39 (0, 0))) := ⟨h6_⟩
 have n7_ : Aside0 (w51.heap[gb255]? = some (.cells #[.int .i64 t250, .slice Ao44 t251.length co44] 29 (0, 0))) := ⟨h7_⟩
 have n8_ : Aside0 (w51.heap[gb268]? = some (.cells #[.int .i64 0, .slice none 0 0] 25 (0, 0))) := ⟨h8_⟩
 have n9_ : Aside0 (w.heap.size ≤ gb268) := ⟨h9_⟩
 have n10_ : Aside0 (w.heap.size ≤ gb268) := ⟨h10_⟩
 have n11_ : Aside0 (gb234 ≠ gb268) := ⟨h11_⟩
 have n12_ : Aside0 (gb268 ≠ gb234) := ⟨h12_⟩
 have n13_ : Aside0 (gb240 ≠ gb268) := ⟨h13_⟩
 have n14_ : Aside0 (gb268 ≠ gb240) := ⟨h14_⟩
 have n15_ : Aside0 (gb249 ≠ gb268) := ⟨h15_⟩
 have n16_ : Aside0 (gb268 ≠ gb249) := ⟨h16_⟩
 have n17_ : Aside0 (gb255 ≠ gb268) := ⟨h17_⟩
 have n18_ : Aside0 (gb268 ≠ gb255) := ⟨h18_⟩
 have n19_ : Aside0 (Below w.heap.size w w51) := ⟨h19_⟩
 clear HO233
 clear HO238
 clear HO253
 clear BK234
 clear BK240
 clear BK249
 clear BK255
 clear HB
 clear h0_ h1_ h2_ h3_ h4_ h5_ h6_ h7_ h8_ h9_ h10_ h11_ h12_ h13_ h14_ h15_ h16_ h17_ h18_ h19_
 have HO233 := n0_
 have HO238 := n1_
 have HO253 := n2_
 have HO261 := n3_
 have BK234 := n4_
 have BK240 := n5_
 have BK249 := n6_
 have BK255 := n7_
 have BK268 := n8_
 have GW268 := n9_
 have GE268 := n10_
 have NB234_268 := n11_
 have NB268_234 := n12_
 have NB240_268 := n13_
 have NB268_240 := n14_
 have NB249_268 := n15_
 have NB268_249 := n16_
 have NB255_268 := n17_
 have NB268_255 := n18_
 have HB := n19_
 clear n0_ n1_ n2_ n3_ n4_ n5_ n6_ n7_ n8_ n9_ n10_ n11_ n12_ n13_ n14_ n15_ n16_ n17_ n18_ n19_
 have hHeld : w51.cell? ⟨gb234, 0, none⟩ = some (.int .i64 t230) ∧ w51.cell? ⟨gb234, 1, none⟩ = some (.slice Ao18 t231.length co18) ∧ w51.cell? ⟨gb249, 0, none⟩ = some (.int .i64 (Int.tmod t246 t230)) ∧ w51.cell? ⟨gb249, 1, none⟩ = some (.int .i64 (Int.tmod t247 t230)) ∧ w51.cell? ⟨gb249, 2, none⟩ = some (.int .i64 (wrap64 ((Int.tmod t248 12) - 3))) := hS_
 refine norm_ (a' := ?_) ?_ ?_
 rotate_left
 {
 simp only [putAll, Act.put, sT, sZ, sU]
 rfl
 }
 refine one_ (i := 7) (N := some 66) #[true,true,true,true,true,true,true,true,false,false,true,false] rfl rfl (one_of HT_.out (by kernel_rfl)) (by decide) (fun K hK => ?_)
 refine Kd.R_lit_step k39 _ 39 ?hg (N := 66) ?hd (xs := ([(⟨Int.tmod t246 t230, Int.tmod t247 t230, wrap64 ((Int.tmod t248 12) - 3)⟩ : S39)] : List (S39))) (inner := [.int .i64 (Int.tmod t246 t230), .int .i64 (Int.tmod t247 t230), .int .i64 (wrap64 ((Int.tmod t248 12) - 3))]) (ok := fun _ => True) (okp := fun _ => True) ?hr ?hp (fun _ hk => hk) trivial (Below.refl _ _) (Nat.le_refl _) (by simp) ?_; (case hd => rfl); (case hg => rfl); (case hr => go_simp <;> rfl); (case hp => exact (Reps.c3 (show Kd.M k39 _ _ _ (⟨Int.tmod t246 t230, Int.tmod t247 t230, wrap64 ((Int.tmod t248 12) - 3)⟩ : S39) [.int .i64 (Int.tmod t246 t230), .int .i64 (Int.tmod t247 t230), .int .i64 (wrap64 ((Int.tmod t248 12) - 3))] from (k39_mkM _ _ _ (⟨Int.tmod t246 t230, Int.tmod t247 t230, wrap64 ((Int.tmod t248 12) - 3)⟩ : S39) )) (Reps.none _ _)))
 intro v263 w52 ho53 hb hg_ hnew_
 clear hg_ hnew_
 (first | rw [← Ny262.out] at ho53 | (simp only [Int.reduceToNat] at ho53; rw [← Ny262.out] at ho53))
 have n0_ := mK (Kd.R_elder' (by (with_reducible repeat first|apply rA|apply rN|apply rD); exact HO233.out) (Kd.R_base ho53) hb)
 have n1_ := mK (rB (by (with_reducible repeat first|apply rA|apply rN|apply rD); exact HO238.out) hb)
 have n2_ := mK (rB (by (with_reducible repeat first|apply rA|apply rN|apply rD); exact HO253.out) hb)
 have n3_ := mK (Kd.R_elder' (by (with_reducible repeat first|apply rA|apply rN|apply rD); exact HO261.out) (Kd.R_base ho53) hb)
 have n4_ := mK (Kd.R_lower (Kd.R_newB (Kd.R_new' (Kd.R_new' ho53 (Kd.R_lt (by (with_reducible repeat first|apply rA|apply rN|apply rD); exact HO233.out))) (Kd.R_lt (by (with_reducible repeat first|apply rA|apply rN|apply rD); exact HO261.out))) (by (with_reducible repeat first|apply kN|apply kD|apply kA); exact BK249.out)) (bZ (by repeat first|(with_reducible first|exact HB.out|apply bA|apply bN|apply bD|refine bS ?_ GE234.out|refine bS ?_ GE240.out|refine bS ?_ GE249.out|refine bS ?_ GE255.out|refine bS ?_ GE268.out)|exact HB.out)))
 have n5_ := mK (kB (by (with_reducible repeat first|apply kN|apply kD|apply kA); exact BK234.out) hb)
 have n6_ := mK (kB (by (with_reducible repeat first|apply kN|apply kD|apply kA); exact BK240.out) hb)
 have n7_ := mK (kB (by (with_reducible repeat first|apply kN|apply kD|apply kA); exact BK249.out) hb)
 have n8_ := mK (kB (by (with_reducible repeat first|apply kN|apply kD|apply kA); exact BK255.out) hb)
 have n9_ := mK (kB (by (with_reducible repeat first|apply kN|apply kD|apply kA); exact BK268.out) hb)
 have n10_ := mK (bP (by repeat first|(with_reducible first|exact HB.out|apply bA|apply bN|apply bD|refine bS ?_ GE234.out|refine bS ?_ GE240.out|refine bS ?_ GE249.out|refine bS ?_ GE255.out|refine bS ?_ GE268.out)|exact HB.out) hb)
 clear HO233
 clear HO238
 clear HO253
 clear HO261
 clear BK234
 clear BK240
 clear BK249
 clear BK255
 clear BK268
 clear HB
 have HO233 := n0_
 have HO238 := n1_
 have HO253 := n2_
 have HO261 := n3_
 have HO264 := n4_
 have BK234 := n5_
 have BK240 := n6_
 have BK249 := n7_
 have BK255 := n8_
 have BK268 := n9_
 have HB := n10_
 clear n0_ n1_ n2_ n3_ n4_ n5_ n6_ n7_ n8_ n9_ n10_
 clear hb ho53
 refine hK.out _ _ ⟨(kC BK234.out 0).trans rfl, (kC BK234.out 1).trans rfl, (kC BK249.out 0).trans rfl, (kC BK249.out 1).trans rfl, (kC BK249.out 2).trans rfl⟩ (fun hHeld => ?_)
 clear hK K
 refine norm_ (a' := ?_) ?_ ?_
 rotate_left
 {
 show Act.put _ (some 66) _ = _
 simp only [Act.put, sT, sZ, sU, i64_w, i32_w]
 rfl
 }
 exact norm_ (by simp only [putAll, Act.put, sT, sZ, sU] <;> rfl) (hJ2_5_7_10 (v257, v260, v263, gb268) _ ⟨hHeld, (rM HO233.out (fun _ hk => ⟨hk.1.1, ⟨hk.2, hk.1.2⟩⟩)), HO238.out, HO253.out, (rM HO261.out (fun _ hk => ⟨hk.1.1, ⟨hk.2, hk.1.2⟩⟩)), (rM HO264.out (fun _ hk => ⟨hk.1.1.2, ⟨hk.1.2, hk.2⟩⟩)), BK234.out, BK240.out, BK249.out, BK255.out, BK268.out, GW268.out, GE268.out, NB234_268.out, NB268_234.out, NB240_268.out, NB268_240.out, NB249_268.out, NB268_249.out, NB255_268.out, NB268_255.out, HB.out⟩)
 }
 }
 {
 skip
 rintro ⟨v257, v260, v263⟩ w52 ⟨hS_, h0_, h1_, h2_, h3_, h4_, h5_, h6_, h7_, h8_, h9_⟩
 have n0_ : Aside0 (Kd.R k39 39 w52 w.heap.size (fun k_ => some k_ ≠ (v260 : Value).ownBlock ∧ some k_ ≠ (v263 : Value).ownBlock ∧ k_ ≠ gb249) (.slice Ao18 t231.length co18) t231) := ⟨h0_⟩
 have n1_ : Aside0 (Kd.R (Kd.int .i64) 3 w52 w.heap.size (fun k_ => some k_ ≠ (.slice Ao44 t251.length co44 : Value).ownBlock) (.slice Ao23 t236.length co23) t236) := ⟨h1_⟩
 have n2_ : Aside0 (Kd.R (Kd.int .i64) 3 w52 w.heap.size (fun k_ => some k_ ≠ (.slice Ao23 t236.length co23 : Value).ownBlock) (.slice Ao44 t251.length co44) t251) := ⟨h2_⟩
 have n3_ : Aside0 (Kd.R k39 39 w52 w.heap.size (fun k_ => some k_ ≠ (.slice Ao18 t231.length co18 : Value).ownBlock ∧ some k_ ≠ (v263 : Value).ownBlock ∧ k_ ≠ gb249) v260 y259) := ⟨h3_⟩
 have n4_ : Aside0 (Kd.R k39 39 w52 w.heap.size (fun k_ => some k_ ≠ (.slice Ao18 t231.length co18 : Value).ownBlock ∧ some k_ ≠ (v260 : Value).ownBlock ∧ k_ ≠ gb249) v263 y262) := ⟨h4_⟩
 have n5_ : Aside0 (w52.heap[gb234]? = some (.cells #[.int .i64 t230, .slice Ao18 t231.length co18] 25 (0, 0))) := ⟨h5_⟩
 have n6_ : Aside0 (w52.heap[gb240]? = some (.cells #[.int .i64 t235, .slice Ao23 t236.length co23] 29 (0, 0))) := ⟨h6_⟩
 have n7_ : Aside0 (w52.heap[gb249]? = some (.cells #[.int .i64 (Int.tmod t246 t230), .int .i64 (Int.tmod t247 t230), .int .i64 (wrap64 ((Int.tmod t248 12) - 3))] 39 (0, 0))) := ⟨h7_⟩
 have n8_ : Aside0 (w52.heap[gb255]? = some (.cells #[.int .i64 t250, .slice Ao44 t251.length co44] 29 (0, 0))) := ⟨h8_⟩
 have n9_ : Aside0 (Below w.heap.size w w52) := ⟨h9_⟩
 clear HO233
 clear HO238
 clear HO253
 clear BK234
 clear BK240
 clear BK249
 clear BK255
 clear HB
 clear h0_ h1_ h2_ h3_ h4_ h5_ h6_ h7_ h8_ h9_
 have HO233 := n0_
 have HO238 := n1_
 have HO253 := n2_
 have HO261 := n3_
 have HO264 := n4_
 have BK234 := n5_
 have BK240 := n6_
 have BK249 := n7_
 have BK255 := n8_
 have HB := n9_
 clear n0_ n1_ n2_ n3_ n4_ n5_ n6_ n7_ n8_ n9_
 have hHeld : w52.cell? ⟨gb234, 0, none⟩ = some (.int .i64 t230) ∧ w52.cell? ⟨gb234, 1, none⟩ = some (.slice Ao18 t231.length co18) ∧ w52.cell? ⟨gb249, 0, none⟩ = some (.int .i64 (Int.tmod t246 t230)) ∧ w52.cell? ⟨gb249, 1, none⟩ = some (.int .i64 (Int.tmod t247 t230)) ∧ w52.cell? ⟨gb249, 2, none⟩ = some (.int .i64 (wrap64 ((Int.tmod t248 12) - 3))) := hS_
 obtain ⟨Ao54, co54, eo54⟩ := Kd.R_slice HO264.out
 (first | subst eo54 | (injection eo54 with f1_ f2_ f3_; have f4_ := f1_.symm; have f5_ := f3_.symm; clear f1_ f2_ f3_; subst f4_; subst f5_))
 refine norm_ (a' := ?_) ?_ ?_
 rotate_left
 {
 simp only [putAll, Act.put, sT, sZ, sU]
 rfl
 }
 refine two_ (i := 8) (j := 10) (Ni := some 67) (Nj := some 9) #[true,true,true,true,true,true,true,true,true,false,false,false] #[true,true,true,true,true,true,true,true,false,false,true,false] rfl rfl rfl rfl (two_of HT_.out (by kernel_rfl)) (by decide) (by decide) (fun K hK => ?_) (fun K hK => ?_)
 {
 skip
 refine Kd.R_append_rows_step k39 (w0 := w) w.heap.size (by rfl) (.tmp 64) (.tmp 66) 23 39 (.agg #[(.int .i64 0), (.int .i64 0), (.int .i64 0)]) 24 rfl Try.underlying23 info39 rfl (by decide) (by omega) v260 y259 y262 _ _ _ (fun k_ => some k_ ≠ (.slice Ao18 t231.length co18 : Value).ownBlock ∧ some k_ ≠ (.slice Ao54 y262.length co54 : Value).ownBlock ∧ k_ ≠ gb249) (fun _ => False) rfl rfl ?aO ?aR (fun _ _ h => h) (fun _ h => h.elim) ?aF ?aB ?aS ?aL ?_
 (case aR => repeat (first | exact (Kd.R_reads' HO264.out).2.2 | (with_reducible refine Kd.C_alloc ?_ _) | (with_reducible refine Kd.C_drewN ?_ _) | (with_reducible refine Kd.C_drew ?_)))
 (case aB => exact (by repeat first|(with_reducible first|exact HB.out|apply bA|apply bN|apply bD|refine bS ?_ GE234.out|refine bS ?_ GE240.out|refine bS ?_ GE249.out|refine bS ?_ GE255.out)|exact HB.out))
 (case aF => exact (fun k_ hk => ⟨Kd.fresh' (Kd.R_lt (by (with_reducible repeat first|apply rA|apply rN|apply rD); exact HO233.out)) k_ hk, Kd.fresh' (Kd.R_lt (by (with_reducible repeat first|apply rA|apply rN|apply rD); exact HO264.out)) k_ hk, Kd.freshB (by (with_reducible repeat first|apply kN|apply kD|apply kA); exact BK249.out) k_ hk⟩))
 (case aO => exact (by (with_reducible repeat first|apply rA|apply rN|apply rD); exact HO261.out))
 (case aS => exact (bZ (by repeat first|(with_reducible first|exact HB.out|apply bA|apply bN|apply bD|refine bS ?_ GE234.out|refine bS ?_ GE240.out|refine bS ?_ GE249.out|refine bS ?_ GE255.out)|exact HB.out)))
 (case aL => have := LMc12.out; omega)
 intro v266 w53 ho hb hg hat
 rw [← Ny265.out] at ho
 have n0_ := mK (Kd.R_after (ok := (fun k_ => some k_ ≠ (.slice Ao54 y262.length co54 : Value).ownBlock ∧ k_ ≠ gb249)) (by (with_reducible repeat first|apply rA|apply rN|apply rD); exact rM HO233.out (fun _ hk => ⟨⟨hk.2.1, hk.2.2⟩, hk.1⟩)) hg hat)
 have n1_ := mK (blk_grown (by (with_reducible repeat first|apply kN|apply kD|apply kA); exact BK234.out) hg (Kd.R_ne HO261.out BK234.out (by decide)))
 have n2_ := mK (Kd.R_over' (by (with_reducible repeat first|apply rA|apply rN|apply rD); exact HO238.out) (Kd.R_typed (by (with_reducible repeat first|apply rA|apply rN|apply rD); exact HO261.out)) (by decide) hg)
 have n3_ := mK (blk_grown (by (with_reducible repeat first|apply kN|apply kD|apply kA); exact BK240.out) hg (Kd.R_ne HO261.out BK240.out (by decide)))
 have n4_ := mK (blk_grown (by (with_reducible repeat first|apply kN|apply kD|apply kA); exact BK249.out) hg (Kd.R_away HO261.out (fun _ hk => hk.2.2)))
 have n5_ := mK (Kd.R_over' (by (with_reducible repeat first|apply rA|apply rN|apply rD); exact HO253.out) (Kd.R_typed (by (with_reducible repeat first|apply rA|apply rN|apply rD); exact HO261.out)) (by decide) hg)
 have n6_ := mK (blk_grown (by (with_reducible repeat first|apply kN|apply kD|apply kA); exact BK255.out) hg (Kd.R_ne HO261.out BK255.out (by decide)))
 have n7_ := mK (Kd.R_after (ok := (fun k_ => some k_ ≠ (.slice Ao18 t231.length co18 : Value).ownBlock ∧ k_ ≠ gb249)) (by (with_reducible repeat first|apply rA|apply rN|apply rD); exact rM HO264.out (fun _ hk => ⟨⟨hk.1, hk.2.2⟩, hk.2.1⟩)) hg hat)
 have n8_ := mK (hb)
 have n9_ := mK (ho)
 clear HO233
 clear BK234
 clear HO238
 clear BK240
 clear BK249
 clear HO253
 clear BK255
 clear HO264
 clear HB
 clear HO261
 have HO233 := n0_
 have BK234 := n1_
 have HO238 := n2_
 have BK240 := n3_
 have BK249 := n4_
 have HO253 := n5_
 have BK255 := n6_
 have HO264 := n7_
 have HB := n8_
 have HO267 := n9_
 clear n0_ n1_ n2_ n3_ n4_ n5_ n6_ n7_ n8_ n9_
 clear ho hb hg hat
 obtain ⟨Ao55, co55, eo55⟩ := Kd.R_slice HO267.out
 (first | subst eo55 | (injection eo55 with f1_ f2_ f3_; have f4_ := f1_.symm; have f5_ := f3_.symm; clear f1_ f2_ f3_; subst f4_; subst f5_))
 refine hK.out _ _ ⟨(kC BK234.out 0).trans rfl, (kC BK234.out 1).trans rfl, (kC BK249.out 0).trans rfl, (kC BK249.out 1).trans rfl, (kC BK249.out 2).trans rfl⟩ (fun hHeld => ?_)
 clear hK K
 refine norm_ (a' := ?_) ?_ ?_
 rotate_left
 {
 show Act.put _ (some 67) _ = _
 simp only [Act.put, sT, sZ, sU, i64_w, i32_w]
 rfl
 }
 refine pure_ (i := 9) (N := some 68) (v := ?_) (a' := ?_) #[true,true,true,true,true,true,true,true,true,true,false,false] rfl rfl (any_of HT_.out (by kernel_rfl)) (fun _ _ _ h => h) (Or.inl ⟨by rfl, ?_⟩) ?_ ?_
 rotate_left
 {
 intro w'
 go_simp
 with_reducible rfl
 }
 rotate_left
 {
 simp only [Act.put, sT, sZ, sU, i64_w, i32_w]
 rfl
 }
 exact norm_ (by simp only [putAll, Act.put, sT, sZ, sU] <;> rfl) (hJ2_5_7_8 (v257, v260, .slice Ao54 y262.length co54, .slice Ao55 y265.length co55) _ ⟨hHeld, (rM HO233.out (fun _ hk => ⟨hk.1.1, ⟨hk.2, hk.1.2⟩⟩)), HO238.out, HO253.out, (rM HO264.out (fun _ hk => ⟨hk.1.1, ⟨hk.2, hk.1.2⟩⟩)), HO267.out, BK234.out, BK240.out, BK249.out, BK255.out, HB.out⟩)
 }
 {
 skip
 refine box_step ?hg (N := 9) ?hd (cs := #[.int .i64 0, .slice none 0 0]) (t := 25) ?hr ?_; (case hd => rfl); (case hg => rfl); (case hr => go_simp <;> rfl)
 intro gb268 hg w53 hbox hb
 have n0_ := mK (rB (by (with_reducible repeat first|apply rA|apply rN|apply rD); exact HO233.out) hb)
 have n1_ := mK (rB (by (with_reducible repeat first|apply rA|apply rN|apply rD); exact HO238.out) hb)
 have n2_ := mK (rB (by (with_reducible repeat first|apply rA|apply rN|apply rD); exact HO253.out) hb)
 have n3_ := mK (rB (by (with_reducible repeat first|apply rA|apply rN|apply rD); exact HO261.out) hb)
 have n4_ := mK (rB (by (with_reducible repeat first|apply rA|apply rN|apply rD); exact HO264.out) hb)
 have n5_ := mK (kB (by (with_reducible repeat first|apply kN|apply kD|apply kA); exact BK234.out) hb)
 have n6_ := mK (kB (by (with_reducible repeat first|apply kN|apply kD|apply kA); exact BK240.out) hb)
 have n7_ := mK (kB (by (with_reducible repeat first|apply kN|apply kD|apply kA); exact BK249.out) hb)
 have n8_ := mK (kB (by (with_reducible repeat first|apply kN|apply kD|apply kA); exact BK255.out) hb)
 have n9_ := mK (bP (by repeat first|(with_reducible first|exact HB.out|apply bA|apply bN|apply bD|refine bS ?_ GE234.out|refine bS ?_ GE240.out|refine bS ?_ GE249.out|refine bS ?_ GE255.out)|exact HB.out) hb)
 have n10_ := mK (hbox)
 have n11_ := mK ((by rw [hg]; exact (bZ (by repeat first|(with_reducible first|exact HB.out|apply bA|apply bN|apply bD|refine bS ?_ GE234.out|refine bS ?_ GE240.out|refine bS ?_ GE249.out|refine bS ?_ GE255.out)|exact HB.out)) : w.heap.size ≤ gb268))
 have n12_ := mK ((by rw [hg]; exact (bZ (by repeat first|(with_reducible first|exact HB.out|apply bA|apply bN|apply bD|refine bS ?_ GE234.out|refine bS ?_ GE240.out|refine bS ?_ GE249.out|refine bS ?_ GE255.out)|exact HB.out)) : w.heap.size ≤ gb268))
 have n13_ := mK ((by rw [hg]; exact Nat.ne_of_lt (blk_lt (by (with_reducible repeat first|apply kN|apply kD|apply kA); exact BK234.out)) : gb234 ≠ gb268))
 have n14_ := mK ((by rw [hg]; exact Nat.ne_of_gt (blk_lt (by (with_reducible repeat first|apply kN|apply kD|apply kA); exact BK234.out)) : gb268 ≠ gb234))
 have n15_ := mK ((by rw [hg]; exact Nat.ne_of_lt (blk_lt (by (with_reducible repeat first|apply kN|apply kD|apply kA); exact BK240.out)) : gb240 ≠ gb268))
 have n16_ := mK ((by rw [hg]; exact Nat.ne_of_gt (blk_lt (by (with_reducible repeat first|apply kN|apply kD|apply kA); exact BK240.out)) : gb268 ≠ gb240))
 have n17_ := mK ((by rw [hg]; exact Nat.ne_of_lt (blk_lt (by (with_reducible repeat first|apply kN|apply kD|apply kA); exact BK249.out)) : gb249 ≠ gb268))
 have n18_ := mK ((by rw [hg]; exact Nat.ne_of_gt (blk_lt (by (with_reducible repeat first|apply kN|apply kD|apply kA); exact BK249.out)) : gb268 ≠ gb249))
 have n19_ := mK ((by rw [hg]; exact Nat.ne_of_lt (blk_lt (by (with_reducible repeat first|apply kN|apply kD|apply kA); exact BK255.out)) : gb255 ≠ gb268))
 have n20_ := mK ((by rw [hg]; exact Nat.ne_of_gt (blk_lt (by (with_reducible repeat first|apply kN|apply kD|apply kA); exact BK255.out)) : gb268 ≠ gb255))
 clear HO233
 clear HO238
 clear HO253
 clear HO261
 clear HO264
 clear BK234
 clear BK240
 clear BK249
 clear BK255
 clear HB
 have HO233 := n0_
 have HO238 := n1_
 have HO253 := n2_
 have HO261 := n3_
 have HO264 := n4_
 have BK234 := n5_
 have BK240 := n6_
 have BK249 := n7_
 have BK255 := n8_
 have HB := n9_
 have BK268 := n10_
 have GW268 := n11_
 have GE268 := n12_
 have NB234_268 := n13_
 have NB268_234 := n14_
 have NB240_268 := n15_
 have NB268_240 := n16_
 have NB249_268 := n17_
 have NB268_249 := n18_
 have NB255_268 := n19_
 have NB268_255 := n20_
 clear n0_ n1_ n2_ n3_ n4_ n5_ n6_ n7_ n8_ n9_ n10_ n11_ n12_ n13_ n14_ n15_ n16_ n17_ n18_ n19_ n20_
 clear hb hbox hg
 refine hK.out _ _ ⟨(kC BK234.out 0).trans rfl, (kC BK234.out 1).trans rfl, (kC BK249.out 0).trans rfl, (kC BK249.out 1).trans rfl, (kC BK249.out 2).trans rfl⟩ (fun hHeld => ?_)
 clear hK K
 refine norm_ (a' := ?_) ?_ ?_
 rotate_left
 {
 show Act.put _ (some 9) _ = _
 simp only [Act.put, sT, sZ, sU, i64_w, i32_w]
 rfl
 }
 exact norm_ (by simp only [putAll, Act.put, sT, sZ, sU] <;> rfl) (hJ2_5_7_10 (v257, v260, .slice Ao54 y262.length co54, gb268) _ ⟨hHeld, HO233.out, HO238.out, HO253.out, HO261.out, HO264.out, BK234.out, BK240.out, BK249.out, BK255.out, BK268.out, GW268.out, GE268.out, NB234_268.out, NB268_234.out, NB240_268.out, NB268_240.out, NB249_268.out, NB268_249.out, NB255_268.out, NB268_255.out, HB.out⟩)
 }
 }
 }
 {
 skip
 rintro ⟨v257, v260, v263, gb268⟩ w53 ⟨hS_, h0_, h1_, h2_, h3_, h4_, h5_, h6_, h7_, h8_, h9_, h10_, h11_, h12_, h13_, h14_, h15_, h16_, h17_, h18_, h19_, h20_⟩
 have n0_ : Aside0 (Kd.R k39 39 w53 w.heap.size (fun k_ => some k_ ≠ (v260 : Value).ownBlock ∧ some k_ ≠ (v263 : Value).ownBlock ∧ k_ ≠ gb249) (.slice Ao18 t231.length co18) t231) := ⟨h0_⟩
 have n1_ : Aside0 (Kd.R (Kd.int .i64) 3 w53 w.heap.size (fun k_ => some k_ ≠ (.slice Ao44 t251.length co44 : Value).ownBlock) (.slice Ao23 t236.length co23) t236) := ⟨h1_⟩
 have n2_ : Aside0 (Kd.R (Kd.int .i64) 3 w53 w.heap.size (fun k_ => some k_ ≠ (.slice Ao23 t236.length co23 : Value).ownBlock) (.slice Ao44 t251.length co44) t251) := ⟨h2_⟩
 have n3_ : Aside0 (Kd.R k39 39 w53 w.heap.size (fun k_ => some k_ ≠ (.slice Ao18 t231.length co18 : Value).ownBlock ∧ some k_ ≠ (v263 : Value).ownBlock ∧ k_ ≠ gb249) v260 y259) := ⟨h3_⟩
 have n4_ : Aside0 (Kd.R k39 39 w53 w.heap.size (fun k_ => some k_ ≠ (.slice Ao18 t231.length co18 : Value).ownBlock ∧ some k_ ≠ (v260 : Value).ownBlock ∧ k_ ≠ gb249) v263 y262) := ⟨h4_⟩
 have n5_ : Aside0 (w53.heap[gb234]? = some (.cells #[.int .i64 t230, .slice Ao18 t231.length co18] 25 (0, 0))) := ⟨h5_⟩
 have n6_ : Aside0 (w53.heap[gb240]? = some (.cells #[.int .i64 t235, .slice Ao23 t236.length co23] 29 (0, 0))) := ⟨h6_⟩
 have n7_ : Aside0 (w53.heap[gb249]? = some (.cells #[.int .i64 (Int.tmod t246 t230), .int .i64 (Int.tmod t247 t230), .int .i64 (wrap64 ((Int.tmod t248 12) - 3))] 39 (0, 0))) := ⟨h7_⟩
 have n8_ : Aside0 (w53.heap[gb255]? = some (.cells #[.int .i64 t250, .slice Ao44 t251.length co44] 29 (0, 0))) := ⟨h8_⟩
 have n9_ : Aside0 (w53.heap[gb268]? = some (.cells #[.int .i64 0, .slice none 0 0] 25 (0, 0))) := ⟨h9_⟩
 have n10_ : Aside0 (w.heap.size ≤ gb268) := ⟨h10_⟩
 have n11_ : Aside0 (w.heap.size ≤ gb268) := ⟨h11_⟩
 have n12_ : Aside0 (gb234 ≠ gb268) := ⟨h12_⟩
 have n13_ : Aside0 (gb268 ≠ gb234) := ⟨h13_⟩
 have n14_ : Aside0 (gb240 ≠ gb268) := ⟨h14_⟩
 have n15_ : Aside0 (gb268 ≠ gb240) := ⟨h15_⟩
 have n16_ : Aside0 (gb249 ≠ gb268) := ⟨h16_⟩
 have n17_ : Aside0 (gb268 ≠ gb249) := ⟨h17_⟩
 have n18_ : Aside0 (gb255 ≠ gb268) := ⟨h18_⟩
 have n19_ : Aside0 (gb268 ≠ gb255) := ⟨h19_⟩
 have n20_ : Aside0 (Below w.heap.size w w53) := ⟨h20_⟩
 clear HO233
 clear HO238
 clear HO253
 clear BK234
 clear BK240
 clear BK249
 clear BK255
 clear HB
 clear h0_ h1_ h2_ h3_ h4_ h5_ h6_ h7_ h8_ h9_ h10_ h11_ h12_ h13_ h14_ h15_ h16_ h17_ h18_ h19_ h20_
 have HO233 := n0_
 have HO238 := n1_
 have HO253 := n2_
 have HO261 := n3_
 have HO264 := n4_
 have BK234 := n5_
 have BK240 := n6_
 have BK249 := n7_
 have BK255 := n8_
 have BK268 := n9_
 have GW268 := n10_
 have GE268 := n11_
 have NB234_268 := n12_
 have NB268_234 := n13_
 have NB240_268 := n14_
 have NB268_240 := n15_
 have NB249_268 := n16_
 have NB268_249 := n17_
 have NB255_268 := n18_
 have NB268_255 := n19_
 have HB := n20_
 clear n0_ n1_ n2_ n3_ n4_ n5_ n6_ n7_ n8_ n9_ n10_ n11_ n12_ n13_ n14_ n15_ n16_ n17_ n18_ n19_ n20_
 have hHeld : w53.cell? ⟨gb234, 0, none⟩ = some (.int .i64 t230) ∧ w53.cell? ⟨gb234, 1, none⟩ = some (.slice Ao18 t231.length co18) ∧ w53.cell? ⟨gb249, 0, none⟩ = some (.int .i64 (Int.tmod t246 t230)) ∧ w53.cell? ⟨gb249, 1, none⟩ = some (.int .i64 (Int.tmod t247 t230)) ∧ w53.cell? ⟨gb249, 2, none⟩ = some (.int .i64 (wrap64 ((Int.tmod t248 12) - 3))) := hS_
 obtain ⟨Ao55, co55, eo55⟩ := Kd.R_slice HO264.out
 (first | subst eo55 | (injection eo55 with f1_ f2_ f3_; have f4_ := f1_.symm; have f5_ := f3_.symm; clear f1_ f2_ f3_; subst f4_; subst f5_))
 refine norm_ (a' := ?_) ?_ ?_
 rotate_left
 {
 simp only [putAll, Act.put, sT, sZ, sU]
 rfl
 }
 refine one_ (i := 8) (N := some 67) #[true,true,true,true,true,true,true,true,true,false,true,false] rfl rfl (one_of HT_.out (by kernel_rfl)) (by decide) (fun K hK => ?_)
 refine Kd.R_append_rows_step k39 (w0 := w) w.heap.size (by rfl) (.tmp 64) (.tmp 66) 23 39 (.agg #[(.int .i64 0), (.int .i64 0), (.int .i64 0)]) 24 rfl Try.underlying23 info39 rfl (by decide) (by omega) v260 y259 y262 _ _ _ (fun k_ => some k_ ≠ (.slice Ao18 t231.length co18 : Value).ownBlock ∧ some k_ ≠ (.slice Ao55 y262.length co55 : Value).ownBlock ∧ k_ ≠ gb249) (fun _ => False) rfl rfl ?aO ?aR (fun _ _ h => h) (fun _ h => h.elim) ?aF ?aB ?aS ?aL ?_
 (case aR => repeat (first | exact (Kd.R_reads' HO264.out).2.2 | (with_reducible refine Kd.C_alloc ?_ _) | (with_reducible refine Kd.C_drewN ?_ _) | (with_reducible refine Kd.C_drew ?_)))
 (case aB => exact (by repeat first|(with_reducible first|exact HB.out|apply bA|apply bN|apply bD|refine bS ?_ GE234.out|refine bS ?_ GE240.out|refine bS ?_ GE249.out|refine bS ?_ GE255.out|refine bS ?_ GE268.out)|exact HB.out))
 (case aF => exact (fun k_ hk => ⟨Kd.fresh' (Kd.R_lt (by (with_reducible repeat first|apply rA|apply rN|apply rD); exact HO233.out)) k_ hk, Kd.fresh' (Kd.R_lt (by (with_reducible repeat first|apply rA|apply rN|apply rD); exact HO264.out)) k_ hk, Kd.freshB (by (with_reducible repeat first|apply kN|apply kD|apply kA); exact BK249.out) k_ hk⟩))
 (case aO => exact (by (with_reducible repeat first|apply rA|apply rN|apply rD); exact HO261.out))
 (case aS => exact (bZ (by repeat first|(with_reducible first|exact HB.out|apply bA|apply bN|apply bD|refine bS ?_ GE234.out|refine bS ?_ GE240.out|refine bS ?_ GE249.out|refine bS ?_ GE255.out|refine bS ?_ GE268.out)|exact HB.out)))
 (case aL => have := LMc12.out; omega)
 intro v266 w54 ho hb hg hat
 rw [← Ny265.out] at ho
 have n0_ := mK (Kd.R_after (ok := (fun k_ => some k_ ≠ (.slice Ao55 y262.length co55 : Value).ownBlock ∧ k_ ≠ gb249)) (by (with_reducible repeat first|apply rA|apply rN|apply rD); exact rM HO233.out (fun _ hk => ⟨⟨hk.2.1, hk.2.2⟩, hk.1⟩)) hg hat)
 have n1_ := mK (blk_grown (by (with_reducible repeat first|apply kN|apply kD|apply kA); exact BK234.out) hg (Kd.R_ne HO261.out BK234.out (by decide)))
 have n2_ := mK (Kd.R_over' (by (with_reducible repeat first|apply rA|apply rN|apply rD); exact HO238.out) (Kd.R_typed (by (with_reducible repeat first|apply rA|apply rN|apply rD); exact HO261.out)) (by decide) hg)
 have n3_ := mK (blk_grown (by (with_reducible repeat first|apply kN|apply kD|apply kA); exact BK240.out) hg (Kd.R_ne HO261.out BK240.out (by decide)))
 have n4_ := mK (blk_grown (by (with_reducible repeat first|apply kN|apply kD|apply kA); exact BK249.out) hg (Kd.R_away HO261.out (fun _ hk => hk.2.2)))
 have n5_ := mK (Kd.R_over' (by (with_reducible repeat first|apply rA|apply rN|apply rD); exact HO253.out) (Kd.R_typed (by (with_reducible repeat first|apply rA|apply rN|apply rD); exact HO261.out)) (by decide) hg)
 have n6_ := mK (blk_grown (by (with_reducible repeat first|apply kN|apply kD|apply kA); exact BK255.out) hg (Kd.R_ne HO261.out BK255.out (by decide)))
 have n7_ := mK (Kd.R_after (ok := (fun k_ => some k_ ≠ (.slice Ao18 t231.length co18 : Value).ownBlock ∧ k_ ≠ gb249)) (by (with_reducible repeat first|apply rA|apply rN|apply rD); exact rM HO264.out (fun _ hk => ⟨⟨hk.1, hk.2.2⟩, hk.2.1⟩)) hg hat)
 have n8_ := mK (blk_grown (by (with_reducible repeat first|apply kN|apply kD|apply kA); exact BK268.out) hg (Kd.R_ne HO261.out BK268.out (by decide)))
 have n9_ := mK (hb)
 have n10_ := mK (ho)
 clear HO233
 clear BK234
 clear HO238
 clear BK240
 clear BK249
 clear HO253
 clear BK255
 clear HO264
 clear BK268
 clear HB
 clear HO261
 have HO233 := n0_
 have BK234 := n1_
 have HO238 := n2_
 have BK240 := n3_
 have BK249 := n4_
 have HO253 := n5_
 have BK255 := n6_
 have HO264 := n7_
 have BK268 := n8_
 have HB := n9_
 have HO267 := n10_
 clear n0_ n1_ n2_ n3_ n4_ n5_ n6_ n7_ n8_ n9_ n10_
 clear ho hb hg hat
 obtain ⟨Ao56, co56, eo56⟩ := Kd.R_slice HO267.out
 (first | subst eo56 | (injection eo56 with f1_ f2_ f3_; have f4_ := f1_.symm; have f5_ := f3_.symm; clear f1_ f2_ f3_; subst f4_; subst f5_))
 refine hK.out _ _ ⟨(kC BK234.out 0).trans rfl, (kC BK234.out 1).trans rfl, (kC BK249.out 0).trans rfl, (kC BK249.out 1).trans rfl, (kC BK249.out 2).trans rfl⟩ (fun hHeld => ?_)
 clear hK K
 refine norm_ (a' := ?_) ?_ ?_
 rotate_left
 {
 show Act.put _ (some 67) _ = _
 simp only [Act.put, sT, sZ, sU, i64_w, i32_w]
 rfl
 }
 refine pure_ (i := 9) (N := some 68) (v := ?_) (a' := ?_) #[true,true,true,true,true,true,true,true,true,true,true,false] rfl rfl (any_of HT_.out (by kernel_rfl)) (fun _ _ _ h => h) (Or.inl ⟨by rfl, ?_⟩) ?_ ?_
 rotate_left
 {
 intro w'
 go_simp
 with_reducible rfl
 }
 rotate_left
 {
 simp only [Act.put, sT, sZ, sU, i64_w, i32_w]
 rfl
 }
 exact norm_ (by simp only [putAll, Act.put, sT, sZ, sU] <;> rfl) (hJ2_5_7_8_10 (v257, v260, .slice Ao55 y262.length co55, .slice Ao56 y265.length co56, gb268) _ ⟨hHeld, (rM HO233.out (fun _ hk => ⟨hk.1.1, ⟨hk.2, hk.1.2⟩⟩)), HO238.out, HO253.out, (rM HO264.out (fun _ hk => ⟨hk.1.1, ⟨hk.2, hk.1.2⟩⟩)), HO267.out, BK234.out, BK240.out, BK249.out, BK255.out, BK268.out, GW268.out, GE268.out, NB234_268.out, NB268_234.out, NB240_268.out, NB268_240.out, NB249_268.out, NB268_249.out, NB255_268.out, NB268_255.out, HB.out⟩)
 }
 }
 {
 skip
 rintro ⟨v257, v260, v263, v266⟩ w55 ⟨hS_, h0_, h1_, h2_, h3_, h4_, h5_, h6_, h7_, h8_, h9_⟩
 have n0_ : Aside0 (Kd.R k39 39 w55 w.heap.size (fun k_ => some k_ ≠ (v263 : Value).ownBlock ∧ some k_ ≠ (v266 : Value).ownBlock ∧ k_ ≠ gb249) (.slice Ao18 t231.length co18) t231) := ⟨h0_⟩
 have n1_ : Aside0 (Kd.R (Kd.int .i64) 3 w55 w.heap.size (fun k_ => some k_ ≠ (.slice Ao44 t251.length co44 : Value).ownBlock) (.slice Ao23 t236.length co23) t236) := ⟨h1_⟩
 have n2_ : Aside0 (Kd.R (Kd.int .i64) 3 w55 w.heap.size (fun k_ => some k_ ≠ (.slice Ao23 t236.length co23 : Value).ownBlock) (.slice Ao44 t251.length co44) t251) := ⟨h2_⟩
 have n3_ : Aside0 (Kd.R k39 39 w55 w.heap.size (fun k_ => some k_ ≠ (.slice Ao18 t231.length co18 : Value).ownBlock ∧ some k_ ≠ (v266 : Value).ownBlock ∧ k_ ≠ gb249) v263 y262) := ⟨h3_⟩
 have n4_ : Aside0 (Kd.R k39 39 w55 w.heap.size (fun k_ => some k_ ≠ (.slice Ao18 t231.length co18 : Value).ownBlock ∧ some k_ ≠ (v263 : Value).ownBlock ∧ k_ ≠ gb249) v266 y265) := ⟨h4_⟩
 have n5_ : Aside0 (w55.heap[gb234]? = some (.cells #[.int .i64 t230, .slice Ao18 t231.length co18] 25 (0, 0))) := ⟨h5_⟩
 have n6_ : Aside0 (w55.heap[gb240]? = some (.cells #[.int .i64 t235, .slice Ao23 t236.length co23] 29 (0, 0))) := ⟨h6_⟩
 have n7_ : Aside0 (w55.heap[gb249]? = some (.cells #[.int .i64 (Int.tmod t246 t230), .int .i64 (Int.tmod t247 t230), .int .i64 (wrap64 ((Int.tmod t248 12) - 3))] 39 (0, 0))) := ⟨h7_⟩
 have n8_ : Aside0 (w55.heap[gb255]? = some (.cells #[.int .i64 t250, .slice Ao44 t251.length co44] 29 (0, 0))) := ⟨h8_⟩
 have n9_ : Aside0 (Below w.heap.size w w55) := ⟨h9_⟩
 clear HO233
 clear HO238
 clear HO253
 clear BK234
 clear BK240
 clear BK249
 clear BK255
 clear HB
 clear h0_ h1_ h2_ h3_ h4_ h5_ h6_ h7_ h8_ h9_
 have HO233 := n0_
 have HO238 := n1_
 have HO253 := n2_
 have HO264 := n3_
 have HO267 := n4_
 have BK234 := n5_
 have BK240 := n6_
 have BK249 := n7_
 have BK255 := n8_
 have HB := n9_
 clear n0_ n1_ n2_ n3_ n4_ n5_ n6_ n7_ n8_ n9_
 have hHeld : w55.cell? ⟨gb234, 0, none⟩ = some (.int .i64 t230) ∧ w55.cell? ⟨gb234, 1, none⟩ = some (.slice Ao18 t231.length co18) ∧ w55.cell? ⟨gb249, 0, none⟩ = some (.int .i64 (Int.tmod t246 t230)) ∧ w55.cell? ⟨gb249, 1, none⟩ = some (.int .i64 (Int.tmod t247 t230)) ∧ w55.cell? ⟨gb249, 2, none⟩ = some (.int .i64 (wrap64 ((Int.tmod t248 12) - 3))) := hS_
 obtain ⟨Ao56, co56, eo56⟩ := Kd.R_slice HO267.out
 (first | subst eo56 | (injection eo56 with f1_ f2_ f3_; have f4_ := f1_.symm; have f5_ := f3_.symm; clear f1_ f2_ f3_; subst f4_; subst f5_))
 refine norm_ (a' := ?_) ?_ ?_
 rotate_left
 {
 simp only [putAll, Act.put, sT, sZ, sU]
 rfl
 }
 refine one_ (i := 10) (N := some 9) #[true,true,true,true,true,true,true,true,true,true,true,false] rfl rfl (one_of HT_.out (by kernel_rfl)) (by decide) (fun K hK => ?_)
 refine box_step ?hg (N := 9) ?hd (cs := #[.int .i64 0, .slice none 0 0]) (t := 25) ?hr ?_; (case hd => rfl); (case hg => rfl); (case hr => go_simp <;> rfl)
 intro gb268 hg w57 hbox hb
 have n0_ := mK (rB (by (with_reducible repeat first|apply rA|apply rN|apply rD); exact HO233.out) hb)
 have n1_ := mK (rB (by (with_reducible repeat first|apply rA|apply rN|apply rD); exact HO238.out) hb)
 have n2_ := mK (rB (by (with_reducible repeat first|apply rA|apply rN|apply rD); exact HO253.out) hb)
 have n3_ := mK (rB (by (with_reducible repeat first|apply rA|apply rN|apply rD); exact HO264.out) hb)
 have n4_ := mK (rB (by (with_reducible repeat first|apply rA|apply rN|apply rD); exact HO267.out) hb)
 have n5_ := mK (kB (by (with_reducible repeat first|apply kN|apply kD|apply kA); exact BK234.out) hb)
 have n6_ := mK (kB (by (with_reducible repeat first|apply kN|apply kD|apply kA); exact BK240.out) hb)
 have n7_ := mK (kB (by (with_reducible repeat first|apply kN|apply kD|apply kA); exact BK249.out) hb)
 have n8_ := mK (kB (by (with_reducible repeat first|apply kN|apply kD|apply kA); exact BK255.out) hb)
 have n9_ := mK (bP (by repeat first|(with_reducible first|exact HB.out|apply bA|apply bN|apply bD|refine bS ?_ GE234.out|refine bS ?_ GE240.out|refine bS ?_ GE249.out|refine bS ?_ GE255.out)|exact HB.out) hb)
 have n10_ := mK (hbox)
 have n11_ := mK ((by rw [hg]; exact (bZ (by repeat first|(with_reducible first|exact HB.out|apply bA|apply bN|apply bD|refine bS ?_ GE234.out|refine bS ?_ GE240.out|refine bS ?_ GE249.out|refine bS ?_ GE255.out)|exact HB.out)) : w.heap.size ≤ gb268))
 have n12_ := mK ((by rw [hg]; exact (bZ (by repeat first|(with_reducible first|exact HB.out|apply bA|apply bN|apply bD|refine bS ?_ GE234.out|refine bS ?_ GE240.out|refine bS ?_ GE249.out|refine bS ?_ GE255.out)|exact HB.out)) : w.heap.size ≤ gb268))
 have n13_ := mK ((by rw [hg]; exact Nat.ne_of_lt (blk_lt (by (with_reducible repeat first|apply kN|apply kD|apply kA); exact BK234.out)) : gb234 ≠ gb268))
 have n14_ := mK ((by rw [hg]; exact Nat.ne_of_gt (blk_lt (by (with_reducible repeat first|apply kN|apply kD|apply kA); exact BK234.out)) : gb268 ≠ gb234))
 have n15_ := mK ((by rw [hg]; exact Nat.ne_of_lt (blk_lt (by (with_reducible repeat first|apply kN|apply kD|apply kA); exact BK240.out)) : gb240 ≠ gb268))
 have n16_ := mK ((by rw [hg]; exact Nat.ne_of_gt (blk_lt (by (with_reducible repeat first|apply kN|apply kD|apply kA); exact BK240.out)) : gb268 ≠ gb240))
 have n17_ := mK ((by rw [hg]; exact Nat.ne_of_lt (blk_lt (by (with_reducible repeat first|apply kN|apply kD|apply kA); exact BK249.out)) : gb249 ≠ gb268))
 have n18_ := mK ((by rw [hg]; exact Nat.ne_of_gt (blk_lt (by (with_reducible repeat first|apply kN|apply kD|apply kA); exact BK249.out)) : gb268 ≠ gb249))
 have n19_ := mK ((by rw [hg]; exact Nat.ne_of_lt (blk_lt (by (with_reducible repeat first|apply kN|apply kD|apply kA); exact BK255.out)) : gb255 ≠ gb268))
 have n20_ := mK ((by rw [hg]; exact Nat.ne_of_gt (blk_lt (by (with_reducible repeat first|apply kN|apply kD|apply kA); exact BK255.out)) : gb268 ≠ gb255))
 clear HO233
 clear HO238
 clear HO253
 clear HO264
 clear HO267
 clear BK234
 clear BK240
 clear BK249
 clear BK255
 clear HB
 have HO233 := n0_
 have HO238 := n1_
 have HO253 := n2_
 have HO264 := n3_
 have HO267 := n4_
 have BK234 := n5_
 have BK240 := n6_
 have BK249 := n7_
 have BK255 := n8_
 have HB := n9_
 have BK268 := n10_
 have GW268 := n11_
 have GE268 := n12_
 have NB234_268 := n13_
 have NB268_234 := n14_
 have NB240_268 := n15_
 have NB268_240 := n16_
 have NB249_268 := n17_
 have NB268_249 := n18_
 have NB255_268 := n19_
 have NB268_255 := n20_
 clear n0_ n1_ n2_ n3_ n4_ n5_ n6_ n7_ n8_ n9_ n10_ n11_ n12_ n13_ n14_ n15_ n16_ n17_ n18_ n19_ n20_
 clear hb hbox hg
 refine hK.out _ _ ⟨(kC BK234.out 0).trans rfl, (kC BK234.out 1).trans rfl, (kC BK249.out 0).trans rfl, (kC BK249.out 1).trans rfl, (kC BK249.out 2).trans rfl⟩ (fun hHeld => ?_)
 clear hK K
 refine norm_ (a' := ?_) ?_ ?_
 rotate_left
 {
 show Act.put _ (some 9) _ = _
 simp only [Act.put, sT, sZ, sU, i64_w, i32_w]
 rfl
 }
 exact norm_ (by simp only [putAll, Act.put, sT, sZ, sU] <;> rfl) (hJ2_5_7_8_10 (v257, v260, v263, .slice Ao56 y265.length co56, gb268) _ ⟨hHeld, HO233.out, HO238.out, HO253.out, HO264.out, HO267.out, BK234.out, BK240.out, BK249.out, BK255.out, BK268.out, GW268.out, GE268.out, NB234_268.out, NB268_234.out, NB240_268.out, NB268_240.out, NB249_268.out, NB268_249.out, NB255_268.out, NB268_255.out, HB.out⟩)
 }
 }
 rintro ⟨v257, v260, v263, v266, gb268⟩ w56 ⟨hS_, h0_, h1_, h2_, h3_, h4_, h5_, h6_, h7_, h8_, h9_, h10_, h11_, h12_, h13_, h14_, h15_, h16_, h17_, h18_, h19_, h20_⟩
 have n0_ : Aside0 (Kd.R k39 39 w56 w.heap.size (fun k_ => some k_ ≠ (v263 : Value).ownBlock ∧ some k_ ≠ (v266 : Value).ownBlock ∧ k_ ≠ gb249) (.slice Ao18 t231.length co18) t231) := ⟨h0_⟩
 have n1_ : Aside0 (Kd.R (Kd.int .i64) 3 w56 w.heap.size (fun k_ => some k_ ≠ (.slice Ao44 t251.length co44 : Value).ownBlock) (.slice Ao23 t236.length co23) t236) := ⟨h1_⟩
 have n2_ : Aside0 (Kd.R (Kd.int .i64) 3 w56 w.heap.size (fun k_ => some k_ ≠ (.slice Ao23 t236.length co23 : Value).ownBlock) (.slice Ao44 t251.length co44) t251) := ⟨h2_⟩
 have n3_ : Aside0 (Kd.R k39 39 w56 w.heap.size (fun k_ => some k_ ≠ (.slice Ao18 t231.length co18 : Value).ownBlock ∧ some k_ ≠ (v266 : Value).ownBlock ∧ k_ ≠ gb249) v263 y262) := ⟨h3_⟩
 have n4_ : Aside0 (Kd.R k39 39 w56 w.heap.size (fun k_ => some k_ ≠ (.slice Ao18 t231.length co18 : Value).ownBlock ∧ some k_ ≠ (v263 : Value).ownBlock ∧ k_ ≠ gb249) v266 y265) := ⟨h4_⟩
 have n5_ : Aside0 (w56.heap[gb234]? = some (.cells #[.int .i64 t230, .slice Ao18 t231.length co18] 25 (0, 0))) := ⟨h5_⟩
 have n6_ : Aside0 (w56.heap[gb240]? = some (.cells #[.int .i64 t235, .slice Ao23 t236.length co23] 29 (0, 0))) := ⟨h6_⟩
 have n7_ : Aside0 (w56.heap[gb249]? = some (.cells #[.int .i64 (Int.tmod t246 t230), .int .i64 (Int.tmod t247 t230), .int .i64 (wrap64 ((Int.tmod t248 12) - 3))] 39 (0, 0))) := ⟨h7_⟩
 have n8_ : Aside0 (w56.heap[gb255]? = some (.cells #[.int .i64 t250, .slice Ao44 t251.length co44] 29 (0, 0))) := ⟨h8_⟩
 have n9_ : Aside0 (w56.heap[gb268]? = some (.cells #[.int .i64 0, .slice none 0 0] 25 (0, 0))) := ⟨h9_⟩
 have n10_ : Aside0 (w.heap.size ≤ gb268) := ⟨h10_⟩
 have n11_ : Aside0 (w.heap.size ≤ gb268) := ⟨h11_⟩
 have n12_ : Aside0 (gb234 ≠ gb268) := ⟨h12_⟩
 have n13_ : Aside0 (gb268 ≠ gb234) := ⟨h13_⟩
 have n14_ : Aside0 (gb240 ≠ gb268) := ⟨h14_⟩
 have n15_ : Aside0 (gb268 ≠ gb240) := ⟨h15_⟩
 have n16_ : Aside0 (gb249 ≠ gb268) := ⟨h16_⟩
 have n17_ : Aside0 (gb268 ≠ gb249) := ⟨h17_⟩
 have n18_ : Aside0 (gb255 ≠ gb268) := ⟨h18_⟩
 have n19_ : Aside0 (gb268 ≠ gb255) := ⟨h19_⟩
 have n20_ : Aside0 (Below w.heap.size w w56) := ⟨h20_⟩
 clear HO233
 clear HO238
 clear HO253
 clear BK234
 clear BK240
 clear BK249
 clear BK255
 clear HB
 clear h0_ h1_ h2_ h3_ h4_ h5_ h6_ h7_ h8_ h9_ h10_ h11_ h12_ h13_ h14_ h15_ h16_ h17_ h18_ h19_ h20_
 have HO233 := n0_
 have HO238 := n1_
 have HO253 := n2_
 have HO264 := n3_
 have HO267 := n4_
 have BK234 := n5_
 have BK240 := n6_
 have BK249 := n7_
 have BK255 := n8_
 have BK268 := n9_
 have GW268 := n10_
 have GE268 := n11_
 have NB234_268 := n12_
 have NB268_234 := n13_
 have NB240_268 := n14_
 have NB268_240 := n15_
 have NB249_268 := n16_
 have NB268_249 := n17_
 have NB255_268 := n18_
 have NB268_255 := n19_
 have HB := n20_
 clear n0_ n1_ n2_ n3_ n4_ n5_ n6_ n7_ n8_ n9_ n10_ n11_ n12_ n13_ n14_ n15_ n16_ n17_ n18_ n19_ n20_
 have hHeld : w56.cell? ⟨gb234, 0, none⟩ = some (.int .i64 t230) ∧ w56.cell? ⟨gb234, 1, none⟩ = some (.slice Ao18 t231.length co18) ∧ w56.cell? ⟨gb249, 0, none⟩ = some (.int .i64 (Int.tmod t246 t230)) ∧ w56.cell? ⟨gb249, 1, none⟩ = some (.int .i64 (Int.tmod t247 t230)) ∧ w56.cell? ⟨gb249, 2, none⟩ = some (.int .i64 (wrap64 ((Int.tmod t248 12) - 3))) := hS_
 obtain ⟨Ao57, co57, eo57⟩ := Kd.R_slice HO267.out
 (first | subst eo57 | (injection eo57 with f1_ f2_ f3_; have f4_ := f1_.symm; have f5_ := f3_.symm; clear f1_ f2_ f3_; subst f4_; subst f5_))
 refine norm_ (a' := ?_) ?_ ?_
 rotate_left
 {
 simp only [putAll, Act.put, sT, sZ, sU]
 rfl
 }
 refine one_ (i := 11) (N := none) #[true,true,true,true,true,true,true,true,true,true,true,true] rfl rfl (one_of HT_.out (by kernel_rfl)) (by decide) (fun K hK => ?_)
 have hs58 : w56.cell? ⟨gb268, 0, none⟩ = some (.int .i64 0) := (kC BK268.out 0).trans rfl
 have hfs58 := blk_frozen BK268.out 0
 have hns58_0 := NB234_268.out
 have hns58_1 := NB240_268.out
 have hns58_2 := NB249_268.out
 have hns58_3 := NB255_268.out
 have hms58_0 := NB268_234.out
 have hms58_1 := NB268_240.out
 have hms58_2 := NB268_249.out
 have hms58_3 := NB268_255.out
 have hs59 : w56.cell? ⟨gb268, 1, none⟩ = some (.slice none 0 0) := (kC BK268.out 1).trans rfl
 have hfs59 := blk_frozen BK268.out 1
 have hns59_0 := NB234_268.out
 have hns59_1 := NB240_268.out
 have hns59_2 := NB249_268.out
 have hns59_3 := NB255_268.out
 have hms59_0 := NB268_234.out
 have hms59_1 := NB268_240.out
 have hms59_2 := NB268_249.out
 have hms59_3 := NB268_255.out
 refine skip_ (w1 := ?_) (by rfl) rfl ?_ ?_
 rotate_left
 {
 go_simp
 rfl
 }
 refine hK.out _ _ ⟨((cell_far (p := ⟨gb268, _, none⟩) NB234_268.out _).trans (((cell_far (p := ⟨gb268, _, none⟩) NB234_268.out _).trans (hHeld.1)))), ((cell_far (p := ⟨gb268, _, none⟩) NB234_268.out _).trans (((cell_far (p := ⟨gb268, _, none⟩) NB234_268.out _).trans (hHeld.2.1)))), ((cell_far (p := ⟨gb268, _, none⟩) NB249_268.out _).trans (((cell_far (p := ⟨gb268, _, none⟩) NB249_268.out _).trans (hHeld.2.2.1)))), ((cell_far (p := ⟨gb268, _, none⟩) NB249_268.out _).trans (((cell_far (p := ⟨gb268, _, none⟩) NB249_268.out _).trans (hHeld.2.2.2.1)))), ((cell_far (p := ⟨gb268, _, none⟩) NB249_268.out _).trans (((cell_far (p := ⟨gb268, _, none⟩) NB249_268.out _).trans (hHeld.2.2.2.2))))⟩ (fun hHeld => ?_)
 clear hK K
 refine done_ (done_of HT_.out (by kernel_rfl)) ?_
 have hnb60 := NB268_234.out
 have hnc60 := NB234_268.out
 have hnb61 := NB268_240.out
 have hnc61 := NB240_268.out
 have hnb62 := NB268_249.out
 have hnc62 := NB249_268.out
 have hnb63 := NB268_255.out
 have hnc63 := NB255_268.out
 have hcz64_0 : w56.cell? ⟨gb268, 0, none⟩ = some (.int .i64 0) := (kC BK268.out 0).trans rfl
 have hcz64_1 : w56.cell? ⟨gb268, 1, none⟩ = some (.slice none 0 0) := (kC BK268.out 1).trans rfl
 have hfz64_0 := blk_frozen BK268.out 0
 have hfz64_1 := blk_frozen BK268.out 1
 go_upto_region 11 with (first | ((with_reducible refine gate_callee (f := 16) rfl ?_); refine goesL_ (some 71) rfl rfl Try.func16 (by kernel_rfl) rfl #[.agg #[.int .i64 t230, .slice Ao57 y265.length co57]] rfl (by (try simp only [List.map_toArray, List.map_cons, List.map_nil]); first | done | rfl | (simp only [List.length_drop, List.length_take]; rfl)) ?_; (with_reducible refine (impl_CloseGraph.calls k t230 _ _ y265 t269 t270 t273 _ ?side1 ?side2 A13.out).mono ?_); (case side1 => refine (Kd.R_reads' (e := 39) (base := w.heap.size) (ok := fun k_ => (some k_ ≠ (.slice Ao18 t231.length co18 : Value).ownBlock ∧ (some k_ ≠ (v263 : Value).ownBlock ∧ k_ ≠ gb249))) (n := y265.length) (c := co57) ?_).2.2; exact (by (with_reducible repeat first|apply rA|apply rN|apply rD); exact (rM (Kd.R_far (p := ⟨gb268, 1, none⟩) (Kd.R_far (p := ⟨gb268, 0, none⟩) (Kd.R_types HO267.out BK268.out (by decide)) (fun _ hk => hk.2) (.int .i64 t230)) (fun _ hk => hk.2) (.slice Ao57 y265.length co57)) (fun _ h_ => h_.1)))); (case side2 => exact (Kd.R_reads' HO267.out).2.1); rintro e w65 ⟨v271, rfl, ho0, hb⟩; refine ⟨_, rfl, ?_⟩; have n0_ := mK (rB (by (with_reducible repeat first|apply rA|apply rN|apply rD); exact (rM (Kd.R_far (p := ⟨gb268, 1, none⟩) (Kd.R_far (p := ⟨gb268, 0, none⟩) (Kd.R_types HO233.out BK268.out (by decide)) (fun _ hk => hk.2) (.int .i64 t230)) (fun _ hk => hk.2) (.slice Ao57 y265.length co57)) (fun _ h_ => h_.1))) hb); have n1_ := mK (Kd.R_elder' (by (with_reducible repeat first|apply rA|apply rN|apply rD); exact (rM (Kd.R_far (p := ⟨gb268, 1, none⟩) (Kd.R_far (p := ⟨gb268, 0, none⟩) (Kd.R_types HO238.out BK268.out (by decide)) (fun _ hk => hk.2) (.int .i64 t230)) (fun _ hk => hk.2) (.slice Ao57 y265.length co57)) (fun _ h_ => h_.1))) (Kd.R_base ho0) hb); have n2_ := mK (Kd.R_elder' (by (with_reducible repeat first|apply rA|apply rN|apply rD); exact (rM (Kd.R_far (p := ⟨gb268, 1, none⟩) (Kd.R_far (p := ⟨gb268, 0, none⟩) (Kd.R_types HO253.out BK268.out (by decide)) (fun _ hk => hk.2) (.int .i64 t230)) (fun _ hk => hk.2) (.slice Ao57 y265.length co57)) (fun _ h_ => h_.1))) (Kd.R_base ho0) hb); have n3_ := mK (rB (by (with_reducible repeat first|apply rA|apply rN|apply rD); exact (rM (Kd.R_far (p := ⟨gb268, 1, none⟩) (Kd.R_far (p := ⟨gb268, 0, none⟩) (Kd.R_types HO264.out BK268.out (by decide)) (fun _ hk => hk.2) (.int .i64 t230)) (fun _ hk => hk.2) (.slice Ao57 y265.length co57)) (fun _ h_ => h_.1))) hb); have n4_ := mK (rB (by (with_reducible repeat first|apply rA|apply rN|apply rD); exact (rM (Kd.R_far (p := ⟨gb268, 1, none⟩) (Kd.R_far (p := ⟨gb268, 0, none⟩) (Kd.R_types HO267.out BK268.out (by decide)) (fun _ hk => hk.2) (.int .i64 t230)) (fun _ hk => hk.2) (.slice Ao57 y265.length co57)) (fun _ h_ => h_.1))) hb); have n5_ := mK (Kd.R_lower (Kd.R_new' (Kd.R_new' ho0 (Kd.R_lt (by (with_reducible repeat first|apply rA|apply rN|apply rD); exact (rM (Kd.R_far (p := ⟨gb268, 1, none⟩) (Kd.R_far (p := ⟨gb268, 0, none⟩) (Kd.R_types HO238.out BK268.out (by decide)) (fun _ hk => hk.2) (.int .i64 t230)) (fun _ hk => hk.2) (.slice Ao57 y265.length co57)) (fun _ h_ => h_.1))))) (Kd.R_lt (by (with_reducible repeat first|apply rA|apply rN|apply rD); exact (rM (Kd.R_far (p := ⟨gb268, 1, none⟩) (Kd.R_far (p := ⟨gb268, 0, none⟩) (Kd.R_types HO253.out BK268.out (by decide)) (fun _ hk => hk.2) (.int .i64 t230)) (fun _ hk => hk.2) (.slice Ao57 y265.length co57)) (fun _ h_ => h_.1))))) (bZ (by repeat first|(with_reducible first|exact HB.out|apply bA|apply bN|apply bD|refine bS ?_ GE234.out|refine bS ?_ GE240.out|refine bS ?_ GE249.out|refine bS ?_ GE255.out|refine bS ?_ GE268.out)|exact HB.out))); have n6_ := mK (kB (g := gb234) (o := .cells #[.int .i64 t230, .slice Ao18 t231.length co18] 25 (0, 0)) (by (with_reducible repeat first|apply kN|apply kD|apply kA); refine blk_far ?_ NB234_268.out _; (with_reducible repeat first|apply kN|apply kD|apply kA); refine blk_far ?_ NB234_268.out _; (with_reducible repeat first|apply kN|apply kD|apply kA); exact BK234.out) hb); have n7_ := mK (kB (g := gb240) (o := .cells #[.int .i64 t235, .slice Ao23 t236.length co23] 29 (0, 0)) (by (with_reducible repeat first|apply kN|apply kD|apply kA); refine blk_far ?_ NB240_268.out _; (with_reducible repeat first|apply kN|apply kD|apply kA); refine blk_far ?_ NB240_268.out _; (with_reducible repeat first|apply kN|apply kD|apply kA); exact BK240.out) hb); have n8_ := mK (kB (g := gb249) (o := .cells #[.int .i64 (Int.tmod t246 t230), .int .i64 (Int.tmod t247 t230), .int .i64 (wrap64 ((Int.tmod t248 12) - 3))] 39 (0, 0)) (by (with_reducible repeat first|apply kN|apply kD|apply kA); refine blk_far ?_ NB249_268.out _; (with_reducible repeat first|apply kN|apply kD|apply kA); refine blk_far ?_ NB249_268.out _; (with_reducible repeat first|apply kN|apply kD|apply kA); exact BK249.out) hb); have n9_ := mK (kB (g := gb255) (o := .cells #[.int .i64 t250, .slice Ao44 t251.length co44] 29 (0, 0)) (by (with_reducible repeat first|apply kN|apply kD|apply kA); refine blk_far ?_ NB255_268.out _; (with_reducible repeat first|apply kN|apply kD|apply kA); refine blk_far ?_ NB255_268.out _; (with_reducible repeat first|apply kN|apply kD|apply kA); exact BK255.out) hb); have n10_ := mK (kB (g := gb268) (o := .cells #[.int .i64 t230, .slice Ao57 y265.length co57] 25 (0, 0)) (by (with_reducible repeat first|apply kN|apply kD|apply kA); refine blk_put (cs := #[.int .i64 t230, .slice none 0 0]) ?_ 1 _ rfl; (with_reducible repeat first|apply kN|apply kD|apply kA); refine blk_put (cs := #[.int .i64 0, .slice none 0 0]) ?_ 0 _ rfl; (with_reducible repeat first|apply kN|apply kD|apply kA); exact BK268.out) hb); have n11_ := mK (bP (by repeat first|(with_reducible first|exact HB.out|apply bA|apply bN|apply bD|refine bS ?_ GE234.out|refine bS ?_ GE240.out|refine bS ?_ GE249.out|refine bS ?_ GE255.out|refine bS ?_ GE268.out)|exact HB.out) hb); clear HO233; clear HO238; clear HO253; clear HO264; clear HO267; clear BK234; clear BK240; clear BK249; clear BK255; clear BK268; clear HB; have HO233 := n0_; have HO238 := n1_; have HO253 := n2_; have HO264 := n3_; have HO267 := n4_; have HO272 := n5_; have BK234 := n6_; have BK240 := n7_; have BK249 := n8_; have BK255 := n9_; have BK268 := n10_; have HB := n11_; clear n0_ n1_ n2_ n3_ n4_ n5_ n6_ n7_ n8_ n9_ n10_ n11_; (try clear hb); (try clear hb2); (try clear hk); (try clear hi); (try clear ho0)) | ((with_reducible refine gate_dst (N := 10) rfl ?_); (try (refine gate_guard (by rfl) ?_; dsimp only)); refine box_event ?hg (N := 10) ?hd (cs := #[.int .i64 0, .slice none 0 0]) (t := 29) ?hr ?_; (case hd => rfl); (case hg => rfl); (case hr => go_simp <;> rfl); intro gb274 hg w66 hbox hb; have n0_ := mK (rB (by (with_reducible repeat first|apply rA|apply rN|apply rD); exact HO233.out) hb); have n1_ := mK (rB (by (with_reducible repeat first|apply rA|apply rN|apply rD); exact HO238.out) hb); have n2_ := mK (rB (by (with_reducible repeat first|apply rA|apply rN|apply rD); exact HO253.out) hb); have n3_ := mK (rB (by (with_reducible repeat first|apply rA|apply rN|apply rD); exact HO264.out) hb); have n4_ := mK (rB (by (with_reducible repeat first|apply rA|apply rN|apply rD); exact HO267.out) hb); have n5_ := mK (rB (by (with_reducible repeat first|apply rA|apply rN|apply rD); exact HO272.out) hb); have n6_ := mK (kB (by (with_reducible repeat first|apply kN|apply kD|apply kA); exact BK234.out) hb); have n7_ := mK (kB (by (with_reducible repeat first|apply kN|apply kD|apply kA); exact BK240.out) hb); have n8_ := mK (kB (by (with_reducible repeat first|apply kN|apply kD|apply kA); exact BK249.out) hb); have n9_ := mK (kB (by (with_reducible repeat first|apply kN|apply kD|apply kA); exact BK255.out) hb); have n10_ := mK (kB (by (with_reducible repeat first|apply kN|apply kD|apply kA); exact BK268.out) hb); have n11_ := mK (bP (by repeat first|(with_reducible first|exact HB.out|apply bA|apply bN|apply bD|refine bS ?_ GE234.out|refine bS ?_ GE240.out|refine bS ?_ GE249.out|refine bS ?_ GE255.out|refine bS ?_ GE268.out)|exact HB.out) hb); have n12_ := mK (hbox); have n13_ := mK ((by rw [hg]; exact (bZ (by repeat first|(with_reducible first|exact HB.out|apply bA|apply bN|apply bD|refine bS ?_ GE234.out|refine bS ?_ GE240.out|refine bS ?_ GE249.out|refine bS ?_ GE255.out|refine bS ?_ GE268.out)|exact HB.out)) : w.heap.size ≤ gb274)); have n14_ := mK ((by rw [hg]; exact (bZ (by repeat first|(with_reducible first|exact HB.out|apply bA|apply bN|apply bD|refine bS ?_ GE234.out|refine bS ?_ GE240.out|refine bS ?_ GE249.out|refine bS ?_ GE255.out|refine bS ?_ GE268.out)|exact HB.out)) : w.heap.size ≤ gb274)); have n15_ := mK ((by rw [hg]; exact Nat.ne_of_lt (blk_lt (by (with_reducible repeat first|apply kN|apply kD|apply kA); exact BK234.out)) : gb234 ≠ gb274)); have n16_ := mK ((by rw [hg]; exact Nat.ne_of_gt (blk_lt (by (with_reducible repeat first|apply kN|apply kD|apply kA); exact BK234.out)) : gb274 ≠ gb234)); have n17_ := mK ((by rw [hg]; exact Nat.ne_of_lt (blk_lt (by (with_reducible repeat first|apply kN|apply kD|apply kA); exact BK240.out)) : gb240 ≠ gb274)); have n18_ := mK ((by rw [hg]; exact Nat.ne_of_gt (blk_lt (by (with_reducible repeat first|apply kN|apply kD|apply kA); exact BK240.out)) : gb274 ≠ gb240)); have n19_ := mK ((by rw [hg]; exact Nat.ne_of_lt (blk_lt (by (with_reducible repeat first|apply kN|apply kD|apply kA); exact BK249.out)) : gb249 ≠ gb274)); have n20_ := mK ((by rw [hg]; exact Nat.ne_of_gt (blk_lt (by (with_reducible repeat first|apply kN|apply kD|apply kA); exact BK249.out)) : gb274 ≠ gb249)); have n21_ := mK ((by rw [hg]; exact Nat.ne_of_lt (blk_lt (by (with_reducible repeat first|apply kN|apply kD|apply kA); exact BK255.out)) : gb255 ≠ gb274)); have n22_ := mK ((by rw [hg]; exact Nat.ne_of_gt (blk_lt (by (with_reducible repeat first|apply kN|apply kD|apply kA); exact BK255.out)) : gb274 ≠ gb255)); have n23_ := mK ((by rw [hg]; exact Nat.ne_of_lt (blk_lt (by (with_reducible repeat first|apply kN|apply kD|apply kA); exact BK268.out)) : gb268 ≠ gb274)); have n24_ := mK ((by rw [hg]; exact Nat.ne_of_gt (blk_lt (by (with_reducible repeat first|apply kN|apply kD|apply kA); exact BK268.out)) : gb274 ≠ gb268)); clear HO233; clear HO238; clear HO253; clear HO264; clear HO267; clear HO272; clear BK234; clear BK240; clear BK249; clear BK255; clear BK268; clear HB; have HO233 := n0_; have HO238 := n1_; have HO253 := n2_; have HO264 := n3_; have HO267 := n4_; have HO272 := n5_; have BK234 := n6_; have BK240 := n7_; have BK249 := n8_; have BK255 := n9_; have BK268 := n10_; have HB := n11_; have BK274 := n12_; have GW274 := n13_; have GE274 := n14_; have NB234_274 := n15_; have NB274_234 := n16_; have NB240_274 := n17_; have NB274_240 := n18_; have NB249_274 := n19_; have NB274_249 := n20_; have NB255_274 := n21_; have NB274_255 := n22_; have NB268_274 := n23_; have NB274_268 := n24_; clear n0_ n1_ n2_ n3_ n4_ n5_ n6_ n7_ n8_ n9_ n10_ n11_ n12_ n13_ n14_ n15_ n16_ n17_ n18_ n19_ n20_ n21_ n22_ n23_ n24_; clear hb hbox hg; have hnb67 := NB274_234.out; have hnc67 := NB234_274.out; have hnb68 := NB274_240.out; have hnc68 := NB240_274.out; have hnb69 := NB274_249.out; have hnc69 := NB249_274.out; have hnb70 := NB274_255.out; have hnc70 := NB255_274.out; have hnb71 := NB274_268.out; have hnc71 := NB268_274.out; have hcz72_0 : w66.cell? ⟨gb274, 0, none⟩ = some (.int .i64 0) := (kC BK274.out 0).trans rfl; have hcz72_1 : w66.cell? ⟨gb274, 1, none⟩ = some (.slice none 0 0) := (kC BK274.out 1).trans rfl; have hfz72_0 := blk_frozen BK274.out 0; have hfz72_1 := blk_frozen BK274.out 1; obtain ⟨Ao73, co73, eo73⟩ := Kd.R_slice HO272.out; subst eo73))
 (try simp only [Act.put, sT, sZ, sU])
 go_cut [85] (fun v85 wc => ∃ (kq : Nat) (x85_13 : Bool), v85 = .bool x85_13 ∧ Aside0 (laws_FnTightened.j0 kq x85_13 t250 t251 t269 t270 = some r) ∧ Aside0 (kq ≤ k) ∧ Aside0 (Kd.R k39 39 wc w.heap.size (fun k_ => some k_ ≠ ((.slice Ao57 y265.length co57) : Value).ownBlock ∧ k_ ≠ gb249) (.slice Ao18 t231.length co18) t231) ∧ Aside0 (Kd.R (Kd.int .i64) 3 wc w.heap.size (fun k_ => some k_ ≠ ((.slice Ao44 t251.length co44) : Value).ownBlock ∧ some k_ ≠ ((.slice Ao73 t270.length co73) : Value).ownBlock) (.slice Ao23 t236.length co23) t236) ∧ Aside0 (Kd.R (Kd.int .i64) 3 wc w.heap.size (fun k_ => some k_ ≠ ((.slice Ao23 t236.length co23) : Value).ownBlock ∧ some k_ ≠ ((.slice Ao73 t270.length co73) : Value).ownBlock) (.slice Ao44 t251.length co44) t251) ∧ Aside0 (Kd.R k39 39 wc w.heap.size (fun k_ => some k_ ≠ ((.slice Ao18 t231.length co18) : Value).ownBlock ∧ k_ ≠ gb249) (.slice Ao57 y265.length co57) y265) ∧ Aside0 (Kd.R (Kd.int .i64) 3 wc w.heap.size (fun k_ => some k_ ≠ ((.slice Ao23 t236.length co23) : Value).ownBlock ∧ some k_ ≠ ((.slice Ao44 t251.length co44) : Value).ownBlock) (.slice Ao73 t270.length co73) t270) ∧ Aside0 (wc.heap[gb234]? = some (.cells #[.int .i64 t230, (.slice Ao18 t231.length co18)] 25 (0, 0))) ∧ Aside0 (wc.heap[gb240]? = some (.cells #[.int .i64 t235, (.slice Ao23 t236.length co23)] 29 (0, 0))) ∧ Aside0 (wc.heap[gb249]? = some (.cells #[.int .i64 (Int.tmod t246 t230), .int .i64 (Int.tmod t247 t230), .int .i64 (wrap64 ((Int.tmod t248 12) - 3))] 39 (0, 0))) ∧ Aside0 (wc.heap[gb255]? = some (.cells #[.int .i64 t250, (.slice Ao44 t251.length co44)] 29 (0, 0))) ∧ Aside0 (wc.heap[gb268]? = some (.cells #[.int .i64 t230, (.slice Ao57 y265.length co57)] 25 (0, 0))) ∧ Aside0 (wc.heap[gb274]? = some (.cells #[.int .i64 t269, (.slice Ao73 t270.length co73)] 29 (0, 0))) ∧ Aside0 (Below w.heap.size w wc))
 case first => (
 have H := HC14.out
 clear HC14
 by_cases c74 : (t254 != t273) = true
 {
 rw [if_pos c74] at H
 have c74b0 : (t254 != t273) = true := c74
 (try (have c74b1 : decide (t254 = t273) = false := by simpa using c74))
 (try (have c74b2 : (t254 == t273) = false := by simpa using c74))
 (try (have c74b3 : ¬ (t254 = t273) := by simpa using c74))
 clear c74
 (first | rw [c74b0] | (simp only [i64_w, i32_w]; rw [c74b0]) | skip)
 subst hr_
 exact absurd H (by cases k <;> simp [laws_FnTightened.j0])
 }
 rw [if_neg c74] at H
 have c74b0 : (t254 != t273) = false := by simpa using c74
 (try (have c74b1 : decide (t254 = t273) = true := by simpa using c74))
 (try (have c74b2 : (t254 == t273) = true := by simpa using c74))
 clear c74
 (first | rw [c74b0] | (simp only [i64_w, i32_w]; rw [c74b0]) | skip)
 have H' := mK H
 clear H
 have hnb75 := NB255_234.out
 have hnc75 := NB234_255.out
 have hnb76 := NB255_240.out
 have hnc76 := NB240_255.out
 have hnb77 := NB255_249.out
 have hnc77 := NB249_255.out
 have hnb78 := NB255_268.out
 have hnc78 := NB268_255.out
 have hnb79 := NB255_274.out
 have hnc79 := NB274_255.out
 have hcz80_0 : w66.cell? ⟨gb255, 0, none⟩ = some (.int .i64 t250) := (kC BK255.out 0).trans rfl
 have hcz80_1 : w66.cell? ⟨gb255, 1, none⟩ = some (.slice Ao44 t251.length co44) := (kC BK255.out 1).trans rfl
 have hfz80_0 := blk_frozen BK255.out 0
 have hfz80_1 := blk_frozen BK255.out 1
 have hnb81 := NB274_234.out
 have hnc81 := NB234_274.out
 have hnb82 := NB274_240.out
 have hnc82 := NB240_274.out
 have hnb83 := NB274_249.out
 have hnc83 := NB249_274.out
 have hnb84 := NB274_268.out
 have hnc84 := NB268_274.out
 have hcz85_0 : w66.cell? ⟨gb274, 0, none⟩ = some (.int .i64 0) := (kC BK274.out 0).trans rfl
 have hcz85_1 : w66.cell? ⟨gb274, 1, none⟩ = some (.slice none 0 0) := (kC BK274.out 1).trans rfl
 have hfz85_0 := blk_frozen BK274.out 0
 have hfz85_1 := blk_frozen BK274.out 1
 go_wp2
 go_meet
 case rel => exact ⟨_, (((t251.length : Int) != (t270.length : Int))), (by first | rfl | (simp; done) | (simp [*]; done)), H', ⟨by first | omega | exact Nat.le_refl _⟩, ⟨by (with_reducible repeat first|apply rA|apply rN|apply rD); exact rM (Kd.R_far (p := ⟨gb274, 1, none⟩) (Kd.R_far (p := ⟨gb274, 0, none⟩) (Kd.R_types HO233.out BK274.out (by decide)) (fun _ hk => hk.2) (.int .i64 t269)) (fun _ hk => hk.2) (.slice Ao73 t270.length co73)) (fun _ hk => ⟨hk.1.2.1, hk.1.2.2⟩)⟩, ⟨by (with_reducible repeat first|apply rA|apply rN|apply rD); exact rM (Kd.R_far (p := ⟨gb274, 1, none⟩) (Kd.R_far (p := ⟨gb274, 0, none⟩) (Kd.R_types HO238.out BK274.out (by decide)) (fun _ hk => hk.2) (.int .i64 t269)) (fun _ hk => hk.2) (.slice Ao73 t270.length co73)) (fun _ hk => ⟨hk.1.1, hk.1.2⟩)⟩, ⟨by (with_reducible repeat first|apply rA|apply rN|apply rD); exact rM (Kd.R_far (p := ⟨gb274, 1, none⟩) (Kd.R_far (p := ⟨gb274, 0, none⟩) (Kd.R_types HO253.out BK274.out (by decide)) (fun _ hk => hk.2) (.int .i64 t269)) (fun _ hk => hk.2) (.slice Ao73 t270.length co73)) (fun _ hk => ⟨hk.1.1, hk.1.2⟩)⟩, ⟨by (with_reducible repeat first|apply rA|apply rN|apply rD); exact rM (Kd.R_far (p := ⟨gb274, 1, none⟩) (Kd.R_far (p := ⟨gb274, 0, none⟩) (Kd.R_types HO267.out BK274.out (by decide)) (fun _ hk => hk.2) (.int .i64 t269)) (fun _ hk => hk.2) (.slice Ao73 t270.length co73)) (fun _ hk => ⟨hk.1.1, hk.1.2.2⟩)⟩, ⟨by (with_reducible repeat first|apply rA|apply rN|apply rD); exact rM (Kd.R_far (p := ⟨gb274, 1, none⟩) (Kd.R_far (p := ⟨gb274, 0, none⟩) (Kd.R_types HO272.out BK274.out (by decide)) (fun _ hk => hk.2) (.int .i64 t269)) (fun _ hk => hk.2) (.slice Ao73 t270.length co73)) (fun _ hk => ⟨hk.1.1.2, hk.1.2⟩)⟩, ⟨by (with_reducible repeat first|apply kN|apply kD|apply kA); refine blk_far ?_ NB234_274.out _; (with_reducible repeat first|apply kN|apply kD|apply kA); refine blk_far ?_ NB234_274.out _; (with_reducible repeat first|apply kN|apply kD|apply kA); exact BK234.out⟩, ⟨by (with_reducible repeat first|apply kN|apply kD|apply kA); refine blk_far ?_ NB240_274.out _; (with_reducible repeat first|apply kN|apply kD|apply kA); refine blk_far ?_ NB240_274.out _; (with_reducible repeat first|apply kN|apply kD|apply kA); exact BK240.out⟩, ⟨by (with_reducible repeat first|apply kN|apply kD|apply kA); refine blk_far ?_ NB249_274.out _; (with_reducible repeat first|apply kN|apply kD|apply kA); refine blk_far ?_ NB249_274.out _; (with_reducible repeat first|apply kN|apply kD|apply kA); exact BK249.out⟩, ⟨by (with_reducible repeat first|apply kN|apply kD|apply kA); refine blk_far ?_ NB255_274.out _; (with_reducible repeat first|apply kN|apply kD|apply kA); refine blk_far ?_ NB255_274.out _; (with_reducible repeat first|apply kN|apply kD|apply kA); exact BK255.out⟩, ⟨by (with_reducible repeat first|apply kN|apply kD|apply kA); refine blk_far ?_ NB268_274.out _; (with_reducible repeat first|apply kN|apply kD|apply kA); refine blk_far ?_ NB268_274.out _; (with_reducible repeat first|apply kN|apply kD|apply kA); exact BK268.out⟩, ⟨by (with_reducible repeat first|apply kN|apply kD|apply kA); refine blk_put (cs := #[.int .i64 t269, .slice none 0 0]) ?_ 1 _ rfl; (with_reducible repeat first|apply kN|apply kD|apply kA); refine blk_put (cs := #[.int .i64 0, .slice none 0 0]) ?_ 0 _ rfl; (with_reducible repeat first|apply kN|apply kD|apply kA); exact BK274.out⟩, ⟨by repeat first|(with_reducible first|exact HB.out|apply bA|apply bN|apply bD|refine bS ?_ GE234.out|refine bS ?_ GE240.out|refine bS ?_ GE249.out|refine bS ?_ GE255.out|refine bS ?_ GE268.out|refine bS ?_ GE274.out)|exact HB.out⟩⟩
 )
 case rest => (
 clear HC14
 try clear c1
 try clear p2
 try clear c3
 try clear c6
 try clear p6
 try clear c7
 try clear c8
 try clear c12
 try clear c16
 try clear c60
 try clear c61
 try clear c62
 try clear c63
 try clear p64
 try clear c67
 try clear c68
 try clear c69
 try clear c70
 try clear c71
 try clear c74
 try clear c74b0
 try clear c74b1
 try clear c74b2
 try clear c75
 try clear c76
 try clear c77
 try clear c78
 try clear c79
 try clear c81
 try clear c82
 try clear c83
 try clear c84
 try clear hcz64_0
 try clear hcz64_1
 try clear hcz72_0
 try clear hcz72_1
 try clear hcz80_0
 try clear hcz80_1
 try clear hcz85_0
 try clear hcz85_1
 try clear hfz64_0
 try clear hfz64_1
 try clear hfz72_0
 try clear hfz72_1
 try clear hfz80_0
 try clear hfz80_1
 try clear hfz85_0
 try clear hfz85_1
 obtain ⟨kq, x85_13, rfl, HA, HJ13, HO_235001, HO_241001, HO_256001, HO_269001, HO_275001, BK234, BK240, BK249, BK255, BK268, BK274, HB⟩ := hcut
 cases kq with
 | zero => exact absurd HA.out (by simp [laws_FnTightened.j0])
 | succ kj13 => (
 have H := HA.out
 clear HA
 simp only [laws_FnTightened.j0] at H
 by_cases c86 : x85_13 = true
 {
 subst c86
 have H1 : (some false) = some r := by rw [if_pos rfl] at H; exact H
 clear H
 have H := H1
 clear H1
 obtain rfl := Option.some.inj H
 exact absurd hr_ (by decide)
 }
 replace c86 := Bool.eq_false_iff.mpr c86
 subst c86
 have H1 : (laws_FnTightened.l0 kj13 t251 (t251.length : Int) 0 t269 t270) = some r := by rw [if_neg (show ¬ (false = true) by decide)] at H; exact H
 clear H
 have H := H1
 clear H1
 have H' := mK H
 clear H
 have hnb87 := NB255_234.out
 have hnc87 := NB234_255.out
 have hnb88 := NB255_240.out
 have hnc88 := NB240_255.out
 have hnb89 := NB255_249.out
 have hnc89 := NB249_255.out
 have hnb90 := NB255_268.out
 have hnc90 := NB268_255.out
 have hnb91 := NB255_274.out
 have hnc91 := NB274_255.out
 have hcz92_0 : wc.cell? ⟨gb255, 0, none⟩ = some (.int .i64 t250) := (kC BK255.out 0).trans rfl
 have hcz92_1 : wc.cell? ⟨gb255, 1, none⟩ = some (.slice Ao44 t251.length co44) := (kC BK255.out 1).trans rfl
 have hfz92_0 := blk_frozen BK255.out 0
 have hfz92_1 := blk_frozen BK255.out 1
 go_wp2
 go_loopg [89] kj13 (fun kq v89 w' => ∃ (x89_2 : Int), v89 = .int .i64 x89_2 ∧ Aside0 (laws_FnTightened.l0 kq t251 (t251.length : Int) x89_2 t269 t270 = some r) ∧ Aside0 (kq ≤ kj13) ∧ Aside0 (Kd.R (Kd.int .i64) 3 w' w.heap.size (fun k_ => some k_ ≠ ((.slice Ao23 t236.length co23) : Value).ownBlock ∧ some k_ ≠ ((.slice Ao73 t270.length co73) : Value).ownBlock) (.slice Ao44 t251.length co44) t251) ∧ Aside0 (Kd.R k39 39 w' w.heap.size (fun k_ => some k_ ≠ ((.slice Ao57 y265.length co57) : Value).ownBlock ∧ k_ ≠ gb249) (.slice Ao18 t231.length co18) t231) ∧ Aside0 (Kd.R (Kd.int .i64) 3 w' w.heap.size (fun k_ => some k_ ≠ ((.slice Ao44 t251.length co44) : Value).ownBlock ∧ some k_ ≠ ((.slice Ao44 t251.length co44) : Value).ownBlock ∧ some k_ ≠ ((.slice Ao73 t270.length co73) : Value).ownBlock) (.slice Ao23 t236.length co23) t236) ∧ Aside0 (Kd.R (Kd.int .i64) 3 w' w.heap.size (fun k_ => some k_ ≠ ((.slice Ao23 t236.length co23) : Value).ownBlock ∧ some k_ ≠ ((.slice Ao73 t270.length co73) : Value).ownBlock) (.slice Ao44 t251.length co44) t251) ∧ Aside0 (Kd.R k39 39 w' w.heap.size (fun k_ => some k_ ≠ ((.slice Ao18 t231.length co18) : Value).ownBlock ∧ k_ ≠ gb249) (.slice Ao57 y265.length co57) y265) ∧ Aside0 (Kd.R (Kd.int .i64) 3 w' w.heap.size (fun k_ => some k_ ≠ ((.slice Ao44 t251.length co44) : Value).ownBlock ∧ some k_ ≠ ((.slice Ao23 t236.length co23) : Value).ownBlock ∧ some k_ ≠ ((.slice Ao44 t251.length co44) : Value).ownBlock) (.slice Ao73 t270.length co73) t270) ∧ Aside0 (w'.heap[gb234]? = some (.cells #[.int .i64 t230, (.slice Ao18 t231.length co18)] 25 (0, 0))) ∧ Aside0 (w'.heap[gb240]? = some (.cells #[.int .i64 t235, (.slice Ao23 t236.length co23)] 29 (0, 0))) ∧ Aside0 (w'.heap[gb249]? = some (.cells #[.int .i64 (Int.tmod t246 t230), .int .i64 (Int.tmod t247 t230), .int .i64 (wrap64 ((Int.tmod t248 12) - 3))] 39 (0, 0))) ∧ Aside0 (w'.heap[gb255]? = some (.cells #[.int .i64 t250, (.slice Ao44 t251.length co44)] 29 (0, 0))) ∧ Aside0 (w'.heap[gb268]? = some (.cells #[.int .i64 t230, (.slice Ao57 y265.length co57)] 25 (0, 0))) ∧ Aside0 (w'.heap[gb274]? = some (.cells #[.int .i64 t269, (.slice Ao73 t270.length co73)] 29 (0, 0))) ∧ Aside0 (Below w.heap.size w w'))
 case atStart => exact ⟨(0), (by first | rfl | (simp; done) | (simp [*]; done)), H', ⟨Nat.le_refl _⟩, ⟨by (with_reducible repeat first|apply rA|apply rN|apply rD); exact HO_256001.out⟩, ⟨by (with_reducible repeat first|apply rA|apply rN|apply rD); exact HO_235001.out⟩, ⟨by (with_reducible repeat first|apply rA|apply rN|apply rD); exact rM HO_241001.out (fun _ hk => ⟨hk.1, ⟨hk.1, hk.2⟩⟩)⟩, ⟨by (with_reducible repeat first|apply rA|apply rN|apply rD); exact HO_256001.out⟩, ⟨by (with_reducible repeat first|apply rA|apply rN|apply rD); exact HO_269001.out⟩, ⟨by (with_reducible repeat first|apply rA|apply rN|apply rD); exact rM HO_275001.out (fun _ hk => ⟨hk.2, ⟨hk.1, hk.2⟩⟩)⟩, ⟨by (with_reducible repeat first|apply kN|apply kD|apply kA); exact BK234.out⟩, ⟨by (with_reducible repeat first|apply kN|apply kD|apply kA); exact BK240.out⟩, ⟨by (with_reducible repeat first|apply kN|apply kD|apply kA); exact BK249.out⟩, ⟨by (with_reducible repeat first|apply kN|apply kD|apply kA); exact BK255.out⟩, ⟨by (with_reducible repeat first|apply kN|apply kD|apply kA); exact BK268.out⟩, ⟨by (with_reducible repeat first|apply kN|apply kD|apply kA); exact BK274.out⟩, ⟨by repeat first|(with_reducible first|exact HB.out|apply bA|apply bN|apply bD|refine bS ?_ GE234.out|refine bS ?_ GE240.out|refine bS ?_ GE249.out|refine bS ?_ GE255.out|refine bS ?_ GE268.out|refine bS ?_ GE274.out)|exact HB.out⟩⟩
 case round => (
 clear H'
 try clear c1
 try clear p2
 try clear c3
 try clear c6
 try clear p6
 try clear c7
 try clear c8
 try clear c9
 try clear c12
 try clear c16
 try clear c60
 try clear c61
 try clear c62
 try clear c63
 try clear p64
 try clear c67
 try clear c68
 try clear c69
 try clear c70
 try clear c71
 try clear c74
 try clear c74b0
 try clear c74b1
 try clear c74b2
 try clear c75
 try clear c76
 try clear c77
 try clear c78
 try clear c79
 try clear c81
 try clear c82
 try clear c83
 try clear c84
 try clear c86
 try clear c87
 try clear c88
 try clear c89
 try clear c90
 try clear c91
 try clear hcz64_0
 try clear hcz64_1
 try clear hcz72_0
 try clear hcz72_1
 try clear hcz80_0
 try clear hcz80_1
 try clear hcz85_0
 try clear hcz85_1
 try clear hcz92_0
 try clear hcz92_1
 try clear hfz64_0
 try clear hfz64_1
 try clear hfz72_0
 try clear hfz72_1
 try clear hfz80_0
 try clear hfz80_1
 try clear hfz85_0
 try clear hfz85_1
 try clear hfz92_0
 try clear hfz92_1
 try clear p2
 try clear p6
 try clear p64
 obtain ⟨x89_2, rfl, HA, HK2, HO_87, HO_235001, HO_241001, HO_256001, HO_269001, HO_275001, BK234, BK240, BK249, BK255, BK268, BK274, HB⟩ := hrel
 cases gk with
 | zero => exact absurd HA.out (by simp [laws_FnTightened.l0])
 | succ k2 => (
 have H := HA.out
 clear HA
 simp only [laws_FnTightened.l0] at H
 by_cases c93 : x89_2 < (t251.length : Int)
 rotate_left
 {
 rw [if_neg c93] at H
 have c93b0 : decide (x89_2 < (t251.length : Int)) = false := decide_eq_false c93
 clear c93
 obtain rfl := Option.some.inj H
 clear hr_
 go_wp2
 go_ret
 exact ⟨by first | rfl | (simp [errW_none, errW_some] <;> rfl) | (simp [*, errW_none, errW_some] <;> rfl), by repeat first|(with_reducible first|exact HB.out|apply bA|apply bN|apply bD|refine bS ?_ GE234.out|refine bS ?_ GE240.out|refine bS ?_ GE249.out|refine bS ?_ GE255.out|refine bS ?_ GE268.out|refine bS ?_ GE274.out)|exact HB.out⟩
 }
 rw [if_pos c93] at H
 have c93b0 : decide (x89_2 < (t251.length : Int)) = true := decide_eq_true c93
 clear c93
 by_cases c94 : 0 ≤ x89_2
 rotate_left
 {
 rw [if_neg c94] at H
 exact absurd H (by simp)
 }
 rw [if_pos c94] at H
 have c94b0 : decide (0 ≤ x89_2) = true := decide_eq_true c94
 clear c94
 by_cases c95 : x89_2 < (t251.length : Int)
 rotate_left
 {
 rw [if_neg c95] at H
 exact absurd H (by simp)
 }
 rw [if_pos c95] at H
 have c95b0 : decide (x89_2 < (t251.length : Int)) = true := decide_eq_true c95
 clear c95
 by_cases c96 : x89_2 < (t270.length : Int)
 rotate_left
 {
 rw [if_neg c96] at H
 exact absurd H (by simp)
 }
 rw [if_pos c96] at H
 have c96b0 : decide (x89_2 < (t270.length : Int)) = true := decide_eq_true c96
 clear c96
 by_cases c97 : (rd t251 x89_2) = (rd t270 x89_2)
 rotate_left
 {
 rw [if_neg c97] at H
 have c97b0 : ((rd t251 x89_2) == (rd t270 x89_2)) = false := beq_eq_false_iff_ne.mpr c97
 have c97b1 : ((rd t251 x89_2) != (rd t270 x89_2)) = true := bne_iff_ne.mpr c97
 obtain rfl := Option.some.inj H
 exact absurd hr_ (by decide)
 }
 rw [if_pos c97] at H
 have c97b0 : ((rd t251 x89_2) == (rd t270 x89_2)) = true := beq_iff_eq.mpr c97
 have c97b1 : ((rd t251 x89_2) != (rd t270 x89_2)) = false := bne_eq_false_iff_eq.mpr c97
 clear c97
 have H' := mK H
 clear H
 have p275 : 0 ≤ (x89_2 : Int) := of_decide_eq_true (by first | (with_reducible assumption) | assumption)
 have q275 : x89_2 < (t251.length : Int) := of_decide_eq_true (by first | (with_reducible assumption) | assumption)
 obtain ⟨ad275, e275, hx275_0⟩ := Kd.at_int (Kd.R_reads' HO_87.out).2.2 x89_2 p275 q275
 cases e275
 replace p275 := eq_true p275
 replace q275 := eq_true q275
 have hnb98 := NB274_234.out
 have hnc98 := NB234_274.out
 have hnb99 := NB274_240.out
 have hnc99 := NB240_274.out
 have hnb100 := NB274_249.out
 have hnc100 := NB249_274.out
 have hnb101 := NB274_255.out
 have hnc101 := NB255_274.out
 have hnb102 := NB274_268.out
 have hnc102 := NB268_274.out
 have hcz103_0 : wr.cell? ⟨gb274, 0, none⟩ = some (.int .i64 t269) := (kC BK274.out 0).trans rfl
 have hcz103_1 : wr.cell? ⟨gb274, 1, none⟩ = some (.slice Ao73 t270.length co73) := (kC BK274.out 1).trans rfl
 have hfz103_0 := blk_frozen BK274.out 0
 have hfz103_1 := blk_frozen BK274.out 1
 have p276 : 0 ≤ (x89_2 : Int) := of_decide_eq_true (by first | (with_reducible assumption) | assumption)
 have q276 : x89_2 < (t270.length : Int) := of_decide_eq_true (by first | (with_reducible assumption) | assumption)
 obtain ⟨ad276, e276, hx276_0⟩ := Kd.at_int (Kd.R_reads' HO_275001.out).2.2 x89_2 p276 q276
 cases e276
 replace p276 := eq_true p276
 replace q276 := eq_true q276
 go_wp2
 go_roundg k2
 case measure => have := HJ13.out; have := HK2.out; omega
 case rel => exact ⟨(wrap64 (x89_2 + 1)), (by first | rfl | (simp; done) | (simp [*]; done)), H', ⟨by have := HJ13.out; have := HK2.out; omega⟩, ⟨by (with_reducible repeat first|apply rA|apply rN|apply rD); exact HO_87.out⟩, ⟨by (with_reducible repeat first|apply rA|apply rN|apply rD); exact HO_235001.out⟩, ⟨by (with_reducible repeat first|apply rA|apply rN|apply rD); exact HO_241001.out⟩, ⟨by (with_reducible repeat first|apply rA|apply rN|apply rD); exact HO_256001.out⟩, ⟨by (with_reducible repeat first|apply rA|apply rN|apply rD); exact HO_269001.out⟩, ⟨by (with_reducible repeat first|apply rA|apply rN|apply rD); exact HO_275001.out⟩, ⟨by (with_reducible repeat first|apply kN|apply kD|apply kA); exact BK234.out⟩, ⟨by (with_reducible repeat first|apply kN|apply kD|apply kA); exact BK240.out⟩, ⟨by (with_reducible repeat first|apply kN|apply kD|apply kA); exact BK249.out⟩, ⟨by (with_reducible repeat first|apply kN|apply kD|apply kA); exact BK255.out⟩, ⟨by (with_reducible repeat first|apply kN|apply kD|apply kA); exact BK268.out⟩, ⟨by (with_reducible repeat first|apply kN|apply kD|apply kA); exact BK274.out⟩, ⟨by repeat first|(with_reducible first|exact HB.out|apply bA|apply bN|apply bD|refine bS ?_ GE234.out|refine bS ?_ GE240.out|refine bS ?_ GE249.out|refine bS ?_ GE255.out|refine bS ?_ GE268.out|refine bS ?_ GE274.out)|exact HB.out⟩⟩
 )
 )
 )
 )

/-- THE ONE PURE STATEMENT of laws_FnTightened: yours. -/
def laws_FnTightened.Pure : Prop := ∀ (l0 : List Int), l0.length ≤ maxLen → (∀ yl0 ∈ l0, (Lit.int .u8 yl0).wf = true) → ∃ k, laws_FnTightened.f k l0 = some true
theorem laws_FnTightened.walk (P : laws_FnTightened.Pure) (A0 : Option Addr) (c0 : Nat) (l0 : List Int) (w : World) (hr0 : Kd.C (Kd.int .u8) w A0 l0.length l0) (hc0 : l0.length ≤ c0) (q0_0 : l0.length ≤ maxLen) (q0_1 : (∀ yl0 ∈ l0, (Lit.int .u8 yl0).wf = true)) :
    Calls Try.prog 3 #[.slice A0 l0.length c0] w fun e w' => e = .returned (.bool true) ∧ Below w.heap.size w w' := by
  obtain ⟨k, h⟩ := P l0 q0_0 q0_1
  refine (laws_FnTightened.calls k A0 c0 l0 true w hr0 hc0 h rfl).mono ?_
  rintro e w' ⟨rfl, hd⟩
  exact ⟨rfl, hd⟩

end Go.Proofs.Ytegkkbncnmakaaa.QFnTightened
