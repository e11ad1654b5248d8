-- Written by this session's program wip/tools/mk.py out of the translation; Lean checks it.
import Derived.Test.YtbbblnmngjhadaaQFnExactWindowOfx0
import Derived.Test.YtbbblnmngjhadaaQFnExactWindowOfx1
import Derived.Test.YtbbblnmngjhadaaQFnExactWindowOfx9
import Derived.Test.YtbbblnmngjhadaaQFnExactWindowOfx13
namespace Go.Proofs.Ytbbblnmngjhadaa.QFnExactWindowOf
open Go.RowKit Go.Proofs.YtbbblnmngjhadaaW.PrintWords Go.Proofs.YtbbblnmngjhadaaW.PrintLast Go.Proofs.YtbbblnmngjhadaaW.PrintMore
attribute [local go_sem] max2_int min2_int max_two min_two max_three min_three max_four min_four   -- for this text's walks alone
set_option linter.unusedVariables false
set_option linter.unusedSimpArgs false

/-! ### laws_FnExactWindowOf: function 5 -/
def laws_FnExactWindowOf.j0 : Nat → Bool → Int → List (S128) → Int → List (S76) → Option (Bool)
  | 0, _, _, _, _, _ => none
  | k + 1, x39, x426000, x426001, x440000, x440001 => if x39 = true then (some false) else ((laws_toSimple.f k x426000 x426001).bind fun bt445 => ((laws_eqSimple.f k x440000 x440001 bt445.1 bt445.2).bind fun t449 => (if t449 = true then (some true) else (some false))))
def laws_FnExactWindowOf.f (k : Nat) (a0_0 : Int) (l0_1 : List (S128)) (a1 : Int) : Option (Bool) := (laws_szSimple.f a0_0 l0_1 1048576).bind fun t426 => (if t426 < 0 then (some true) else ((laws_toSimple.f k a0_0 l0_1).bind fun bt427 => ((spec_WindowOf.f k bt427.1 bt427.2 a1).bind fun bt431 => ((laws_toSimple.f k a0_0 l0_1).bind fun bt435 => ((impl_WindowOf.f k bt435.1 bt435.2 a1).bind fun bt440 => ((laws_eqInterval.f bt440.1 bt440.2.1 bt431.1 bt431.2.1).bind fun t444 => (if t444 = true then (laws_FnExactWindowOf.j0 k (bt440.2.2 != bt431.2.2) a0_0 l0_1 bt435.1 bt435.2) else (laws_FnExactWindowOf.j0 k true a0_0 l0_1 bt435.1 bt435.2))))))))
theorem laws_FnExactWindowOf.mono_l : ∀ k, (∀ y0 y1 y2 y3 y4, LeO (laws_FnExactWindowOf.j0 k y0 y1 y2 y3 y4) (laws_FnExactWindowOf.j0 (k + 1) y0 y1 y2 y3 y4))
  | 0 => fun _ _ _ _ _ r h => by simp [laws_FnExactWindowOf.j0] at h
  | k + 1 => by
    have ih0 := laws_FnExactWindowOf.mono_l k
    · intro y0 y1 y2 y3 y4
      unfold laws_FnExactWindowOf.j0
      repeat' first|(with_reducible first|exact ih0 _ _ _ _ _|exact impl_WindowOf.mono _ _ _ _|exact laws_eqSimple.mono _ _ _ _ _|exact laws_toSimple.mono _ _ _|exact spec_WindowOf.mono _ _ _ _|exact lR _|exact lN _|refine lI ?_ ?_|refine lB ?_ (fun _ => ?_))|exact ih0 _ _ _ _ _|exact impl_WindowOf.mono _ _ _ _|exact laws_eqSimple.mono _ _ _ _ _|exact laws_toSimple.mono _ _ _|exact spec_WindowOf.mono _ _ _ _|exact lN _|refine lI ?_ ?_|refine lB ?_ (fun _ => ?_)
theorem laws_FnExactWindowOf.mono : ∀ a0 a1 a2 k, LeO (laws_FnExactWindowOf.f k a0 a1 a2) (laws_FnExactWindowOf.f (k + 1) a0 a1 a2) := by
  intro a0 a1 a2 k
  have ih0 := laws_FnExactWindowOf.mono_l k
  unfold laws_FnExactWindowOf.f
  repeat' first|(with_reducible first|exact ih0 _ _ _ _ _|exact impl_WindowOf.mono _ _ _ _|exact laws_eqSimple.mono _ _ _ _ _|exact laws_toSimple.mono _ _ _|exact spec_WindowOf.mono _ _ _ _|exact lR _|exact lN _|refine lI ?_ ?_|refine lB ?_ (fun _ => ?_))|exact ih0 _ _ _ _ _|exact impl_WindowOf.mono _ _ _ _|exact laws_eqSimple.mono _ _ _ _ _|exact laws_toSimple.mono _ _ _|exact spec_WindowOf.mono _ _ _ _|exact lN _|refine lI ?_ ?_|refine lB ?_ (fun _ => ?_)
set_option maxHeartbeats 8000000 in
set_option maxRecDepth 100000 in
theorem laws_FnExactWindowOf.calls (k : Nat) (a0_0 : Int) (A0_1 : Option Addr) (c0_1 : Nat) (l0_1 : List (S128)) (a1 : Int) (r : Bool) (w : World) (hr0_1 : Kd.C k128 w A0_1 l0_1.length l0_1) (hc0_1 : l0_1.length ≤ c0_1) (h : laws_FnExactWindowOf.f k a0_0 l0_1 a1 = some r) (hr_ : r = true) :
    Calls Try.prog 5 #[.agg #[.int .i64 a0_0, .slice A0_1 l0_1.length c0_1], .int .i64 a1] w fun e w' => e = .returned (.bool r) ∧ Below w.heap.size w w' := by
 have hu42 := Try.underlying42
 have hu52 := Try.underlying52
 have hu47 := Try.underlying47
 have HR0_1 := mK hr0_1
 have HC0_1 := mK hc0_1
 clear hr0_1 hc0_1
 have HB := mK (Below.refl w.heap.size w)
 have H : ((laws_szSimple.f a0_0 l0_1 1048576).bind fun t426 => (if t426 < 0 then (some true) else ((laws_toSimple.f k a0_0 l0_1).bind fun bt427 => ((spec_WindowOf.f k bt427.1 bt427.2 a1).bind fun bt431 => ((laws_toSimple.f k a0_0 l0_1).bind fun bt435 => ((impl_WindowOf.f k bt435.1 bt435.2 a1).bind fun bt440 => ((laws_eqInterval.f bt440.1 bt440.2.1 bt431.1 bt431.2.1).bind fun t444 => (if t444 = true then (laws_FnExactWindowOf.j0 k (bt440.2.2 != bt431.2.2) a0_0 l0_1 bt435.1 bt435.2) else (laws_FnExactWindowOf.j0 k true a0_0 l0_1 bt435.1 bt435.2))))))))) = some r := h
 clear h
 replace H := Option.bind_eq_some_iff.mp H
 obtain ⟨t426, A30, H⟩ := H
 replace H : (if t426 < 0 then (some true) else ((laws_toSimple.f k a0_0 l0_1).bind fun bt427 => ((spec_WindowOf.f k bt427.1 bt427.2 a1).bind fun bt431 => ((laws_toSimple.f k a0_0 l0_1).bind fun bt435 => ((impl_WindowOf.f k bt435.1 bt435.2 a1).bind fun bt440 => ((laws_eqInterval.f bt440.1 bt440.2.1 bt431.1 bt431.2.1).bind fun t444 => (if t444 = true then (laws_FnExactWindowOf.j0 k (bt440.2.2 != bt431.2.2) a0_0 l0_1 bt435.1 bt435.2) else (laws_FnExactWindowOf.j0 k true a0_0 l0_1 bt435.1 bt435.2)))))))) = some r := H
 have A3 := mK A30
 clear A30
 by_cases c4 : t426 < 0
 {
 rw [if_pos c4] at H
 have c4b0 : decide (t426 < 0) = true := decide_eq_true c4
 clear c4
 obtain rfl := Option.some.inj H
 clear hr_
 go_enter Try.func5, Try.ntmps5
 go_wp2_with (first | ((with_reducible refine gate_dst (N := 2) rfl ?_); refine bxE 2 #[.int .i64 a0_0, .slice A0_1 l0_1.length c0_1] 42 ?_; intro gb425 hg w5 hbox hb; have BK425 := mK hbox; have GW425 := mK (gX hg HB); have GE425 := mK (gX hg HB); replace HB := bB HB hb; clear hb hbox hg; have hcz6_0 := q0 BK425; have hcz6_1 := q1 BK425; have hfz6_0 := fX BK425 0; have hfz6_1 := fX BK425 1) | ((with_reducible refine gate_callee (f := 21) rfl ?_); refine gsE (some 13) Try.func21 #[.agg #[.int .i64 a0_0, .slice A0_1 l0_1.length c0_1], .int .i64 1048576] ?_; (with_reducible refine (laws_szSimple.calls a0_0 _ _ l0_1 1048576 t426 _ ?side1 ?side2 A3.out).mono ?_); (case side1 => exact cX HR0_1 HB); (case side2 => exact HC0_1.out); rintro e w7 ⟨rfl, hb⟩; refine ⟨_, rfl, ?_⟩; replace BK425 := kB BK425 hb; replace HB := bB HB hb; (try clear hb); (try clear hb2); (try clear hk); (try clear hi)))
 go_ret
 exact ⟨by first | rfl | (simp [errW_none, errW_some] <;> rfl) | (simp [*, errW_none, errW_some] <;> rfl), bX HB⟩
 }
 rw [if_neg c4] at H
 have c4b0 : decide (t426 < 0) = false := decide_eq_false c4
 clear c4
 replace H := Option.bind_eq_some_iff.mp H
 obtain ⟨⟨t427, t428⟩, A80, H⟩ := H
 replace H : ((spec_WindowOf.f k t427 t428 a1).bind fun bt431 => ((laws_toSimple.f k a0_0 l0_1).bind fun bt435 => ((impl_WindowOf.f k bt435.1 bt435.2 a1).bind fun bt440 => ((laws_eqInterval.f bt440.1 bt440.2.1 bt431.1 bt431.2.1).bind fun t444 => (if t444 = true then (laws_FnExactWindowOf.j0 k (bt440.2.2 != bt431.2.2) a0_0 l0_1 bt435.1 bt435.2) else (laws_FnExactWindowOf.j0 k true a0_0 l0_1 bt435.1 bt435.2)))))) = some r := H
 have A8 := mK A80
 clear A80
 replace H := Option.bind_eq_some_iff.mp H
 obtain ⟨⟨t431, t432, t433⟩, A90, H⟩ := H
 replace H : ((laws_toSimple.f k a0_0 l0_1).bind fun bt435 => ((impl_WindowOf.f k bt435.1 bt435.2 a1).bind fun bt440 => ((laws_eqInterval.f bt440.1 bt440.2.1 t431 t432).bind fun t444 => (if t444 = true then (laws_FnExactWindowOf.j0 k (bt440.2.2 != t433) a0_0 l0_1 bt435.1 bt435.2) else (laws_FnExactWindowOf.j0 k true a0_0 l0_1 bt435.1 bt435.2))))) = some r := H
 have A9 := mK A90
 clear A90
 replace H := Option.bind_eq_some_iff.mp H
 obtain ⟨⟨t435, t436⟩, A100, H⟩ := H
 replace H : ((impl_WindowOf.f k t435 t436 a1).bind fun bt440 => ((laws_eqInterval.f bt440.1 bt440.2.1 t431 t432).bind fun t444 => (if t444 = true then (laws_FnExactWindowOf.j0 k (bt440.2.2 != t433) a0_0 l0_1 t435 t436) else (laws_FnExactWindowOf.j0 k true a0_0 l0_1 t435 t436)))) = some r := H
 have A10 := mK A100
 clear A100
 replace H := Option.bind_eq_some_iff.mp H
 obtain ⟨⟨t440, t441, t442⟩, A110, H⟩ := H
 replace H : ((laws_eqInterval.f t440 t441 t431 t432).bind fun t444 => (if t444 = true then (laws_FnExactWindowOf.j0 k (t442 != t433) a0_0 l0_1 t435 t436) else (laws_FnExactWindowOf.j0 k true a0_0 l0_1 t435 t436))) = some r := H
 have A11 := mK A110
 clear A110
 have HC12 := mK H
 clear H
 go_enter Try.func5, Try.ntmps5
 go_upto_region 8 with (first | ((with_reducible refine gate_dst (N := 2) rfl ?_); refine bxE 2 #[.int .i64 a0_0, .slice A0_1 l0_1.length c0_1] 42 ?_; intro gb425 hg w13 hbox hb; have BK425 := mK hbox; have GW425 := mK (gX hg HB); have GE425 := mK (gX hg HB); replace HB := bB HB hb; clear hb hbox hg; have hcz14_0 := q0 BK425; have hcz14_1 := q1 BK425; have hfz14_0 := fX BK425 0; have hfz14_1 := fX BK425 1) | ((with_reducible refine gate_callee (f := 21) rfl ?_); refine gsE (some 13) Try.func21 #[.agg #[.int .i64 a0_0, .slice A0_1 l0_1.length c0_1], .int .i64 1048576] ?_; (with_reducible refine (laws_szSimple.calls a0_0 _ _ l0_1 1048576 t426 _ ?side1 ?side2 A3.out).mono ?_); (case side1 => exact cX HR0_1 HB); (case side2 => exact HC0_1.out); rintro e w15 ⟨rfl, hb⟩; refine ⟨_, rfl, ?_⟩; replace BK425 := kB BK425 hb; replace HB := bB HB hb; (try clear hb); (try clear hb2); (try clear hk); (try clear hi); have hcz16_0 := q0 BK425; have hcz16_1 := q1 BK425; have hfz16_0 := fX BK425 0; have hfz16_1 := fX BK425 1) | ((with_reducible refine gate_callee (f := 23) rfl ?_); refine gsE (some 18) Try.func23 #[.agg #[.int .i64 a0_0, .slice A0_1 l0_1.length c0_1]] ?_; (with_reducible refine (laws_toSimple.calls k a0_0 _ _ l0_1 t427 t428 _ ?side1 ?side2 A8.out).mono ?_); (case side1 => exact cX HR0_1 HB); (case side2 => exact HC0_1.out); rintro e w17 ⟨v429, rfl, ho0, hb⟩; refine ⟨_, rfl, ?_⟩; have HO430 := mK (Kd.R_lower ho0 (below_size (bX HB))); replace BK425 := kB BK425 hb; replace HB := bB HB hb; (try clear hb); (try clear hb2); (try clear hk); (try clear hi); (try clear ho0); obtain ⟨Ao18, co18, eo18⟩ := Kd.R_slice HO430.out; subst eo18) | ((with_reducible refine gate_callee (f := 26) rfl ?_); refine gsE (some 20) Try.func26 #[.agg #[.int .i64 t427, .slice Ao18 t428.length co18], .int .i64 a1] ?_; (with_reducible refine (spec_WindowOf.calls k t427 _ _ t428 a1 t431 t432 t433 _ ?side1 ?side2 A9.out).mono ?_); (case side1 => repeat (first | exact (Kd.R_reads' HO430.out).2.2 | (with_reducible refine Kd.C_alloc ?_ _) | (with_reducible refine Kd.C_drewN ?_ _) | (with_reducible refine Kd.C_drew ?_))); (case side2 => exact (Kd.R_reads' HO430.out).2.1); rintro e w19 ⟨rfl, hb⟩; refine ⟨_, rfl, ?_⟩; replace HO430 := mK (Kd.R_below (rX HO430) hb); replace BK425 := kB BK425 hb; replace HB := bB HB hb; (try clear hb); (try clear hb2); (try clear hk); (try clear hi)) | ((with_reducible refine gate_dst (N := 6) rfl ?_); refine bxE 6 #[.int .i64 0, .int .i64 0] 52 ?_; intro gb434 hg w20 hbox hb; replace HO430 := mK (Kd.R_below (rX HO430) hb); have BK434 := mK hbox; have GW434 := mK (gX hg HB); have GE434 := mK (gX hg HB); replace HB := bB HB hb; have NB425_434 := mK (lX hg BK425); have NB434_425 := mK (mX hg BK425); replace BK425 := kB BK425 hb; clear hb hbox hg; have hnb21 := NB434_425.out; have hnc21 := NB425_434.out; have hcz22_0 := q0 BK434; have hcz22_1 := q1 BK434; have hfz22_0 := fX BK434 0; have hfz22_1 := fX BK434 1; have hcz23_0 := q0 BK425; have hcz23_1 := q1 BK425; have hfz23_0 := fX BK425 0; have hfz23_1 := fX BK425 1) | ((with_reducible refine gate_callee (f := 23) rfl ?_); refine gsE (some 24) Try.func23 #[.agg #[.int .i64 a0_0, .slice A0_1 l0_1.length c0_1]] ?_; (with_reducible refine (laws_toSimple.calls k a0_0 _ _ l0_1 t435 t436 _ ?side1 ?side2 A10.out).mono ?_); (case side1 => exact Kd.C_below HR0_1.out (bX HB)); (case side2 => exact HC0_1.out); rintro e w24 ⟨v437, rfl, ho0, hb⟩; refine ⟨_, rfl, ?_⟩; have n0_ := mK (Kd.R_elder' (rF2 HO430 BK434) (Kd.R_base ho0) hb); have n1_ := mK (Kd.R_lower (Kd.R_new' ho0 (Kd.R_lt (rF2 HO430 BK434))) (below_size (bX HB))); have n2_ := mK (blk_below (g := gb425) (o := .cells #[.int .i64 a0_0, .slice A0_1 l0_1.length c0_1] 42 (0, 0)) (kF BK425 NB425_434) hb); have n3_ := mK (blk_below (g := gb434) (o := .cells #[.int .i64 t431, .int .i64 t432] 52 (0, 0)) (kP2 BK434) hb); have n4_ := bB HB hb; clear HO430; clear BK425; clear BK434; clear HB; have HO430 := n0_; have HO438 := n1_; have BK425 := n2_; have BK434 := n3_; have HB := n4_; clear n0_ n1_ n2_ n3_ n4_; (try clear hb); (try clear hb2); (try clear hk); (try clear hi); (try clear ho0)) | ((with_reducible refine gate_dst (N := 8) rfl ?_); refine bxE 8 #[.int .i64 0, .slice none 0 0] 47 ?_; intro gb439 hg w25 hbox hb; replace HO430 := mK (Kd.R_below (rX HO430) hb); replace HO438 := mK (Kd.R_below (rX HO438) hb); have BK439 := mK hbox; have GW439 := mK (gX hg HB); have GE439 := mK (gX hg HB); replace HB := bB HB hb; have NB425_439 := mK (lX hg BK425); have NB439_425 := mK (mX hg BK425); replace BK425 := kB BK425 hb; have NB434_439 := mK (lX hg BK434); have NB439_434 := mK (mX hg BK434); replace BK434 := kB BK434 hb; clear hb hbox hg; have hnb26 := NB439_425.out; have hnc26 := NB425_439.out; have hnb27 := NB439_434.out; have hnc27 := NB434_439.out; have hcz28_0 := q0 BK439; have hcz28_1 := q1 BK439; have hfz28_0 := fX BK439 0; have hfz28_1 := fX BK439 1; obtain ⟨Ao29, co29, eo29⟩ := Kd.R_slice HO438.out; subst eo29) | ((with_reducible refine gate_callee (f := 27) rfl ?_); refine gsE (some 28) Try.func27 #[.agg #[.int .i64 t435, .slice Ao29 t436.length co29], .int .i64 a1] ?_; (with_reducible refine (impl_WindowOf.calls k t435 _ _ t436 a1 t440 t441 t442 _ ?side1 ?side2 A11.out).mono ?_); (case side1 => refine (Kd.R_reads' (e := 76) (base := w.heap.size) (ok := fun k_ => (True ∧ some k_ ≠ (.slice Ao18 t428.length co18 : Value).ownBlock)) (n := t436.length) (c := co29) ?_).2.2; exact (rF2 HO438 BK439)); (case side2 => exact (Kd.R_reads' HO438.out).2.1); rintro e w30 ⟨rfl, hb⟩; refine ⟨_, rfl, ?_⟩; have n0_ := mK (Kd.R_below (rF2 HO430 BK439) hb); have n1_ := mK (Kd.R_below (rF2 HO438 BK439) hb); have n2_ := mK (blk_below (g := gb425) (o := .cells #[.int .i64 a0_0, .slice A0_1 l0_1.length c0_1] 42 (0, 0)) (kF BK425 NB425_439) hb); have n3_ := mK (blk_below (g := gb434) (o := .cells #[.int .i64 t431, .int .i64 t432] 52 (0, 0)) (kF BK434 NB434_439) hb); have n4_ := mK (blk_below (g := gb439) (o := .cells #[.int .i64 t435, .slice Ao29 t436.length co29] 47 (0, 0)) (kP2 BK439) hb); have n5_ := bB HB hb; clear HO430; clear HO438; clear BK425; clear BK434; clear BK439; clear HB; have HO430 := n0_; have HO438 := n1_; have BK425 := n2_; have BK434 := n3_; have BK439 := n4_; have HB := n5_; clear n0_ n1_ n2_ n3_ n4_ n5_; (try clear hb); (try clear hb2); (try clear hk); (try clear hi)) | ((with_reducible refine gate_dst (N := 9) rfl ?_); refine bxE 9 #[.int .i64 0, .int .i64 0] 52 ?_; intro gb443 hg w31 hbox hb; replace HO430 := mK (Kd.R_below (rX HO430) hb); replace HO438 := mK (Kd.R_below (rX HO438) hb); have BK443 := mK hbox; have GW443 := mK (gX hg HB); have GE443 := mK (gX hg HB); replace HB := bB HB hb; have NB425_443 := mK (lX hg BK425); have NB443_425 := mK (mX hg BK425); replace BK425 := kB BK425 hb; have NB434_443 := mK (lX hg BK434); have NB443_434 := mK (mX hg BK434); replace BK434 := kB BK434 hb; have NB439_443 := mK (lX hg BK439); have NB443_439 := mK (mX hg BK439); replace BK439 := kB BK439 hb; clear hb hbox hg; have hnb32 := NB443_425.out; have hnc32 := NB425_443.out; have hnb33 := NB443_434.out; have hnc33 := NB434_443.out; have hnb34 := NB443_439.out; have hnc34 := NB439_443.out; have hcz35_0 := q0 BK443; have hcz35_1 := q1 BK443; have hfz35_0 := fX BK443 0; have hfz35_1 := fX BK443 1))
 (try simp only [Act.put, sT, sZ, sU])
 go_cut [39] (fun v39 wc => ∃ (kq : Nat) (x39_11 : Bool), v39 = .bool x39_11 ∧ Aside0 (laws_FnExactWindowOf.j0 kq x39_11 a0_0 l0_1 t435 t436 = some r) ∧ Aside0 (kq ≤ k) ∧ Aside0 (Kd.R k76 76 wc w.heap.size (fun _ => True) (.slice Ao29 t436.length co29) t436) ∧ Aside0 (wc.heap[gb425]? = some (.cells #[.int .i64 a0_0, (.slice A0_1 l0_1.length c0_1)] 42 (0, 0))) ∧ Aside0 (wc.heap[gb434]? = some (.cells #[.int .i64 t431, .int .i64 t432] 52 (0, 0))) ∧ Aside0 (wc.heap[gb439]? = some (.cells #[.int .i64 t435, (.slice Ao29 t436.length co29)] 47 (0, 0))) ∧ Aside0 (wc.heap[gb443]? = some (.cells #[.int .i64 t440, .int .i64 t441] 52 (0, 0))) ∧ Aside0 (Below w.heap.size w wc))
 case first => (
 have H := HC12.out
 clear HC12
 replace H := Option.bind_eq_some_iff.mp H
 obtain ⟨t444, A360, H⟩ := H
 replace H : (if t444 = true then (laws_FnExactWindowOf.j0 k (t442 != t433) a0_0 l0_1 t435 t436) else (laws_FnExactWindowOf.j0 k true a0_0 l0_1 t435 t436)) = some r := H
 have A36 := mK A360
 clear A360
 by_cases c37 : t444 = true
 rotate_left
 {
 replace c37 := Bool.eq_false_iff.mpr c37
 subst c37
 rw [if_neg (show ¬ (false = true) by decide)] at H
 subst hr_
 exact absurd H (by cases k <;> simp [laws_FnExactWindowOf.j0])
 }
 subst c37
 rw [if_pos rfl] at H
 have H' := mK H
 clear H
 have hnb38 := NB443_425.out
 have hnc38 := NB425_443.out
 have hnb39 := NB443_434.out
 have hnc39 := NB434_443.out
 have hnb40 := NB443_439.out
 have hnc40 := NB439_443.out
 have hcz41_0 := q0 BK443
 have hcz41_1 := q1 BK443
 have hfz41_0 := fX BK443 0
 have hfz41_1 := fX BK443 1
 have hnb42 := NB434_425.out
 have hnc42 := NB425_434.out
 have hnb43 := NB434_439.out
 have hnc43 := NB439_434.out
 have hcz44_0 := q0 BK434
 have hcz44_1 := q1 BK434
 have hfz44_0 := fX BK434 0
 have hfz44_1 := fX BK434 1
 go_wp2_with (first | ((with_reducible refine gate_callee (f := 28) rfl ?_); refine gsE (some 33) Try.func28 #[.agg #[.int .i64 t440, .int .i64 t441], .agg #[.int .i64 t431, .int .i64 t432]] ?_; (with_reducible refine (laws_eqInterval.calls t440 t441 t431 t432 true _ A36.out).mono ?_); rintro e w45 ⟨rfl, hb⟩; refine ⟨_, rfl, ?_⟩; have n0_ := mK (Kd.R_below (rF2 HO430 BK443) hb); have n1_ := mK (Kd.R_below (rF2 HO438 BK443) hb); have n2_ := mK (blk_below (g := gb425) (o := .cells #[.int .i64 a0_0, .slice A0_1 l0_1.length c0_1] 42 (0, 0)) (kF BK425 NB425_443) hb); have n3_ := mK (blk_below (g := gb434) (o := .cells #[.int .i64 t431, .int .i64 t432] 52 (0, 0)) (kF BK434 NB434_443) hb); have n4_ := mK (blk_below (g := gb439) (o := .cells #[.int .i64 t435, .slice Ao29 t436.length co29] 47 (0, 0)) (kF BK439 NB439_443) hb); have n5_ := mK (blk_below (g := gb443) (o := .cells #[.int .i64 t440, .int .i64 t441] 52 (0, 0)) (kP2 BK443) hb); have n6_ := bB HB hb; clear HO430; clear HO438; clear BK425; clear BK434; clear BK439; clear BK443; clear HB; have HO430 := n0_; have HO438 := n1_; have BK425 := n2_; have BK434 := n3_; have BK439 := n4_; have BK443 := n5_; have HB := n6_; clear n0_ n1_ n2_ n3_ n4_ n5_ n6_; (try clear hb); (try clear hb2); (try clear hk); (try clear hi)))
 go_meet
 case rel => exact ⟨_, ((t442 != t433)), (by first | rfl | (simp; done) | (simp [*]; done)), H', ⟨by first | omega | exact Nat.le_refl _⟩, ⟨by (with_reducible repeat first|apply rA|apply rN|apply rD); exact Kd.R_mono HO438.out (fun _ hk => trivial)⟩, ⟨kX BK425⟩, ⟨kX BK434⟩, ⟨kX BK439⟩, ⟨kX BK443⟩, ⟨bX HB⟩⟩
 )
 case rest => (
 clear HC12
 try clear c2
 try clear p2
 try clear c3
 try clear c4
 try clear c4b0
 try clear c5
 try clear c21
 try clear c23
 try clear c26
 try clear c27
 try clear c28
 try clear c32
 try clear c33
 try clear c34
 try clear c37
 try clear c38
 try clear c39
 try clear c40
 try clear c42
 try clear c43
 try clear hcz14_0
 try clear hcz14_1
 try clear hcz16_0
 try clear hcz16_1
 try clear hcz22_0
 try clear hcz22_1
 try clear hcz23_0
 try clear hcz23_1
 try clear hcz28_0
 try clear hcz28_1
 try clear hcz35_0
 try clear hcz35_1
 try clear hcz41_0
 try clear hcz41_1
 try clear hcz44_0
 try clear hcz44_1
 try clear hcz6_0
 try clear hcz6_1
 try clear hfz14_0
 try clear hfz14_1
 try clear hfz16_0
 try clear hfz16_1
 try clear hfz22_0
 try clear hfz22_1
 try clear hfz23_0
 try clear hfz23_1
 try clear hfz28_0
 try clear hfz28_1
 try clear hfz35_0
 try clear hfz35_1
 try clear hfz41_0
 try clear hfz41_1
 try clear hfz44_0
 try clear hfz44_1
 try clear hfz6_0
 try clear hfz6_1
 obtain ⟨kq, x39_11, rfl, HA, HJ11, HO_440001, BK425, BK434, BK439, BK443, HB⟩ := hcut
 cases kq with
 | zero => exact absurd HA.out (by simp [laws_FnExactWindowOf.j0])
 | succ kj11 => (
 have H := HA.out
 clear HA
 simp only [laws_FnExactWindowOf.j0] at H
 by_cases c46 : x39_11 = true
 {
 subst c46
 rw [if_pos rfl] at H
 obtain rfl := Option.some.inj H
 exact absurd hr_ (by decide)
 }
 replace c46 := Bool.eq_false_iff.mpr c46
 subst c46
 rw [if_neg (show ¬ (false = true) by decide)] at H
 replace H := Option.bind_eq_some_iff.mp H
 obtain ⟨⟨t445, t446⟩, A470, H⟩ := H
 replace H : ((laws_eqSimple.f kj11 t435 t436 t445 t446).bind fun t449 => (if t449 = true then (some true) else (some false))) = some r := H
 have A47 := mK A470
 clear A470
 replace H := Option.bind_eq_some_iff.mp H
 obtain ⟨t449, A480, H⟩ := H
 replace H : (if t449 = true then (some true) else (some false)) = some r := H
 have A48 := mK A480
 clear A480
 by_cases c49 : t449 = true
 rotate_left
 {
 replace c49 := Bool.eq_false_iff.mpr c49
 subst c49
 rw [if_neg (show ¬ (false = true) by decide)] at H
 obtain rfl := Option.some.inj H
 exact absurd hr_ (by decide)
 }
 subst c49
 rw [if_pos rfl] at H
 obtain rfl := Option.some.inj H
 clear hr_
 try go_wp2
 have n0_ := mK (Kd.R_drew HO_440001.out)
 have n1_ := mK (blk_drew BK425.out)
 have n2_ := mK (blk_drew BK434.out)
 have n3_ := mK (blk_drew BK439.out)
 have n4_ := mK (blk_drew BK443.out)
 have n5_ := mK (below_drew1 HB.out)
 clear HO_440001
 clear BK425
 clear BK434
 clear BK439
 clear BK443
 clear HB
 have HO_440001 := n0_
 have BK425 := n1_
 have BK434 := n2_
 have BK439 := n3_
 have BK443 := n4_
 have HB := n5_
 clear n0_ n1_ n2_ n3_ n4_ n5_
 refine start_ (n := 5) (S := fun w' => w'.cell? ⟨gb439, 0, none⟩ = some (.int .i64 t435) ∧ w'.cell? ⟨gb439, 1, none⟩ = some (.slice Ao29 t436.length co29) ∧ w'.cell? ⟨gb425, 0, none⟩ = some (.int .i64 a0_0) ∧ w'.cell? ⟨gb425, 1, none⟩ = some (.slice A0_1 l0_1.length c0_1)) (ds := []) (bs 0 5) (by kernel_rfl) rfl (by kernel_rfl) ⟨(blk_cell BK439.out 0).trans rfl, (blk_cell BK439.out 1).trans rfl, (blk_cell BK425.out 0).trans rfl, (blk_cell BK425.out 1).trans rfl⟩ (fun hHeld => ?_)
 generalize wc.drew = w50 at HO_440001 BK425 BK434 BK439 BK443 HB hHeld ⊢
 refine take_ (i := 0) (N := some 40) (v := ?_) (a' := ?_) (bs 1 5) rfl rfl (by kernel_rfl) (fun _ _ _ h => h) (Or.inl ⟨by rfl, ?_⟩) hHeld ?_ ?_
 rotate_left
 {
 rintro w' ⟨s0, s1, s2, s3⟩
 go_simp
 with_reducible rfl
 }
 rotate_left
 {
 simp only [Act.put, sT, sZ, sU, i64_w, i32_w]
 rfl
 }
 refine take_ (i := 1) (N := some 41) (v := ?_) (a' := ?_) (bs 2 5) rfl rfl (by kernel_rfl) (fun _ _ _ h => h) (Or.inl ⟨by rfl, ?_⟩) hHeld ?_ ?_
 rotate_left
 {
 rintro w' ⟨s0, s1, s2, s3⟩
 go_simp
 with_reducible rfl
 }
 rotate_left
 {
 simp only [Act.put, sT, sZ, sU, i64_w, i32_w]
 rfl
 }
 refine one_ (i := 2) (N := some 42) (bs 3 5) rfl rfl (by kernel_rfl) (by decide) (fun K hK => ?_)
 refine gsK Try.func23 #[.agg #[.int .i64 a0_0, .slice A0_1 l0_1.length c0_1]] ?_
 with_reducible refine (laws_toSimple.calls kj11 a0_0 _ _ l0_1 t445 t446 _ ?side1 ?side2 A47.out).mono ?_
 (case side1 => exact cX HR0_1 HB)
 (case side2 => exact HC0_1.out)
 rintro e w51 ⟨v447, rfl, ho0, hb⟩
 refine ⟨_, rfl, ?_⟩
 have n0_ := mK (Kd.R_elder' (rX HO_440001) (Kd.R_base ho0) hb)
 have n1_ := mK (Kd.R_lower (Kd.R_new' ho0 (Kd.R_lt (rX HO_440001))) (below_size (bX HB)))
 have n2_ := kB BK425 hb
 have n3_ := kB BK434 hb
 have n4_ := kB BK439 hb
 have n5_ := kB BK443 hb
 have n6_ := bB HB hb
 clear HO_440001
 clear BK425
 clear BK434
 clear BK439
 clear BK443
 clear HB
 have HO_440001 := n0_
 have HO448 := n1_
 have BK425 := n2_
 have BK434 := n3_
 have BK439 := n4_
 have BK443 := n5_
 have HB := n6_
 clear n0_ n1_ n2_ n3_ n4_ n5_ n6_
 (try clear hb)
 (try clear hb2)
 (try clear hk)
 (try clear hi)
 (try clear ho0)
 obtain ⟨Ao52, co52, eo52⟩ := Kd.R_slice HO448.out
 (first | subst eo52 | (injection eo52 with f1_ f2_ f3_; have f4_ := f1_.symm; have f5_ := f3_.symm; clear f1_ f2_ f3_; subst f4_; subst f5_))
 refine hK.out _ _ ⟨(blk_cell BK439.out 0).trans rfl, (blk_cell BK439.out 1).trans rfl, (blk_cell BK425.out 0).trans rfl, (blk_cell BK425.out 1).trans rfl⟩ (fun hHeld => ?_)
 clear hK K
 refine norm_ (a' := ?_) ?_ ?_
 rotate_left
 {
 show Act.put _ (some 42) _ = _
 simp only [Act.put, sT, sZ, sU, i64_w, i32_w]
 rfl
 }
 refine one_ (i := 3) (N := some 43) (bs 4 5) rfl rfl (by kernel_rfl) (by decide) (fun K hK => ?_)
 refine gsK Try.func25 #[.agg #[.int .i64 t435, .slice Ao29 t436.length co29], .agg #[.int .i64 t445, .slice Ao52 t446.length co52]] ?_
 with_reducible refine (laws_eqSimple.calls kj11 t435 _ _ t436 t445 _ _ t446 true _ ?side1 ?side2 ?side3 ?side4 A48.out).mono ?_
 (case side1 => repeat (first | exact (Kd.R_reads' HO_440001.out).2.2 | (with_reducible refine Kd.C_alloc ?_ _) | (with_reducible refine Kd.C_drewN ?_ _) | (with_reducible refine Kd.C_drew ?_)))
 (case side2 => exact (Kd.R_reads' HO_440001.out).2.1)
 (case side3 => repeat (first | exact (Kd.R_reads' HO448.out).2.2 | (with_reducible refine Kd.C_alloc ?_ _) | (with_reducible refine Kd.C_drewN ?_ _) | (with_reducible refine Kd.C_drew ?_)))
 (case side4 => exact (Kd.R_reads' HO448.out).2.1)
 rintro e w53 ⟨rfl, hb⟩
 refine ⟨_, rfl, ?_⟩
 have n0_ := mK (Kd.R_below (rX HO_440001) hb)
 have n1_ := mK (Kd.R_below (rX HO448) hb)
 have n2_ := kB BK425 hb
 have n3_ := kB BK434 hb
 have n4_ := kB BK439 hb
 have n5_ := kB BK443 hb
 have n6_ := bB HB hb
 clear HO_440001
 clear HO448
 clear BK425
 clear BK434
 clear BK439
 clear BK443
 clear HB
 have HO_440001 := n0_
 have HO448 := n1_
 have BK425 := n2_
 have BK434 := n3_
 have BK439 := n4_
 have BK443 := n5_
 have HB := n6_
 clear n0_ n1_ n2_ n3_ n4_ n5_ n6_
 (try clear hb)
 (try clear hb2)
 (try clear hk)
 (try clear hi)
 refine hK.out _ _ ⟨(blk_cell BK439.out 0).trans rfl, (blk_cell BK439.out 1).trans rfl, (blk_cell BK425.out 0).trans rfl, (blk_cell BK425.out 1).trans rfl⟩ (fun hHeld => ?_)
 clear hK K
 refine norm_ (a' := ?_) ?_ ?_
 rotate_left
 {
 show Act.put _ (some 43) _ = _
 simp only [Act.put, sT, sZ, sU, i64_w, i32_w]
 rfl
 }
 refine pure_ (i := 4) (N := some 44) (v := ?_) (a' := ?_) (bs 5 5) rfl rfl (by kernel_rfl) (fun _ _ _ h => h) (Or.inl ⟨by rfl, ?_⟩) ?_ ?_
 rotate_left
 {
 intro w'
 go_simp
 with_reducible rfl
 }
 rotate_left
 {
 simp only [Act.put, sT, sZ, sU, i64_w, i32_w]
 rfl
 }
 refine done_ (by kernel_rfl) ?_
 try go_wp2
 go_ret
 exact ⟨by first | rfl | (simp [errW_none, errW_some] <;> rfl) | (simp [*, errW_none, errW_some] <;> rfl), bX HB⟩
 )
 )

/-- THE ONE PURE STATEMENT of laws_FnExactWindowOf: yours. -/
def laws_FnExactWindowOf.Pure : Prop := ∀ (a0_0 : Int) (l0_1 : List (S128)) (a1 : Int), (Lit.int .i64 a0_0).wf = true → l0_1.length ≤ maxLen → (∀ yl0_1 ∈ l0_1, (Lit.int .i64 yl0_1.f0).wf = true ∧ (Lit.int .i64 yl0_1.f1).wf = true ∧ (Lit.int .i64 yl0_1.f2.f0).wf = true ∧ (Lit.int .i64 yl0_1.f2.f1).wf = true) → (Lit.int .i64 a1).wf = true → ∃ k, laws_FnExactWindowOf.f k a0_0 l0_1 a1 = some true
theorem laws_FnExactWindowOf.walk (P : laws_FnExactWindowOf.Pure) (a0_0 : Int) (A0_1 : Option Addr) (c0_1 : Nat) (l0_1 : List (S128)) (a1 : Int) (w : World) (hr0_1 : Kd.C k128 w A0_1 l0_1.length l0_1) (hc0_1 : l0_1.length ≤ c0_1) (q0_0 : (Lit.int .i64 a0_0).wf = true) (q0_1 : l0_1.length ≤ maxLen) (q0_2 : (∀ yl0_1 ∈ l0_1, (Lit.int .i64 yl0_1.f0).wf = true ∧ (Lit.int .i64 yl0_1.f1).wf = true ∧ (Lit.int .i64 yl0_1.f2.f0).wf = true ∧ (Lit.int .i64 yl0_1.f2.f1).wf = true)) (q1_0 : (Lit.int .i64 a1).wf = true) :
    Calls Try.prog 5 #[.agg #[.int .i64 a0_0, .slice A0_1 l0_1.length c0_1], .int .i64 a1] w fun e w' => e = .returned (.bool true) ∧ Below w.heap.size w w' := by
  obtain ⟨k, h⟩ := P a0_0 l0_1 a1 q0_0 q0_1 q0_2 q1_0
  refine (laws_FnExactWindowOf.calls k a0_0 A0_1 c0_1 l0_1 a1 true w hr0_1 hc0_1 h rfl).mono ?_
  rintro e w' ⟨rfl, hd⟩
  exact ⟨rfl, hd⟩

end Go.Proofs.Ytbbblnmngjhadaa.QFnExactWindowOf
