-- Written by this session's program wip/tools/mk.py out of the translation; Lean checks it.
import Derived.Test.YtbbblnmngjhadaaQFnSchedulesx0
import Derived.Test.YtbbblnmngjhadaaQFnSchedulesx3
import Derived.Test.YtbbblnmngjhadaaQFnSchedulesx6
import Derived.Test.YtbbblnmngjhadaaQFnSchedulesx8
import Derived.Test.YtbbblnmngjhadaaQFnSchedulesx9
namespace Go.Proofs.Ytbbblnmngjhadaa.QFnSchedules
open Go.RowKit Go.Proofs.YtbbblnmngjhadaaW.PrintWords Go.Proofs.YtbbblnmngjhadaaW.PrintLast Go.Proofs.YtbbblnmngjhadaaW.PrintMore
attribute [local go_sem] max2_int min2_int max_two min_two max_three min_three max_four min_four   -- for this text's walks alone
set_option linter.unusedVariables false
set_option linter.unusedSimpArgs false

/-! ### laws_FnSchedules: function 11 -/
mutual
def laws_FnSchedules.j0 : Nat → List Int → List Int → List Int → Bool → Int → List (S76) → Option (Bool)
  | 0, _, _, _, _, _, _ => none
  | k + 1, x0, x7, x9, x89, x355000, x355001 => if x89 = true then (some false) else ((spec_MakeTimes.f k x0 40 x355000).bind fun t377 => ((impl_IsSchedule.f x355000 x355001 t377).bind fun t380 => (if t380 = true then (laws_FnSchedules.l0 k x7 x9 t377 t377 (t377.length : Int) 0 x355000 x355001) else ((impl_BrokenLink.f x355000 x355001 t377).bind fun t381 => (some (decide (t381 ≥ 0)))))))
def laws_FnSchedules.l0 : Nat → List Int → List Int → List Int → List Int → Int → Int → Int → List (S76) → Option (Bool)
  | 0, _, _, _, _, _, _, _, _ => none
  | k + 1, x7, x9, x11, x102, x103, x104, x355000, x355001 => if x104 < x103 then (if 0 ≤ x104 then (if x104 < (x102.length : Int) then ((impl_WindowOf.f k x355000 x355001 x104).bind fun bt384 => (if bt384.2.2 = true then ((impl_Contains.f bt384.1 bt384.2.1 (rd x102 x104)).bind fun t388 => (if t388 = true then (if x104 < (x7.length : Int) then (if (rd x102 x104) < (rd x7 x104) then (some false) else (if x104 < (x9.length : Int) then (if (rd x102 x104) > (rd x9 x104) then (some false) else (laws_FnSchedules.l0 k x7 x9 x11 x102 x103 (wrap64 (x104 + 1)) x355000 x355001)) else (none))) else (none)) else (some false))) else (some false))) else (none)) else (none)) else ((impl_BrokenLink.f x355000 x355001 x11).bind fun t382 => (some (t382 == (-1))))
end
def laws_FnSchedules.f (k : Nat) (l0 : List Int) : Option (Bool) := if (l0.length : Int) > 1048576 then (some true) else ((spec_MakeSimple.f k l0).bind fun bt350 => ((impl_IsConsistent.f k bt350.1 bt350.2).bind fun t355 => (if t355 = true then ((impl_EarliestTimes.f k bt350.1 bt350.2).bind fun bt364 => ((impl_LatestTimes.f k bt350.1 bt350.2).bind fun bt368 => (if bt364.2 = true then (if bt368.2 = true then (if (bt364.1.length : Int) = bt350.1 then (if (bt368.1.length : Int) = bt350.1 then ((impl_IsSchedule.f bt350.1 bt350.2 bt364.1).bind fun t372 => (if t372 = true then ((impl_IsSchedule.f bt350.1 bt350.2 bt368.1).bind fun t373 => (if t373 = true then ((impl_ConflictOf.f k bt350.1 bt350.2).bind fun t374 => (laws_FnSchedules.j0 k l0 bt364.1 bt368.1 ((t374.length : Int) != 0) bt350.1 bt350.2)) else (laws_FnSchedules.j0 k l0 bt364.1 bt368.1 true bt350.1 bt350.2))) else (laws_FnSchedules.j0 k l0 bt364.1 bt368.1 true bt350.1 bt350.2))) else (laws_FnSchedules.j0 k l0 bt364.1 bt368.1 true bt350.1 bt350.2)) else (laws_FnSchedules.j0 k l0 bt364.1 bt368.1 true bt350.1 bt350.2)) else (laws_FnSchedules.j0 k l0 bt364.1 bt368.1 true bt350.1 bt350.2)) else (laws_FnSchedules.j0 k l0 bt364.1 bt368.1 true bt350.1 bt350.2)))) else ((impl_ConflictOf.f k bt350.1 bt350.2).bind fun t356 => ((impl_EarliestTimes.f k bt350.1 bt350.2).bind fun bt359 => (if (t356.length : Int) > 0 then (if bt359.2 = true then (some false) else ((impl_SimpleOk.f bt350.1 bt350.2).bind fun t363 => (some t363))) else (some false)))))))
theorem laws_FnSchedules.mono_l : ∀ k, (∀ y0 y1 y2 y3 y4 y5, LeO (laws_FnSchedules.j0 k y0 y1 y2 y3 y4 y5) (laws_FnSchedules.j0 (k + 1) y0 y1 y2 y3 y4 y5)) ∧ (∀ y0 y1 y2 y3 y4 y5 y6 y7, LeO (laws_FnSchedules.l0 k y0 y1 y2 y3 y4 y5 y6 y7) (laws_FnSchedules.l0 (k + 1) y0 y1 y2 y3 y4 y5 y6 y7))
  | 0 => ⟨fun _ _ _ _ _ _ r h => by simp [laws_FnSchedules.j0] at h, fun _ _ _ _ _ _ _ _ r h => by simp [laws_FnSchedules.l0] at h⟩
  | k + 1 => by
    obtain ⟨ih0, ih1⟩ := laws_FnSchedules.mono_l k
    refine ⟨?_, ?_⟩
    · intro y0 y1 y2 y3 y4 y5
      unfold laws_FnSchedules.j0
      repeat' first|(with_reducible first|exact ih0 _ _ _ _ _ _|exact ih1 _ _ _ _ _ _ _ _|exact impl_ConflictOf.mono _ _ _|exact impl_EarliestTimes.mono _ _ _|exact impl_IsConsistent.mono _ _ _|exact impl_LatestTimes.mono _ _ _|exact impl_WindowOf.mono _ _ _ _|exact spec_MakeSimple.mono _ _|exact spec_MakeTimes.mono _ _ _ _|exact lR _|exact lN _|refine lI ?_ ?_|refine lB ?_ (fun _ => ?_))|exact ih0 _ _ _ _ _ _|exact ih1 _ _ _ _ _ _ _ _|exact impl_ConflictOf.mono _ _ _|exact impl_EarliestTimes.mono _ _ _|exact impl_IsConsistent.mono _ _ _|exact impl_LatestTimes.mono _ _ _|exact impl_WindowOf.mono _ _ _ _|exact spec_MakeSimple.mono _ _|exact spec_MakeTimes.mono _ _ _ _|exact lN _|refine lI ?_ ?_|refine lB ?_ (fun _ => ?_)
    · intro y0 y1 y2 y3 y4 y5 y6 y7
      unfold laws_FnSchedules.l0
      repeat' first|(with_reducible first|exact ih0 _ _ _ _ _ _|exact ih1 _ _ _ _ _ _ _ _|exact impl_ConflictOf.mono _ _ _|exact impl_EarliestTimes.mono _ _ _|exact impl_IsConsistent.mono _ _ _|exact impl_LatestTimes.mono _ _ _|exact impl_WindowOf.mono _ _ _ _|exact spec_MakeSimple.mono _ _|exact spec_MakeTimes.mono _ _ _ _|exact lR _|exact lN _|refine lI ?_ ?_|refine lB ?_ (fun _ => ?_))|exact ih0 _ _ _ _ _ _|exact ih1 _ _ _ _ _ _ _ _|exact impl_ConflictOf.mono _ _ _|exact impl_EarliestTimes.mono _ _ _|exact impl_IsConsistent.mono _ _ _|exact impl_LatestTimes.mono _ _ _|exact impl_WindowOf.mono _ _ _ _|exact spec_MakeSimple.mono _ _|exact spec_MakeTimes.mono _ _ _ _|exact lN _|refine lI ?_ ?_|refine lB ?_ (fun _ => ?_)
theorem laws_FnSchedules.mono : ∀ a0 k, LeO (laws_FnSchedules.f k a0) (laws_FnSchedules.f (k + 1) a0) := by
  intro a0 k
  obtain ⟨ih0, ih1⟩ := laws_FnSchedules.mono_l k
  unfold laws_FnSchedules.f
  repeat' first|(with_reducible first|exact ih0 _ _ _ _ _ _|exact ih1 _ _ _ _ _ _ _ _|exact impl_ConflictOf.mono _ _ _|exact impl_EarliestTimes.mono _ _ _|exact impl_IsConsistent.mono _ _ _|exact impl_LatestTimes.mono _ _ _|exact impl_WindowOf.mono _ _ _ _|exact spec_MakeSimple.mono _ _|exact spec_MakeTimes.mono _ _ _ _|exact lR _|exact lN _|refine lI ?_ ?_|refine lB ?_ (fun _ => ?_))|exact ih0 _ _ _ _ _ _|exact ih1 _ _ _ _ _ _ _ _|exact impl_ConflictOf.mono _ _ _|exact impl_EarliestTimes.mono _ _ _|exact impl_IsConsistent.mono _ _ _|exact impl_LatestTimes.mono _ _ _|exact impl_WindowOf.mono _ _ _ _|exact spec_MakeSimple.mono _ _|exact spec_MakeTimes.mono _ _ _ _|exact lN _|refine lI ?_ ?_|refine lB ?_ (fun _ => ?_)
set_option maxHeartbeats 8000000 in
set_option maxRecDepth 100000 in
theorem laws_FnSchedules.calls (k : Nat) (A0 : Option Addr) (c0 : Nat) (l0 : List Int) (r : Bool) (w : World) (hr0 : Kd.C (Kd.int .u8) w A0 l0.length l0) (hc0 : l0.length ≤ c0) (h : laws_FnSchedules.f k l0 = some r) (hr_ : r = true) :
    Calls Try.prog 11 #[.slice A0 l0.length c0] w fun e w' => e = .returned (.bool r) ∧ Below w.heap.size w w' := by
 have hu47 := Try.underlying47
 have hu52 := Try.underlying52
 have HR0 := mK hr0
 have HC0 := mK hc0
 clear hr0 hc0
 have HB := mK (Below.refl w.heap.size w)
 have H : (if (l0.length : Int) > 1048576 then (some true) else ((spec_MakeSimple.f k l0).bind fun bt350 => ((impl_IsConsistent.f k bt350.1 bt350.2).bind fun t355 => (if t355 = true then ((impl_EarliestTimes.f k bt350.1 bt350.2).bind fun bt364 => ((impl_LatestTimes.f k bt350.1 bt350.2).bind fun bt368 => (if bt364.2 = true then (if bt368.2 = true then (if (bt364.1.length : Int) = bt350.1 then (if (bt368.1.length : Int) = bt350.1 then ((impl_IsSchedule.f bt350.1 bt350.2 bt364.1).bind fun t372 => (if t372 = true then ((impl_IsSchedule.f bt350.1 bt350.2 bt368.1).bind fun t373 => (if t373 = true then ((impl_ConflictOf.f k bt350.1 bt350.2).bind fun t374 => (laws_FnSchedules.j0 k l0 bt364.1 bt368.1 ((t374.length : Int) != 0) bt350.1 bt350.2)) else (laws_FnSchedules.j0 k l0 bt364.1 bt368.1 true bt350.1 bt350.2))) else (laws_FnSchedules.j0 k l0 bt364.1 bt368.1 true bt350.1 bt350.2))) else (laws_FnSchedules.j0 k l0 bt364.1 bt368.1 true bt350.1 bt350.2)) else (laws_FnSchedules.j0 k l0 bt364.1 bt368.1 true bt350.1 bt350.2)) else (laws_FnSchedules.j0 k l0 bt364.1 bt368.1 true bt350.1 bt350.2)) else (laws_FnSchedules.j0 k l0 bt364.1 bt368.1 true bt350.1 bt350.2)))) else ((impl_ConflictOf.f k bt350.1 bt350.2).bind fun t356 => ((impl_EarliestTimes.f k bt350.1 bt350.2).bind fun bt359 => (if (t356.length : Int) > 0 then (if bt359.2 = true then (some false) else ((impl_SimpleOk.f bt350.1 bt350.2).bind fun t363 => (some t363))) else (some false)))))))) = some r := h
 clear h
 by_cases c2 : (l0.length : Int) > 1048576
 {
 rw [if_pos c2] at H
 have c2b0 : decide (1048576 < (l0.length : Int)) = true := decide_eq_true c2
 have c2b1 : decide (1048576 < l0.length) = true := decide_eq_true (by omega)
 clear c2
 obtain rfl := Option.some.inj H
 clear hr_
 go_enter Try.func11, Try.ntmps11
 go_wp2
 go_ret
 exact ⟨by first | rfl | (simp [errW_none, errW_some] <;> rfl) | (simp [*, errW_none, errW_some] <;> rfl), bX HB⟩
 }
 rw [if_neg c2] at H
 have c2b0 : decide (1048576 < (l0.length : Int)) = false := decide_eq_false c2
 have c2b1 : decide (1048576 < l0.length) = false := decide_eq_false (by omega)
 clear c2
 replace H := Option.bind_eq_some_iff.mp H
 obtain ⟨⟨t350, t351⟩, A30, H⟩ := H
 replace H : ((impl_IsConsistent.f k t350 t351).bind fun t355 => (if t355 = true then ((impl_EarliestTimes.f k t350 t351).bind fun bt364 => ((impl_LatestTimes.f k t350 t351).bind fun bt368 => (if bt364.2 = true then (if bt368.2 = true then (if (bt364.1.length : Int) = t350 then (if (bt368.1.length : Int) = t350 then ((impl_IsSchedule.f t350 t351 bt364.1).bind fun t372 => (if t372 = true then ((impl_IsSchedule.f t350 t351 bt368.1).bind fun t373 => (if t373 = true then ((impl_ConflictOf.f k t350 t351).bind fun t374 => (laws_FnSchedules.j0 k l0 bt364.1 bt368.1 ((t374.length : Int) != 0) t350 t351)) else (laws_FnSchedules.j0 k l0 bt364.1 bt368.1 true t350 t351))) else (laws_FnSchedules.j0 k l0 bt364.1 bt368.1 true t350 t351))) else (laws_FnSchedules.j0 k l0 bt364.1 bt368.1 true t350 t351)) else (laws_FnSchedules.j0 k l0 bt364.1 bt368.1 true t350 t351)) else (laws_FnSchedules.j0 k l0 bt364.1 bt368.1 true t350 t351)) else (laws_FnSchedules.j0 k l0 bt364.1 bt368.1 true t350 t351)))) else ((impl_ConflictOf.f k t350 t351).bind fun t356 => ((impl_EarliestTimes.f k t350 t351).bind fun bt359 => (if (t356.length : Int) > 0 then (if bt359.2 = true then (some false) else ((impl_SimpleOk.f t350 t351).bind fun t363 => (some t363))) else (some false)))))) = some r := H
 have A3 := mK A30
 clear A30
 replace H := Option.bind_eq_some_iff.mp H
 obtain ⟨t355, A40, H⟩ := H
 replace H : (if t355 = true then ((impl_EarliestTimes.f k t350 t351).bind fun bt364 => ((impl_LatestTimes.f k t350 t351).bind fun bt368 => (if bt364.2 = true then (if bt368.2 = true then (if (bt364.1.length : Int) = t350 then (if (bt368.1.length : Int) = t350 then ((impl_IsSchedule.f t350 t351 bt364.1).bind fun t372 => (if t372 = true then ((impl_IsSchedule.f t350 t351 bt368.1).bind fun t373 => (if t373 = true then ((impl_ConflictOf.f k t350 t351).bind fun t374 => (laws_FnSchedules.j0 k l0 bt364.1 bt368.1 ((t374.length : Int) != 0) t350 t351)) else (laws_FnSchedules.j0 k l0 bt364.1 bt368.1 true t350 t351))) else (laws_FnSchedules.j0 k l0 bt364.1 bt368.1 true t350 t351))) else (laws_FnSchedules.j0 k l0 bt364.1 bt368.1 true t350 t351)) else (laws_FnSchedules.j0 k l0 bt364.1 bt368.1 true t350 t351)) else (laws_FnSchedules.j0 k l0 bt364.1 bt368.1 true t350 t351)) else (laws_FnSchedules.j0 k l0 bt364.1 bt368.1 true t350 t351)))) else ((impl_ConflictOf.f k t350 t351).bind fun t356 => ((impl_EarliestTimes.f k t350 t351).bind fun bt359 => (if (t356.length : Int) > 0 then (if bt359.2 = true then (some false) else ((impl_SimpleOk.f t350 t351).bind fun t363 => (some t363))) else (some false))))) = some r := H
 have A4 := mK A40
 clear A40
 by_cases c5 : t355 = true
 rotate_left
 {
 replace c5 := Bool.eq_false_iff.mpr c5
 subst c5
 rw [if_neg (show ¬ (false = true) by decide)] at H
 replace H := Option.bind_eq_some_iff.mp H
 obtain ⟨t356, A750, H⟩ := H
 replace H : ((impl_EarliestTimes.f k t350 t351).bind fun bt359 => (if (t356.length : Int) > 0 then (if bt359.2 = true then (some false) else ((impl_SimpleOk.f t350 t351).bind fun t363 => (some t363))) else (some false))) = some r := H
 have A75 := mK A750
 clear A750
 replace H := Option.bind_eq_some_iff.mp H
 obtain ⟨⟨t359, t362⟩, A760, H⟩ := H
 replace H : (if (t356.length : Int) > 0 then (if t362 = true then (some false) else ((impl_SimpleOk.f t350 t351).bind fun t363 => (some t363))) else (some false)) = some r := H
 have A76 := mK A760
 clear A760
 by_cases c77 : (t356.length : Int) > 0
 rotate_left
 {
 rw [if_neg c77] at H
 have c77b0 : decide (0 < (t356.length : Int)) = false := decide_eq_false c77
 have c77b1 : decide (0 < t356.length) = false := decide_eq_false (by omega)
 clear c77
 obtain rfl := Option.some.inj H
 exact absurd hr_ (by decide)
 }
 rw [if_pos c77] at H
 have c77b0 : decide (0 < (t356.length : Int)) = true := decide_eq_true c77
 have c77b1 : decide (0 < t356.length) = true := decide_eq_true (by omega)
 clear c77
 by_cases c78 : t362 = true
 {
 subst c78
 rw [if_pos rfl] at H
 obtain rfl := Option.some.inj H
 exact absurd hr_ (by decide)
 }
 replace c78 := Bool.eq_false_iff.mpr c78
 subst c78
 rw [if_neg (show ¬ (false = true) by decide)] at H
 replace H := Option.bind_eq_some_iff.mp H
 obtain ⟨t363, A790, H⟩ := H
 replace H : (some t363) = some r := H
 have A79 := mK A790
 clear A790
 obtain rfl := Option.some.inj H
 clear hr_
 go_enter Try.func11, Try.ntmps11
 go_wp2_with (first | ((with_reducible refine gate_callee (f := 46) rfl ?_); refine gsE (some 20) Try.func46 #[.slice A0 l0.length c0] ?_; (with_reducible refine (spec_MakeSimple.calls k _ _ l0 t350 t351 _ ?side1 ?side2 A3.out).mono ?_); (case side1 => repeat (first | exact HR0.out | (with_reducible refine Kd.C_alloc ?_ _) | (with_reducible refine Kd.C_drewN ?_ _) | (with_reducible refine Kd.C_drew ?_))); (case side2 => exact HC0.out); rintro e w80 ⟨v352, rfl, ho0, hb⟩; refine ⟨_, rfl, ?_⟩; have HO353 := mK (Kd.R_lower ho0 (below_size (bX HB))); replace HB := bB HB hb; (try clear hb); (try clear hb2); (try clear hk); (try clear hi); (try clear ho0)) | ((with_reducible refine gate_dst (N := 3) rfl ?_); (try (refine gate_guard (by rfl) ?_; dsimp only)); refine box_event ?hg (N := 3) ?hd (cs := #[.int .i64 0, .slice none 0 0]) (t := 47) ?hr ?_; (case hd => rfl); (case hg => rfl); (case hr => go_simp <;> rfl); intro gb354 hg w81 hbox hb; replace HO353 := mK (Kd.R_below (rX HO353) hb); have BK354 := mK hbox; have GW354 := mK (gX hg HB); have GE354 := mK (gX hg HB); replace HB := bB HB hb; clear hb hbox hg; have hcz82_0 := q0 BK354; have hcz82_1 := q1 BK354; have hfz82_0 := fX BK354 0; have hfz82_1 := fX BK354 1; obtain ⟨Ao83, co83, eo83⟩ := Kd.R_slice HO353.out; subst eo83) | ((with_reducible refine gate_callee (f := 24) rfl ?_); refine gsE (some 22) Try.func24 #[.agg #[.int .i64 t350, .slice Ao83 t351.length co83]] ?_; (with_reducible refine (impl_IsConsistent.calls k t350 _ _ t351 false _ ?side1 ?side2 A4.out).mono ?_); (case side1 => refine (Kd.R_reads' (e := 76) (base := w.heap.size) (ok := fun k_ => True) (n := t351.length) (c := co83) ?_).2.2; exact (rF2 HO353 BK354)); (case side2 => exact (Kd.R_reads' HO353.out).2.1); rintro e w84 ⟨rfl, hb⟩; refine ⟨_, rfl, ?_⟩; have n0_ := mK (Kd.R_below (rF2 HO353 BK354) hb); have n1_ := mK (blk_below (g := gb354) (o := .cells #[.int .i64 t350, .slice Ao83 t351.length co83] 47 (0, 0)) (kP2 BK354) hb); have n2_ := bB HB hb; clear HO353; clear BK354; clear HB; have HO353 := n0_; have BK354 := n1_; have HB := n2_; clear n0_ n1_ n2_; (try clear hb); (try clear hb2); (try clear hk); (try clear hi); have hcz85_0 := q0 BK354; have hcz85_1 := q1 BK354; have hfz85_0 := fX BK354 0; have hfz85_1 := fX BK354 1) | ((with_reducible refine gate_callee (f := 48) rfl ?_); refine gsE (some 25) Try.func48 #[.agg #[.int .i64 t350, .slice Ao83 t351.length co83]] ?_; (with_reducible refine (impl_ConflictOf.calls k t350 _ _ t351 t356 _ ?side1 ?side2 A75.out).mono ?_); (case side1 => repeat (first | exact (Kd.R_reads' HO353.out).2.2 | (with_reducible refine Kd.C_alloc ?_ _) | (with_reducible refine Kd.C_drewN ?_ _) | (with_reducible refine Kd.C_drew ?_))); (case side2 => exact (Kd.R_reads' HO353.out).2.1); rintro e w86 ⟨v357, rfl, ho0, hb⟩; refine ⟨_, rfl, ?_⟩; replace HO353 := mK (Kd.R_below (rX HO353) hb); have HO358 := mK (Kd.R_lower ho0 (below_size (bX HB))); replace BK354 := kB BK354 hb; replace HB := bB HB hb; (try clear hb); (try clear hb2); (try clear hk); (try clear hi); (try clear ho0); have hcz87_0 := q0 BK354; have hcz87_1 := q1 BK354; have hfz87_0 := fX BK354 0; have hfz87_1 := fX BK354 1) | ((with_reducible refine gate_callee (f := 30) rfl ?_); refine gsE (some 28) Try.func30 #[.agg #[.int .i64 t350, .slice Ao83 t351.length co83]] ?_; (with_reducible refine (impl_EarliestTimes.calls k t350 _ _ t351 t359 false _ ?side1 ?side2 A76.out).mono ?_); (case side1 => repeat (first | exact (Kd.R_reads' HO353.out).2.2 | (with_reducible refine Kd.C_alloc ?_ _) | (with_reducible refine Kd.C_drewN ?_ _) | (with_reducible refine Kd.C_drew ?_))); (case side2 => exact (Kd.R_reads' HO353.out).2.1); rintro e w88 ⟨v360, rfl, ho0, hb⟩; refine ⟨_, rfl, ?_⟩; replace HO353 := mK (Kd.R_below (rX HO353) hb); have HO361 := mK (Kd.R_lower (Kd.R_new' ho0 (Kd.R_lt (rX HO358))) (below_size (bX HB))); replace HO358 := mK (Kd.R_elder' (rX HO358) (Kd.R_base ho0) hb); replace BK354 := kB BK354 hb; replace HB := bB HB hb; (try clear hb); (try clear hb2); (try clear hk); (try clear hi); (try clear ho0); obtain ⟨Ao89, co89, eo89⟩ := Kd.R_slice HO358.out; subst eo89; have hcz90_0 := q0 BK354; have hcz90_1 := q1 BK354; have hfz90_0 := fX BK354 0; have hfz90_1 := fX BK354 1) | (go_at_call 49; (with_reducible refine (impl_SimpleOk.calls t350 _ _ t351 t363 _ ?side1 ?side2 A79.out).mono ?_); (case side1 => repeat (first | exact (Kd.R_reads' HO353.out).2.2 | (with_reducible refine Kd.C_alloc ?_ _) | (with_reducible refine Kd.C_drewN ?_ _) | (with_reducible refine Kd.C_drew ?_))); (case side2 => exact (Kd.R_reads' HO353.out).2.1); rintro e w91 ⟨rfl, hb⟩; replace HO353 := mK (Kd.R_below (rX HO353) hb); replace HO358 := mK (Kd.R_below (rX HO358) hb); replace HO361 := mK (Kd.R_below (rX HO361) hb); replace BK354 := kB BK354 hb; replace HB := bB HB hb; (try clear hb); (try clear hb2); (try clear hk); (try clear hi)))
 go_ret
 exact ⟨by first | rfl | (simp [errW_none, errW_some] <;> rfl) | (simp [*, errW_none, errW_some] <;> rfl), bX HB⟩
 }
 subst c5
 rw [if_pos rfl] at H
 replace H := Option.bind_eq_some_iff.mp H
 obtain ⟨⟨t364, t367⟩, A60, H⟩ := H
 replace H : ((impl_LatestTimes.f k t350 t351).bind fun bt368 => (if t367 = true then (if bt368.2 = true then (if (t364.length : Int) = t350 then (if (bt368.1.length : Int) = t350 then ((impl_IsSchedule.f t350 t351 t364).bind fun t372 => (if t372 = true then ((impl_IsSchedule.f t350 t351 bt368.1).bind fun t373 => (if t373 = true then ((impl_ConflictOf.f k t350 t351).bind fun t374 => (laws_FnSchedules.j0 k l0 t364 bt368.1 ((t374.length : Int) != 0) t350 t351)) else (laws_FnSchedules.j0 k l0 t364 bt368.1 true t350 t351))) else (laws_FnSchedules.j0 k l0 t364 bt368.1 true t350 t351))) else (laws_FnSchedules.j0 k l0 t364 bt368.1 true t350 t351)) else (laws_FnSchedules.j0 k l0 t364 bt368.1 true t350 t351)) else (laws_FnSchedules.j0 k l0 t364 bt368.1 true t350 t351)) else (laws_FnSchedules.j0 k l0 t364 bt368.1 true t350 t351))) = some r := H
 have A6 := mK A60
 clear A60
 replace H := Option.bind_eq_some_iff.mp H
 obtain ⟨⟨t368, t371⟩, A70, H⟩ := H
 replace H : (if t367 = true then (if t371 = true then (if (t364.length : Int) = t350 then (if (t368.length : Int) = t350 then ((impl_IsSchedule.f t350 t351 t364).bind fun t372 => (if t372 = true then ((impl_IsSchedule.f t350 t351 t368).bind fun t373 => (if t373 = true then ((impl_ConflictOf.f k t350 t351).bind fun t374 => (laws_FnSchedules.j0 k l0 t364 t368 ((t374.length : Int) != 0) t350 t351)) else (laws_FnSchedules.j0 k l0 t364 t368 true t350 t351))) else (laws_FnSchedules.j0 k l0 t364 t368 true t350 t351))) else (laws_FnSchedules.j0 k l0 t364 t368 true t350 t351)) else (laws_FnSchedules.j0 k l0 t364 t368 true t350 t351)) else (laws_FnSchedules.j0 k l0 t364 t368 true t350 t351)) else (laws_FnSchedules.j0 k l0 t364 t368 true t350 t351)) = some r := H
 have A7 := mK A70
 clear A70
 have HC8 := mK H
 clear H
 go_enter Try.func11, Try.ntmps11
 go_upto_region 10 with (first | ((with_reducible refine gate_callee (f := 46) rfl ?_); refine gsE (some 20) Try.func46 #[.slice A0 l0.length c0] ?_; (with_reducible refine (spec_MakeSimple.calls k _ _ l0 t350 t351 _ ?side1 ?side2 A3.out).mono ?_); (case side1 => repeat (first | exact HR0.out | (with_reducible refine Kd.C_alloc ?_ _) | (with_reducible refine Kd.C_drewN ?_ _) | (with_reducible refine Kd.C_drew ?_))); (case side2 => exact HC0.out); rintro e w9 ⟨v352, rfl, ho0, hb⟩; refine ⟨_, rfl, ?_⟩; have HO353 := mK (Kd.R_lower ho0 (below_size (bX HB))); replace HB := bB HB hb; (try clear hb); (try clear hb2); (try clear hk); (try clear hi); (try clear ho0)) | ((with_reducible refine gate_dst (N := 3) rfl ?_); (try (refine gate_guard (by rfl) ?_; dsimp only)); refine box_event ?hg (N := 3) ?hd (cs := #[.int .i64 0, .slice none 0 0]) (t := 47) ?hr ?_; (case hd => rfl); (case hg => rfl); (case hr => go_simp <;> rfl); intro gb354 hg w10 hbox hb; replace HO353 := mK (Kd.R_below (rX HO353) hb); have BK354 := mK hbox; have GW354 := mK (gX hg HB); have GE354 := mK (gX hg HB); replace HB := bB HB hb; clear hb hbox hg; have hcz11_0 := q0 BK354; have hcz11_1 := q1 BK354; have hfz11_0 := fX BK354 0; have hfz11_1 := fX BK354 1; obtain ⟨Ao12, co12, eo12⟩ := Kd.R_slice HO353.out; subst eo12) | ((with_reducible refine gate_callee (f := 24) rfl ?_); refine gsE (some 22) Try.func24 #[.agg #[.int .i64 t350, .slice Ao12 t351.length co12]] ?_; (with_reducible refine (impl_IsConsistent.calls k t350 _ _ t351 true _ ?side1 ?side2 A4.out).mono ?_); (case side1 => refine (Kd.R_reads' (e := 76) (base := w.heap.size) (ok := fun k_ => True) (n := t351.length) (c := co12) ?_).2.2; exact (rF2 HO353 BK354)); (case side2 => exact (Kd.R_reads' HO353.out).2.1); rintro e w13 ⟨rfl, hb⟩; refine ⟨_, rfl, ?_⟩; have n0_ := mK (Kd.R_below (rF2 HO353 BK354) hb); have n1_ := mK (blk_below (g := gb354) (o := .cells #[.int .i64 t350, .slice Ao12 t351.length co12] 47 (0, 0)) (kP2 BK354) hb); have n2_ := bB HB hb; clear HO353; clear BK354; clear HB; have HO353 := n0_; have BK354 := n1_; have HB := n2_; clear n0_ n1_ n2_; (try clear hb); (try clear hb2); (try clear hk); (try clear hi); have hcz14_0 := q0 BK354; have hcz14_1 := q1 BK354; have hfz14_0 := fX BK354 0; have hfz14_1 := fX BK354 1) | ((with_reducible refine gate_callee (f := 30) rfl ?_); refine gsE (some 44) Try.func30 #[.agg #[.int .i64 t350, .slice Ao12 t351.length co12]] ?_; (with_reducible refine (impl_EarliestTimes.calls k t350 _ _ t351 t364 t367 _ ?side1 ?side2 A6.out).mono ?_); (case side1 => repeat (first | exact (Kd.R_reads' HO353.out).2.2 | (with_reducible refine Kd.C_alloc ?_ _) | (with_reducible refine Kd.C_drewN ?_ _) | (with_reducible refine Kd.C_drew ?_))); (case side2 => exact (Kd.R_reads' HO353.out).2.1); rintro e w15 ⟨v365, rfl, ho0, hb⟩; refine ⟨_, rfl, ?_⟩; replace HO353 := mK (Kd.R_below (rX HO353) hb); have HO366 := mK (Kd.R_lower ho0 (below_size (bX HB))); replace BK354 := kB BK354 hb; replace HB := bB HB hb; (try clear hb); (try clear hb2); (try clear hk); (try clear hi); (try clear ho0); have hcz16_0 := q0 BK354; have hcz16_1 := q1 BK354; have hfz16_0 := fX BK354 0; have hfz16_1 := fX BK354 1) | ((with_reducible refine gate_callee (f := 36) rfl ?_); refine gsE (some 49) Try.func36 #[.agg #[.int .i64 t350, .slice Ao12 t351.length co12]] ?_; (with_reducible refine (impl_LatestTimes.calls k t350 _ _ t351 t368 t371 _ ?side1 ?side2 A7.out).mono ?_); (case side1 => repeat (first | exact (Kd.R_reads' HO353.out).2.2 | (with_reducible refine Kd.C_alloc ?_ _) | (with_reducible refine Kd.C_drewN ?_ _) | (with_reducible refine Kd.C_drew ?_))); (case side2 => exact (Kd.R_reads' HO353.out).2.1); rintro e w17 ⟨v369, rfl, ho0, hb⟩; refine ⟨_, rfl, ?_⟩; replace HO353 := mK (Kd.R_below (rX HO353) hb); have HO370 := mK (Kd.R_lower (Kd.R_new' ho0 (Kd.R_lt (rX HO366))) (below_size (bX HB))); replace HO366 := mK (Kd.R_elder' (rX HO366) (Kd.R_base ho0) hb); replace BK354 := kB BK354 hb; replace HB := bB HB hb; (try clear hb); (try clear hb2); (try clear hk); (try clear hi); (try clear ho0)))
 (try simp only [Act.put, sT, sZ, sU])
 go_cut [89] (fun v89 wc => ∃ (kq : Nat) (x89_7 : Bool), v89 = .bool x89_7 ∧ Aside0 (laws_FnSchedules.j0 kq l0 t364 t368 x89_7 t350 t351 = some r) ∧ Aside0 (kq ≤ k) ∧ Aside0 (Kd.R (Kd.int .i64) 3 wc w.heap.size (fun k_ => some k_ ≠ (v369 : Value).ownBlock) v365 t364) ∧ Aside0 (Kd.R (Kd.int .i64) 3 wc w.heap.size (fun k_ => some k_ ≠ (v365 : Value).ownBlock) v369 t368) ∧ Aside0 (Kd.R k76 76 wc w.heap.size (fun _ => True) (.slice Ao12 t351.length co12) t351) ∧ Aside0 (wc.heap[gb354]? = some (.cells #[.int .i64 t350, (.slice Ao12 t351.length co12)] 47 (0, 0))) ∧ Aside0 (Below w.heap.size w wc))
 case first => (
 have H := HC8.out
 clear HC8
 by_cases c18 : t367 = true
 rotate_left
 {
 replace c18 := Bool.eq_false_iff.mpr c18
 subst c18
 rw [if_neg (show ¬ (false = true) by decide)] at H
 subst hr_
 exact absurd H (by cases k <;> simp [laws_FnSchedules.j0])
 }
 subst c18
 rw [if_pos rfl] at H
 by_cases c19 : t371 = true
 rotate_left
 {
 replace c19 := Bool.eq_false_iff.mpr c19
 subst c19
 rw [if_neg (show ¬ (false = true) by decide)] at H
 subst hr_
 exact absurd H (by cases k <;> simp [laws_FnSchedules.j0])
 }
 subst c19
 rw [if_pos rfl] at H
 by_cases c20 : (t364.length : Int) = t350
 rotate_left
 {
 rw [if_neg c20] at H
 have c20b0 : ((t364.length : Int) == t350) = false := beq_eq_false_iff_ne.mpr c20
 have c20b1 : ((t364.length : Int) != t350) = true := bne_iff_ne.mpr c20
 (first | rw [c20b0] | (simp only [i64_w, i32_w]; rw [c20b0]) | skip)
 subst hr_
 exact absurd H (by cases k <;> simp [laws_FnSchedules.j0])
 }
 rw [if_pos c20] at H
 have c20b0 : ((t364.length : Int) == t350) = true := beq_iff_eq.mpr c20
 have c20b1 : ((t364.length : Int) != t350) = false := bne_eq_false_iff_eq.mpr c20
 clear c20
 (first | rw [c20b0] | (simp only [i64_w, i32_w]; rw [c20b0]) | skip)
 by_cases c21 : (t368.length : Int) = t350
 rotate_left
 {
 rw [if_neg c21] at H
 have c21b0 : ((t368.length : Int) == t350) = false := beq_eq_false_iff_ne.mpr c21
 have c21b1 : ((t368.length : Int) != t350) = true := bne_iff_ne.mpr c21
 subst hr_
 exact absurd H (by cases k <;> simp [laws_FnSchedules.j0])
 }
 rw [if_pos c21] at H
 have c21b0 : ((t368.length : Int) == t350) = true := beq_iff_eq.mpr c21
 have c21b1 : ((t368.length : Int) != t350) = false := bne_eq_false_iff_eq.mpr c21
 clear c21
 replace H := Option.bind_eq_some_iff.mp H
 obtain ⟨t372, A220, H⟩ := H
 replace H : (if t372 = true then ((impl_IsSchedule.f t350 t351 t368).bind fun t373 => (if t373 = true then ((impl_ConflictOf.f k t350 t351).bind fun t374 => (laws_FnSchedules.j0 k l0 t364 t368 ((t374.length : Int) != 0) t350 t351)) else (laws_FnSchedules.j0 k l0 t364 t368 true t350 t351))) else (laws_FnSchedules.j0 k l0 t364 t368 true t350 t351)) = some r := H
 have A22 := mK A220
 clear A220
 by_cases c23 : t372 = true
 rotate_left
 {
 replace c23 := Bool.eq_false_iff.mpr c23
 subst c23
 rw [if_neg (show ¬ (false = true) by decide)] at H
 subst hr_
 exact absurd H (by cases k <;> simp [laws_FnSchedules.j0])
 }
 subst c23
 rw [if_pos rfl] at H
 replace H := Option.bind_eq_some_iff.mp H
 obtain ⟨t373, A240, H⟩ := H
 replace H : (if t373 = true then ((impl_ConflictOf.f k t350 t351).bind fun t374 => (laws_FnSchedules.j0 k l0 t364 t368 ((t374.length : Int) != 0) t350 t351)) else (laws_FnSchedules.j0 k l0 t364 t368 true t350 t351)) = some r := H
 have A24 := mK A240
 clear A240
 by_cases c25 : t373 = true
 rotate_left
 {
 replace c25 := Bool.eq_false_iff.mpr c25
 subst c25
 rw [if_neg (show ¬ (false = true) by decide)] at H
 subst hr_
 exact absurd H (by cases k <;> simp [laws_FnSchedules.j0])
 }
 subst c25
 rw [if_pos rfl] at H
 replace H := Option.bind_eq_some_iff.mp H
 obtain ⟨t374, A260, H⟩ := H
 replace H : (laws_FnSchedules.j0 k l0 t364 t368 ((t374.length : Int) != 0) t350 t351) = some r := H
 have A26 := mK A260
 clear A260
 have H' := mK H
 clear H
 obtain ⟨Ao27, co27, eo27⟩ := Kd.R_slice HO366.out
 subst eo27
 have hcz28_0 := q0 BK354
 have hcz28_1 := q1 BK354
 have hfz28_0 := fX BK354 0
 have hfz28_1 := fX BK354 1
 obtain ⟨Ao29, co29, eo29⟩ := Kd.R_slice HO370.out
 subst eo29
 go_wp2_with (first | (go_at_call 50; (with_reducible refine (impl_IsSchedule.calls t350 _ _ t351 _ _ t364 true _ ?side1 ?side2 ?side3 ?side4 A22.out).mono ?_); (case side1 => repeat (first | exact (Kd.R_reads' HO353.out).2.2 | (with_reducible refine Kd.C_alloc ?_ _) | (with_reducible refine Kd.C_drewN ?_ _) | (with_reducible refine Kd.C_drew ?_))); (case side2 => exact (Kd.R_reads' HO353.out).2.1); (case side3 => repeat (first | exact (Kd.R_reads' HO366.out).2.2 | (with_reducible refine Kd.C_alloc ?_ _) | (with_reducible refine Kd.C_drewN ?_ _) | (with_reducible refine Kd.C_drew ?_))); (case side4 => exact (Kd.R_reads' HO366.out).2.1); rintro e w30 ⟨rfl, hb⟩; replace HO353 := mK (Kd.R_below (rX HO353) hb); replace HO366 := mK (Kd.R_below (rX HO366) hb); replace HO370 := mK (Kd.R_below (rX HO370) hb); replace BK354 := kB BK354 hb; replace HB := bB HB hb; (try clear hb); (try clear hb2); (try clear hk); (try clear hi); have hcz31_0 := q0 BK354; have hcz31_1 := q1 BK354; have hfz31_0 := fX BK354 0; have hfz31_1 := fX BK354 1) | (go_at_call 50; (with_reducible refine (impl_IsSchedule.calls t350 _ _ t351 _ _ t368 true _ ?side1 ?side2 ?side3 ?side4 A24.out).mono ?_); (case side1 => repeat (first | exact (Kd.R_reads' HO353.out).2.2 | (with_reducible refine Kd.C_alloc ?_ _) | (with_reducible refine Kd.C_drewN ?_ _) | (with_reducible refine Kd.C_drew ?_))); (case side2 => exact (Kd.R_reads' HO353.out).2.1); (case side3 => repeat (first | exact (Kd.R_reads' HO370.out).2.2 | (with_reducible refine Kd.C_alloc ?_ _) | (with_reducible refine Kd.C_drewN ?_ _) | (with_reducible refine Kd.C_drew ?_))); (case side4 => exact (Kd.R_reads' HO370.out).2.1); rintro e w32 ⟨rfl, hb⟩; replace HO353 := mK (Kd.R_below (rX HO353) hb); replace HO366 := mK (Kd.R_below (rX HO366) hb); replace HO370 := mK (Kd.R_below (rX HO370) hb); replace BK354 := kB BK354 hb; replace HB := bB HB hb; (try clear hb); (try clear hb2); (try clear hk); (try clear hi); have hcz33_0 := q0 BK354; have hcz33_1 := q1 BK354; have hfz33_0 := fX BK354 0; have hfz33_1 := fX BK354 1) | (go_at_call 48; (with_reducible refine (impl_ConflictOf.calls k t350 _ _ t351 t374 _ ?side1 ?side2 A26.out).mono ?_); (case side1 => repeat (first | exact (Kd.R_reads' HO353.out).2.2 | (with_reducible refine Kd.C_alloc ?_ _) | (with_reducible refine Kd.C_drewN ?_ _) | (with_reducible refine Kd.C_drew ?_))); (case side2 => exact (Kd.R_reads' HO353.out).2.1); rintro e w34 ⟨v375, rfl, ho0, hb⟩; replace HO353 := mK (Kd.R_below (rX HO353) hb); have HO376 := mK (Kd.R_lower (Kd.R_new' (Kd.R_new' ho0 (Kd.R_lt (rX HO366))) (Kd.R_lt (rX HO370))) (below_size (bX HB))); replace HO366 := mK (Kd.R_elder' (rX HO366) (Kd.R_base ho0) hb); replace HO370 := mK (Kd.R_elder' (rX HO370) (Kd.R_base ho0) hb); replace BK354 := kB BK354 hb; replace HB := bB HB hb; (try clear hb); (try clear hb2); (try clear hk); (try clear hi); (try clear ho0); obtain ⟨Ao35, co35, eo35⟩ := Kd.R_slice HO376.out; subst eo35))
 go_meet
 case rel => exact ⟨_, (((t374.length : Int) != 0)), (by first | rfl | (simp; done) | (simp [*]; done)), H', ⟨by first | omega | exact Nat.le_refl _⟩, ⟨by (with_reducible repeat first|apply rA|apply rN|apply rD); exact Kd.R_mono HO366.out (fun _ hk => hk.1.2)⟩, ⟨by (with_reducible repeat first|apply rA|apply rN|apply rD); exact Kd.R_mono HO370.out (fun _ hk => hk.1.2)⟩, ⟨rX HO353⟩, ⟨kX BK354⟩, ⟨bX HB⟩⟩
 )
 case rest => (
 clear HC8
 try clear c1
 try clear c2
 try clear c2b0
 try clear c2b1
 try clear p2
 try clear c3
 try clear c4
 try clear c5
 try clear c11
 try clear c18
 try clear c19
 try clear c20
 try clear c20b0
 try clear c20b1
 try clear c21
 try clear c21b0
 try clear c21b1
 try clear c23
 try clear c24
 try clear c25
 try clear c30
 try clear hcz11_0
 try clear hcz11_1
 try clear hcz14_0
 try clear hcz14_1
 try clear hcz16_0
 try clear hcz16_1
 try clear hcz28_0
 try clear hcz28_1
 try clear hcz31_0
 try clear hcz31_1
 try clear hcz33_0
 try clear hcz33_1
 try clear hfz11_0
 try clear hfz11_1
 try clear hfz14_0
 try clear hfz14_1
 try clear hfz16_0
 try clear hfz16_1
 try clear hfz28_0
 try clear hfz28_1
 try clear hfz31_0
 try clear hfz31_1
 try clear hfz33_0
 try clear hfz33_1
 obtain ⟨kq, x89_7, rfl, HA, HJ7, HO_7, HO_9, HO_355001, BK354, HB⟩ := hcut
 cases kq with
 | zero => exact absurd HA.out (by simp [laws_FnSchedules.j0])
 | succ kj7 => (
 have H := HA.out
 clear HA
 simp only [laws_FnSchedules.j0] at H
 by_cases c36 : x89_7 = true
 {
 subst c36
 rw [if_pos rfl] at H
 obtain rfl := Option.some.inj H
 exact absurd hr_ (by decide)
 }
 replace c36 := Bool.eq_false_iff.mpr c36
 subst c36
 rw [if_neg (show ¬ (false = true) by decide)] at H
 replace H := Option.bind_eq_some_iff.mp H
 obtain ⟨t377, A370, H⟩ := H
 replace H : ((impl_IsSchedule.f t350 t351 t377).bind fun t380 => (if t380 = true then (laws_FnSchedules.l0 kj7 t364 t368 t377 t377 (t377.length : Int) 0 t350 t351) else ((impl_BrokenLink.f t350 t351 t377).bind fun t381 => (some (decide (t381 ≥ 0)))))) = some r := H
 have A37 := mK A370
 clear A370
 replace H := Option.bind_eq_some_iff.mp H
 obtain ⟨t380, A380, H⟩ := H
 replace H : (if t380 = true then (laws_FnSchedules.l0 kj7 t364 t368 t377 t377 (t377.length : Int) 0 t350 t351) else ((impl_BrokenLink.f t350 t351 t377).bind fun t381 => (some (decide (t381 ≥ 0))))) = some r := H
 have A38 := mK A380
 clear A380
 by_cases c39 : t380 = true
 rotate_left
 {
 replace c39 := Bool.eq_false_iff.mpr c39
 subst c39
 rw [if_neg (show ¬ (false = true) by decide)] at H
 replace H := Option.bind_eq_some_iff.mp H
 obtain ⟨t381, A670, H⟩ := H
 replace H : (some (decide (t381 ≥ 0))) = some r := H
 have A67 := mK A670
 clear A670
 obtain rfl := Option.some.inj H
 clear hr_
 have hcz68_0 := q0 BK354
 have hcz68_1 := q1 BK354
 have hfz68_0 := fX BK354 0
 have hfz68_1 := fX BK354 1
 go_wp2_with (first | ((with_reducible refine gate_callee (f := 51) rfl ?_); refine gsE (some 93) Try.func51 #[.slice A0 l0.length c0, .int .i64 40, .int .i64 t350] ?_; (with_reducible refine (spec_MakeTimes.calls kj7 _ _ l0 40 t350 t377 _ ?side1 ?side2 A37.out).mono ?_); (case side1 => exact cX HR0 HB); (case side2 => exact HC0.out); rintro e w69 ⟨v378, rfl, ho0, hb⟩; refine ⟨_, rfl, ?_⟩; replace HO_355001 := mK (Kd.R_below (rX HO_355001) hb); have HO379 := mK (Kd.R_lower (Kd.R_new' (Kd.R_new' ho0 (Kd.R_lt (rX HO_7))) (Kd.R_lt (rX HO_9))) (below_size (bX HB))); replace HO_7 := mK (Kd.R_elder' (rX HO_7) (Kd.R_base ho0) hb); replace HO_9 := mK (Kd.R_elder' (rX HO_9) (Kd.R_base ho0) hb); replace BK354 := kB BK354 hb; replace HB := bB HB hb; (try clear hb); (try clear hb2); (try clear hk); (try clear hi); (try clear ho0); have hcz70_0 := q0 BK354; have hcz70_1 := q1 BK354; have hfz70_0 := fX BK354 0; have hfz70_1 := fX BK354 1; obtain ⟨Ao71, co71, eo71⟩ := Kd.R_slice HO379.out; subst eo71) | ((with_reducible refine gate_callee (f := 50) rfl ?_); refine gsE (some 96) Try.func50 #[.agg #[.int .i64 t350, .slice Ao12 t351.length co12], .slice Ao71 t377.length co71] ?_; (with_reducible refine (impl_IsSchedule.calls t350 _ _ t351 _ _ t377 false _ ?side1 ?side2 ?side3 ?side4 A38.out).mono ?_); (case side1 => repeat (first | exact (Kd.R_reads' HO_355001.out).2.2 | (with_reducible refine Kd.C_alloc ?_ _) | (with_reducible refine Kd.C_drewN ?_ _) | (with_reducible refine Kd.C_drew ?_))); (case side2 => exact (Kd.R_reads' HO_355001.out).2.1); (case side3 => repeat (first | exact (Kd.R_reads' HO379.out).2.2 | (with_reducible refine Kd.C_alloc ?_ _) | (with_reducible refine Kd.C_drewN ?_ _) | (with_reducible refine Kd.C_drew ?_))); (case side4 => exact (Kd.R_reads' HO379.out).2.1); rintro e w72 ⟨rfl, hb⟩; refine ⟨_, rfl, ?_⟩; replace HO_7 := mK (Kd.R_below (rX HO_7) hb); replace HO_9 := mK (Kd.R_below (rX HO_9) hb); replace HO_355001 := mK (Kd.R_below (rX HO_355001) hb); replace HO379 := mK (Kd.R_below (rX HO379) hb); replace BK354 := kB BK354 hb; replace HB := bB HB hb; (try clear hb); (try clear hb2); (try clear hk); (try clear hi); have hcz73_0 := q0 BK354; have hcz73_1 := q1 BK354; have hfz73_0 := fX BK354 0; have hfz73_1 := fX BK354 1) | ((with_reducible refine gate_callee (f := 52) rfl ?_); refine gsE (some 100) Try.func52 #[.agg #[.int .i64 t350, .slice Ao12 t351.length co12], .slice Ao71 t377.length co71] ?_; (with_reducible refine (impl_BrokenLink.calls t350 _ _ t351 _ _ t377 t381 _ ?side1 ?side2 ?side3 ?side4 A67.out).mono ?_); (case side1 => repeat (first | exact (Kd.R_reads' HO_355001.out).2.2 | (with_reducible refine Kd.C_alloc ?_ _) | (with_reducible refine Kd.C_drewN ?_ _) | (with_reducible refine Kd.C_drew ?_))); (case side2 => exact (Kd.R_reads' HO_355001.out).2.1); (case side3 => repeat (first | exact (Kd.R_reads' HO379.out).2.2 | (with_reducible refine Kd.C_alloc ?_ _) | (with_reducible refine Kd.C_drewN ?_ _) | (with_reducible refine Kd.C_drew ?_))); (case side4 => exact (Kd.R_reads' HO379.out).2.1); rintro e w74 ⟨rfl, hb⟩; refine ⟨_, rfl, ?_⟩; replace HO_7 := mK (Kd.R_below (rX HO_7) hb); replace HO_9 := mK (Kd.R_below (rX HO_9) hb); replace HO_355001 := mK (Kd.R_below (rX HO_355001) hb); replace HO379 := mK (Kd.R_below (rX HO379) hb); replace BK354 := kB BK354 hb; replace HB := bB HB hb; (try clear hb); (try clear hb2); (try clear hk); (try clear hi)))
 go_ret
 exact ⟨by first | rfl | (simp [errW_none, errW_some] <;> rfl) | (simp [*, errW_none, errW_some] <;> rfl), bX HB⟩
 }
 subst c39
 rw [if_pos rfl] at H
 have H' := mK H
 clear H
 have hcz40_0 := q0 BK354
 have hcz40_1 := q1 BK354
 have hfz40_0 := fX BK354 0
 have hfz40_1 := fX BK354 1
 go_wp2_with (first | ((with_reducible refine gate_callee (f := 51) rfl ?_); refine gsE (some 93) Try.func51 #[.slice A0 l0.length c0, .int .i64 40, .int .i64 t350] ?_; (with_reducible refine (spec_MakeTimes.calls kj7 _ _ l0 40 t350 t377 _ ?side1 ?side2 A37.out).mono ?_); (case side1 => exact cX HR0 HB); (case side2 => exact HC0.out); rintro e w41 ⟨v378, rfl, ho0, hb⟩; refine ⟨_, rfl, ?_⟩; replace HO_355001 := mK (Kd.R_below (rX HO_355001) hb); have HO379 := mK (Kd.R_lower (Kd.R_new' (Kd.R_new' ho0 (Kd.R_lt (rX HO_7))) (Kd.R_lt (rX HO_9))) (below_size (bX HB))); replace HO_7 := mK (Kd.R_elder' (rX HO_7) (Kd.R_base ho0) hb); replace HO_9 := mK (Kd.R_elder' (rX HO_9) (Kd.R_base ho0) hb); replace BK354 := kB BK354 hb; replace HB := bB HB hb; (try clear hb); (try clear hb2); (try clear hk); (try clear hi); (try clear ho0); have hcz42_0 := q0 BK354; have hcz42_1 := q1 BK354; have hfz42_0 := fX BK354 0; have hfz42_1 := fX BK354 1; obtain ⟨Ao43, co43, eo43⟩ := Kd.R_slice HO379.out; subst eo43) | ((with_reducible refine gate_callee (f := 50) rfl ?_); refine gsE (some 96) Try.func50 #[.agg #[.int .i64 t350, .slice Ao12 t351.length co12], .slice Ao43 t377.length co43] ?_; (with_reducible refine (impl_IsSchedule.calls t350 _ _ t351 _ _ t377 true _ ?side1 ?side2 ?side3 ?side4 A38.out).mono ?_); (case side1 => repeat (first | exact (Kd.R_reads' HO_355001.out).2.2 | (with_reducible refine Kd.C_alloc ?_ _) | (with_reducible refine Kd.C_drewN ?_ _) | (with_reducible refine Kd.C_drew ?_))); (case side2 => exact (Kd.R_reads' HO_355001.out).2.1); (case side3 => repeat (first | exact (Kd.R_reads' HO379.out).2.2 | (with_reducible refine Kd.C_alloc ?_ _) | (with_reducible refine Kd.C_drewN ?_ _) | (with_reducible refine Kd.C_drew ?_))); (case side4 => exact (Kd.R_reads' HO379.out).2.1); rintro e w44 ⟨rfl, hb⟩; refine ⟨_, rfl, ?_⟩; replace HO_7 := mK (Kd.R_below (rX HO_7) hb); replace HO_9 := mK (Kd.R_below (rX HO_9) hb); replace HO_355001 := mK (Kd.R_below (rX HO_355001) hb); replace HO379 := mK (Kd.R_below (rX HO379) hb); replace BK354 := kB BK354 hb; replace HB := bB HB hb; (try clear hb); (try clear hb2); (try clear hk); (try clear hi)))
 go_loopg [104] kj7 (fun kq v104 w' => ∃ (x104_2 : Int), v104 = .int .i64 x104_2 ∧ Aside0 (laws_FnSchedules.l0 kq t364 t368 t377 t377 (t377.length : Int) x104_2 t350 t351 = some r) ∧ Aside0 (kq ≤ kj7) ∧ Aside0 (Kd.R (Kd.int .i64) 3 w' w.heap.size (fun k_ => some k_ ≠ (v369 : Value).ownBlock ∧ some k_ ≠ ((.slice Ao43 t377.length co43) : Value).ownBlock ∧ some k_ ≠ ((.slice Ao43 t377.length co43) : Value).ownBlock) v365 t364) ∧ Aside0 (Kd.R (Kd.int .i64) 3 w' w.heap.size (fun k_ => some k_ ≠ (v365 : Value).ownBlock ∧ some k_ ≠ ((.slice Ao43 t377.length co43) : Value).ownBlock ∧ some k_ ≠ ((.slice Ao43 t377.length co43) : Value).ownBlock) v369 t368) ∧ Aside0 (Kd.R (Kd.int .i64) 3 w' w.heap.size (fun k_ => some k_ ≠ (v365 : Value).ownBlock ∧ some k_ ≠ (v369 : Value).ownBlock) (.slice Ao43 t377.length co43) t377) ∧ Aside0 (Kd.R (Kd.int .i64) 3 w' w.heap.size (fun k_ => some k_ ≠ (v365 : Value).ownBlock ∧ some k_ ≠ (v369 : Value).ownBlock) (.slice Ao43 t377.length co43) t377) ∧ Aside0 (Kd.R k76 76 w' w.heap.size (fun _ => True) (.slice Ao12 t351.length co12) t351) ∧ Aside0 (w'.heap[gb354]? = some (.cells #[.int .i64 t350, (.slice Ao12 t351.length co12)] 47 (0, 0))) ∧ Aside0 (Below w.heap.size w w'))
 case atStart => exact ⟨(0), (by first | rfl | (simp; done) | (simp [*]; done)), H', ⟨Nat.le_refl _⟩, ⟨by (with_reducible repeat first|apply rA|apply rN|apply rD); exact Kd.R_mono HO_7.out (fun _ hk => ⟨hk.1, ⟨hk.2, hk.2⟩⟩)⟩, ⟨by (with_reducible repeat first|apply rA|apply rN|apply rD); exact Kd.R_mono HO_9.out (fun _ hk => ⟨hk.1, ⟨hk.2, hk.2⟩⟩)⟩, ⟨by (with_reducible repeat first|apply rA|apply rN|apply rD); exact Kd.R_mono HO379.out (fun _ hk => ⟨hk.1.2, hk.2⟩)⟩, ⟨by (with_reducible repeat first|apply rA|apply rN|apply rD); exact Kd.R_mono HO379.out (fun _ hk => ⟨hk.1.2, hk.2⟩)⟩, ⟨rX HO_355001⟩, ⟨kX BK354⟩, ⟨bX HB⟩⟩
 case round => (
 clear H'
 try clear c1
 try clear c2
 try clear c2b0
 try clear c2b1
 try clear p2
 try clear c3
 try clear c4
 try clear c5
 try clear c11
 try clear c18
 try clear c19
 try clear c20
 try clear c20b0
 try clear c20b1
 try clear c21
 try clear c21b0
 try clear c21b1
 try clear c23
 try clear c24
 try clear c25
 try clear c30
 try clear c36
 try clear c39
 try clear hcz11_0
 try clear hcz11_1
 try clear hcz14_0
 try clear hcz14_1
 try clear hcz16_0
 try clear hcz16_1
 try clear hcz28_0
 try clear hcz28_1
 try clear hcz31_0
 try clear hcz31_1
 try clear hcz33_0
 try clear hcz33_1
 try clear hcz40_0
 try clear hcz40_1
 try clear hcz42_0
 try clear hcz42_1
 try clear hfz11_0
 try clear hfz11_1
 try clear hfz14_0
 try clear hfz14_1
 try clear hfz16_0
 try clear hfz16_1
 try clear hfz28_0
 try clear hfz28_1
 try clear hfz31_0
 try clear hfz31_1
 try clear hfz33_0
 try clear hfz33_1
 try clear hfz40_0
 try clear hfz40_1
 try clear hfz42_0
 try clear hfz42_1
 try clear p2
 obtain ⟨x104_2, rfl, HA, HK2, HO_7, HO_9, HO_11, HO_102, HO_355001, BK354, HB⟩ := hrel
 cases gk with
 | zero => exact absurd HA.out (by simp [laws_FnSchedules.l0])
 | succ k2 => (
 have H := HA.out
 clear HA
 simp only [laws_FnSchedules.l0] at H
 by_cases c45 : x104_2 < (t377.length : Int)
 rotate_left
 {
 rw [if_neg c45] at H
 have c45b0 : decide (x104_2 < (t377.length : Int)) = false := decide_eq_false c45
 clear c45
 replace H := Option.bind_eq_some_iff.mp H
 obtain ⟨t382, A640, H⟩ := H
 replace H : (some (t382 == (-1))) = some r := H
 have A64 := mK A640
 clear A640
 obtain rfl := Option.some.inj H
 clear hr_
 have hcz65_0 := q0 BK354
 have hcz65_1 := q1 BK354
 have hfz65_0 := fX BK354 0
 have hfz65_1 := fX BK354 1
 go_wp2_with (first | ((with_reducible refine gate_callee (f := 52) rfl ?_); refine gsE (some 142) Try.func52 #[.agg #[.int .i64 t350, .slice Ao12 t351.length co12], .slice Ao43 t377.length co43] ?_; (with_reducible refine (impl_BrokenLink.calls t350 _ _ t351 _ _ t377 t382 _ ?side1 ?side2 ?side3 ?side4 A64.out).mono ?_); (case side1 => repeat (first | exact (Kd.R_reads' HO_355001.out).2.2 | (with_reducible refine Kd.C_alloc ?_ _) | (with_reducible refine Kd.C_drewN ?_ _) | (with_reducible refine Kd.C_drew ?_))); (case side2 => exact (Kd.R_reads' HO_355001.out).2.1); (case side3 => repeat (first | exact (Kd.R_reads' HO_11.out).2.2 | (with_reducible refine Kd.C_alloc ?_ _) | (with_reducible refine Kd.C_drewN ?_ _) | (with_reducible refine Kd.C_drew ?_))); (case side4 => exact (Kd.R_reads' HO_11.out).2.1); rintro e w66 ⟨rfl, hb⟩; refine ⟨_, rfl, ?_⟩; replace HO_7 := mK (Kd.R_below (rX HO_7) hb); replace HO_9 := mK (Kd.R_below (rX HO_9) hb); replace HO_11 := mK (Kd.R_below (rX HO_11) hb); replace HO_102 := mK (Kd.R_below (rX HO_102) hb); replace HO_355001 := mK (Kd.R_below (rX HO_355001) hb); replace BK354 := kB BK354 hb; replace HB := bB HB hb; (try clear hb); (try clear hb2); (try clear hk); (try clear hi)))
 go_ret
 exact ⟨by first | rfl | (simp [errW_none, errW_some] <;> rfl) | (simp [*, errW_none, errW_some] <;> rfl), bX HB⟩
 }
 rw [if_pos c45] at H
 have c45b0 : decide (x104_2 < (t377.length : Int)) = true := decide_eq_true c45
 clear c45
 by_cases c46 : 0 ≤ x104_2
 rotate_left
 {
 rw [if_neg c46] at H
 exact absurd H (by simp)
 }
 rw [if_pos c46] at H
 have c46b0 : decide (0 ≤ x104_2) = true := decide_eq_true c46
 clear c46
 by_cases c47 : x104_2 < (t377.length : Int)
 rotate_left
 {
 rw [if_neg c47] at H
 exact absurd H (by simp)
 }
 rw [if_pos c47] at H
 have c47b0 : decide (x104_2 < (t377.length : Int)) = true := decide_eq_true c47
 clear c47
 replace H := Option.bind_eq_some_iff.mp H
 obtain ⟨⟨t384, t385, t386⟩, A480, H⟩ := H
 replace H : (if t386 = true then ((impl_Contains.f t384 t385 (rd t377 x104_2)).bind fun t388 => (if t388 = true then (if x104_2 < (t364.length : Int) then (if (rd t377 x104_2) < (rd t364 x104_2) then (some false) else (if x104_2 < (t368.length : Int) then (if (rd t377 x104_2) > (rd t368 x104_2) then (some false) else (laws_FnSchedules.l0 k2 t364 t368 t377 t377 (t377.length : Int) (wrap64 (x104_2 + 1)) t350 t351)) else (none))) else (none)) else (some false))) else (some false)) = some r := H
 have A48 := mK A480
 clear A480
 by_cases c49 : t386 = true
 rotate_left
 {
 replace c49 := Bool.eq_false_iff.mpr c49
 subst c49
 rw [if_neg (show ¬ (false = true) by decide)] at H
 obtain rfl := Option.some.inj H
 exact absurd hr_ (by decide)
 }
 subst c49
 rw [if_pos rfl] at H
 replace H := Option.bind_eq_some_iff.mp H
 obtain ⟨t388, A500, H⟩ := H
 replace H : (if t388 = true then (if x104_2 < (t364.length : Int) then (if (rd t377 x104_2) < (rd t364 x104_2) then (some false) else (if x104_2 < (t368.length : Int) then (if (rd t377 x104_2) > (rd t368 x104_2) then (some false) else (laws_FnSchedules.l0 k2 t364 t368 t377 t377 (t377.length : Int) (wrap64 (x104_2 + 1)) t350 t351)) else (none))) else (none)) else (some false)) = some r := H
 have A50 := mK A500
 clear A500
 by_cases c51 : t388 = true
 rotate_left
 {
 replace c51 := Bool.eq_false_iff.mpr c51
 subst c51
 rw [if_neg (show ¬ (false = true) by decide)] at H
 obtain rfl := Option.some.inj H
 exact absurd hr_ (by decide)
 }
 subst c51
 rw [if_pos rfl] at H
 by_cases c52 : x104_2 < (t364.length : Int)
 rotate_left
 {
 rw [if_neg c52] at H
 exact absurd H (by simp)
 }
 rw [if_pos c52] at H
 have c52b0 : decide (x104_2 < (t364.length : Int)) = true := decide_eq_true c52
 clear c52
 by_cases c53 : (rd t377 x104_2) < (rd t364 x104_2)
 {
 rw [if_pos c53] at H
 have c53b0 : decide ((rd t377 x104_2) < (rd t364 x104_2)) = true := decide_eq_true c53
 clear c53
 obtain rfl := Option.some.inj H
 exact absurd hr_ (by decide)
 }
 rw [if_neg c53] at H
 have c53b0 : decide ((rd t377 x104_2) < (rd t364 x104_2)) = false := decide_eq_false c53
 clear c53
 by_cases c54 : x104_2 < (t368.length : Int)
 rotate_left
 {
 rw [if_neg c54] at H
 exact absurd H (by simp)
 }
 rw [if_pos c54] at H
 have c54b0 : decide (x104_2 < (t368.length : Int)) = true := decide_eq_true c54
 clear c54
 by_cases c55 : (rd t377 x104_2) > (rd t368 x104_2)
 {
 rw [if_pos c55] at H
 have c55b0 : decide ((rd t368 x104_2) < (rd t377 x104_2)) = true := decide_eq_true c55
 clear c55
 obtain rfl := Option.some.inj H
 exact absurd hr_ (by decide)
 }
 rw [if_neg c55] at H
 have c55b0 : decide ((rd t368 x104_2) < (rd t377 x104_2)) = false := decide_eq_false c55
 clear c55
 have H' := mK H
 clear H
 have p383 : 0 ≤ (x104_2 : Int) := of_decide_eq_true oX
 have q383 : x104_2 < (t377.length : Int) := of_decide_eq_true oX
 obtain ⟨ad383, e383, hx383_0⟩ := Kd.at_int (Kd.R_reads' HO_102.out).2.2 x104_2 p383 q383
 cases e383
 replace p383 := eq_true p383
 replace q383 := eq_true q383
 have hcz56_0 := q0 BK354
 have hcz56_1 := q1 BK354
 have hfz56_0 := fX BK354 0
 have hfz56_1 := fX BK354 1
 go_wp2_with (first | ((with_reducible refine gate_callee (f := 27) rfl ?_); refine gsE (some 112) Try.func27 #[.agg #[.int .i64 t350, .slice Ao12 t351.length co12], .int .i64 x104_2] ?_; (with_reducible refine (impl_WindowOf.calls k2 t350 _ _ t351 x104_2 t384 t385 true _ ?side1 ?side2 A48.out).mono ?_); (case side1 => repeat (first | exact (Kd.R_reads' HO_355001.out).2.2 | (with_reducible refine Kd.C_alloc ?_ _) | (with_reducible refine Kd.C_drewN ?_ _) | (with_reducible refine Kd.C_drew ?_))); (case side2 => exact (Kd.R_reads' HO_355001.out).2.1); rintro e w57 ⟨rfl, hb⟩; refine ⟨_, rfl, ?_⟩; replace HO_7 := mK (Kd.R_below (rX HO_7) hb); replace HO_9 := mK (Kd.R_below (rX HO_9) hb); replace HO_11 := mK (Kd.R_below (rX HO_11) hb); replace HO_102 := mK (Kd.R_below (rX HO_102) hb); replace HO_355001 := mK (Kd.R_below (rX HO_355001) hb); replace BK354 := kB BK354 hb; replace HB := bB HB hb; (try clear hb); (try clear hb2); (try clear hk); (try clear hi)) | ((with_reducible refine gate_dst (N := 14) rfl ?_); (try (refine gate_guard (by rfl) ?_; dsimp only)); refine box_event ?hg (N := 14) ?hd (cs := #[.int .i64 0, .int .i64 0]) (t := 52) ?hr ?_; (case hd => rfl); (case hg => rfl); (case hr => go_simp <;> rfl); intro gb387 hg w58 hbox hb; replace HO_7 := mK (Kd.R_below (rX HO_7) hb); replace HO_9 := mK (Kd.R_below (rX HO_9) hb); replace HO_11 := mK (Kd.R_below (rX HO_11) hb); replace HO_102 := mK (Kd.R_below (rX HO_102) hb); replace HO_355001 := mK (Kd.R_below (rX HO_355001) hb); have BK387 := mK hbox; have GW387 := mK (gX hg HB); have GE387 := mK (gX hg HB); replace HB := bB HB hb; have NB354_387 := mK (lX hg BK354); have NB387_354 := mK (mX hg BK354); replace BK354 := kB BK354 hb; clear hb hbox hg; have hnb59 := NB387_354.out; have hnc59 := NB354_387.out; have hcz60_0 := q0 BK387; have hcz60_1 := q1 BK387; have hfz60_0 := fX BK387 0; have hfz60_1 := fX BK387 1) | (go_at_call 53; (with_reducible refine (impl_Contains.calls t384 t385 (rd t377 x104_2) true _ A50.out).mono ?_); rintro e w61 ⟨rfl, hb⟩; have n0_ := mK (Kd.R_below (rF2 HO_7 BK387) hb); have n1_ := mK (Kd.R_below (rF2 HO_9 BK387) hb); have n2_ := mK (Kd.R_below (rF2 HO_11 BK387) hb); have n3_ := mK (Kd.R_below (rF2 HO_102 BK387) hb); have n4_ := mK (Kd.R_below (rF2 HO_355001 BK387) hb); have n5_ := mK (blk_below (g := gb354) (o := .cells #[.int .i64 t350, .slice Ao12 t351.length co12] 47 (0, 0)) (kF BK354 NB354_387) hb); have n6_ := mK (blk_below (g := gb387) (o := .cells #[.int .i64 t384, .int .i64 t385] 52 (0, 0)) (kP2 BK387) hb); have n7_ := bB HB hb; clear HO_7; clear HO_9; clear HO_11; clear HO_102; clear HO_355001; clear BK354; clear BK387; clear HB; have HO_7 := n0_; have HO_9 := n1_; have HO_11 := n2_; have HO_102 := n3_; have HO_355001 := n4_; have BK354 := n5_; have BK387 := n6_; have HB := n7_; clear n0_ n1_ n2_ n3_ n4_ n5_ n6_ n7_; (try clear hb); (try clear hb2); (try clear hk); (try clear hi); obtain ⟨Ao62, co62, eo62⟩ := Kd.R_slice HO_7.out; subst eo62; have p389 : 0 ≤ (x104_2 : Int) := of_decide_eq_true oX; have q389 : x104_2 < (t364.length : Int) := of_decide_eq_true oX; obtain ⟨ad389, e389, hx389_0⟩ := Kd.at_int (Kd.R_reads' HO_7.out).2.2 x104_2 p389 q389; cases e389; replace p389 := eq_true p389; replace q389 := eq_true q389; obtain ⟨Ao63, co63, eo63⟩ := Kd.R_slice HO_9.out; subst eo63; have p390 : 0 ≤ (x104_2 : Int) := of_decide_eq_true oX; have q390 : x104_2 < (t368.length : Int) := of_decide_eq_true oX; obtain ⟨ad390, e390, hx390_0⟩ := Kd.at_int (Kd.R_reads' HO_9.out).2.2 x104_2 p390 q390; cases e390; replace p390 := eq_true p390; replace q390 := eq_true q390))
 go_roundg k2
 case measure => have := HJ7.out; have := HK2.out; omega
 case rel => exact ⟨(wrap64 (x104_2 + 1)), (by first | rfl | (simp; done) | (simp [*]; done)), H', ⟨by have := HJ7.out; have := HK2.out; omega⟩, ⟨rX HO_7⟩, ⟨rX HO_9⟩, ⟨rX HO_11⟩, ⟨rX HO_102⟩, ⟨rX HO_355001⟩, ⟨kX BK354⟩, ⟨bX HB⟩⟩
 )
 )
 )
 )

/-- THE ONE PURE STATEMENT of laws_FnSchedules: yours. -/
def laws_FnSchedules.Pure : Prop := ∀ (l0 : List Int), l0.length ≤ maxLen → (∀ yl0 ∈ l0, (Lit.int .u8 yl0).wf = true) → ∃ k, laws_FnSchedules.f k l0 = some true
theorem laws_FnSchedules.walk (P : laws_FnSchedules.Pure) (A0 : Option Addr) (c0 : Nat) (l0 : List Int) (w : World) (hr0 : Kd.C (Kd.int .u8) w A0 l0.length l0) (hc0 : l0.length ≤ c0) (q0_0 : l0.length ≤ maxLen) (q0_1 : (∀ yl0 ∈ l0, (Lit.int .u8 yl0).wf = true)) :
    Calls Try.prog 11 #[.slice A0 l0.length c0] w fun e w' => e = .returned (.bool true) ∧ Below w.heap.size w w' := by
  obtain ⟨k, h⟩ := P l0 q0_0 q0_1
  refine (laws_FnSchedules.calls k A0 c0 l0 true w hr0 hc0 h rfl).mono ?_
  rintro e w' ⟨rfl, hd⟩
  exact ⟨rfl, hd⟩

end Go.Proofs.Ytbbblnmngjhadaa.QFnSchedules
