-- Written by this session's program wip/tools/mk.py out of the translation; Lean checks it.
import Derived.Test.YtbbblnmngjhadaaQFnExactEarliestTimesx0
import Derived.Test.YtbbblnmngjhadaaQFnExactEarliestTimesx1
import Derived.Test.YtbbblnmngjhadaaQFnExactEarliestTimesx9
import Derived.Test.YtbbblnmngjhadaaQFnExactEarliestTimesx15
import Derived.Test.YtbbblnmngjhadaaQFnExactEarliestTimesx16
namespace Go.Proofs.Ytbbblnmngjhadaa.QFnExactEarliestTimes
open Go.RowKit Go.Proofs.YtbbblnmngjhadaaW.PrintWords Go.Proofs.YtbbblnmngjhadaaW.PrintLast Go.Proofs.YtbbblnmngjhadaaW.PrintMore
attribute [local go_sem] max2_int min2_int max_two min_two max_three min_three max_four min_four   -- for this text's walks alone
set_option linter.unusedVariables false
set_option linter.unusedSimpArgs false

/-! ### laws_FnExactEarliestTimes: function 6 -/
mutual
def laws_FnExactEarliestTimes.j0 : Nat → List Int → Bool → List Int → Bool → Bool → Int → List (S128) → Int → List (S76) → Option (Bool)
  | 0, _, _, _, _, _, _, _, _, _ => none
  | k + 1, x4, x5, x7, x8, x40, x487000, x487001, x501000, x501001 => if x40 = true then (some false) else ((laws_toSimple.f k x487000 x487001).bind fun bt506 => ((laws_eqSimple.f k x501000 x501001 bt506.1 bt506.2).bind fun t510 => (if t510 = true then ((laws_markSimple.f k x501000 x501001 1).bind fun bt511 => (if bt511.1 < 0 then (laws_FnExactEarliestTimes.j1 k x4 x5 x7 true x487000 x487001) else ((laws_eqIntS.f k x7 x4).bind fun t513 => (if t513 = true then (laws_FnExactEarliestTimes.j1 k x4 x5 x7 (x8 != x5) x487000 x487001) else (laws_FnExactEarliestTimes.j1 k x4 x5 x7 true x487000 x487001))))) else (some false))))
def laws_FnExactEarliestTimes.j1 : Nat → List Int → Bool → List Int → Bool → Int → List (S128) → Option (Bool)
  | 0, _, _, _, _, _, _ => none
  | k + 1, x4, x5, x7, x61, x487000, x487001 => if x61 = true then (some false) else ((laws_markIntS.f k x7 1).bind fun bt514 => ((laws_heldIntS.f k bt514.2 1).bind fun t516 => (if t516 < 0 then (some false) else (if t516 = bt514.1 then ((laws_toSimple.f k x487000 x487001).bind fun bt517 => ((impl_EarliestTimes.f k bt517.1 bt517.2).bind fun bt521 => ((laws_eqIntS.f k bt521.1 x4).bind fun t525 => (if t525 = true then (laws_FnExactEarliestTimes.j2 k bt514.2 bt514.1 (bt521.2 != x5)) else (laws_FnExactEarliestTimes.j2 k bt514.2 bt514.1 true))))) else (some false)))))
def laws_FnExactEarliestTimes.j2 : Nat → List Int → Int → Bool → Option (Bool)
  | 0, _, _, _ => none
  | k + 1, x7, x10, x87 => if x87 = true then (some false) else ((laws_heldIntS.f k x7 1).bind fun t526 => (if t526 < 0 then (some false) else (if t526 = x10 then (some true) else (some false))))
end
def laws_FnExactEarliestTimes.f (k : Nat) (a0_0 : Int) (l0_1 : List (S128)) : Option (Bool) := (laws_szSimple.f a0_0 l0_1 1048576).bind fun t487 => (if t487 < 0 then (some true) else ((laws_toSimple.f k a0_0 l0_1).bind fun bt488 => ((spec_EarliestTimes.f k bt488.1 bt488.2).bind fun bt492 => ((laws_toSimple.f k a0_0 l0_1).bind fun bt496 => ((impl_EarliestTimes.f k bt496.1 bt496.2).bind fun bt501 => ((laws_eqIntS.f k bt501.1 bt492.1).bind fun t505 => (if t505 = true then (laws_FnExactEarliestTimes.j0 k bt492.1 bt492.2 bt501.1 bt501.2 (bt501.2 != bt492.2) a0_0 l0_1 bt496.1 bt496.2) else (laws_FnExactEarliestTimes.j0 k bt492.1 bt492.2 bt501.1 bt501.2 true a0_0 l0_1 bt496.1 bt496.2))))))))
theorem laws_FnExactEarliestTimes.mono_l : ∀ k, (∀ y0 y1 y2 y3 y4 y5 y6 y7 y8, LeO (laws_FnExactEarliestTimes.j0 k y0 y1 y2 y3 y4 y5 y6 y7 y8) (laws_FnExactEarliestTimes.j0 (k + 1) y0 y1 y2 y3 y4 y5 y6 y7 y8)) ∧ (∀ y0 y1 y2 y3 y4 y5, LeO (laws_FnExactEarliestTimes.j1 k y0 y1 y2 y3 y4 y5) (laws_FnExactEarliestTimes.j1 (k + 1) y0 y1 y2 y3 y4 y5)) ∧ (∀ y0 y1 y2, LeO (laws_FnExactEarliestTimes.j2 k y0 y1 y2) (laws_FnExactEarliestTimes.j2 (k + 1) y0 y1 y2))
  | 0 => ⟨fun _ _ _ _ _ _ _ _ _ r h => by simp [laws_FnExactEarliestTimes.j0] at h, fun _ _ _ _ _ _ r h => by simp [laws_FnExactEarliestTimes.j1] at h, fun _ _ _ r h => by simp [laws_FnExactEarliestTimes.j2] at h⟩
  | k + 1 => by
    obtain ⟨ih0, ih1, ih2⟩ := laws_FnExactEarliestTimes.mono_l k
    refine ⟨?_, ?_, ?_⟩
    · intro y0 y1 y2 y3 y4 y5 y6 y7 y8
      unfold laws_FnExactEarliestTimes.j0
      repeat' first|(with_reducible first|exact ih0 _ _ _ _ _ _ _ _ _|exact ih1 _ _ _ _ _ _|exact ih2 _ _ _|exact impl_EarliestTimes.mono _ _ _|exact laws_eqIntS.mono _ _ _|exact laws_eqSimple.mono _ _ _ _ _|exact laws_heldIntS.mono _ _ _|exact laws_markIntS.mono _ _ _|exact laws_markSimple.mono _ _ _ _|exact laws_toSimple.mono _ _ _|exact spec_EarliestTimes.mono _ _ _|exact lR _|exact lN _|refine lI ?_ ?_|refine lB ?_ (fun _ => ?_))|exact ih0 _ _ _ _ _ _ _ _ _|exact ih1 _ _ _ _ _ _|exact ih2 _ _ _|exact impl_EarliestTimes.mono _ _ _|exact laws_eqIntS.mono _ _ _|exact laws_eqSimple.mono _ _ _ _ _|exact laws_heldIntS.mono _ _ _|exact laws_markIntS.mono _ _ _|exact laws_markSimple.mono _ _ _ _|exact laws_toSimple.mono _ _ _|exact spec_EarliestTimes.mono _ _ _|exact lN _|refine lI ?_ ?_|refine lB ?_ (fun _ => ?_)
    · intro y0 y1 y2 y3 y4 y5
      unfold laws_FnExactEarliestTimes.j1
      repeat' first|(with_reducible first|exact ih0 _ _ _ _ _ _ _ _ _|exact ih1 _ _ _ _ _ _|exact ih2 _ _ _|exact impl_EarliestTimes.mono _ _ _|exact laws_eqIntS.mono _ _ _|exact laws_eqSimple.mono _ _ _ _ _|exact laws_heldIntS.mono _ _ _|exact laws_markIntS.mono _ _ _|exact laws_markSimple.mono _ _ _ _|exact laws_toSimple.mono _ _ _|exact spec_EarliestTimes.mono _ _ _|exact lR _|exact lN _|refine lI ?_ ?_|refine lB ?_ (fun _ => ?_))|exact ih0 _ _ _ _ _ _ _ _ _|exact ih1 _ _ _ _ _ _|exact ih2 _ _ _|exact impl_EarliestTimes.mono _ _ _|exact laws_eqIntS.mono _ _ _|exact laws_eqSimple.mono _ _ _ _ _|exact laws_heldIntS.mono _ _ _|exact laws_markIntS.mono _ _ _|exact laws_markSimple.mono _ _ _ _|exact laws_toSimple.mono _ _ _|exact spec_EarliestTimes.mono _ _ _|exact lN _|refine lI ?_ ?_|refine lB ?_ (fun _ => ?_)
    · intro y0 y1 y2
      unfold laws_FnExactEarliestTimes.j2
      repeat' first|(with_reducible first|exact ih0 _ _ _ _ _ _ _ _ _|exact ih1 _ _ _ _ _ _|exact ih2 _ _ _|exact impl_EarliestTimes.mono _ _ _|exact laws_eqIntS.mono _ _ _|exact laws_eqSimple.mono _ _ _ _ _|exact laws_heldIntS.mono _ _ _|exact laws_markIntS.mono _ _ _|exact laws_markSimple.mono _ _ _ _|exact laws_toSimple.mono _ _ _|exact spec_EarliestTimes.mono _ _ _|exact lR _|exact lN _|refine lI ?_ ?_|refine lB ?_ (fun _ => ?_))|exact ih0 _ _ _ _ _ _ _ _ _|exact ih1 _ _ _ _ _ _|exact ih2 _ _ _|exact impl_EarliestTimes.mono _ _ _|exact laws_eqIntS.mono _ _ _|exact laws_eqSimple.mono _ _ _ _ _|exact laws_heldIntS.mono _ _ _|exact laws_markIntS.mono _ _ _|exact laws_markSimple.mono _ _ _ _|exact laws_toSimple.mono _ _ _|exact spec_EarliestTimes.mono _ _ _|exact lN _|refine lI ?_ ?_|refine lB ?_ (fun _ => ?_)
theorem laws_FnExactEarliestTimes.mono : ∀ a0 a1 k, LeO (laws_FnExactEarliestTimes.f k a0 a1) (laws_FnExactEarliestTimes.f (k + 1) a0 a1) := by
  intro a0 a1 k
  obtain ⟨ih0, ih1, ih2⟩ := laws_FnExactEarliestTimes.mono_l k
  unfold laws_FnExactEarliestTimes.f
  repeat' first|(with_reducible first|exact ih0 _ _ _ _ _ _ _ _ _|exact ih1 _ _ _ _ _ _|exact ih2 _ _ _|exact impl_EarliestTimes.mono _ _ _|exact laws_eqIntS.mono _ _ _|exact laws_eqSimple.mono _ _ _ _ _|exact laws_heldIntS.mono _ _ _|exact laws_markIntS.mono _ _ _|exact laws_markSimple.mono _ _ _ _|exact laws_toSimple.mono _ _ _|exact spec_EarliestTimes.mono _ _ _|exact lR _|exact lN _|refine lI ?_ ?_|refine lB ?_ (fun _ => ?_))|exact ih0 _ _ _ _ _ _ _ _ _|exact ih1 _ _ _ _ _ _|exact ih2 _ _ _|exact impl_EarliestTimes.mono _ _ _|exact laws_eqIntS.mono _ _ _|exact laws_eqSimple.mono _ _ _ _ _|exact laws_heldIntS.mono _ _ _|exact laws_markIntS.mono _ _ _|exact laws_markSimple.mono _ _ _ _|exact laws_toSimple.mono _ _ _|exact spec_EarliestTimes.mono _ _ _|exact lN _|refine lI ?_ ?_|refine lB ?_ (fun _ => ?_)
set_option maxHeartbeats 8000000 in
set_option maxRecDepth 100000 in
theorem laws_FnExactEarliestTimes.calls (k : Nat) (a0_0 : Int) (A0_1 : Option Addr) (c0_1 : Nat) (l0_1 : List (S128)) (r : Bool) (w : World) (hr0_1 : Kd.C k128 w A0_1 l0_1.length l0_1) (hc0_1 : l0_1.length ≤ c0_1) (h : laws_FnExactEarliestTimes.f k a0_0 l0_1 = some r) (hr_ : r = true) :
    Calls Try.prog 6 #[.agg #[.int .i64 a0_0, .slice A0_1 l0_1.length c0_1]] w fun e w' => e = .returned (.bool r) ∧ Below w.heap.size w w' := by
 have hu42 := Try.underlying42
 have hu47 := Try.underlying47
 have HR0_1 := mK hr0_1
 have HC0_1 := mK hc0_1
 clear hr0_1 hc0_1
 have HB := mK (Below.refl w.heap.size w)
 have H : ((laws_szSimple.f a0_0 l0_1 1048576).bind fun t487 => (if t487 < 0 then (some true) else ((laws_toSimple.f k a0_0 l0_1).bind fun bt488 => ((spec_EarliestTimes.f k bt488.1 bt488.2).bind fun bt492 => ((laws_toSimple.f k a0_0 l0_1).bind fun bt496 => ((impl_EarliestTimes.f k bt496.1 bt496.2).bind fun bt501 => ((laws_eqIntS.f k bt501.1 bt492.1).bind fun t505 => (if t505 = true then (laws_FnExactEarliestTimes.j0 k bt492.1 bt492.2 bt501.1 bt501.2 (bt501.2 != bt492.2) a0_0 l0_1 bt496.1 bt496.2) else (laws_FnExactEarliestTimes.j0 k bt492.1 bt492.2 bt501.1 bt501.2 true a0_0 l0_1 bt496.1 bt496.2))))))))) = some r := h
 clear h
 replace H := Option.bind_eq_some_iff.mp H
 obtain ⟨t487, A20, H⟩ := H
 replace H : (if t487 < 0 then (some true) else ((laws_toSimple.f k a0_0 l0_1).bind fun bt488 => ((spec_EarliestTimes.f k bt488.1 bt488.2).bind fun bt492 => ((laws_toSimple.f k a0_0 l0_1).bind fun bt496 => ((impl_EarliestTimes.f k bt496.1 bt496.2).bind fun bt501 => ((laws_eqIntS.f k bt501.1 bt492.1).bind fun t505 => (if t505 = true then (laws_FnExactEarliestTimes.j0 k bt492.1 bt492.2 bt501.1 bt501.2 (bt501.2 != bt492.2) a0_0 l0_1 bt496.1 bt496.2) else (laws_FnExactEarliestTimes.j0 k bt492.1 bt492.2 bt501.1 bt501.2 true a0_0 l0_1 bt496.1 bt496.2)))))))) = some r := H
 have A2 := mK A20
 clear A20
 by_cases c3 : t487 < 0
 {
 rw [if_pos c3] at H
 have c3b0 : decide (t487 < 0) = true := decide_eq_true c3
 clear c3
 obtain rfl := Option.some.inj H
 clear hr_
 go_enter Try.func6, Try.ntmps6
 go_wp2_with (first | ((with_reducible refine gate_dst (N := 1) rfl ?_); refine bxE 1 #[.int .i64 a0_0, .slice A0_1 l0_1.length c0_1] 42 ?_; intro gb486 hg w4 hbox hb; have BK486 := mK hbox; have GW486 := mK (gX hg HB); have GE486 := mK (gX hg HB); replace HB := bB HB hb; clear hb hbox hg; have hcz5_0 := q0 BK486; have hcz5_1 := q1 BK486; have hfz5_0 := fX BK486 0; have hfz5_1 := fX BK486 1) | ((with_reducible refine gate_callee (f := 21) rfl ?_); refine gsE (some 16) Try.func21 #[.agg #[.int .i64 a0_0, .slice A0_1 l0_1.length c0_1], .int .i64 1048576] ?_; (with_reducible refine (laws_szSimple.calls a0_0 _ _ l0_1 1048576 t487 _ ?side1 ?side2 A2.out).mono ?_); (case side1 => exact cX HR0_1 HB); (case side2 => exact HC0_1.out); rintro e w6 ⟨rfl, hb⟩; refine ⟨_, rfl, ?_⟩; replace BK486 := kB BK486 hb; replace HB := bB HB hb; (try clear hb); (try clear hb2); (try clear hk); (try clear hi)))
 go_ret
 exact ⟨by first | rfl | (simp [errW_none, errW_some] <;> rfl) | (simp [*, errW_none, errW_some] <;> rfl), bX HB⟩
 }
 rw [if_neg c3] at H
 have c3b0 : decide (t487 < 0) = false := decide_eq_false c3
 clear c3
 replace H := Option.bind_eq_some_iff.mp H
 obtain ⟨⟨t488, t489⟩, A70, H⟩ := H
 replace H : ((spec_EarliestTimes.f k t488 t489).bind fun bt492 => ((laws_toSimple.f k a0_0 l0_1).bind fun bt496 => ((impl_EarliestTimes.f k bt496.1 bt496.2).bind fun bt501 => ((laws_eqIntS.f k bt501.1 bt492.1).bind fun t505 => (if t505 = true then (laws_FnExactEarliestTimes.j0 k bt492.1 bt492.2 bt501.1 bt501.2 (bt501.2 != bt492.2) a0_0 l0_1 bt496.1 bt496.2) else (laws_FnExactEarliestTimes.j0 k bt492.1 bt492.2 bt501.1 bt501.2 true a0_0 l0_1 bt496.1 bt496.2)))))) = some r := H
 have A7 := mK A70
 clear A70
 replace H := Option.bind_eq_some_iff.mp H
 obtain ⟨⟨t492, t495⟩, A80, H⟩ := H
 replace H : ((laws_toSimple.f k a0_0 l0_1).bind fun bt496 => ((impl_EarliestTimes.f k bt496.1 bt496.2).bind fun bt501 => ((laws_eqIntS.f k bt501.1 t492).bind fun t505 => (if t505 = true then (laws_FnExactEarliestTimes.j0 k t492 t495 bt501.1 bt501.2 (bt501.2 != t495) a0_0 l0_1 bt496.1 bt496.2) else (laws_FnExactEarliestTimes.j0 k t492 t495 bt501.1 bt501.2 true a0_0 l0_1 bt496.1 bt496.2))))) = some r := H
 have A8 := mK A80
 clear A80
 replace H := Option.bind_eq_some_iff.mp H
 obtain ⟨⟨t496, t497⟩, A90, H⟩ := H
 replace H : ((impl_EarliestTimes.f k t496 t497).bind fun bt501 => ((laws_eqIntS.f k bt501.1 t492).bind fun t505 => (if t505 = true then (laws_FnExactEarliestTimes.j0 k t492 t495 bt501.1 bt501.2 (bt501.2 != t495) a0_0 l0_1 t496 t497) else (laws_FnExactEarliestTimes.j0 k t492 t495 bt501.1 bt501.2 true a0_0 l0_1 t496 t497)))) = some r := H
 have A9 := mK A90
 clear A90
 replace H := Option.bind_eq_some_iff.mp H
 obtain ⟨⟨t501, t504⟩, A100, H⟩ := H
 replace H : ((laws_eqIntS.f k t501 t492).bind fun t505 => (if t505 = true then (laws_FnExactEarliestTimes.j0 k t492 t495 t501 t504 (t504 != t495) a0_0 l0_1 t496 t497) else (laws_FnExactEarliestTimes.j0 k t492 t495 t501 t504 true a0_0 l0_1 t496 t497))) = some r := H
 have A10 := mK A100
 clear A100
 have HC11 := mK H
 clear H
 go_enter Try.func6, Try.ntmps6
 go_upto_region 8 with (first | ((with_reducible refine gate_dst (N := 1) rfl ?_); refine bxE 1 #[.int .i64 a0_0, .slice A0_1 l0_1.length c0_1] 42 ?_; intro gb486 hg w12 hbox hb; have BK486 := mK hbox; have GW486 := mK (gX hg HB); have GE486 := mK (gX hg HB); replace HB := bB HB hb; clear hb hbox hg; have hcz13_0 := q0 BK486; have hcz13_1 := q1 BK486; have hfz13_0 := fX BK486 0; have hfz13_1 := fX BK486 1) | ((with_reducible refine gate_callee (f := 21) rfl ?_); refine gsE (some 16) Try.func21 #[.agg #[.int .i64 a0_0, .slice A0_1 l0_1.length c0_1], .int .i64 1048576] ?_; (with_reducible refine (laws_szSimple.calls a0_0 _ _ l0_1 1048576 t487 _ ?side1 ?side2 A2.out).mono ?_); (case side1 => exact cX HR0_1 HB); (case side2 => exact HC0_1.out); rintro e w14 ⟨rfl, hb⟩; refine ⟨_, rfl, ?_⟩; replace BK486 := kB BK486 hb; replace HB := bB HB hb; (try clear hb); (try clear hb2); (try clear hk); (try clear hi); have hcz15_0 := q0 BK486; have hcz15_1 := q1 BK486; have hfz15_0 := fX BK486 0; have hfz15_1 := fX BK486 1) | ((with_reducible refine gate_callee (f := 23) rfl ?_); refine gsE (some 21) Try.func23 #[.agg #[.int .i64 a0_0, .slice A0_1 l0_1.length c0_1]] ?_; (with_reducible refine (laws_toSimple.calls k a0_0 _ _ l0_1 t488 t489 _ ?side1 ?side2 A7.out).mono ?_); (case side1 => exact cX HR0_1 HB); (case side2 => exact HC0_1.out); rintro e w16 ⟨v490, rfl, ho0, hb⟩; refine ⟨_, rfl, ?_⟩; have HO491 := mK (Kd.R_lower ho0 (below_size (bX HB))); replace BK486 := kB BK486 hb; replace HB := bB HB hb; (try clear hb); (try clear hb2); (try clear hk); (try clear hi); (try clear ho0); obtain ⟨Ao17, co17, eo17⟩ := Kd.R_slice HO491.out; subst eo17) | ((with_reducible refine gate_callee (f := 29) rfl ?_); refine gsE (some 22) Try.func29 #[.agg #[.int .i64 t488, .slice Ao17 t489.length co17]] ?_; (with_reducible refine (spec_EarliestTimes.calls k t488 _ _ t489 t492 t495 _ ?side1 ?side2 A8.out).mono ?_); (case side1 => repeat (first | exact (Kd.R_reads' HO491.out).2.2 | (with_reducible refine Kd.C_alloc ?_ _) | (with_reducible refine Kd.C_drewN ?_ _) | (with_reducible refine Kd.C_drew ?_))); (case side2 => exact (Kd.R_reads' HO491.out).2.1); rintro e w18 ⟨v493, rfl, ho0, hb⟩; refine ⟨_, rfl, ?_⟩; replace HO491 := mK (Kd.R_below (rX HO491) hb); have HO494 := mK (Kd.R_lower ho0 (below_size (bX HB))); replace BK486 := kB BK486 hb; replace HB := bB HB hb; (try clear hb); (try clear hb2); (try clear hk); (try clear hi); (try clear ho0); have hcz19_0 := q0 BK486; have hcz19_1 := q1 BK486; have hfz19_0 := fX BK486 0; have hfz19_1 := fX BK486 1) | ((with_reducible refine gate_callee (f := 23) rfl ?_); refine gsE (some 26) Try.func23 #[.agg #[.int .i64 a0_0, .slice A0_1 l0_1.length c0_1]] ?_; (with_reducible refine (laws_toSimple.calls k a0_0 _ _ l0_1 t496 t497 _ ?side1 ?side2 A9.out).mono ?_); (case side1 => exact cX HR0_1 HB); (case side2 => exact HC0_1.out); rintro e w20 ⟨v498, rfl, ho0, hb⟩; refine ⟨_, rfl, ?_⟩; replace HO494 := mK (Kd.R_below (rX HO494) hb); have HO499 := mK (Kd.R_lower (Kd.R_new' ho0 (Kd.R_lt (rX HO491))) (below_size (bX HB))); replace HO491 := mK (Kd.R_elder' (rX HO491) (Kd.R_base ho0) hb); replace BK486 := kB BK486 hb; replace HB := bB HB hb; (try clear hb); (try clear hb2); (try clear hk); (try clear hi); (try clear ho0)) | ((with_reducible refine gate_dst (N := 6) rfl ?_); refine bxE 6 #[.int .i64 0, .slice none 0 0] 47 ?_; intro gb500 hg w21 hbox hb; replace HO491 := mK (Kd.R_below (rX HO491) hb); replace HO494 := mK (Kd.R_below (rX HO494) hb); replace HO499 := mK (Kd.R_below (rX HO499) hb); have BK500 := mK hbox; have GW500 := mK (gX hg HB); have GE500 := mK (gX hg HB); replace HB := bB HB hb; have NB486_500 := mK (lX hg BK486); have NB500_486 := mK (mX hg BK486); replace BK486 := kB BK486 hb; clear hb hbox hg; have hnb22 := NB500_486.out; have hnc22 := NB486_500.out; have hcz23_0 := q0 BK500; have hcz23_1 := q1 BK500; have hfz23_0 := fX BK500 0; have hfz23_1 := fX BK500 1; obtain ⟨Ao24, co24, eo24⟩ := Kd.R_slice HO499.out; subst eo24) | ((with_reducible refine gate_callee (f := 30) rfl ?_); refine gsE (some 29) Try.func30 #[.agg #[.int .i64 t496, .slice Ao24 t497.length co24]] ?_; (with_reducible refine (impl_EarliestTimes.calls k t496 _ _ t497 t501 t504 _ ?side1 ?side2 A10.out).mono ?_); (case side1 => refine (Kd.R_reads' (e := 76) (base := w.heap.size) (ok := fun k_ => (True ∧ some k_ ≠ (.slice Ao17 t489.length co17 : Value).ownBlock)) (n := t497.length) (c := co24) ?_).2.2; exact (rF2 HO499 BK500)); (case side2 => exact (Kd.R_reads' HO499.out).2.1); rintro e w25 ⟨v502, rfl, ho0, hb⟩; refine ⟨_, rfl, ?_⟩; have n0_ := mK (Kd.R_below (rF2 HO491 BK500) hb); have n1_ := mK (Kd.R_elder' (rF2 HO494 BK500) (Kd.R_base ho0) hb); have n2_ := mK (Kd.R_below (rF2 HO499 BK500) hb); have n3_ := mK (Kd.R_lower (Kd.R_new' ho0 (Kd.R_lt (rF2 HO494 BK500))) (below_size (bX HB))); have n4_ := mK (blk_below (g := gb486) (o := .cells #[.int .i64 a0_0, .slice A0_1 l0_1.length c0_1] 42 (0, 0)) (kF BK486 NB486_500) hb); have n5_ := mK (blk_below (g := gb500) (o := .cells #[.int .i64 t496, .slice Ao24 t497.length co24] 47 (0, 0)) (kP2 BK500) hb); have n6_ := bB HB hb; clear HO491; clear HO494; clear HO499; clear BK486; clear BK500; clear HB; have HO491 := n0_; have HO494 := n1_; have HO499 := n2_; have HO503 := n3_; have BK486 := n4_; have BK500 := n5_; have HB := n6_; clear n0_ n1_ n2_ n3_ n4_ n5_ n6_; (try clear hb); (try clear hb2); (try clear hk); (try clear hi); (try clear ho0)))
 (try simp only [Act.put, sT, sZ, sU])
 go_cut [40] (fun v40 wc => ∃ (kq : Nat) (x40_10 : Bool), v40 = .bool x40_10 ∧ Aside0 (laws_FnExactEarliestTimes.j0 kq t492 t495 t501 t504 x40_10 a0_0 l0_1 t496 t497 = some r) ∧ Aside0 (kq ≤ k) ∧ Aside0 (Kd.R (Kd.int .i64) 3 wc w.heap.size (fun k_ => some k_ ≠ (v502 : Value).ownBlock) v493 t492) ∧ Aside0 (Kd.R (Kd.int .i64) 3 wc w.heap.size (fun k_ => some k_ ≠ (v493 : Value).ownBlock) v502 t501) ∧ Aside0 (Kd.R k76 76 wc w.heap.size (fun _ => True) (.slice Ao24 t497.length co24) t497) ∧ Aside0 (wc.heap[gb486]? = some (.cells #[.int .i64 a0_0, (.slice A0_1 l0_1.length c0_1)] 42 (0, 0))) ∧ Aside0 (wc.heap[gb500]? = some (.cells #[.int .i64 t496, (.slice Ao24 t497.length co24)] 47 (0, 0))) ∧ Aside0 (Below w.heap.size w wc))
 case first => (
 have H := HC11.out
 clear HC11
 replace H := Option.bind_eq_some_iff.mp H
 obtain ⟨t505, A260, H⟩ := H
 replace H : (if t505 = true then (laws_FnExactEarliestTimes.j0 k t492 t495 t501 t504 (t504 != t495) a0_0 l0_1 t496 t497) else (laws_FnExactEarliestTimes.j0 k t492 t495 t501 t504 true a0_0 l0_1 t496 t497)) = some r := H
 have A26 := mK A260
 clear A260
 by_cases c27 : t505 = true
 rotate_left
 {
 replace c27 := Bool.eq_false_iff.mpr c27
 subst c27
 rw [if_neg (show ¬ (false = true) by decide)] at H
 subst hr_
 exact absurd H (by cases k <;> simp [laws_FnExactEarliestTimes.j0])
 }
 subst c27
 rw [if_pos rfl] at H
 have H' := mK H
 clear H
 obtain ⟨Ao28, co28, eo28⟩ := Kd.R_slice HO503.out
 subst eo28
 obtain ⟨Ao29, co29, eo29⟩ := Kd.R_slice HO494.out
 subst eo29
 go_wp2_with (first | ((with_reducible refine gate_callee (f := 31) rfl ?_); refine gsE (some 34) Try.func31 #[.slice Ao28 t501.length co28, .slice Ao29 t492.length co29] ?_; (with_reducible refine (laws_eqIntS.calls k _ _ t501 _ _ t492 true _ ?side1 ?side2 ?side3 ?side4 A26.out).mono ?_); (case side1 => repeat (first | exact (Kd.R_reads' HO503.out).2.2 | (with_reducible refine Kd.C_alloc ?_ _) | (with_reducible refine Kd.C_drewN ?_ _) | (with_reducible refine Kd.C_drew ?_))); (case side2 => exact (Kd.R_reads' HO503.out).2.1); (case side3 => repeat (first | exact (Kd.R_reads' HO494.out).2.2 | (with_reducible refine Kd.C_alloc ?_ _) | (with_reducible refine Kd.C_drewN ?_ _) | (with_reducible refine Kd.C_drew ?_))); (case side4 => exact (Kd.R_reads' HO494.out).2.1); rintro e w' ⟨rfl, ⟨nd, rfl⟩⟩; refine ⟨_, rfl, ?_⟩))
 go_meet
 case rel => exact ⟨_, ((t504 != t495)), (by first | rfl | (simp; done) | (simp [*]; done)), H', ⟨by first | omega | exact Nat.le_refl _⟩, ⟨by (with_reducible repeat first|apply rA|apply rN|apply rD); exact Kd.R_mono HO494.out (fun _ hk => hk.2)⟩, ⟨by (with_reducible repeat first|apply rA|apply rN|apply rD); exact Kd.R_mono HO503.out (fun _ hk => hk.2)⟩, ⟨by (with_reducible repeat first|apply rA|apply rN|apply rD); exact Kd.R_mono HO499.out (fun _ hk => trivial)⟩, ⟨kX BK486⟩, ⟨kX BK500⟩, ⟨bX HB⟩⟩
 )
 case rest => (
 clear HC11
 try clear c2
 try clear p2
 try clear c3
 try clear c3b0
 try clear c6
 try clear c21
 try clear c22
 try clear c23
 try clear c27
 try clear c29
 try clear hcz13_0
 try clear hcz13_1
 try clear hcz15_0
 try clear hcz15_1
 try clear hcz19_0
 try clear hcz19_1
 try clear hcz23_0
 try clear hcz23_1
 try clear hcz5_0
 try clear hcz5_1
 try clear hfz13_0
 try clear hfz13_1
 try clear hfz15_0
 try clear hfz15_1
 try clear hfz19_0
 try clear hfz19_1
 try clear hfz23_0
 try clear hfz23_1
 try clear hfz5_0
 try clear hfz5_1
 obtain ⟨kq, x40_10, rfl, HA, HJ10, HO_4, HO_7, HO_501001, BK486, BK500, HB⟩ := hcut
 cases kq with
 | zero => exact absurd HA.out (by simp [laws_FnExactEarliestTimes.j0])
 | succ kj10 => (
 have H := HA.out
 clear HA
 simp only [laws_FnExactEarliestTimes.j0] at H
 by_cases c30 : x40_10 = true
 {
 subst c30
 rw [if_pos rfl] at H
 obtain rfl := Option.some.inj H
 exact absurd hr_ (by decide)
 }
 replace c30 := Bool.eq_false_iff.mpr c30
 subst c30
 rw [if_neg (show ¬ (false = true) by decide)] at H
 replace H := Option.bind_eq_some_iff.mp H
 obtain ⟨⟨t506, t507⟩, A310, H⟩ := H
 replace H : ((laws_eqSimple.f kj10 t496 t497 t506 t507).bind fun t510 => (if t510 = true then ((laws_markSimple.f kj10 t496 t497 1).bind fun bt511 => (if bt511.1 < 0 then (laws_FnExactEarliestTimes.j1 kj10 t492 t495 t501 true a0_0 l0_1) else ((laws_eqIntS.f kj10 t501 t492).bind fun t513 => (if t513 = true then (laws_FnExactEarliestTimes.j1 kj10 t492 t495 t501 (t504 != t495) a0_0 l0_1) else (laws_FnExactEarliestTimes.j1 kj10 t492 t495 t501 true a0_0 l0_1))))) else (some false))) = some r := H
 have A31 := mK A310
 clear A310
 replace H := Option.bind_eq_some_iff.mp H
 obtain ⟨t510, A320, H⟩ := H
 replace H : (if t510 = true then ((laws_markSimple.f kj10 t496 t497 1).bind fun bt511 => (if bt511.1 < 0 then (laws_FnExactEarliestTimes.j1 kj10 t492 t495 t501 true a0_0 l0_1) else ((laws_eqIntS.f kj10 t501 t492).bind fun t513 => (if t513 = true then (laws_FnExactEarliestTimes.j1 kj10 t492 t495 t501 (t504 != t495) a0_0 l0_1) else (laws_FnExactEarliestTimes.j1 kj10 t492 t495 t501 true a0_0 l0_1))))) else (some false)) = some r := H
 have A32 := mK A320
 clear A320
 by_cases c33 : t510 = true
 rotate_left
 {
 replace c33 := Bool.eq_false_iff.mpr c33
 subst c33
 rw [if_neg (show ¬ (false = true) by decide)] at H
 obtain rfl := Option.some.inj H
 exact absurd hr_ (by decide)
 }
 subst c33
 rw [if_pos rfl] at H
 replace H := Option.bind_eq_some_iff.mp H
 obtain ⟨⟨t511, t512⟩, A340, H⟩ := H
 replace H : (if t511 < 0 then (laws_FnExactEarliestTimes.j1 kj10 t492 t495 t501 true a0_0 l0_1) else ((laws_eqIntS.f kj10 t501 t492).bind fun t513 => (if t513 = true then (laws_FnExactEarliestTimes.j1 kj10 t492 t495 t501 (t504 != t495) a0_0 l0_1) else (laws_FnExactEarliestTimes.j1 kj10 t492 t495 t501 true a0_0 l0_1)))) = some r := H
 have A34 := mK A340
 clear A340
 have HC35 := mK H
 clear H
 try go_wp2
 have n0_ := mK (Kd.R_drew HO_4.out)
 have n1_ := mK (Kd.R_drew HO_7.out)
 have n2_ := mK (Kd.R_drew HO_501001.out)
 have n3_ := mK (blk_drew BK486.out)
 have n4_ := mK (blk_drew BK500.out)
 have n5_ := mK (below_drew1 HB.out)
 clear HO_4
 clear HO_7
 clear HO_501001
 clear BK486
 clear BK500
 clear HB
 have HO_4 := n0_
 have HO_7 := n1_
 have HO_501001 := n2_
 have BK486 := n3_
 have BK500 := n4_
 have HB := n5_
 clear n0_ n1_ n2_ n3_ n4_ n5_
 refine start_ (n := 5) (S := fun w' => w'.cell? ⟨gb500, 0, none⟩ = some (.int .i64 t496) ∧ w'.cell? ⟨gb500, 1, none⟩ = some (.slice Ao24 t497.length co24) ∧ w'.cell? ⟨gb486, 0, none⟩ = some (.int .i64 a0_0) ∧ w'.cell? ⟨gb486, 1, none⟩ = some (.slice A0_1 l0_1.length c0_1)) (ds := []) (bs 0 5) (by kernel_rfl) rfl (by kernel_rfl) ⟨(blk_cell BK500.out 0).trans rfl, (blk_cell BK500.out 1).trans rfl, (blk_cell BK486.out 0).trans rfl, (blk_cell BK486.out 1).trans rfl⟩ (fun hHeld => ?_)
 generalize wc.drew = w36 at HO_4 HO_7 HO_501001 BK486 BK500 HB hHeld ⊢
 refine take_ (i := 0) (N := some 41) (v := ?_) (a' := ?_) (bs 1 5) rfl rfl (by kernel_rfl) (fun _ _ _ h => h) (Or.inl ⟨by rfl, ?_⟩) hHeld ?_ ?_
 rotate_left
 {
 rintro w' ⟨s0, s1, s2, s3⟩
 go_simp
 with_reducible rfl
 }
 rotate_left
 {
 simp only [Act.put, sT, sZ, sU, i64_w, i32_w]
 rfl
 }
 refine take_ (i := 1) (N := some 42) (v := ?_) (a' := ?_) (bs 2 5) rfl rfl (by kernel_rfl) (fun _ _ _ h => h) (Or.inl ⟨by rfl, ?_⟩) hHeld ?_ ?_
 rotate_left
 {
 rintro w' ⟨s0, s1, s2, s3⟩
 go_simp
 with_reducible rfl
 }
 rotate_left
 {
 simp only [Act.put, sT, sZ, sU, i64_w, i32_w]
 rfl
 }
 refine one_ (i := 2) (N := some 43) (bs 3 5) rfl rfl (by kernel_rfl) (by decide) (fun K hK => ?_)
 refine gsK Try.func23 #[.agg #[.int .i64 a0_0, .slice A0_1 l0_1.length c0_1]] ?_
 with_reducible refine (laws_toSimple.calls kj10 a0_0 _ _ l0_1 t506 t507 _ ?side1 ?side2 A31.out).mono ?_
 (case side1 => exact cX HR0_1 HB)
 (case side2 => exact HC0_1.out)
 rintro e w37 ⟨v508, rfl, ho0, hb⟩
 refine ⟨_, rfl, ?_⟩
 have n0_ := mK (Kd.R_below (rX HO_4) hb)
 have n1_ := mK (Kd.R_below (rX HO_7) hb)
 have n2_ := mK (Kd.R_elder' (rX HO_501001) (Kd.R_base ho0) hb)
 have n3_ := mK (Kd.R_lower (Kd.R_new' ho0 (Kd.R_lt (rX HO_501001))) (below_size (bX HB)))
 have n4_ := kB BK486 hb
 have n5_ := kB BK500 hb
 have n6_ := bB HB hb
 clear HO_4
 clear HO_7
 clear HO_501001
 clear BK486
 clear BK500
 clear HB
 have HO_4 := n0_
 have HO_7 := n1_
 have HO_501001 := n2_
 have HO509 := n3_
 have BK486 := n4_
 have BK500 := n5_
 have HB := n6_
 clear n0_ n1_ n2_ n3_ n4_ n5_ n6_
 (try clear hb)
 (try clear hb2)
 (try clear hk)
 (try clear hi)
 (try clear ho0)
 obtain ⟨Ao38, co38, eo38⟩ := Kd.R_slice HO509.out
 (first | subst eo38 | (injection eo38 with f1_ f2_ f3_; have f4_ := f1_.symm; have f5_ := f3_.symm; clear f1_ f2_ f3_; subst f4_; subst f5_))
 refine hK.out _ _ ⟨(blk_cell BK500.out 0).trans rfl, (blk_cell BK500.out 1).trans rfl, (blk_cell BK486.out 0).trans rfl, (blk_cell BK486.out 1).trans rfl⟩ (fun hHeld => ?_)
 clear hK K
 refine norm_ (a' := ?_) ?_ ?_
 rotate_left
 {
 show Act.put _ (some 43) _ = _
 simp only [Act.put, sT, sZ, sU, i64_w, i32_w]
 rfl
 }
 refine one_ (i := 3) (N := some 44) (bs 4 5) rfl rfl (by kernel_rfl) (by decide) (fun K hK => ?_)
 refine gsK Try.func25 #[.agg #[.int .i64 t496, .slice Ao24 t497.length co24], .agg #[.int .i64 t506, .slice Ao38 t507.length co38]] ?_
 with_reducible refine (laws_eqSimple.calls kj10 t496 _ _ t497 t506 _ _ t507 true _ ?side1 ?side2 ?side3 ?side4 A32.out).mono ?_
 (case side1 => repeat (first | exact (Kd.R_reads' HO_501001.out).2.2 | (with_reducible refine Kd.C_alloc ?_ _) | (with_reducible refine Kd.C_drewN ?_ _) | (with_reducible refine Kd.C_drew ?_)))
 (case side2 => exact (Kd.R_reads' HO_501001.out).2.1)
 (case side3 => repeat (first | exact (Kd.R_reads' HO509.out).2.2 | (with_reducible refine Kd.C_alloc ?_ _) | (with_reducible refine Kd.C_drewN ?_ _) | (with_reducible refine Kd.C_drew ?_)))
 (case side4 => exact (Kd.R_reads' HO509.out).2.1)
 rintro e w39 ⟨rfl, hb⟩
 refine ⟨_, rfl, ?_⟩
 have n0_ := mK (Kd.R_below (rX HO_4) hb)
 have n1_ := mK (Kd.R_below (rX HO_7) hb)
 have n2_ := mK (Kd.R_below (rX HO_501001) hb)
 have n3_ := mK (Kd.R_below (rX HO509) hb)
 have n4_ := kB BK486 hb
 have n5_ := kB BK500 hb
 have n6_ := bB HB hb
 clear HO_4
 clear HO_7
 clear HO_501001
 clear HO509
 clear BK486
 clear BK500
 clear HB
 have HO_4 := n0_
 have HO_7 := n1_
 have HO_501001 := n2_
 have HO509 := n3_
 have BK486 := n4_
 have BK500 := n5_
 have HB := n6_
 clear n0_ n1_ n2_ n3_ n4_ n5_ n6_
 (try clear hb)
 (try clear hb2)
 (try clear hk)
 (try clear hi)
 refine hK.out _ _ ⟨(blk_cell BK500.out 0).trans rfl, (blk_cell BK500.out 1).trans rfl, (blk_cell BK486.out 0).trans rfl, (blk_cell BK486.out 1).trans rfl⟩ (fun hHeld => ?_)
 clear hK K
 refine norm_ (a' := ?_) ?_ ?_
 rotate_left
 {
 show Act.put _ (some 44) _ = _
 simp only [Act.put, sT, sZ, sU, i64_w, i32_w]
 rfl
 }
 refine pure_ (i := 4) (N := some 45) (v := ?_) (a' := ?_) (bs 5 5) rfl rfl (by kernel_rfl) (fun _ _ _ h => h) (Or.inl ⟨by rfl, ?_⟩) ?_ ?_
 rotate_left
 {
 intro w'
 go_simp
 with_reducible rfl
 }
 rotate_left
 {
 simp only [Act.put, sT, sZ, sU, i64_w, i32_w]
 rfl
 }
 refine done_ (by kernel_rfl) ?_
 have hnb40 := NB500_486.out
 have hnc40 := NB486_500.out
 have hcz41_0 := q0 BK500
 have hcz41_1 := q1 BK500
 have hfz41_0 := fX BK500 0
 have hfz41_1 := fX BK500 1
 go_upto_region 14 with (first | ((with_reducible refine gate_callee (f := 32) rfl ?_); refine gsE (some 48) Try.func32 #[.agg #[.int .i64 t496, .slice Ao24 t497.length co24], .int .i64 1] ?_; (with_reducible refine (laws_markSimple.calls kj10 t496 (fun k_ => some k_ = (.slice Ao24 t497.length co24 : Value).ownBlock) (.slice Ao24 t497.length co24) t497 1 t511 t512 w _ ?side1 ?side2 A34.out).mono ?_); (case side1 => repeat (first | (with_reducible first | exact HB.out | apply below_alloc | apply pw_below_drewN | apply below_drew1 | refine below_set ?_ GE486.out | refine below_set ?_ GE500.out) | exact HB.out)); (case side2 => exact Kd.R_tight rfl HO_501001.out); rintro e w42 ⟨rfl, hy0, hb, hkp⟩; refine ⟨_, rfl, ?_⟩; replace HO_4 := mK (Kd.R_mono (ok' := fun k_ => some k_ ≠ (v502 : Value).ownBlock) (Kd.R_keptB ((Kd.R_apart' HO_4.out (Kd.R_typed HO_501001.out) (by decide))) hkp (fun k_ hk_ hs_ => (hk_.2) hs_)) (fun k_ hk_ => hk_.1.1)); replace HO_7 := mK (Kd.R_mono (ok' := fun k_ => some k_ ≠ (v493 : Value).ownBlock) (Kd.R_keptB ((Kd.R_apart' HO_7.out (Kd.R_typed HO_501001.out) (by decide))) hkp (fun k_ hk_ hs_ => (hk_.2) hs_)) (fun k_ hk_ => hk_.1.1)); replace BK486 := mK (blk_kept (kX BK486) hkp (fun hs_ => (fun e_ => (Kd.R_ne HO_501001.out BK486.out (by decide)) e_) hs_)); replace BK500 := mK (blk_kept (kX BK500) hkp (fun hs_ => (fun e_ => (Kd.R_ne HO_501001.out BK500.out (by decide)) e_) hs_)); replace HO_501001 := mK (Kd.R_reok rfl hy0 (fun k_ e_ => HO_501001.out.1 k_ e_)); replace HO509 := mK (Kd.R_mono (ok' := fun k_ => some k_ ≠ (.slice Ao24 t497.length co24 : Value).ownBlock) (Kd.R_keptB (HO509.out) hkp (fun k_ hk_ hs_ => (hk_.2) hs_)) (fun k_ hk_ => hk_.1.2)); replace HB := mK (hb); (try clear hb); (try clear hkp); (try clear hy0)))
 (try simp only [Act.put, sT, sZ, sU])
 go_cut [61] (fun v61 wc => ∃ (kq : Nat) (x61_34 : Bool), v61 = .bool x61_34 ∧ Aside0 (laws_FnExactEarliestTimes.j1 kq t492 t495 t501 x61_34 a0_0 l0_1 = some r) ∧ Aside0 (kq ≤ kj10) ∧ Aside0 (Kd.R (Kd.int .i64) 3 wc w.heap.size (fun k_ => some k_ ≠ (v502 : Value).ownBlock) v493 t492) ∧ Aside0 (Kd.R (Kd.int .i64) 3 wc w.heap.size (fun k_ => some k_ ≠ (v493 : Value).ownBlock) v502 t501) ∧ Aside0 (Kd.R k76 76 wc w.heap.size (fun _ => True) (.slice Ao24 t497.length co24) t512) ∧ Aside0 (wc.heap[gb486]? = some (.cells #[.int .i64 a0_0, (.slice A0_1 l0_1.length c0_1)] 42 (0, 0))) ∧ Aside0 (wc.heap[gb500]? = some (.cells #[.int .i64 t496, (.slice Ao24 t497.length co24)] 47 (0, 0))) ∧ Aside0 (Below w.heap.size w wc))
 case first => (
 have H := HC35.out
 clear HC35
 by_cases c43 : t511 < 0
 {
 rw [if_pos c43] at H
 have c43b0 : decide (t511 < 0) = true := decide_eq_true c43
 clear c43
 (first | rw [c43b0] | (simp only [i64_w, i32_w]; rw [c43b0]) | skip)
 subst hr_
 exact absurd H (by cases kj10 <;> simp [laws_FnExactEarliestTimes.j1])
 }
 rw [if_neg c43] at H
 have c43b0 : decide (t511 < 0) = false := decide_eq_false c43
 clear c43
 (first | rw [c43b0] | (simp only [i64_w, i32_w]; rw [c43b0]) | skip)
 replace H := Option.bind_eq_some_iff.mp H
 obtain ⟨t513, A440, H⟩ := H
 replace H : (if t513 = true then (laws_FnExactEarliestTimes.j1 kj10 t492 t495 t501 (t504 != t495) a0_0 l0_1) else (laws_FnExactEarliestTimes.j1 kj10 t492 t495 t501 true a0_0 l0_1)) = some r := H
 have A44 := mK A440
 clear A440
 by_cases c45 : t513 = true
 rotate_left
 {
 replace c45 := Bool.eq_false_iff.mpr c45
 subst c45
 rw [if_neg (show ¬ (false = true) by decide)] at H
 subst hr_
 exact absurd H (by cases kj10 <;> simp [laws_FnExactEarliestTimes.j1])
 }
 subst c45
 rw [if_pos rfl] at H
 have H' := mK H
 clear H
 obtain ⟨Ao46, co46, eo46⟩ := Kd.R_slice HO_7.out
 subst eo46
 obtain ⟨Ao47, co47, eo47⟩ := Kd.R_slice HO_4.out
 subst eo47
 go_wp2_with (first | (go_at_call 31; (with_reducible refine (laws_eqIntS.calls kj10 _ _ t501 _ _ t492 true _ ?side1 ?side2 ?side3 ?side4 A44.out).mono ?_); (case side1 => repeat (first | exact (Kd.R_reads' HO_7.out).2.2 | (with_reducible refine Kd.C_alloc ?_ _) | (with_reducible refine Kd.C_drewN ?_ _) | (with_reducible refine Kd.C_drew ?_))); (case side2 => exact (Kd.R_reads' HO_7.out).2.1); (case side3 => repeat (first | exact (Kd.R_reads' HO_4.out).2.2 | (with_reducible refine Kd.C_alloc ?_ _) | (with_reducible refine Kd.C_drewN ?_ _) | (with_reducible refine Kd.C_drew ?_))); (case side4 => exact (Kd.R_reads' HO_4.out).2.1); rintro e w' ⟨rfl, ⟨nd, rfl⟩⟩))
 go_meet
 case rel => exact ⟨_, ((t504 != t495)), (by first | rfl | (simp; done) | (simp [*]; done)), H', ⟨by have := HJ10.out; first | omega | exact Nat.le_refl _⟩, ⟨rX HO_4⟩, ⟨rX HO_7⟩, ⟨by (with_reducible repeat first|apply rA|apply rN|apply rD); exact Kd.R_mono HO_501001.out (fun _ hk => trivial)⟩, ⟨kX BK486⟩, ⟨kX BK500⟩, ⟨bX HB⟩⟩
 )
 case rest => (
 clear HC35
 try clear c2
 try clear p2
 try clear c3
 try clear c3b0
 try clear c4
 try clear c6
 try clear c21
 try clear c22
 try clear c23
 try clear c25
 try clear c27
 try clear c29
 try clear c30
 try clear c31
 try clear c32
 try clear c33
 try clear c40
 try clear c43
 try clear c43b0
 try clear c45
 try clear hcz13_0
 try clear hcz13_1
 try clear hcz15_0
 try clear hcz15_1
 try clear hcz19_0
 try clear hcz19_1
 try clear hcz23_0
 try clear hcz23_1
 try clear hcz41_0
 try clear hcz41_1
 try clear hcz5_0
 try clear hcz5_1
 try clear hfz13_0
 try clear hfz13_1
 try clear hfz15_0
 try clear hfz15_1
 try clear hfz19_0
 try clear hfz19_1
 try clear hfz23_0
 try clear hfz23_1
 try clear hfz41_0
 try clear hfz41_1
 try clear hfz5_0
 try clear hfz5_1
 try clear p2
 obtain ⟨kq, x61_34, rfl, HA, HJ34, HO_4, HO_7, HO_501001, BK486, BK500, HB⟩ := hcut
 have hl501001_34 := (Kd.R_reads' HO_501001.out).1
 rw [hl501001_34] at HO_501001
 (try simp only [hl501001_34])
 (try simp only [hl501001_34] at BK486)
 (try simp only [hl501001_34] at BK500)
 (try simp only [hl501001_34] at HO_4)
 (try simp only [hl501001_34] at HO_7)
 cases kq with
 | zero => exact absurd HA.out (by simp [laws_FnExactEarliestTimes.j1])
 | succ kj34 => (
 have H := HA.out
 clear HA
 simp only [laws_FnExactEarliestTimes.j1] at H
 by_cases c48 : x61_34 = true
 {
 subst c48
 rw [if_pos rfl] at H
 obtain rfl := Option.some.inj H
 exact absurd hr_ (by decide)
 }
 replace c48 := Bool.eq_false_iff.mpr c48
 subst c48
 rw [if_neg (show ¬ (false = true) by decide)] at H
 replace H := Option.bind_eq_some_iff.mp H
 obtain ⟨⟨t514, t515⟩, A490, H⟩ := H
 replace H : ((laws_heldIntS.f kj34 t515 1).bind fun t516 => (if t516 < 0 then (some false) else (if t516 = t514 then ((laws_toSimple.f kj34 a0_0 l0_1).bind fun bt517 => ((impl_EarliestTimes.f kj34 bt517.1 bt517.2).bind fun bt521 => ((laws_eqIntS.f kj34 bt521.1 t492).bind fun t525 => (if t525 = true then (laws_FnExactEarliestTimes.j2 kj34 t515 t514 (bt521.2 != t495)) else (laws_FnExactEarliestTimes.j2 kj34 t515 t514 true))))) else (some false)))) = some r := H
 have A49 := mK A490
 clear A490
 replace H := Option.bind_eq_some_iff.mp H
 obtain ⟨t516, A500, H⟩ := H
 replace H : (if t516 < 0 then (some false) else (if t516 = t514 then ((laws_toSimple.f kj34 a0_0 l0_1).bind fun bt517 => ((impl_EarliestTimes.f kj34 bt517.1 bt517.2).bind fun bt521 => ((laws_eqIntS.f kj34 bt521.1 t492).bind fun t525 => (if t525 = true then (laws_FnExactEarliestTimes.j2 kj34 t515 t514 (bt521.2 != t495)) else (laws_FnExactEarliestTimes.j2 kj34 t515 t514 true))))) else (some false))) = some r := H
 have A50 := mK A500
 clear A500
 by_cases c51 : t516 < 0
 {
 rw [if_pos c51] at H
 have c51b0 : decide (t516 < 0) = true := decide_eq_true c51
 clear c51
 obtain rfl := Option.some.inj H
 exact absurd hr_ (by decide)
 }
 rw [if_neg c51] at H
 have c51b0 : decide (t516 < 0) = false := decide_eq_false c51
 clear c51
 by_cases c52 : t516 = t514
 rotate_left
 {
 rw [if_neg c52] at H
 have c52b0 : (t516 == t514) = false := beq_eq_false_iff_ne.mpr c52
 have c52b1 : (t516 != t514) = true := bne_iff_ne.mpr c52
 obtain rfl := Option.some.inj H
 exact absurd hr_ (by decide)
 }
 rw [if_pos c52] at H
 have c52b0 : (t516 == t514) = true := beq_iff_eq.mpr c52
 have c52b1 : (t516 != t514) = false := bne_eq_false_iff_eq.mpr c52
 clear c52
 replace H := Option.bind_eq_some_iff.mp H
 obtain ⟨⟨t517, t518⟩, A530, H⟩ := H
 replace H : ((impl_EarliestTimes.f kj34 t517 t518).bind fun bt521 => ((laws_eqIntS.f kj34 bt521.1 t492).bind fun t525 => (if t525 = true then (laws_FnExactEarliestTimes.j2 kj34 t515 t514 (bt521.2 != t495)) else (laws_FnExactEarliestTimes.j2 kj34 t515 t514 true)))) = some r := H
 have A53 := mK A530
 clear A530
 replace H := Option.bind_eq_some_iff.mp H
 obtain ⟨⟨t521, t524⟩, A540, H⟩ := H
 replace H : ((laws_eqIntS.f kj34 t521 t492).bind fun t525 => (if t525 = true then (laws_FnExactEarliestTimes.j2 kj34 t515 t514 (t524 != t495)) else (laws_FnExactEarliestTimes.j2 kj34 t515 t514 true))) = some r := H
 have A54 := mK A540
 clear A540
 have HC55 := mK H
 clear H
 obtain ⟨Ao56, co56, eo56⟩ := Kd.R_slice HO_7.out
 subst eo56
 go_upto_region 25 with (first | ((with_reducible refine gate_callee (f := 33) rfl ?_); refine gsE (some 64) Try.func33 #[.slice Ao56 t501.length co56, .int .i64 1] ?_; (with_reducible refine (laws_markIntS.calls kj34 (fun k_ => some k_ = (.slice Ao56 t501.length co56 : Value).ownBlock) (.slice Ao56 t501.length co56) t501 1 t514 t515 w _ ?side1 ?side2 A49.out).mono ?_); (case side1 => repeat (first | (with_reducible first | exact HB.out | apply below_alloc | apply pw_below_drewN | apply below_drew1 | refine below_set ?_ GE486.out | refine below_set ?_ GE500.out) | exact HB.out)); (case side2 => exact Kd.R_tight rfl HO_7.out); rintro e w57 ⟨rfl, hy0, hb, hkp⟩; refine ⟨_, rfl, ?_⟩; replace HO_4 := mK (Kd.R_mono (ok' := fun k_ => some k_ ≠ (.slice Ao56 t501.length co56 : Value).ownBlock) (Kd.R_keptB (HO_4.out) hkp (fun k_ hk_ hs_ => (hk_) hs_)) (fun k_ hk_ => hk_.1)); replace HO_501001 := mK (Kd.R_mono (ok' := fun k_ => True) (Kd.R_keptB ((Kd.R_apart' HO_501001.out (Kd.R_typed HO_7.out) (by decide))) hkp (fun k_ hk_ hs_ => (hk_.2) hs_)) (fun k_ hk_ => trivial)); replace BK486 := mK (blk_kept (kX BK486) hkp (fun hs_ => (fun e_ => (Kd.R_ne HO_7.out BK486.out (by decide)) e_) hs_)); replace BK500 := mK (blk_kept (kX BK500) hkp (fun hs_ => (fun e_ => (Kd.R_ne HO_7.out BK500.out (by decide)) e_) hs_)); replace HO_7 := mK (Kd.R_reok rfl hy0 (fun k_ e_ => HO_7.out.1 k_ e_)); replace HB := mK (hb); (try clear hb); (try clear hkp); (try clear hy0)) | ((with_reducible refine gate_callee (f := 34) rfl ?_); refine goesL_ (some 67) rfl rfl Try.func34 (by kernel_rfl) rfl #[.slice Ao56 t515.length co56, .int .i64 1] rfl (by (try simp only [List.map_toArray, List.map_cons, List.map_nil]); first | done | (rw [show t515.length = t501.length from (Kd.R_reads' HO_7.out).1.symm] <;> rfl) | rfl | (simp only [List.length_drop, List.length_take]; rfl)) ?_; (with_reducible refine (laws_heldIntS.calls kj34 _ _ t515 1 t516 _ ?side1 ?side2 A50.out).mono ?_); (case side1 => repeat (first | exact (Kd.R_reads' HO_7.out).2.2 | (with_reducible refine Kd.C_alloc ?_ _) | (with_reducible refine Kd.C_drewN ?_ _) | (with_reducible refine Kd.C_drew ?_))); (case side2 => rw [show t515.length = t501.length from (Kd.R_reads' HO_7.out).1.symm]; exact (Kd.R_reads' HO_7.out).2.1); rintro e w' ⟨rfl, ⟨nd, rfl⟩⟩; refine ⟨_, rfl, ?_⟩; have hnb58 := NB486_500.out; have hnc58 := NB500_486.out; have hcz59_0 := q0 BK486; have hcz59_1 := q1 BK486; have hfz59_0 := fX BK486 0; have hfz59_1 := fX BK486 1) | ((with_reducible refine gate_callee (f := 23) rfl ?_); refine gsE (some 75) Try.func23 #[.agg #[.int .i64 a0_0, .slice A0_1 l0_1.length c0_1]] ?_; (with_reducible refine (laws_toSimple.calls kj34 a0_0 _ _ l0_1 t517 t518 _ ?side1 ?side2 A53.out).mono ?_); (case side1 => repeat (first | exact (Kd.C_below HR0_1.out (bX HB)) | (with_reducible refine Kd.C_alloc ?_ _) | (with_reducible refine Kd.C_drewN ?_ _) | (with_reducible refine Kd.C_drew ?_))); (case side2 => exact HC0_1.out); rintro e w60 ⟨v519, rfl, ho0, hb⟩; refine ⟨_, rfl, ?_⟩; replace HO_4 := mK (Kd.R_below (rX HO_4) hb); replace HO_7 := mK (Kd.R_below (rX HO_7) hb); have HO520 := mK (Kd.R_lower (Kd.R_new' ho0 (Kd.R_lt (rX HO_501001))) (below_size (bX HB))); replace HO_501001 := mK (Kd.R_elder' (rX HO_501001) (Kd.R_base ho0) hb); replace BK486 := kB BK486 hb; replace BK500 := kB BK500 hb; replace HB := bB HB hb; (try clear hb); (try clear hb2); (try clear hk); (try clear hi); (try clear ho0); obtain ⟨Ao61, co61, eo61⟩ := Kd.R_slice HO520.out; subst eo61) | ((with_reducible refine gate_callee (f := 30) rfl ?_); refine gsE (some 76) Try.func30 #[.agg #[.int .i64 t517, .slice Ao61 t518.length co61]] ?_; (with_reducible refine (impl_EarliestTimes.calls kj34 t517 _ _ t518 t521 t524 _ ?side1 ?side2 A54.out).mono ?_); (case side1 => repeat (first | exact (Kd.R_reads' HO520.out).2.2 | (with_reducible refine Kd.C_alloc ?_ _) | (with_reducible refine Kd.C_drewN ?_ _) | (with_reducible refine Kd.C_drew ?_))); (case side2 => exact (Kd.R_reads' HO520.out).2.1); rintro e w62 ⟨v522, rfl, ho0, hb⟩; refine ⟨_, rfl, ?_⟩; replace HO_501001 := mK (Kd.R_below (rX HO_501001) hb); replace HO520 := mK (Kd.R_below (rX HO520) hb); have HO523 := mK (Kd.R_lower (Kd.R_new' (Kd.R_new' ho0 (Kd.R_lt (rX HO_4))) (Kd.R_lt (rX HO_7))) (below_size (bX HB))); replace HO_4 := mK (Kd.R_elder' (rX HO_4) (Kd.R_base ho0) hb); replace HO_7 := mK (Kd.R_elder' (rX HO_7) (Kd.R_base ho0) hb); replace BK486 := kB BK486 hb; replace BK500 := kB BK500 hb; replace HB := bB HB hb; (try clear hb); (try clear hb2); (try clear hk); (try clear hi); (try clear ho0)))
 (try simp only [Act.put, sT, sZ, sU])
 go_cut [87] (fun v87 wc => ∃ (kq : Nat) (x87_54 : Bool), v87 = .bool x87_54 ∧ Aside0 (laws_FnExactEarliestTimes.j2 kq t515 t514 x87_54 = some r) ∧ Aside0 (kq ≤ kj34) ∧ Aside0 (Kd.R (Kd.int .i64) 3 wc w.heap.size (fun _ => True) (.slice Ao56 t501.length co56) t515) ∧ Aside0 (Kd.R k76 76 wc w.heap.size (fun _ => True) (.slice Ao24 t512.length co24) t512) ∧ Aside0 (wc.heap[gb486]? = some (.cells #[.int .i64 a0_0, (.slice A0_1 l0_1.length c0_1)] 42 (0, 0))) ∧ Aside0 (wc.heap[gb500]? = some (.cells #[.int .i64 t496, (.slice Ao24 t512.length co24)] 47 (0, 0))) ∧ Aside0 (Below w.heap.size w wc))
 case first => (
 have H := HC55.out
 clear HC55
 replace H := Option.bind_eq_some_iff.mp H
 obtain ⟨t525, A630, H⟩ := H
 replace H : (if t525 = true then (laws_FnExactEarliestTimes.j2 kj34 t515 t514 (t524 != t495)) else (laws_FnExactEarliestTimes.j2 kj34 t515 t514 true)) = some r := H
 have A63 := mK A630
 clear A630
 by_cases c64 : t525 = true
 rotate_left
 {
 replace c64 := Bool.eq_false_iff.mpr c64
 subst c64
 rw [if_neg (show ¬ (false = true) by decide)] at H
 subst hr_
 exact absurd H (by cases kj34 <;> simp [laws_FnExactEarliestTimes.j2])
 }
 subst c64
 rw [if_pos rfl] at H
 have H' := mK H
 clear H
 obtain ⟨Ao65, co65, eo65⟩ := Kd.R_slice HO523.out
 subst eo65
 obtain ⟨Ao66, co66, eo66⟩ := Kd.R_slice HO_4.out
 subst eo66
 go_wp2_with (first | ((with_reducible refine gate_callee (f := 31) rfl ?_); refine gsE (some 81) Try.func31 #[.slice Ao65 t521.length co65, .slice Ao66 t492.length co66] ?_; (with_reducible refine (laws_eqIntS.calls kj34 _ _ t521 _ _ t492 true _ ?side1 ?side2 ?side3 ?side4 A63.out).mono ?_); (case side1 => repeat (first | exact (Kd.R_reads' HO523.out).2.2 | (with_reducible refine Kd.C_alloc ?_ _) | (with_reducible refine Kd.C_drewN ?_ _) | (with_reducible refine Kd.C_drew ?_))); (case side2 => exact (Kd.R_reads' HO523.out).2.1); (case side3 => repeat (first | exact (Kd.R_reads' HO_4.out).2.2 | (with_reducible refine Kd.C_alloc ?_ _) | (with_reducible refine Kd.C_drewN ?_ _) | (with_reducible refine Kd.C_drew ?_))); (case side4 => exact (Kd.R_reads' HO_4.out).2.1); rintro e w' ⟨rfl, ⟨nd, rfl⟩⟩; refine ⟨_, rfl, ?_⟩))
 go_meet
 case rel => exact ⟨_, ((t524 != t495)), (by first | rfl | (simp; done) | (simp [*]; done)), H', ⟨by have := HJ10.out; have := HJ34.out; first | omega | exact Nat.le_refl _⟩, ⟨by (try simp only [hl501001_34]); (with_reducible repeat first|apply rA|apply rN|apply rD); exact Kd.R_mono HO_7.out (fun _ hk => trivial)⟩, ⟨by (try simp only [hl501001_34]); (with_reducible repeat first|apply rA|apply rN|apply rD); exact Kd.R_mono HO_501001.out (fun _ hk => trivial)⟩, ⟨by (try simp only [hl501001_34]); (with_reducible repeat first|apply kN|apply kD|apply kA); exact BK486.out⟩, ⟨by (try simp only [hl501001_34]); (with_reducible repeat first|apply kN|apply kD|apply kA); exact BK500.out⟩, ⟨bX HB⟩⟩
 )
 case rest => (
 clear HC55
 try clear c2
 try clear p2
 try clear c3
 try clear c3b0
 try clear c4
 try clear c5
 try clear c6
 try clear c21
 try clear c22
 try clear c23
 try clear c25
 try clear c27
 try clear c29
 try clear c30
 try clear c31
 try clear c32
 try clear c33
 try clear c34
 try clear c40
 try clear c43
 try clear c43b0
 try clear c45
 try clear c48
 try clear c51
 try clear c51b0
 try clear c52
 try clear c52b0
 try clear c52b1
 try clear c58
 try clear c64
 try clear hcz13_0
 try clear hcz13_1
 try clear hcz15_0
 try clear hcz15_1
 try clear hcz19_0
 try clear hcz19_1
 try clear hcz23_0
 try clear hcz23_1
 try clear hcz41_0
 try clear hcz41_1
 try clear hcz59_0
 try clear hcz59_1
 try clear hcz5_0
 try clear hcz5_1
 try clear hfz13_0
 try clear hfz13_1
 try clear hfz15_0
 try clear hfz15_1
 try clear hfz19_0
 try clear hfz19_1
 try clear hfz23_0
 try clear hfz23_1
 try clear hfz41_0
 try clear hfz41_1
 try clear hfz59_0
 try clear hfz59_1
 try clear hfz5_0
 try clear hfz5_1
 try clear p2
 obtain ⟨kq, x87_54, rfl, HA, HJ54, HO_7, HO_501001, BK486, BK500, HB⟩ := hcut
 have hl7_54 := (Kd.R_reads' HO_7.out).1
 rw [hl7_54] at HO_7
 (try simp only [hl7_54])
 (try simp only [hl7_54] at BK486)
 (try simp only [hl7_54] at BK500)
 (try simp only [hl7_54] at HO_501001)
 cases kq with
 | zero => exact absurd HA.out (by simp [laws_FnExactEarliestTimes.j2])
 | succ kj54 => (
 have H := HA.out
 clear HA
 simp only [laws_FnExactEarliestTimes.j2] at H
 by_cases c67 : x87_54 = true
 {
 subst c67
 rw [if_pos rfl] at H
 obtain rfl := Option.some.inj H
 exact absurd hr_ (by decide)
 }
 replace c67 := Bool.eq_false_iff.mpr c67
 subst c67
 rw [if_neg (show ¬ (false = true) by decide)] at H
 replace H := Option.bind_eq_some_iff.mp H
 obtain ⟨t526, A680, H⟩ := H
 replace H : (if t526 < 0 then (some false) else (if t526 = t514 then (some true) else (some false))) = some r := H
 have A68 := mK A680
 clear A680
 by_cases c69 : t526 < 0
 {
 rw [if_pos c69] at H
 have c69b0 : decide (t526 < 0) = true := decide_eq_true c69
 clear c69
 obtain rfl := Option.some.inj H
 exact absurd hr_ (by decide)
 }
 rw [if_neg c69] at H
 have c69b0 : decide (t526 < 0) = false := decide_eq_false c69
 clear c69
 by_cases c70 : t526 = t514
 rotate_left
 {
 rw [if_neg c70] at H
 have c70b0 : (t526 == t514) = false := beq_eq_false_iff_ne.mpr c70
 have c70b1 : (t526 != t514) = true := bne_iff_ne.mpr c70
 obtain rfl := Option.some.inj H
 exact absurd hr_ (by decide)
 }
 rw [if_pos c70] at H
 have c70b0 : (t526 == t514) = true := beq_iff_eq.mpr c70
 have c70b1 : (t526 != t514) = false := bne_eq_false_iff_eq.mpr c70
 clear c70
 obtain rfl := Option.some.inj H
 clear hr_
 go_wp2_with (first | ((with_reducible refine gate_callee (f := 34) rfl ?_); refine gsE (some 90) Try.func34 #[.slice Ao56 t515.length co56, .int .i64 1] ?_; (with_reducible refine (laws_heldIntS.calls kj54 _ _ t515 1 t526 _ ?side1 ?side2 A68.out).mono ?_); (case side1 => repeat (first | exact (Kd.R_reads' HO_7.out).2.2 | (with_reducible refine Kd.C_alloc ?_ _) | (with_reducible refine Kd.C_drewN ?_ _) | (with_reducible refine Kd.C_drew ?_))); (case side2 => exact (Kd.R_reads' HO_7.out).2.1); rintro e w' ⟨rfl, ⟨nd, rfl⟩⟩; refine ⟨_, rfl, ?_⟩))
 go_ret
 exact ⟨by first | rfl | (simp [errW_none, errW_some] <;> rfl) | (simp [*, errW_none, errW_some] <;> rfl), bX HB⟩
 )
 )
 )
 )
 )
 )

/-- THE ONE PURE STATEMENT of laws_FnExactEarliestTimes: yours. -/
def laws_FnExactEarliestTimes.Pure : Prop := ∀ (a0_0 : Int) (l0_1 : List (S128)), (Lit.int .i64 a0_0).wf = true → l0_1.length ≤ maxLen → (∀ yl0_1 ∈ l0_1, (Lit.int .i64 yl0_1.f0).wf = true ∧ (Lit.int .i64 yl0_1.f1).wf = true ∧ (Lit.int .i64 yl0_1.f2.f0).wf = true ∧ (Lit.int .i64 yl0_1.f2.f1).wf = true) → ∃ k, laws_FnExactEarliestTimes.f k a0_0 l0_1 = some true
theorem laws_FnExactEarliestTimes.walk (P : laws_FnExactEarliestTimes.Pure) (a0_0 : Int) (A0_1 : Option Addr) (c0_1 : Nat) (l0_1 : List (S128)) (w : World) (hr0_1 : Kd.C k128 w A0_1 l0_1.length l0_1) (hc0_1 : l0_1.length ≤ c0_1) (q0_0 : (Lit.int .i64 a0_0).wf = true) (q0_1 : l0_1.length ≤ maxLen) (q0_2 : (∀ yl0_1 ∈ l0_1, (Lit.int .i64 yl0_1.f0).wf = true ∧ (Lit.int .i64 yl0_1.f1).wf = true ∧ (Lit.int .i64 yl0_1.f2.f0).wf = true ∧ (Lit.int .i64 yl0_1.f2.f1).wf = true)) :
    Calls Try.prog 6 #[.agg #[.int .i64 a0_0, .slice A0_1 l0_1.length c0_1]] w fun e w' => e = .returned (.bool true) ∧ Below w.heap.size w w' := by
  obtain ⟨k, h⟩ := P a0_0 l0_1 q0_0 q0_1 q0_2
  refine (laws_FnExactEarliestTimes.calls k a0_0 A0_1 c0_1 l0_1 true w hr0_1 hc0_1 h rfl).mono ?_
  rintro e w' ⟨rfl, hd⟩
  exact ⟨rfl, hd⟩

end Go.Proofs.Ytbbblnmngjhadaa.QFnExactEarliestTimes
