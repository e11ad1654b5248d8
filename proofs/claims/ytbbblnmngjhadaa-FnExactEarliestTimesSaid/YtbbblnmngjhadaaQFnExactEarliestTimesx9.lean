-- Written by this session's program wip/tools/mk.py out of the translation; Lean checks it.
import Derived.Test.YtbbblnmngjhadaaQFnExactEarliestTimesx0
import Derived.Test.YtbbblnmngjhadaaQFnExactEarliestTimesx5
import Derived.Test.YtbbblnmngjhadaaQFnExactEarliestTimesx7
import Derived.Test.YtbbblnmngjhadaaQFnExactEarliestTimesx8
namespace Go.Proofs.Ytbbblnmngjhadaa.QFnExactEarliestTimes
open Go.RowKit Go.Proofs.YtbbblnmngjhadaaW.PrintWords Go.Proofs.YtbbblnmngjhadaaW.PrintLast Go.Proofs.YtbbblnmngjhadaaW.PrintMore
attribute [local go_sem] max2_int min2_int max_two min_two max_three min_three max_four min_four   -- for this text's walks alone
set_option linter.unusedVariables false
set_option linter.unusedSimpArgs false

/-! ### spec_WindowOf: function 26 -/
def spec_WindowOf.f (k : Nat) (a0_0 : Int) (l0_1 : List (S76)) (a1 : Int) : Option (Int × Int × Bool) := (spec_IsConsistent.f k a0_0 l0_1).bind fun t304 => (if t304 = true then ((spec_GraphOf.f k a0_0 l0_1).bind fun bt305 => ((spec_CloseGraph.f k bt305.1 bt305.2).bind fun bt309 => ((spec_WindowBetween.f k bt309.1 bt309.2.1 0 a1).bind fun bt315 => (some (bt315.1, bt315.2.1, bt315.2.2))))) else (some (0, 0, false)))
theorem spec_WindowOf.mono : ∀ a0 a1 a2 k, LeO (spec_WindowOf.f k a0 a1 a2) (spec_WindowOf.f (k + 1) a0 a1 a2) := by
  intro a0 a1 a2 k
  unfold spec_WindowOf.f
  repeat' first|(with_reducible first|exact spec_CloseGraph.mono _ _ _|exact spec_GraphOf.mono _ _ _|exact spec_IsConsistent.mono _ _ _|exact spec_WindowBetween.mono _ _ _ _ _|exact lR _|exact lN _|refine lI ?_ ?_|refine lB ?_ (fun _ => ?_))|exact spec_CloseGraph.mono _ _ _|exact spec_GraphOf.mono _ _ _|exact spec_IsConsistent.mono _ _ _|exact spec_WindowBetween.mono _ _ _ _ _|exact lN _|refine lI ?_ ?_|refine lB ?_ (fun _ => ?_)
set_option maxHeartbeats 8000000 in
set_option maxRecDepth 100000 in
theorem spec_WindowOf.calls (k : Nat) (a0_0 : Int) (A0_1 : Option Addr) (c0_1 : Nat) (l0_1 : List (S76)) (a1 : Int) (r1 : Int) (r2 : Int) (r3 : Bool) (w : World) (hr0_1 : Kd.C k76 w A0_1 l0_1.length l0_1) (hc0_1 : l0_1.length ≤ c0_1) (h : spec_WindowOf.f k a0_0 l0_1 a1 = some (r1, r2, r3)) :
    Calls Try.prog 26 #[.agg #[.int .i64 a0_0, .slice A0_1 l0_1.length c0_1], .int .i64 a1] w fun e w' => e = .returned (.tuple #[.agg #[.int .i64 r1, .int .i64 r2], .bool r3]) ∧ Below w.heap.size w w' := by
 have hu47 := Try.underlying47
 have hu52 := Try.underlying52
 have hu28 := Try.underlying28
 have HR0_1 := mK hr0_1
 have HC0_1 := mK hc0_1
 clear hr0_1 hc0_1
 have HB := mK (Below.refl w.heap.size w)
 have H : ((spec_IsConsistent.f k a0_0 l0_1).bind fun t304 => (if t304 = true then ((spec_GraphOf.f k a0_0 l0_1).bind fun bt305 => ((spec_CloseGraph.f k bt305.1 bt305.2).bind fun bt309 => ((spec_WindowBetween.f k bt309.1 bt309.2.1 0 a1).bind fun bt315 => (some (bt315.1, bt315.2.1, bt315.2.2))))) else (some (0, 0, false)))) = some (r1, r2, r3) := h
 clear h
 replace H := Option.bind_eq_some_iff.mp H
 obtain ⟨t304, A30, H⟩ := H
 replace H : (if t304 = true then ((spec_GraphOf.f k a0_0 l0_1).bind fun bt305 => ((spec_CloseGraph.f k bt305.1 bt305.2).bind fun bt309 => ((spec_WindowBetween.f k bt309.1 bt309.2.1 0 a1).bind fun bt315 => (some (bt315.1, bt315.2.1, bt315.2.2))))) else (some (0, 0, false))) = some (r1, r2, r3) := H
 have A3 := mK A30
 clear A30
 by_cases c4 : t304 = true
 rotate_left
 {
 replace c4 := Bool.eq_false_iff.mpr c4
 subst c4
 rw [if_neg (show ¬ (false = true) by decide)] at H
 simp only [Option.some.injEq, Prod.mk.injEq] at H
 obtain ⟨rfl, rfl, rfl⟩ := H
 go_enter Try.func26, Try.ntmps26
 go_wp2_with (first | ((with_reducible refine gate_dst (N := 2) rfl ?_); refine bxE 2 #[.int .i64 a0_0, .slice A0_1 l0_1.length c0_1] 47 ?_; intro gb302 hg w24 hbox hb; have BK302 := mK hbox; have GW302 := mK (gX hg HB); have GE302 := mK (gX hg HB); replace HB := bB HB hb; clear hb hbox hg) | ((with_reducible refine gate_dst (N := 4) rfl ?_); refine bxE 4 #[.int .i64 0, .int .i64 0] 52 ?_; intro gb303 hg w25 hbox hb; have BK303 := mK hbox; have GW303 := mK (gX hg HB); have GE303 := mK (gX hg HB); replace HB := bB HB hb; have NB302_303 := mK (lX hg BK302); have NB303_302 := mK (mX hg BK302); replace BK302 := kB BK302 hb; clear hb hbox hg; have hnb26 := NB302_303.out; have hnc26 := NB303_302.out; have hcz27_0 := q0 BK302; have hcz27_1 := q1 BK302; have hfz27_0 := fX BK302 0; have hfz27_1 := fX BK302 1) | ((with_reducible refine gate_callee (f := 22) rfl ?_); refine gsE (some 9) Try.func22 #[.agg #[.int .i64 a0_0, .slice A0_1 l0_1.length c0_1]] ?_; (with_reducible refine (spec_IsConsistent.calls k a0_0 _ _ l0_1 false _ ?side1 ?side2 A3.out).mono ?_); (case side1 => exact cX HR0_1 HB); (case side2 => exact HC0_1.out); rintro e w28 ⟨rfl, hb⟩; refine ⟨_, rfl, ?_⟩; replace BK302 := kB BK302 hb; replace BK303 := kB BK303 hb; replace HB := bB HB hb; (try clear hb); (try clear hb2); (try clear hk); (try clear hi); have hcz29_0 := q0 BK303; have hcz29_1 := q1 BK303; have hfz29_0 := fX BK303 0; have hfz29_1 := fX BK303 1))
 refine bodyPost_ret (results_ct rfl _ _ gb303 52 #[.int .i64 0, .int .i64 0] (0, 0) _ rfl (kP2 BK303) Try.underlying52 rfl (by kernel_rfl)) rfl ?_
 exact ⟨by first | rfl | (simp [errW_none, errW_some] <;> rfl) | (simp [*, errW_none, errW_some] <;> rfl), bX HB⟩
 }
 subst c4
 rw [if_pos rfl] at H
 replace H := Option.bind_eq_some_iff.mp H
 obtain ⟨⟨t305, t306⟩, A50, H⟩ := H
 replace H : ((spec_CloseGraph.f k t305 t306).bind fun bt309 => ((spec_WindowBetween.f k bt309.1 bt309.2.1 0 a1).bind fun bt315 => (some (bt315.1, bt315.2.1, bt315.2.2)))) = some (r1, r2, r3) := H
 have A5 := mK A50
 clear A50
 replace H := Option.bind_eq_some_iff.mp H
 obtain ⟨⟨t309, t310, t313⟩, A60, H⟩ := H
 replace H : ((spec_WindowBetween.f k t309 t310 0 a1).bind fun bt315 => (some (bt315.1, bt315.2.1, bt315.2.2))) = some (r1, r2, r3) := H
 have A6 := mK A60
 clear A60
 replace H := Option.bind_eq_some_iff.mp H
 obtain ⟨⟨t315, t316, t317⟩, A70, H⟩ := H
 replace H : (some (t315, t316, t317)) = some (r1, r2, r3) := H
 have A7 := mK A70
 clear A70
 simp only [Option.some.injEq, Prod.mk.injEq] at H
 obtain ⟨rfl, rfl, rfl⟩ := H
 go_enter Try.func26, Try.ntmps26
 go_wp2_with (first | ((with_reducible refine gate_dst (N := 2) rfl ?_); refine bxE 2 #[.int .i64 a0_0, .slice A0_1 l0_1.length c0_1] 47 ?_; intro gb302 hg w8 hbox hb; have BK302 := mK hbox; have GW302 := mK (gX hg HB); have GE302 := mK (gX hg HB); replace HB := bB HB hb; clear hb hbox hg) | ((with_reducible refine gate_dst (N := 4) rfl ?_); refine bxE 4 #[.int .i64 0, .int .i64 0] 52 ?_; intro gb303 hg w9 hbox hb; have BK303 := mK hbox; have GW303 := mK (gX hg HB); have GE303 := mK (gX hg HB); replace HB := bB HB hb; have NB302_303 := mK (lX hg BK302); have NB303_302 := mK (mX hg BK302); replace BK302 := kB BK302 hb; clear hb hbox hg; have hnb10 := NB302_303.out; have hnc10 := NB303_302.out; have hcz11_0 := q0 BK302; have hcz11_1 := q1 BK302; have hfz11_0 := fX BK302 0; have hfz11_1 := fX BK302 1) | ((with_reducible refine gate_callee (f := 22) rfl ?_); refine gsE (some 9) Try.func22 #[.agg #[.int .i64 a0_0, .slice A0_1 l0_1.length c0_1]] ?_; (with_reducible refine (spec_IsConsistent.calls k a0_0 _ _ l0_1 true _ ?side1 ?side2 A3.out).mono ?_); (case side1 => exact cX HR0_1 HB); (case side2 => exact HC0_1.out); rintro e w12 ⟨rfl, hb⟩; refine ⟨_, rfl, ?_⟩; replace BK302 := kB BK302 hb; replace BK303 := kB BK303 hb; replace HB := bB HB hb; (try clear hb); (try clear hb2); (try clear hk); (try clear hi); have hcz13_0 := q0 BK302; have hcz13_1 := q1 BK302; have hfz13_0 := fX BK302 0; have hfz13_1 := fX BK302 1) | ((with_reducible refine gate_callee (f := 65) rfl ?_); refine gsE (some 14) Try.func65 #[.agg #[.int .i64 a0_0, .slice A0_1 l0_1.length c0_1]] ?_; (with_reducible refine (spec_GraphOf.calls k a0_0 _ _ l0_1 t305 t306 _ ?side1 ?side2 A5.out).mono ?_); (case side1 => exact cX HR0_1 HB); (case side2 => exact HC0_1.out); rintro e w14 ⟨v307, rfl, ho0, hb⟩; refine ⟨_, rfl, ?_⟩; have HO308 := mK (Kd.R_lower ho0 (below_size (bX HB))); replace BK302 := kB BK302 hb; replace BK303 := kB BK303 hb; replace HB := bB HB hb; (try clear hb); (try clear hb2); (try clear hk); (try clear hi); (try clear ho0); obtain ⟨Ao15, co15, eo15⟩ := Kd.R_slice HO308.out; subst eo15) | ((with_reducible refine gate_callee (f := 13) rfl ?_); refine gsE (some 15) Try.func13 #[.agg #[.int .i64 t305, .slice Ao15 t306.length co15]] ?_; (with_reducible refine (spec_CloseGraph.calls k t305 _ _ t306 t309 t310 t313 _ ?side1 ?side2 A6.out).mono ?_); (case side1 => repeat (first | exact (Kd.R_reads' HO308.out).2.2 | (with_reducible refine Kd.C_alloc ?_ _) | (with_reducible refine Kd.C_drewN ?_ _) | (with_reducible refine Kd.C_drew ?_))); (case side2 => exact (Kd.R_reads' HO308.out).2.1); rintro e w16 ⟨v311, rfl, ho0, hb⟩; refine ⟨_, rfl, ?_⟩; replace HO308 := mK (Kd.R_below (rX HO308) hb); have HO312 := mK (Kd.R_lower ho0 (below_size (bX HB))); replace BK302 := kB BK302 hb; replace BK303 := kB BK303 hb; replace HB := bB HB hb; (try clear hb); (try clear hb2); (try clear hk); (try clear hi); (try clear ho0)) | ((with_reducible refine gate_dst (N := 6) rfl ?_); refine bxE 6 #[.int .i64 0, .slice none 0 0] 28 ?_; intro gb314 hg w17 hbox hb; replace HO308 := mK (Kd.R_below (rX HO308) hb); replace HO312 := mK (Kd.R_below (rX HO312) hb); have BK314 := mK hbox; have GW314 := mK (gX hg HB); have GE314 := mK (gX hg HB); replace HB := bB HB hb; have NB302_314 := mK (lX hg BK302); have NB314_302 := mK (mX hg BK302); replace BK302 := kB BK302 hb; have NB303_314 := mK (lX hg BK303); have NB314_303 := mK (mX hg BK303); replace BK303 := kB BK303 hb; clear hb hbox hg; have hnb18 := NB314_302.out; have hnc18 := NB302_314.out; have hnb19 := NB314_303.out; have hnc19 := NB303_314.out; have hcz20_0 := q0 BK314; have hcz20_1 := q1 BK314; have hfz20_0 := fX BK314 0; have hfz20_1 := fX BK314 1; obtain ⟨Ao21, co21, eo21⟩ := Kd.R_slice HO312.out; subst eo21) | ((with_reducible refine gate_callee (f := 69) rfl ?_); refine gsE (some 20) Try.func69 #[.agg #[.int .i64 t309, .slice Ao21 t310.length co21], .int .i64 0, .int .i64 a1] ?_; (with_reducible refine (spec_WindowBetween.calls k t309 _ _ t310 0 a1 t315 t316 t317 _ ?side1 ?side2 A7.out).mono ?_); (case side1 => refine (Kd.R_reads' (e := 3) (base := w.heap.size) (ok := fun k_ => True) (n := t310.length) (c := co21) ?_).2.2; exact (rF2 HO312 BK314)); (case side2 => exact (Kd.R_reads' HO312.out).2.1); rintro e w22 ⟨rfl, hb⟩; refine ⟨_, rfl, ?_⟩; have n0_ := mK (Kd.R_below (rF2 HO308 BK314) hb); have n1_ := mK (Kd.R_below (rF2 HO312 BK314) hb); have n2_ := mK (blk_below (g := gb302) (o := .cells #[.int .i64 a0_0, .slice A0_1 l0_1.length c0_1] 47 (0, 0)) (kF BK302 NB302_314) hb); have n3_ := mK (blk_below (g := gb303) (o := .cells #[.int .i64 0, .int .i64 0] 52 (0, 0)) (kF BK303 NB303_314) hb); have n4_ := mK (blk_below (g := gb314) (o := .cells #[.int .i64 t309, .slice Ao21 t310.length co21] 28 (0, 0)) (kP2 BK314) hb); have n5_ := bB HB hb; clear HO308; clear HO312; clear BK302; clear BK303; clear BK314; clear HB; have HO308 := n0_; have HO312 := n1_; have BK302 := n2_; have BK303 := n3_; have BK314 := n4_; have HB := n5_; clear n0_ n1_ n2_ n3_ n4_ n5_; (try clear hb); (try clear hb2); (try clear hk); (try clear hi); have hcz23_0 := q0 BK303; have hcz23_1 := q1 BK303; have hfz23_0 := fX BK303 0; have hfz23_1 := fX BK303 1))
 refine bodyPost_ret (results_ct rfl _ _ gb303 52 #[.int .i64 t315, .int .i64 t316] (0, 0) _ rfl (kP2 BK303) Try.underlying52 rfl (by kernel_rfl)) rfl ?_
 exact ⟨by first | rfl | (simp [errW_none, errW_some] <;> rfl) | (simp [*, errW_none, errW_some] <;> rfl), bX HB⟩

/-! ### spec_EarliestTimes: function 29 -/
mutual
def spec_EarliestTimes.l0 : Nat → List Int → Int → Int → List (S76) → Option (List Int × Bool)
  | 0, _, _, _, _ => none
  | k + 1, x4, x5, x319000, x319001 => if x5 < x319000 then (spec_EarliestTimes.j1 k x4 x5 (decide (x5 < 8)) x319000 x319001) else (spec_EarliestTimes.j1 k x4 x5 false x319000 x319001)
def spec_EarliestTimes.j1 : Nat → List Int → Int → Bool → Int → List (S76) → Option (List Int × Bool)
  | 0, _, _, _, _, _ => none
  | k + 1, x4, x5, x16, x319000, x319001 => if x16 = true then ((spec_WindowOf.f k x319000 x319001 x5).bind fun bt322 => (if bt322.2.2 = true then (if bt322.1 = (-1000000) then (some (([] : List Int), false)) else (if x4.length < 17592186044416 then (spec_EarliestTimes.l0 k (x4 ++ [bt322.1]) (wrap64 (x5 + 1)) x319000 x319001) else (none))) else (some (([] : List Int), false)))) else (some (x4, decide ((x4.length : Int) > 0)))
end
def spec_EarliestTimes.f (k : Nat) (a0_0 : Int) (l0_1 : List (S76)) : Option (List Int × Bool) := spec_EarliestTimes.l0 k (([] : List Int)) 0 a0_0 l0_1
theorem spec_EarliestTimes.mono_l : ∀ k, (∀ y0 y1 y2 y3, LeO (spec_EarliestTimes.l0 k y0 y1 y2 y3) (spec_EarliestTimes.l0 (k + 1) y0 y1 y2 y3)) ∧ (∀ y0 y1 y2 y3 y4, LeO (spec_EarliestTimes.j1 k y0 y1 y2 y3 y4) (spec_EarliestTimes.j1 (k + 1) y0 y1 y2 y3 y4))
  | 0 => ⟨fun _ _ _ _ r h => by simp [spec_EarliestTimes.l0] at h, fun _ _ _ _ _ r h => by simp [spec_EarliestTimes.j1] at h⟩
  | k + 1 => by
    obtain ⟨ih0, ih1⟩ := spec_EarliestTimes.mono_l k
    refine ⟨?_, ?_⟩
    · intro y0 y1 y2 y3
      unfold spec_EarliestTimes.l0
      repeat' first|(with_reducible first|exact ih0 _ _ _ _|exact ih1 _ _ _ _ _|exact spec_WindowOf.mono _ _ _ _|exact lR _|exact lN _|refine lI ?_ ?_|refine lB ?_ (fun _ => ?_))|exact ih0 _ _ _ _|exact ih1 _ _ _ _ _|exact spec_WindowOf.mono _ _ _ _|exact lN _|refine lI ?_ ?_|refine lB ?_ (fun _ => ?_)
    · intro y0 y1 y2 y3 y4
      unfold spec_EarliestTimes.j1
      repeat' first|(with_reducible first|exact ih0 _ _ _ _|exact ih1 _ _ _ _ _|exact spec_WindowOf.mono _ _ _ _|exact lR _|exact lN _|refine lI ?_ ?_|refine lB ?_ (fun _ => ?_))|exact ih0 _ _ _ _|exact ih1 _ _ _ _ _|exact spec_WindowOf.mono _ _ _ _|exact lN _|refine lI ?_ ?_|refine lB ?_ (fun _ => ?_)
theorem spec_EarliestTimes.mono : ∀ a0 a1 k, LeO (spec_EarliestTimes.f k a0 a1) (spec_EarliestTimes.f (k + 1) a0 a1) := by
  intro a0 a1 k
  obtain ⟨ih0, ih1⟩ := spec_EarliestTimes.mono_l k
  unfold spec_EarliestTimes.f
  repeat' first|(with_reducible first|exact ih0 _ _ _ _|exact ih1 _ _ _ _ _|exact spec_WindowOf.mono _ _ _ _|exact lR _|exact lN _|refine lI ?_ ?_|refine lB ?_ (fun _ => ?_))|exact ih0 _ _ _ _|exact ih1 _ _ _ _ _|exact spec_WindowOf.mono _ _ _ _|exact lN _|refine lI ?_ ?_|refine lB ?_ (fun _ => ?_)
set_option maxHeartbeats 8000000 in
set_option maxRecDepth 100000 in
theorem spec_EarliestTimes.calls (k : Nat) (a0_0 : Int) (A0_1 : Option Addr) (c0_1 : Nat) (l0_1 : List (S76)) (r1 : List Int) (r2 : Bool) (w : World) (hr0_1 : Kd.C k76 w A0_1 l0_1.length l0_1) (hc0_1 : l0_1.length ≤ c0_1) (h : spec_EarliestTimes.f k a0_0 l0_1 = some (r1, r2)) :
    Calls Try.prog 29 #[.agg #[.int .i64 a0_0, .slice A0_1 l0_1.length c0_1]] w fun e w' => ∃ v0_ : Value, e = .returned (.tuple #[v0_, .bool r2]) ∧ Kd.R (Kd.int .i64) 3 w' w.heap.size (fun _ => True) v0_ r1 ∧ Below w.heap.size w w' := by
 have hu47 := Try.underlying47
 have hu52 := Try.underlying52
 have HR0_1 := mK hr0_1
 have HC0_1 := mK hc0_1
 clear hr0_1 hc0_1
 have HB := mK (Below.refl w.heap.size w)
 have H : (spec_EarliestTimes.l0 k (([] : List Int)) 0 a0_0 l0_1) = some (r1, r2) := h
 clear h
 obtain ⟨y319, hy319⟩ : ∃ y_ : List Int, y_ = (([] : List Int)) := ⟨_, rfl⟩
 replace H : (spec_EarliestTimes.l0 k y319 0 a0_0 l0_1) = some (r1, r2) := by first | (rw [hy319]; with_reducible exact H) | (have H2_ := (Option.bind_some _ _).symm.trans H; rw [hy319]; with_reducible exact H2_) | (have H2_ := (Option.bind_some _ _).symm.trans H; with_reducible exact H2_) | with_reducible exact H | (rw [hy319]; exact H) | exact H
 have Ny319 := mK hy319
 clear hy319
 have H' := mK H
 clear H
 go_enter Try.func29, Try.ntmps29
 go_wp2_with (first | ((with_reducible refine gate_dst (N := 1) rfl ?_); refine bxE 1 #[.int .i64 a0_0, .slice A0_1 l0_1.length c0_1] 47 ?_; intro gb318 hg w2 hbox hb; have BK318 := mK hbox; have GW318 := mK (gX hg HB); have GE318 := mK (gX hg HB); replace HB := bB HB hb; clear hb hbox hg) | ((with_reducible refine gate_dst (N := 8) rfl ?_); refine Kd.R_lit (Kd.int .i64) _ 3 ?hg (N := 8) ?hd (xs := ([] : List Int)) (inner := []) (ok := fun _ => True) (okp := fun _ => True) ?hr ?hp (fun _ hk => hk) trivial (Below.refl _ _) (Nat.le_refl _) (by simp) ?_; (case hd => rfl); (case hg => rfl); (case hr => go_simp <;> rfl); (case hp => exact (Reps.none _ _)); intro v320 w3 ho4 hb hg_ hnew_; clear hg_ hnew_; (first | rw [← Ny319.out] at ho4 | (simp only [Int.reduceToNat] at ho4; rw [← Ny319.out] at ho4)); have HO321 := mK (Kd.R_lower ho4 (below_size (bX HB))); replace BK318 := kB BK318 hb; replace HB := bB HB hb; clear hb ho4))
 go_loopg [4, 5] k (fun kq v4 v5 w' => ∃ (x4_1 : List Int) (x5_1 : Int), v5 = .int .i64 x5_1 ∧ Aside0 (spec_EarliestTimes.l0 kq x4_1 x5_1 a0_0 l0_1 = some (r1, r2)) ∧ Aside0 (kq ≤ k) ∧ Aside0 (Kd.R (Kd.int .i64) 3 w' w.heap.size (fun _ => True) v4 x4_1) ∧ Aside0 (w'.heap[gb318]? = some (.cells #[.int .i64 a0_0, (.slice A0_1 l0_1.length c0_1)] 47 (0, 0))) ∧ Aside0 (Below w.heap.size w w'))
 case atStart => exact ⟨(y319), (0), (by first | rfl | (simp; done) | (simp [*]; done)), H', ⟨Nat.le_refl _⟩, ⟨rX HO321⟩, ⟨kX BK318⟩, ⟨bX HB⟩⟩
 case round => (
 clear H'
 try clear c2
 try clear p2
 obtain ⟨x4_1, x5_1, rfl, HA, HK1, HO_4, BK318, HB⟩ := hrel
 cases gk with
 | zero => exact absurd HA.out (by simp [spec_EarliestTimes.l0])
 | succ k1 => (
 have H := HA.out
 clear HA
 simp only [spec_EarliestTimes.l0] at H
 have HC5 := mK H
 clear H
 go_upto_region 3 with (fail)
 go_cut [16] (fun v16 wc => ∃ (kq : Nat) (x16_4 : Bool), v16 = .bool x16_4 ∧ Aside0 (spec_EarliestTimes.j1 kq x4_1 x5_1 x16_4 a0_0 l0_1 = some (r1, r2)) ∧ Aside0 (kq ≤ k1) ∧ Aside0 (Kd.R (Kd.int .i64) 3 wc w.heap.size (fun _ => True) u4 x4_1) ∧ Aside0 (wc.heap[gb318]? = some (.cells #[.int .i64 a0_0, (.slice A0_1 l0_1.length c0_1)] 47 (0, 0))) ∧ Aside0 (Below w.heap.size w wc))
 case first => (
 have H := HC5.out
 clear HC5
 by_cases c6 : x5_1 < a0_0
 rotate_left
 {
 rw [if_neg c6] at H
 have c6b0 : decide (x5_1 < a0_0) = false := decide_eq_false c6
 clear c6
 (first | rw [c6b0] | (simp only [i64_w, i32_w]; rw [c6b0]) | skip)
 have H' := mK H
 clear H
 have hcz8_0 := q0 BK318
 have hcz8_1 := q1 BK318
 have hfz8_0 := fX BK318 0
 have hfz8_1 := fX BK318 1
 go_wp2
 go_meet
 case rel => exact ⟨_, (false), (by first | rfl | (simp; done) | (simp [*]; done)), H', ⟨by have := HK1.out; first | omega | exact Nat.le_refl _⟩, ⟨rX HO_4⟩, ⟨kX BK318⟩, ⟨bX HB⟩⟩
 }
 rw [if_pos c6] at H
 have c6b0 : decide (x5_1 < a0_0) = true := decide_eq_true c6
 clear c6
 (first | rw [c6b0] | (simp only [i64_w, i32_w]; rw [c6b0]) | skip)
 have H' := mK H
 clear H
 have hcz7_0 := q0 BK318
 have hcz7_1 := q1 BK318
 have hfz7_0 := fX BK318 0
 have hfz7_1 := fX BK318 1
 go_wp2
 go_meet
 case rel => exact ⟨_, (decide (x5_1 < 8)), (by first | rfl | (simp; done) | (simp [*]; done)), H', ⟨by have := HK1.out; first | omega | exact Nat.le_refl _⟩, ⟨rX HO_4⟩, ⟨kX BK318⟩, ⟨bX HB⟩⟩
 )
 case rest => (
 clear HC5
 try clear c2
 try clear p2
 try clear c6
 try clear c6b0
 try clear hcz7_0
 try clear hcz7_1
 try clear hcz8_0
 try clear hcz8_1
 try clear hfz7_0
 try clear hfz7_1
 try clear hfz8_0
 try clear hfz8_1
 try clear p2
 obtain ⟨kq, x16_4, rfl, HA, HJ4, HO_4, BK318, HB⟩ := hcut
 cases kq with
 | zero => exact absurd HA.out (by simp [spec_EarliestTimes.j1])
 | succ kj4 => (
 have H := HA.out
 clear HA
 simp only [spec_EarliestTimes.j1] at H
 by_cases c9 : x16_4 = true
 rotate_left
 {
 replace c9 := Bool.eq_false_iff.mpr c9
 subst c9
 rw [if_neg (show ¬ (false = true) by decide)] at H
 simp only [Option.some.injEq, Prod.mk.injEq] at H
 obtain ⟨rfl, rfl⟩ := H
 obtain ⟨Ao30, co30, eo30⟩ := Kd.R_slice HO_4.out
 subst eo30
 go_wp2
 go_ret2
 exact ⟨_, by first | rfl | (simp [errW_none, errW_some] <;> rfl) | (simp [*, errW_none, errW_some] <;> rfl), rX HO_4, bX HB⟩
 }
 subst c9
 rw [if_pos rfl] at H
 replace H := Option.bind_eq_some_iff.mp H
 obtain ⟨⟨t322, t323, t324⟩, A100, H⟩ := H
 replace H : (if t324 = true then (if t322 = (-1000000) then (some (([] : List Int), false)) else (if x4_1.length < 17592186044416 then (spec_EarliestTimes.l0 kj4 (x4_1 ++ [t322]) (wrap64 (x5_1 + 1)) a0_0 l0_1) else (none))) else (some (([] : List Int), false))) = some (r1, r2) := H
 have A10 := mK A100
 clear A100
 by_cases c11 : t324 = true
 rotate_left
 {
 replace c11 := Bool.eq_false_iff.mpr c11
 subst c11
 rw [if_neg (show ¬ (false = true) by decide)] at H
 simp only [Option.some.injEq, Prod.mk.injEq] at H
 obtain ⟨rfl, rfl⟩ := H
 have hcz25_0 := q0 BK318
 have hcz25_1 := q1 BK318
 have hfz25_0 := fX BK318 0
 have hfz25_1 := fX BK318 1
 go_wp2_with (first | ((with_reducible refine gate_callee (f := 26) rfl ?_); refine gsE (some 22) Try.func26 #[.agg #[.int .i64 a0_0, .slice A0_1 l0_1.length c0_1], .int .i64 x5_1] ?_; (with_reducible refine (spec_WindowOf.calls kj4 a0_0 _ _ l0_1 x5_1 t322 t323 false _ ?side1 ?side2 A10.out).mono ?_); (case side1 => exact cX HR0_1 HB); (case side2 => exact HC0_1.out); rintro e w26 ⟨rfl, hb⟩; refine ⟨_, rfl, ?_⟩; replace HO_4 := mK (Kd.R_below (rX HO_4) hb); replace BK318 := kB BK318 hb; replace HB := bB HB hb; (try clear hb); (try clear hb2); (try clear hk); (try clear hi)) | ((with_reducible refine gate_dst (N := 6) rfl ?_); refine bxE 6 #[.int .i64 0, .int .i64 0] 52 ?_; intro gb325 hg w27 hbox hb; replace HO_4 := mK (Kd.R_below (rX HO_4) hb); have BK325 := mK hbox; have GW325 := mK (gX hg HB); have GE325 := mK (gX hg HB); replace HB := bB HB hb; have NB318_325 := mK (lX hg BK318); have NB325_318 := mK (mX hg BK318); replace BK318 := kB BK318 hb; clear hb hbox hg; have hnb28 := NB325_318.out; have hnc28 := NB318_325.out; have hcz29_0 := q0 BK325; have hcz29_1 := q1 BK325; have hfz29_0 := fX BK325 0; have hfz29_1 := fX BK325 1))
 go_ret2
 exact ⟨_, by first | rfl | (simp [errW_none, errW_some] <;> rfl) | (simp [*, errW_none, errW_some] <;> rfl), by first | exact Kd.R_nil _ _ _ _ _ | exact Kd.N_nil _ _ _ _ _ | exact Kd.V_nil _ _ _ _ _ | exact Kd.Q_nil _ _ _ _ _ | exact Kd.S_nil _ _ _ _ _, bX HB⟩
 }
 subst c11
 rw [if_pos rfl] at H
 by_cases c12 : t322 = (-1000000)
 {
 rw [if_pos c12] at H
 have c12b0 : (t322 == (-1000000)) = true := beq_iff_eq.mpr c12
 have c12b1 : (t322 != (-1000000)) = false := bne_eq_false_iff_eq.mpr c12
 clear c12
 simp only [Option.some.injEq, Prod.mk.injEq] at H
 obtain ⟨rfl, rfl⟩ := H
 have hcz13_0 := q0 BK318
 have hcz13_1 := q1 BK318
 have hfz13_0 := fX BK318 0
 have hfz13_1 := fX BK318 1
 go_wp2_with (first | ((with_reducible refine gate_callee (f := 26) rfl ?_); refine gsE (some 22) Try.func26 #[.agg #[.int .i64 a0_0, .slice A0_1 l0_1.length c0_1], .int .i64 x5_1] ?_; (with_reducible refine (spec_WindowOf.calls kj4 a0_0 _ _ l0_1 x5_1 t322 t323 true _ ?side1 ?side2 A10.out).mono ?_); (case side1 => exact cX HR0_1 HB); (case side2 => exact HC0_1.out); rintro e w14 ⟨rfl, hb⟩; refine ⟨_, rfl, ?_⟩; replace HO_4 := mK (Kd.R_below (rX HO_4) hb); replace BK318 := kB BK318 hb; replace HB := bB HB hb; (try clear hb); (try clear hb2); (try clear hk); (try clear hi)) | ((with_reducible refine gate_dst (N := 6) rfl ?_); refine bxE 6 #[.int .i64 0, .int .i64 0] 52 ?_; intro gb325 hg w15 hbox hb; replace HO_4 := mK (Kd.R_below (rX HO_4) hb); have BK325 := mK hbox; have GW325 := mK (gX hg HB); have GE325 := mK (gX hg HB); replace HB := bB HB hb; have NB318_325 := mK (lX hg BK318); have NB325_318 := mK (mX hg BK318); replace BK318 := kB BK318 hb; clear hb hbox hg; have hnb16 := NB325_318.out; have hnc16 := NB318_325.out; have hcz17_0 := q0 BK325; have hcz17_1 := q1 BK325; have hfz17_0 := fX BK325 0; have hfz17_1 := fX BK325 1))
 go_ret2
 exact ⟨_, by first | rfl | (simp [errW_none, errW_some] <;> rfl) | (simp [*, errW_none, errW_some] <;> rfl), by first | exact Kd.R_nil _ _ _ _ _ | exact Kd.N_nil _ _ _ _ _ | exact Kd.V_nil _ _ _ _ _ | exact Kd.Q_nil _ _ _ _ _ | exact Kd.S_nil _ _ _ _ _, bX HB⟩
 }
 rw [if_neg c12] at H
 have c12b0 : (t322 == (-1000000)) = false := beq_eq_false_iff_ne.mpr c12
 have c12b1 : (t322 != (-1000000)) = true := bne_iff_ne.mpr c12
 by_cases c18 : x4_1.length < 17592186044416
 rotate_left
 {
 rw [if_neg c18] at H
 exact absurd H (by simp)
 }
 rw [if_pos c18] at H
 have LMc18 := mK c18
 clear c18
 obtain ⟨y326, hy326⟩ : ∃ y_ : List Int, y_ = (x4_1 ++ [t322]) := ⟨_, rfl⟩
 replace H : (spec_EarliestTimes.l0 kj4 y326 (wrap64 (x5_1 + 1)) a0_0 l0_1) = some (r1, r2) := by first | (rw [hy326]; with_reducible exact H) | (have H2_ := (Option.bind_some _ _).symm.trans H; rw [hy326]; with_reducible exact H2_) | (have H2_ := (Option.bind_some _ _).symm.trans H; with_reducible exact H2_) | with_reducible exact H | (rw [hy326]; exact H) | exact H
 have Ny326 := mK hy326
 clear hy326
 have H' := mK H
 clear H
 have hcz19_0 := q0 BK318
 have hcz19_1 := q1 BK318
 have hfz19_0 := fX BK318 0
 have hfz19_1 := fX BK318 1
 go_wp2_with (first | ((with_reducible refine gate_callee (f := 26) rfl ?_); refine gsE (some 22) Try.func26 #[.agg #[.int .i64 a0_0, .slice A0_1 l0_1.length c0_1], .int .i64 x5_1] ?_; (with_reducible refine (spec_WindowOf.calls kj4 a0_0 _ _ l0_1 x5_1 t322 t323 true _ ?side1 ?side2 A10.out).mono ?_); (case side1 => exact cX HR0_1 HB); (case side2 => exact HC0_1.out); rintro e w20 ⟨rfl, hb⟩; refine ⟨_, rfl, ?_⟩; replace HO_4 := mK (Kd.R_below (rX HO_4) hb); replace BK318 := kB BK318 hb; replace HB := bB HB hb; (try clear hb); (try clear hb2); (try clear hk); (try clear hi)) | ((with_reducible refine gate_dst (N := 6) rfl ?_); refine bxE 6 #[.int .i64 0, .int .i64 0] 52 ?_; intro gb325 hg w21 hbox hb; replace HO_4 := mK (Kd.R_below (rX HO_4) hb); have BK325 := mK hbox; have GW325 := mK (gX hg HB); have GE325 := mK (gX hg HB); replace HB := bB HB hb; have NB318_325 := mK (lX hg BK318); have NB325_318 := mK (mX hg BK318); replace BK318 := kB BK318 hb; clear hb hbox hg; have hnb22 := NB325_318.out; have hnc22 := NB318_325.out; have hcz23_0 := q0 BK325; have hcz23_1 := q1 BK325; have hfz23_0 := fX BK325 0; have hfz23_1 := fX BK325 1) | ((with_reducible refine gate_builtin (b := .append) (xs := #[.tmp 32, .tmp 35]) rfl ?_); at_builtin; refine Kd.R_append (Kd.int .i64) (w0 := w) w.heap.size rfl (.tmp 32) (.tmp 35) 26 3 (.int .i64 0) 8 rfl Try.underlying26 info3 rfl (by decide) (by omega) u4 x4_1 t322 [.int .i64 t322] (fun _ => True) (fun _ => False) rfl (by go_simp <;> rfl) ?aP (fun _ hk => hk.elim) ?aF ?aO ?aB ?aS ?aL ?_; (case aP => exact rfl); (case aB => exact (bX HB)); (case aF => exact (fun _ _ => trivial)); (case aO => exact (rF2 HO_4 BK325)); (case aS => exact (below_size (bX HB))); (case aL => have := LMc18.out; omega); intro v327 w24 ho hb hg hat; rw [← Ny326.out] at ho; have n0_ := mK (blk_grown (g := gb318) (o := .cells #[.int .i64 a0_0, .slice A0_1 l0_1.length c0_1] 47 (0, 0)) (kF BK318 NB318_325) hg (Kd.R_ne HO_4.out BK318.out (by decide))); have n1_ := mK (blk_grown (g := gb325) (o := .cells #[.int .i64 t322, .int .i64 t323] 52 (0, 0)) (kP2 BK325) hg (Kd.R_ne HO_4.out BK325.out (by decide))); have n2_ := mK (hb); have n3_ := mK (ho); clear BK318; clear BK325; clear HB; clear HO_4; have BK318 := n0_; have BK325 := n1_; have HB := n2_; have HO328 := n3_; clear n0_ n1_ n2_ n3_; clear ho hb hg hat))
 go_roundg kj4
 case measure => have := HK1.out; have := HJ4.out; omega
 case rel => exact ⟨(y326), (wrap64 (x5_1 + 1)), (by first | rfl | (simp; done) | (simp [*]; done)), H', ⟨by have := HK1.out; have := HJ4.out; omega⟩, ⟨rX HO328⟩, ⟨kX BK318⟩, ⟨bX HB⟩⟩
 )
 )
 )
 )

/-! ### impl_isNode: function 79 -/
def impl_isNode.f (a0 : Int) (a1 : Int) : Option (Bool) := if a1 ≥ 0 then (some (decide (a1 < a0))) else (some false)
set_option maxHeartbeats 8000000 in
set_option maxRecDepth 100000 in
theorem impl_isNode.calls (a0 : Int) (a1 : Int) (r : Bool) (w : World) (h : impl_isNode.f a0 a1 = some r) :
    Calls Try.prog 79 #[.int .i64 a0, .int .i64 a1] w fun e w' => e = .returned (.bool r) ∧ Drawn0 w w' := by
  have H : (if a1 ≥ 0 then (some (decide (a1 < a0))) else (some false)) = some r := h
  clear h
  by_cases c3 : a1 ≥ 0
  · rw [if_pos c3] at H
    have c3b0 : decide (0 ≤ a1) = true := decide_eq_true c3
    clear c3
    obtain rfl := Option.some.inj H
    go_enter Try.func79, Try.ntmps79
    go_wp2
    go_ret
    exact ⟨by first | rfl | (simp; done) | (simp [*]; done), by repeat (first | exact Drawn0.refl _ | apply Drawn0.step)⟩
  rw [if_neg c3] at H
  have c3b0 : decide (0 ≤ a1) = false := decide_eq_false c3
  clear c3
  obtain rfl := Option.some.inj H
  go_enter Try.func79, Try.ntmps79
  go_wp2
  go_ret
  exact ⟨by first | rfl | (simp; done) | (simp [*]; done), by repeat (first | exact Drawn0.refl _ | apply Drawn0.step)⟩

/-! ### impl_Edge_108: function 108 -/
section
open Go.Shelf Go.Lib
instance : Inhabited S70 := ⟨z70⟩
def encEdge (x : S70) : List Value := [.int .i64 x.f0, .int .i64 x.f1, .int .i64 x.f2]
set_option maxHeartbeats 2000000 in
theorem idxEdge_calls (p : S70 → Bool) (g : Nat) (lb : Array Value) (eg : ∀ args w, (callFunc g args).run Try.prog w = .ok (.enter g args) w) (b off n c : Nat) (zs : List S70) (w : World)
    (hp : ∀ (W : World) (x : S70), x ∈ zs → Below w.heap.size w W → Calls Try.prog g (#[(.agg #[.int .i64 x.f0, .int .i64 x.f1, .int .i64 x.f2])] ++ lb) W fun e w' => e = .returned (.bool (p x)) ∧ Below w.heap.size w w') (hz : n ≤ zs.length) (hbig : n ≤ 9223372036854775807) (hb : b < w.heap.size)
    (hc : ∀ j, j < zs.length → ∀ i v, (encEdge zs[j]!)[i]? = some v → w.cell? ⟨b, off + j * 3 + i, none⟩ = some v) :
    Calls Try.prog 108 #[.slice (some ⟨b, off, none⟩) n c, .func (.func g) #[] lb] w fun e w' => e = .returned (.int .i64 (Lib.idxBy (fun _ y => p y) (zs.take n) default)) ∧ Below w.heap.size w w' := by
  have hrow : ∀ (W : World), Below w.heap.size w W → ∀ j, j < zs.length → W.cell? ⟨b, off + j * 3, none⟩ = some (.int .i64 zs[j]!.f0) ∧ W.cell? ⟨b, off + j * 3 + 1, none⟩ = some (.int .i64 zs[j]!.f1) ∧ W.cell? ⟨b, off + j * 3 + 2, none⟩ = some (.int .i64 zs[j]!.f2) := fun W hW j hj =>
   ⟨(hW.cell (p := ⟨b, off + j * 3, none⟩) hb).trans (hc j hj 0 _ rfl), (hW.cell (p := ⟨b, off + j * 3 + 1, none⟩) hb).trans (hc j hj 1 _ rfl), (hW.cell (p := ⟨b, off + j * 3 + 2, none⟩) hb).trans (hc j hj 2 _ rfl)⟩
  clear hc
  go_enter Try.func108, Try.ntmps108
  go_wp2
  go_loopg [5, 8] n (fun gg _ s8 wr => ∃ kk : Nat, kk ≤ n ∧ n - kk ≤ gg ∧ s8 = .int .i64 kk ∧ Aside (Below w.heap.size w wr) ∧ Aside (∀ j, j < kk → p zs[j]! = false))
  case atStart => exact ⟨0, Nat.zero_le _, by omega, rfl, Below.refl _ w, fun j hj => absurd hj (Nat.not_lt_zero _)⟩
  case round =>
   obtain ⟨kk, hkk, hg, rfl, BW, A⟩ := hrel
   by_cases hlt : kk < n
   rotate_left
   · have hltz : ¬ (kk : Int) < (n : Int) := by omega
     have : kk = n := by omega
     subst this
     go_wp2
     go_ret
     refine ⟨?_, BW.out⟩
     rw [Lib.idxBy_miss (fun _ y => p y) zs kk default A.out]
     rfl
   have hltz : (kk : Int) < (n : Int) := by omega
   obtain ⟨l0, l1, l2⟩ := hrow wr BW.out kk (by omega)
   have hcall := hp wr zs[kk]! (by rw [getElem!_pos zs kk (by omega)]; exact List.getElem_mem _) BW.out
   clear hrow hp
   generalize hy : zs[kk]! = y at l0 l1 l2 hcall
   have B : Aside (zs[kk]! = y) := hy
   clear hy
   cases hq : p y with
   | true =>
    rw [hq] at hcall
    go_wp2_with (go_at_fn g; refine hcall.mono ?_; rintro e w' ⟨rfl, hb'⟩)
    go_ret
    refine ⟨?_, hb'⟩
    rw [Lib.idxBy_hit (fun _ y => p y) zs n kk default hlt hz (by show p zs[kk]! = true; rw [B.out]; exact hq) A.out]
    rfl
   | false =>
    rw [hq] at hcall
    go_wp2_with (go_at_fn g; refine hcall.mono ?_; rintro e w' ⟨rfl, hb'⟩)
    go_roundg (n - (kk + 1))
    case measure => omega
    case rel =>
     refine ⟨kk + 1, by omega, by omega, by go_num, hb', (show Aside _ from fun j hj => ?_)⟩
     by_cases e : j = kk
     rotate_left
     · exact A.out j (by omega)
     subst e
     rw [B.out]; exact hq
theorem idxEdge_empty (a : Option Addr) (c : Nat) (fv : Value) (w : World) :
    Calls Try.prog 108 #[.slice a 0 c, fv] w fun e w' => e = .returned (.int .i64 (-1)) ∧ w' = w := by
  go_enter Try.func108, Try.ntmps108
  go_wp2
  go_loopg [5, 8] 0 (fun _ _ s8 wr => s8 = .int .i64 0 ∧ wr = w)
  case atStart => exact ⟨rfl, rfl⟩
  case round =>
   obtain ⟨rfl, rfl⟩ := hrel
   go_wp2
   go_ret
   exact ⟨rfl, rfl⟩
theorem addrEdge_of {W : World} {a : Addr} {v : Value} (h : W.cell? a = some v) : ∃ b o, a = ⟨b, o, none⟩ ∧ b < W.heap.size := by
  obtain ⟨b, o, s⟩ := a
  have hlt := World.block_lt_of_cell? W _ h
  cases s with
  | none => exact ⟨b, o, rfl, hlt⟩
  | some s =>
   unfold World.cell? at h
   split at h
   · simp at h
   · simp at h
theorem idxEdge_at (p : S70 → Bool) (g : Nat) (lb : Array Value) (eg : ∀ args w, (callFunc g args).run Try.prog w = .ok (.enter g args) w) (A : Option Addr) (c : Nat) (l : List S70) (w : World)
    (hp : ∀ (W : World) (x : S70), x ∈ l → Below w.heap.size w W → Calls Try.prog g (#[(.agg #[.int .i64 x.f0, .int .i64 x.f1, .int .i64 x.f2])] ++ lb) W fun e w' => e = .returned (.bool (p x)) ∧ Below w.heap.size w w') (hr : Kd.C k70 w A l.length l) :
    Calls Try.prog 108 #[.slice A l.length c, .func (.func g) #[] lb] w fun e w' => e = .returned (.int .i64 (Lib.idxBy (fun _ y => p y) l default)) ∧ Below w.heap.size w w' := by
  cases l with
  | nil => exact (idxEdge_empty A c _ w).mono fun e w' ⟨he, hw⟩ => by subst hw; exact ⟨he, Below.refl _ _⟩
  | cons x l' =>
   have hrow : ∀ j, j < (x :: l').length → ∃ ad, A = some ad ∧ ∀ i v, (encEdge (x :: l')[j]!)[i]? = some v → w.cell? (ad.add (j * 3 + i)) = some v := by
    intro j hj
    obtain ⟨ad, cs, e, _, hK, hc0⟩ := Kd.C_get hr z70 j (by omega) (by omega)
    have hcs : cs = encEdge ((x :: l').getD j z70) := k70_open (by simpa using hK)
    refine ⟨ad, e, fun i v hi => ?_⟩
    have e1 : (x :: l')[j]! = (x :: l').getD j z70 := by rw [List.getD_eq_getElem?_getD, List.getElem!_eq_getElem?_getD]; rfl
    have := hc0 i v (by rw [hcs, ← e1]; exact hi)
    simpa [k70, Kd.iso, Kd.pair, Kd.int, Kd.scalar] using this
   obtain ⟨ad, rfl, h0⟩ := hrow 0 (by simp)
   obtain ⟨b, o, rfl, hb⟩ := addrEdge_of (h0 0 _ rfl)
   have hcon := idxEdge_calls p g lb eg b o (x :: l').length c (x :: l') w
     hp (Nat.le_refl _) (Kd.C_max hr) hb (fun j hj i v hi => by
       obtain ⟨ad', e, h⟩ := hrow j hj
       obtain rfl := Option.some.inj e
       have := h i v hi
       rw [Addr.add_lit] at this
       rw [← this, Nat.add_assoc])
   rw [List.take_length] at hcon
   exact hcon
end

/-! ### impl_Edge_80: function 80 -/
section
open Go.Shelf Go.Lib
theorem anyEdge_at (p : S70 → Bool) (g : Nat) (lb : Array Value) (eg : ∀ args w, (callFunc g args).run Try.prog w = .ok (.enter g args) w) (A : Option Addr) (c : Nat) (l : List S70) (w : World)
    (hp : ∀ (W : World) (x : S70), x ∈ l → Below w.heap.size w W → Calls Try.prog g (#[(.agg #[.int .i64 x.f0, .int .i64 x.f1, .int .i64 x.f2])] ++ lb) W fun e w' => e = .returned (.bool (p x)) ∧ Below w.heap.size w w') (hr : Kd.C k70 w A l.length l) :
    Calls Try.prog 80 #[.slice A l.length c, .func (.func g) #[] lb] w fun e w' => e = .returned (.bool (l.any p)) ∧ Below w.heap.size w w' := by
  rw [show l.any p = decide (0 ≤ Lib.idxBy (fun _ y => p y) l default) from (Lib.idxBy_nonneg_iff (fun _ y => p y) l default).symm]
  have hcon := idxEdge_at p g lb eg A c l w hp hr
  generalize Lib.idxBy (fun _ y => p y) l default = r at hcon ⊢
  go_enter Try.func80, Try.ntmps80
  go_wp2_with (go_at_call 108; refine hcon.mono ?_; rintro e w' ⟨rfl, hb'⟩)
  go_ret
  exact ⟨by simp, hb'⟩
end

/-! ### impl_isWeight: function 82 -/
def impl_isWeight.f (a0 : Int) : Option (Bool) := if a0 > (-1000000) then (some (decide (a0 < 1000000))) else (some false)
set_option maxHeartbeats 8000000 in
set_option maxRecDepth 100000 in
theorem impl_isWeight.calls (a0 : Int) (r : Bool) (w : World) (h : impl_isWeight.f a0 = some r) :
    Calls Try.prog 82 #[.int .i64 a0] w fun e w' => e = .returned (.bool r) ∧ Drawn0 w w' := by
  have H : (if a0 > (-1000000) then (some (decide (a0 < 1000000))) else (some false)) = some r := h
  clear h
  by_cases c2 : a0 > (-1000000)
  · rw [if_pos c2] at H
    have c2b0 : decide ((-1000000) < a0) = true := decide_eq_true c2
    clear c2
    obtain rfl := Option.some.inj H
    go_enter Try.func82, Try.ntmps82
    go_wp2
    go_ret
    exact ⟨by first | rfl | (simp; done) | (simp [*]; done), by repeat (first | exact Drawn0.refl _ | apply Drawn0.step)⟩
  rw [if_neg c2] at H
  have c2b0 : decide ((-1000000) < a0) = false := decide_eq_false c2
  clear c2
  obtain rfl := Option.some.inj H
  go_enter Try.func82, Try.ntmps82
  go_wp2
  go_ret
  exact ⟨by first | rfl | (simp; done) | (simp [*]; done), by repeat (first | exact Drawn0.refl _ | apply Drawn0.step)⟩

/-! ### impl_GraphOk: function 41 -/
section
open Go.Shelf Go.Lib
def gNodeB (n x : Int) : Bool := decide (0 ≤ x ∧ x < n)
theorem gNodeB_calls (n x : Int) (w : World) : Calls Try.prog 79 #[.int .i64 n, .int .i64 x] w fun e w' => e = .returned (.bool (gNodeB n x)) ∧ w = w' := by
  by_cases h1 : 0 ≤ x
  rotate_left
  · rw [show gNodeB n x = false from decide_eq_false (fun h => h1 h.1)]
    go_enter Try.func79, Try.ntmps79
    go_wp2
    go_ret
    exact ⟨by simp, rfl⟩
  by_cases h2 : x < n
  · rw [show gNodeB n x = true from decide_eq_true ⟨h1, h2⟩]
    go_enter Try.func79, Try.ntmps79
    go_wp2
    go_ret
    exact ⟨by simp, rfl⟩
  rw [show gNodeB n x = false from decide_eq_false (fun h => h2 h.2)]
  go_enter Try.func79, Try.ntmps79
  go_wp2
  go_ret
  exact ⟨by simp, rfl⟩
def gWeightB (x : Int) : Bool := decide (-1000000 < x ∧ x < 1000000)
theorem gWeightB_calls (x : Int) (w : World) : Calls Try.prog 82 #[.int .i64 x] w fun e w' => e = .returned (.bool (gWeightB x)) ∧ w = w' := by
  by_cases h1 : -1000000 < x
  rotate_left
  · rw [show gWeightB x = false from decide_eq_false (fun h => h1 h.1)]
    go_enter Try.func82, Try.ntmps82
    go_wp2
    go_ret
    exact ⟨by simp, rfl⟩
  by_cases h2 : x < 1000000
  · rw [show gWeightB x = true from decide_eq_true ⟨h1, h2⟩]
    go_enter Try.func82, Try.ntmps82
    go_wp2
    go_ret
    exact ⟨by simp, rfl⟩
  rw [show gWeightB x = false from decide_eq_false (fun h => h2 h.2)]
  go_enter Try.func82, Try.ntmps82
  go_wp2
  go_ret
  exact ⟨by simp, rfl⟩
def badEdge (n : Int) (e : S70) : Bool := !gNodeB n e.f0 || (!gNodeB n e.f1 || !gWeightB e.f2)
theorem badEdge_calls (n : Int) (B : Nat) (x : S70) (W : World) (hBW : B < W.heap.size) (hc : W.cell? ⟨B, 0, none⟩ = some (.int .i64 n)) :
    Calls Try.prog 81 #[.agg #[.int .i64 x.f0, .int .i64 x.f1, .int .i64 x.f2], .pointer (some ⟨B, 0, none⟩)] W fun e w' => e = .returned (.bool (badEdge n x)) ∧ Below W.heap.size W w' := by
  have hne : B ≠ W.heap.size := by omega
  obtain ⟨a, b, c⟩ := x
  show Calls Try.prog 81 #[.agg #[.int .i64 a, .int .i64 b, .int .i64 c], .pointer (some ⟨B, 0, none⟩)] W _
  obtain ⟨r1, h1⟩ : ∃ r, gNodeB n a = r := ⟨_, rfl⟩
  obtain ⟨r2, h2⟩ : ∃ r, gNodeB n b = r := ⟨_, rfl⟩
  obtain ⟨r3, h3⟩ : ∃ r, gWeightB c = r := ⟨_, rfl⟩
  have k1 := gNodeB_calls n a
  have k2 := gNodeB_calls n b
  have k3 := gWeightB_calls c
  rw [show badEdge n ⟨a, b, c⟩ = (!r1 || (!r2 || !r3)) by simp [badEdge, h1, h2, h3]]
  rw [h1] at k1
  rw [h2] at k2
  rw [h3] at k3
  clear h1 h2 h3
  cases r1 <;> cases r2 <;> cases r3
  all_goals
    go_enter Try.func81, Try.ntmps81
    go_wp2_with (first | (go_at_call 79; (with_reducible refine (k1 _).mono ?_); rintro e w' ⟨rfl, rfl⟩) | (go_at_call 79; (with_reducible refine (k2 _).mono ?_); rintro e w' ⟨rfl, rfl⟩) | (go_at_call 82; (with_reducible refine (k3 _).mono ?_); rintro e w' ⟨rfl, rfl⟩))
    go_ret
    exact ⟨by simp, (Below.refl _ W).alloc (Nat.le_refl _) _⟩
def impl_GraphOk.f (a0_0 : Int) (l0_1 : List (S70)) : Option (Bool) := some (if a0_0 < 0 then false else if a0_0 > 8 then false else if (l0_1.length : Int) > 80 then false else !(l0_1.any (badEdge a0_0)))
theorem impl_GraphOk.calls (a0_0 : Int) (A0_1 : Option Addr) (c0_1 : Nat) (l0_1 : List (S70)) (r : Bool) (w : World) (hr0_1 : Kd.C k70 w A0_1 l0_1.length l0_1) (hc0_1 : l0_1.length ≤ c0_1) (h : impl_GraphOk.f a0_0 l0_1 = some r) :
    Calls Try.prog 41 #[.agg #[.int .i64 a0_0, .slice A0_1 l0_1.length c0_1]] w fun e w' => e = .returned (.bool r) ∧ Below w.heap.size w w' := by
  obtain rfl := Option.some.inj h
  clear h
  by_cases h0 : a0_0 < 0
  · rw [if_pos h0]
    have h0 : decide (a0_0 < 0) = true := decide_eq_true h0
    go_enter Try.func41, Try.ntmps41
    go_wp2
    go_ret
    exact ⟨by simp, (Below.refl _ w).alloc (Nat.le_refl _) _⟩
  rw [if_neg h0]
  replace h0 : decide (a0_0 < 0) = false := decide_eq_false h0
  by_cases h1 : a0_0 > 8
  · rw [if_pos h1]
    have h1 : decide (8 < a0_0) = true := decide_eq_true h1
    go_enter Try.func41, Try.ntmps41
    go_wp2
    go_ret
    exact ⟨by simp, (Below.refl _ w).alloc (Nat.le_refl _) _⟩
  rw [if_neg h1]
  replace h1 : decide (8 < a0_0) = false := decide_eq_false h1
  by_cases h2 : (l0_1.length : Int) > 80
  · rw [if_pos h2]
    have h2 : decide (80 < (l0_1.length : Int)) = true := decide_eq_true h2
    go_enter Try.func41, Try.ntmps41
    go_wp2
    go_ret
    exact ⟨by simp, (Below.refl _ w).alloc (Nat.le_refl _) _⟩
  rw [if_neg h2]
  replace h2 : decide (80 < (l0_1.length : Int)) = false := decide_eq_false h2
  have eg : ∀ args w, (callFunc 81 args).run Try.prog w = .ok (.enter 81 args) w := enters_of Try.func81 (by kernel_rfl) rfl
  have hcon := anyEdge_at (badEdge a0_0) 81 #[.pointer (some ⟨w.heap.size, 0, none⟩)] eg A0_1 c0_1 l0_1 (w.alloc (.cells #[.int .i64 a0_0, .slice A0_1 l0_1.length c0_1] 33))
    (fun W x _ hb => (badEdge_calls a0_0 w.heap.size x W (Nat.lt_of_lt_of_le (by simp) hb.size) ((hb.cell (p := ⟨w.heap.size, 0, none⟩) (by simp)).trans (by simp))).mono fun e w' ⟨he, h⟩ => ⟨he, hb.trans (h.mono hb.size)⟩) (Kd.C_alloc hr0_1 _)
  generalize l0_1.any (badEdge a0_0) = r at hcon ⊢
  go_enter Try.func41, Try.ntmps41
  go_wp2_with (go_at_call 80; refine hcon.mono ?_; rintro e w' ⟨rfl, hb'⟩)
  go_ret
  exact ⟨by simp, ((Below.refl _ w).alloc (Nat.le_refl _) _).trans (hb'.mono (by simp))⟩
end

/-! ### bits_Mul32: function 114 -/
def bits_Mul32.f (a0 : Int) (a1 : Int) : Option (Int × Int) := some (((IntKind.u64.wrap ((IntKind.u64.wrap (a0)) * (IntKind.u64.wrap (a1)))) / 4294967296) % 4294967296, (IntKind.u64.wrap ((IntKind.u64.wrap (a0)) * (IntKind.u64.wrap (a1)))) % 4294967296)
set_option maxHeartbeats 8000000 in
set_option maxRecDepth 100000 in
theorem bits_Mul32.calls (a0 : Int) (a1 : Int) (r1 : Int) (r2 : Int) (w : World) (h : bits_Mul32.f a0 a1 = some (r1, r2)) :
    Calls Try.prog 114 #[.int .u32 a0, .int .u32 a1] w fun e w' => e = .returned (.tuple #[.int .u32 r1, .int .u32 r2]) ∧ Drawn0 w w' := by
  have H : (some (((IntKind.u64.wrap ((IntKind.u64.wrap (a0)) * (IntKind.u64.wrap (a1)))) / 4294967296) % 4294967296, (IntKind.u64.wrap ((IntKind.u64.wrap (a0)) * (IntKind.u64.wrap (a1)))) % 4294967296)) = some (r1, r2) := h
  clear h
  simp only [Option.some.injEq, Prod.mk.injEq] at H
  obtain ⟨rfl, rfl⟩ := H
  go_enter Try.func114, Try.ntmps114
  go_wp2
  go_ret2
  exact ⟨by first | rfl | (simp; done) | (simp [*]; done), by repeat (first | exact Drawn0.refl _ | apply Drawn0.step)⟩

/-! ### bits_Mul64: function 115 -/
def bits_Mul64.f (a0 : Int) (a1 : Int) : Option (Int × Int) := some (IntKind.u64.wrap ((IntKind.u64.wrap ((IntKind.u64.wrap ((a0 / 4294967296) * (a1 / 4294967296))) + ((IntKind.u64.wrap ((IntKind.u64.wrap ((a0 / 4294967296) * (Go.bits .and .u64 a1 4294967295))) + ((IntKind.u64.wrap ((Go.bits .and .u64 a0 4294967295) * (Go.bits .and .u64 a1 4294967295))) / 4294967296))) / 4294967296))) + ((IntKind.u64.wrap ((Go.bits .and .u64 (IntKind.u64.wrap ((IntKind.u64.wrap ((a0 / 4294967296) * (Go.bits .and .u64 a1 4294967295))) + ((IntKind.u64.wrap ((Go.bits .and .u64 a0 4294967295) * (Go.bits .and .u64 a1 4294967295))) / 4294967296))) 4294967295) + (IntKind.u64.wrap ((Go.bits .and .u64 a0 4294967295) * (a1 / 4294967296))))) / 4294967296)), IntKind.u64.wrap (a0 * a1))
set_option maxHeartbeats 8000000 in
set_option maxRecDepth 100000 in
theorem bits_Mul64.calls (a0 : Int) (a1 : Int) (r1 : Int) (r2 : Int) (w : World) (h : bits_Mul64.f a0 a1 = some (r1, r2)) :
    Calls Try.prog 115 #[.int .u64 a0, .int .u64 a1] w fun e w' => e = .returned (.tuple #[.int .u64 r1, .int .u64 r2]) ∧ Drawn0 w w' := by
  have H : (some (IntKind.u64.wrap ((IntKind.u64.wrap ((IntKind.u64.wrap ((a0 / 4294967296) * (a1 / 4294967296))) + ((IntKind.u64.wrap ((IntKind.u64.wrap ((a0 / 4294967296) * (Go.bits .and .u64 a1 4294967295))) + ((IntKind.u64.wrap ((Go.bits .and .u64 a0 4294967295) * (Go.bits .and .u64 a1 4294967295))) / 4294967296))) / 4294967296))) + ((IntKind.u64.wrap ((Go.bits .and .u64 (IntKind.u64.wrap ((IntKind.u64.wrap ((a0 / 4294967296) * (Go.bits .and .u64 a1 4294967295))) + ((IntKind.u64.wrap ((Go.bits .and .u64 a0 4294967295) * (Go.bits .and .u64 a1 4294967295))) / 4294967296))) 4294967295) + (IntKind.u64.wrap ((Go.bits .and .u64 a0 4294967295) * (a1 / 4294967296))))) / 4294967296)), IntKind.u64.wrap (a0 * a1))) = some (r1, r2) := h
  clear h
  simp only [Option.some.injEq, Prod.mk.injEq] at H
  obtain ⟨rfl, rfl⟩ := H
  go_enter Try.func115, Try.ntmps115
  go_wp2
  go_ret2
  exact ⟨by first | rfl | (simp; done) | (simp [*]; done), by repeat (first | exact Drawn0.refl _ | apply Drawn0.step)⟩

/-! ### bits_Mul: function 107 -/
def bits_Mul.f (a0 : Int) (a1 : Int) : Option (Int × Int) := (bits_Mul64.f a0 a1).bind fun bt329 => (some (bt329.1, bt329.2))
set_option maxHeartbeats 8000000 in
set_option maxRecDepth 100000 in
theorem bits_Mul.calls (a0 : Int) (a1 : Int) (r1 : Int) (r2 : Int) (w : World) (h : bits_Mul.f a0 a1 = some (r1, r2)) :
    Calls Try.prog 107 #[.int .u64 a0, .int .u64 a1] w fun e w' => e = .returned (.tuple #[.int .u64 r1, .int .u64 r2]) ∧ Drawn0 w w' := by
  have H : ((bits_Mul64.f a0 a1).bind fun bt329 => (some (bt329.1, bt329.2))) = some (r1, r2) := h
  clear h
  replace H := Option.bind_eq_some_iff.mp H
  obtain ⟨⟨t329, t330⟩, A30, H⟩ := H
  replace H : (some (t329, t330)) = some (r1, r2) := H
  have A3 := mK A30
  clear A30
  simp only [Option.some.injEq, Prod.mk.injEq] at H
  obtain ⟨rfl, rfl⟩ := H
  go_enter Try.func107, Try.ntmps107
  go_wp2_with (first | ((with_reducible refine gate_callee (f := 115) rfl ?_); refine gsE (some 25) Try.func115 #[.int .u64 a0, .int .u64 a1] ?_; (with_reducible refine (bits_Mul64.calls a0 a1 t329 t330 _ A3.out).mono ?_); rintro e w' ⟨rfl, ⟨nd, rfl⟩⟩; refine ⟨_, rfl, ?_⟩))
  go_ret2
  exact ⟨by first | rfl | (simp; done) | (simp [*]; done), by repeat (first | exact Drawn0.refl _ | apply Drawn0.step)⟩

/-! ### slices_Repeat_int_int: function 77 -/
section
open Go.Shelf Go.Lib
theorem rp_made (N : Nat) : madeCells #[Value.int .i64 0] N = (List.replicate N (Value.int .i64 0)).toArray := by
  unfold madeCells
  apply Array.ext
  · simp
  · intro i h1 h2
    simp [Nat.mod_one]
theorem rp_info : (Try.prog.info? 3).map (fun i => (i.zero, i.size, i.bytes)) = some (some (.int .i64 0), 1, 8) := by kernel_rfl
theorem rp_size : (Try.prog.info? 3).map (·.size) = some 1 := by kernel_rfl
theorem rp_make (W : World) (N : Nat) (hN : N ≤ 8) : (Instr.makeSlice 26 (.int .i64 N) (.int .i64 N)).run Try.prog W = .ok (.slice (some ⟨W.heap.size, 0, none⟩) N N) (W.alloc (.cells (List.replicate N (Value.int .i64 0)).toArray 3)) := by
  obtain ⟨i, hi, hz⟩ := Option.map_eq_some_iff.1 rp_info
  simp only [Prod.mk.injEq] at hz
  obtain ⟨h1, h2, h3⟩ := hz
  have h := run_make (P := Try.prog) W 26 3 i (.int .i64 0) Try.underlying26 hi h1 .i64 .i64 (N : Int) (N : Int) (by omega) (by omega) (by rw [h3]; omega) (by omega)
  rw [Int.toNat_natCast, h2, Nat.mul_one] at h
  rw [h]
  have e : madeCells (Value.int .i64 0).cells N = (List.replicate N (Value.int .i64 0)).toArray := rp_made N
  rw [e]
theorem rp_at (W : World) (N : Nat) : (W.alloc (Obj.cells (Array.replicate N (Value.int IntKind.i64 0)) 3)).heap[W.heap.size]? = some (.cells (List.replicate N (Value.int IntKind.i64 0)).toArray 3 (0, 0)) := by
  unfold World.alloc
  exact Array.getElem?_push_size
theorem rp_grow (x z : Value) {N k : Nat} : splice (List.replicate k x ++ List.replicate (N - k) z) k (List.replicate (Nat.min k (N - k)) x) = List.replicate (k + Nat.min k (N - k)) x ++ List.replicate (N - (k + Nat.min k (N - k))) z := by
  have hm : Nat.min k (N - k) ≤ N - k := Nat.min_le_right _ _
  generalize Nat.min k (N - k) = m at *
  unfold splice
  rw [List.take_append_of_le_length (by simp), List.length_replicate, List.drop_append, List.length_replicate]
  simp only [List.take_replicate, List.drop_replicate, Nat.min_self]
  rw [show k - (k + m) = 0 by omega, show k + m - k = m by omega, List.replicate_zero, List.nil_append, ← List.append_assoc, List.replicate_append_replicate, show N - k - m = N - (k + m) by omega]
theorem rp_first (x z : Value) (N : Nat) : splice (List.replicate N z) 0 (List.replicate (Nat.min 1 N) x) = List.replicate (Nat.min 1 N) x ++ List.replicate (N - Nat.min 1 N) z := by
  unfold splice
  simp
theorem rp_cell {W : World} {g k m : Nat} {x z : Value} (h : W.heap[g]? = some (.cells (List.replicate k x ++ List.replicate m z).toArray 3 (0, 0))) : ∀ j v, (List.replicate (Nat.min k m) x)[j]? = some v → W.cell? ((⟨g, 0, none⟩ : Addr).add j) = some v := by
  intro j v hj
  have hm : Nat.min k m ≤ k := Nat.min_le_left _ _
  rw [List.getElem?_replicate] at hj
  split at hj
  · obtain rfl := Option.some.inj hj
    rw [Addr.add_lit, Nat.zero_add]
    refine (blk_cell h j).trans ?_
    rw [List.getElem?_toArray, List.getElem?_append_left (by simp; omega), List.getElem?_replicate, if_pos (by omega)]
  · simp at hj
theorem rp_fit {N k : Nat} (h : k ≤ N) (x z : Value) : k + (List.replicate (Nat.min k (N - k)) x).length ≤ (List.replicate k x ++ List.replicate (N - k) z).length := by
  have hm : Nat.min k (N - k) ≤ N - k := Nat.min_le_right _ _
  rw [List.length_append, List.length_replicate, List.length_replicate, List.length_replicate]; omega
theorem rp_fit0 (N : Nat) (x z : Value) : 0 + (List.replicate (Nat.min 1 N) x).length ≤ (List.replicate N z).length := by
  have hm : Nat.min 1 N ≤ N := Nat.min_le_right _ _
  rw [List.length_replicate, List.length_replicate]; omega
theorem rp_one {W : World} {b o N : Nat} {x : Int} (h : W.cell? ⟨b, o, none⟩ = some (.int .i64 x)) : ∀ j v, (List.replicate (Nat.min 1 N) (Value.int .i64 x))[j]? = some v → W.cell? ((⟨b, o, none⟩ : Addr).add j) = some v := by
  intro j v hj
  have hm : Nat.min 1 N ≤ 1 := Nat.min_le_left _ _
  rw [List.getElem?_replicate] at hj
  split at hj
  · obtain rfl := Option.some.inj hj
    obtain rfl : j = 0 := by omega
    rw [Addr.add_lit]; exact h
  · simp at hj
theorem rp_own {W : World} {g N base : Nat} {x : Int} (hb : base ≤ g) (hN : N ≤ 8) (h : W.heap[g]? = some (.cells (List.replicate N (Value.int .i64 x) ++ List.replicate (N - N) (Value.int .i64 0)).toArray 3 (0, 0))) : Kd.R (Kd.int .i64) 3 W base (fun _ => True) (.slice (some ⟨g, 0, none⟩) N N) (List.replicate N x) := by
  refine Kd.R_of_own (enc := Value.int .i64) (h1 := fun _ => rfl) ⟨by simp [encs], .inr ⟨g, N, _, by rw [List.length_replicate], hb, h, by rw [List.length_replicate]; exact Nat.le_refl _, by unfold maxLen; omega, by simp, ?_⟩⟩ (fun _ _ => trivial)
  simp [encs]
theorem rp_mul (n : Nat) (h : n ≤ 8) : bits_Mul.f 1 (n : Int) = some (0, (n : Int)) := by
  have : ∀ m : Fin 9, bits_Mul.f 1 (m.1 : Int) = some (0, (m.1 : Int)) := by decide +kernel
  exact this ⟨n, by omega⟩
theorem rp_addr {W : World} {a : Addr} {v : Value} (h : W.cell? a = some v) : ∃ b o, a = ⟨b, o, none⟩ ∧ b < W.heap.size := by
  obtain ⟨b, o, s⟩ := a
  have hlt := World.block_lt_of_cell? W _ h
  cases s with
  | none => exact ⟨b, o, rfl, hlt⟩
  | some s =>
   unfold World.cell? at h
   split at h
   · simp at h
   · simp at h
set_option maxRecDepth 100000 in
set_option maxHeartbeats 4000000 in
theorem rp_calls (b o c N : Nat) (x : Int) (w : World) (hb : b < w.heap.size) (hN : N ≤ 8) (hx : w.cell? ⟨b, o, none⟩ = some (.int .i64 x)) :
    Calls Try.prog 77 #[.slice (some ⟨b, o, none⟩) 1 c, .int .i64 N] w fun e w' => ∃ v0_ : Value, e = .returned (v0_) ∧ Kd.R (Kd.int .i64) 3 w' w.heap.size (fun _ => True) v0_ (List.replicate N x) ∧ Below w.heap.size w w' := by
  have w1 : IntKind.u64.wrap (N : Int) = N := by rw [IntKind.wrap_u64]; omega
  have w2 : IntKind.i64.wrap (N : Int) = N := by rw [IntKind.wrap_i64]; omega
  have n0 : ¬ (N : Int) < 0 := by omega
  have n1 : decide ((9223372036854775807 : Int) < (N : Int)) = false := decide_eq_false (by omega)
  have hmk := fun W => rp_make W N hN
  have hm : ∀ W, Calls Try.prog 107 #[.int .u64 1, .int .u64 N] W fun e w' => e = .returned (.tuple #[.int .u64 0, .int .u64 N]) ∧ Below W.heap.size W w' := fun W => (bits_Mul.calls 1 (N : Int) 0 (N : Int) W (rp_mul N hN)).mono fun e w' ⟨he, nd, hd⟩ => ⟨he, hd ▸ pw_below_drewN (Below.refl _ W) nd⟩
  go_enter Try.func77, Try.ntmps77
  go_wp2_with (first
    | (go_at_call 107; refine (hm _).mono ?_; rintro e w0 ⟨rfl, hB⟩; have hx1 := (((Below.refl w0.heap.size w0).alloc (Nat.le_refl _) (Obj.cells (Array.replicate N (Value.int IntKind.i64 0)) 3)).cell (p := ⟨b, o, none⟩) (Nat.lt_of_lt_of_le hb hB.size)).trans ((hB.cell (p := ⟨b, o, none⟩) hb).trans hx))
    | ((with_reducible refine gate_dst (N := 33) rfl ?_); refine wpList_copy_splice rfl _ _ _ _ rfl 3 Try.underlying26 rp_size (some ⟨w0.heap.size, 0, none⟩) (some ⟨b, o, none⟩) N N 1 c rfl rfl w0.heap.size 0 (List.replicate N (.int .i64 0)) 3 (rp_at w0 N) (List.replicate (Nat.min 1 N) (.int .i64 x)) List.length_replicate (fun _ => ⟨rfl, _, rfl, rp_one hx1⟩) (rp_fit0 N _ _) (fun v hv => by rw [List.eq_of_mem_replicate hv]; rfl) w.heap.size w (hB.alloc hB.size _) hB.size ?_; intro w3 hG hB3))
  have hG1 : w3.heap[w0.heap.size]? = some (.cells (List.replicate (Nat.min 1 N) (Value.int .i64 x) ++ List.replicate (N - Nat.min 1 N) (Value.int .i64 0)).toArray 3 (0, 0)) := by
   have := hG.out
   rw [rp_first] at this
   exact this
  have HG := mK hG1
  have HB := mK hB3
  have HS := mK hB.size
  generalize w0.heap.size = g at *
  clear hG hG1 hB3 hx1 hB hm hmk
  go_loopg [8] N (fun gg s8 wr => ∃ kk : Nat, (kk < N → 1 ≤ kk) ∧ kk ≤ N ∧ N - kk ≤ gg ∧ s8 = .int .i64 kk ∧ Aside0 (Below w.heap.size w wr) ∧ Aside0 (wr.heap[g]? = some (.cells (List.replicate kk (Value.int .i64 x) ++ List.replicate (N - kk) (Value.int .i64 0)).toArray 3 (0, 0))))
  case atStart => exact ⟨Nat.min 1 N, fun h => (by have : Nat.min 1 N = 1 := Nat.min_eq_left (by have := Nat.min_le_right 1 N; have : Nat.min 1 N ≤ 1 := Nat.min_le_left 1 N; omega); omega), Nat.min_le_right _ _, by omega, by first | rfl | simp, HB, HG⟩
  case round =>
   obtain ⟨kk, hk1, hkN, hg, rfl, BW, A⟩ := hrel
   by_cases hlt : kk < N
   rotate_left
   · have hltz : ¬ (kk : Int) < (N : Int) := by omega
     have : kk = N := by omega
     subst this
     go_wp2
     go_ret
     exact ⟨_, rfl, rp_own HS.out hN A.out, BW.out⟩
   have hltz : (kk : Int) < (N : Int) := by omega
   have hk := hk1 hlt
   clear hk1
   go_wp2
   have A' : wr.drew.heap[g]? = some (.cells (List.replicate kk (Value.int .i64 x) ++ List.replicate (N - kk) (Value.int .i64 0)).toArray 3 (0, 0)) := blk_drew A.out
   have BW' := below_drew1 BW.out
   have hne : ¬ N = kk := by omega
   have hmr : Nat.min kk (N - kk) ≤ N - kk := Nat.min_le_right _ _
   have hm1 : 1 ≤ Nat.min kk (N - kk) := Nat.le_min.2 ⟨by omega, by omega⟩
   have hwr : IntKind.i64.wrap ((kk : Int) + ((Nat.min kk (N - kk) : Nat) : Int)) = ((kk + Nat.min kk (N - kk) : Nat) : Int) := by rw [IntKind.wrap_i64]; omega
   go_region_law (refine step_copy_splice ?hgd (.tmp 41) (.tmp 44) 26 26 ?ho 3 Try.underlying26 rp_size (some ⟨g, kk, none⟩) (some ⟨g, 0, none⟩) (N - kk) (N - kk) kk N ?hd ?hs g kk (List.replicate kk (Value.int .i64 x) ++ List.replicate (N - kk) (Value.int .i64 0)) 3 A' (List.replicate (Nat.min kk (N - kk)) (Value.int .i64 x)) ?hn ?hpos ?hf ?h1 w.heap.size w BW' HS.out ?_; (case hgd => rfl); (case ho => rfl); (case hd => go_simp <;> rfl); (case hs => go_simp <;> rfl); (case hn => simp); (case hpos => exact fun _ => ⟨rfl, _, rfl, rp_cell A'⟩); (case hf => exact rp_fit hkN _ _); (case h1 => exact fun v hv => by rw [List.eq_of_mem_replicate hv]; rfl); intro w4 hG4 hB4)
   all_goals
     have hG5 : w4.heap[g]? = some (.cells (List.replicate (kk + Nat.min kk (N - kk)) (Value.int .i64 x) ++ List.replicate (N - (kk + Nat.min kk (N - kk))) (Value.int .i64 0)).toArray 3 (0, 0)) := by
       have := hG4.out
       rw [rp_grow] at this
       exact this
     have HG5 := mK hG5
     have HB5 := mK hB4
     clear hG4 hG5 hB4 A' BW'
     go_wp2
     go_roundg (N - (kk + Nat.min kk (N - kk)))
     case measure => omega
     case rel => exact ⟨kk + Nat.min kk (N - kk), fun _ => by omega, by omega, by omega, by first | rfl | (simp; done) | (rw [hwr]), HB5, HG5⟩
def slices_Repeat_int_int.f (l0 : List Int) (a1 : Int) : Option (List Int) := if l0.length = 1 ∧ 0 ≤ a1 ∧ a1 ≤ 8 then some (List.replicate a1.toNat (rd l0 0)) else none
theorem slices_Repeat_int_int.calls (A0 : Option Addr) (c0 : Nat) (l0 : List Int) (a1 : Int) (r : List Int) (w : World) (hr0 : Kd.C (Kd.int .i64) w A0 l0.length l0) (hc0 : l0.length ≤ c0) (h : slices_Repeat_int_int.f l0 a1 = some r) :
    Calls Try.prog 77 #[.slice A0 l0.length c0, .int .i64 a1] w fun e w' => ∃ v0_ : Value, e = .returned (v0_) ∧ Kd.R (Kd.int .i64) 3 w' w.heap.size (fun _ => True) v0_ r ∧ Below w.heap.size w w' := by
  unfold slices_Repeat_int_int.f at h
  split at h
  · rename_i cnd
    obtain ⟨hl, h0, h8⟩ := cnd
    obtain rfl := Option.some.inj h
    obtain ⟨n, rfl⟩ : ∃ n : Nat, a1 = (n : Int) := ⟨a1.toNat, by omega⟩
    obtain ⟨ad, e, h2⟩ : ∃ ad, A0 = some ad ∧ w.cell? ad = some (.int .i64 (rd l0 0)) := by
     obtain ⟨ad, cs, e, _, hK, hc1⟩ := Kd.C_get hr0 (0 : Int) 0 (by omega) (by omega)
     have hcs : cs = [.int .i64 (rd l0 0)] := by simpa [Kd.int, Kd.scalar, rd] using hK
     have h := hc1 0 _ (by rw [hcs]; rfl)
     exact ⟨ad, e, by simpa [Addr.add] using h⟩
    subst e
    obtain ⟨b, o, rfl, hb⟩ := rp_addr h2
    rw [hl]
    exact rp_calls b o c0 n _ w hb (by omega) h2
  · exact absurd h (by simp)
end

end Go.Proofs.Ytbbblnmngjhadaa.QFnExactEarliestTimes
