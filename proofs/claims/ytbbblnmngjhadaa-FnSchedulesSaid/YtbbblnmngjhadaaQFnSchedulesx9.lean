-- Written by this session's program wip/tools/mk.py out of the translation; Lean checks it.
import Derived.Test.YtbbblnmngjhadaaQFnSchedulesx0
import Derived.Test.YtbbblnmngjhadaaQFnSchedulesx2
import Derived.Test.YtbbblnmngjhadaaQFnSchedulesx3
import Derived.Test.YtbbblnmngjhadaaQFnSchedulesx7
namespace Go.Proofs.Ytbbblnmngjhadaa.QFnSchedules
open Go.RowKit Go.Proofs.YtbbblnmngjhadaaW.PrintWords Go.Proofs.YtbbblnmngjhadaaW.PrintLast Go.Proofs.YtbbblnmngjhadaaW.PrintMore
attribute [local go_sem] max2_int min2_int max_two min_two max_three min_three max_four min_four   -- for this text's walks alone
set_option linter.unusedVariables false
set_option linter.unusedSimpArgs false

/-! ### impl_ConflictOf: function 48 -/
def impl_ConflictOf.l0 : Nat → List Int → List Int → List Int → Int → Int → Option (List Int)
  | 0, _, _, _, _, _ => none
  | k + 1, x4, x5, x17, x18, x19 => if x19 < x18 then (if 0 ≤ x19 then (if x19 < (x17.length : Int) then (if 0 ≤ (rd x17 x19) then (if (rd x17 x19) < (x4.length : Int) then (if x5.length < 17592186044416 then (impl_ConflictOf.l0 k x4 (x5 ++ [rd x4 (rd x17 x19)]) x17 x18 (wrap64 (x19 + 1))) else (none)) else (none)) else (none)) else (none)) else (none)) else (some x5)
def impl_ConflictOf.f (k : Nat) (a0_0 : Int) (l0_1 : List (S76)) : Option (List Int) := (impl_SimpleOk.f a0_0 l0_1).bind fun t327 => (if t327 = true then ((impl_graphOf.f k a0_0 l0_1).bind fun bt328 => ((impl_NegativeCycle.f k bt328.1 bt328.2.1).bind fun t336 => (impl_ConflictOf.l0 k bt328.2.2 ([] : List Int) t336 (t336.length : Int) 0))) else (some ([] : List Int)))
theorem impl_ConflictOf.mono_l : ∀ k, (∀ y0 y1 y2 y3 y4, LeO (impl_ConflictOf.l0 k y0 y1 y2 y3 y4) (impl_ConflictOf.l0 (k + 1) y0 y1 y2 y3 y4))
  | 0 => fun _ _ _ _ _ r h => by simp [impl_ConflictOf.l0] at h
  | k + 1 => by
    have ih0 := impl_ConflictOf.mono_l k
    · intro y0 y1 y2 y3 y4
      unfold impl_ConflictOf.l0
      repeat' first|(with_reducible first|exact ih0 _ _ _ _ _|exact impl_NegativeCycle.mono _ _ _|exact impl_graphOf.mono _ _ _|exact lR _|exact lN _|refine lI ?_ ?_|refine lB ?_ (fun _ => ?_))|exact ih0 _ _ _ _ _|exact impl_NegativeCycle.mono _ _ _|exact impl_graphOf.mono _ _ _|exact lN _|refine lI ?_ ?_|refine lB ?_ (fun _ => ?_)
theorem impl_ConflictOf.mono : ∀ a0 a1 k, LeO (impl_ConflictOf.f k a0 a1) (impl_ConflictOf.f (k + 1) a0 a1) := by
  intro a0 a1 k
  have ih0 := impl_ConflictOf.mono_l k
  unfold impl_ConflictOf.f
  repeat' first|(with_reducible first|exact ih0 _ _ _ _ _|exact impl_NegativeCycle.mono _ _ _|exact impl_graphOf.mono _ _ _|exact lR _|exact lN _|refine lI ?_ ?_|refine lB ?_ (fun _ => ?_))|exact ih0 _ _ _ _ _|exact impl_NegativeCycle.mono _ _ _|exact impl_graphOf.mono _ _ _|exact lN _|refine lI ?_ ?_|refine lB ?_ (fun _ => ?_)
set_option maxHeartbeats 8000000 in
set_option maxRecDepth 100000 in
theorem impl_ConflictOf.calls (k : Nat) (a0_0 : Int) (A0_1 : Option Addr) (c0_1 : Nat) (l0_1 : List (S76)) (r : List Int) (w : World) (hr0_1 : Kd.C k76 w A0_1 l0_1.length l0_1) (hc0_1 : l0_1.length ≤ c0_1) (h : impl_ConflictOf.f k a0_0 l0_1 = some r) :
    Calls Try.prog 48 #[.agg #[.int .i64 a0_0, .slice A0_1 l0_1.length c0_1]] w fun e w' => ∃ v0_ : Value, e = .returned (v0_) ∧ Kd.R (Kd.int .i64) 3 w' w.heap.size (fun _ => True) v0_ r ∧ Below w.heap.size w w' := by
 have hu47 := Try.underlying47
 have hu33 := Try.underlying33
 have HR0_1 := mK hr0_1
 have HC0_1 := mK hc0_1
 clear hr0_1 hc0_1
 have HB := mK (Below.refl w.heap.size w)
 have H : ((impl_SimpleOk.f a0_0 l0_1).bind fun t327 => (if t327 = true then ((impl_graphOf.f k a0_0 l0_1).bind fun bt328 => ((impl_NegativeCycle.f k bt328.1 bt328.2.1).bind fun t336 => (impl_ConflictOf.l0 k bt328.2.2 ([] : List Int) t336 (t336.length : Int) 0))) else (some ([] : List Int)))) = some r := h
 clear h
 replace H := Option.bind_eq_some_iff.mp H
 obtain ⟨t327, A20, H⟩ := H
 replace H : (if t327 = true then ((impl_graphOf.f k a0_0 l0_1).bind fun bt328 => ((impl_NegativeCycle.f k bt328.1 bt328.2.1).bind fun t336 => (impl_ConflictOf.l0 k bt328.2.2 ([] : List Int) t336 (t336.length : Int) 0))) else (some ([] : List Int))) = some r := H
 have A2 := mK A20
 clear A20
 by_cases c3 : t327 = true
 rotate_left
 {
 replace c3 := Bool.eq_false_iff.mpr c3
 subst c3
 rw [if_neg (show ¬ (false = true) by decide)] at H
 obtain rfl := Option.some.inj H
 go_enter Try.func48, Try.ntmps48
 go_wp2_with (first | ((with_reducible refine gate_dst (N := 1) rfl ?_); refine bxE 1 #[.int .i64 a0_0, .slice A0_1 l0_1.length c0_1] 47 ?_; intro gb326 hg w25 hbox hb; have BK326 := mK hbox; have GW326 := mK (gX hg HB); have GE326 := mK (gX hg HB); replace HB := bB HB hb; clear hb hbox hg; have hcz26_0 := q0 BK326; have hcz26_1 := q1 BK326; have hfz26_0 := fX BK326 0; have hfz26_1 := fX BK326 1) | ((with_reducible refine gate_callee (f := 49) rfl ?_); refine gsE (some 9) Try.func49 #[.agg #[.int .i64 a0_0, .slice A0_1 l0_1.length c0_1]] ?_; (with_reducible refine (impl_SimpleOk.calls a0_0 _ _ l0_1 false _ ?side1 ?side2 A2.out).mono ?_); (case side1 => exact cX HR0_1 HB); (case side2 => exact HC0_1.out); rintro e w27 ⟨rfl, hb⟩; refine ⟨_, rfl, ?_⟩; replace BK326 := kB BK326 hb; replace HB := bB HB hb; (try clear hb); (try clear hb2); (try clear hk); (try clear hi)))
 go_ret
 exact ⟨_, by first | rfl | (simp [errW_none, errW_some] <;> rfl) | (simp [*, errW_none, errW_some] <;> rfl), by first | exact Kd.R_nil _ _ _ _ _ | exact Kd.N_nil _ _ _ _ _ | exact Kd.V_nil _ _ _ _ _ | exact Kd.Q_nil _ _ _ _ _ | exact Kd.S_nil _ _ _ _ _, bX HB⟩
 }
 subst c3
 rw [if_pos rfl] at H
 replace H := Option.bind_eq_some_iff.mp H
 obtain ⟨⟨t328, t329, t332⟩, A40, H⟩ := H
 replace H : ((impl_NegativeCycle.f k t328 t329).bind fun t336 => (impl_ConflictOf.l0 k t332 ([] : List Int) t336 (t336.length : Int) 0)) = some r := H
 have A4 := mK A40
 clear A40
 replace H := Option.bind_eq_some_iff.mp H
 obtain ⟨t336, A50, H⟩ := H
 replace H : (impl_ConflictOf.l0 k t332 ([] : List Int) t336 (t336.length : Int) 0) = some r := H
 have A5 := mK A50
 clear A50
 have H' := mK H
 clear H
 go_enter Try.func48, Try.ntmps48
 go_wp2_with (first | ((with_reducible refine gate_dst (N := 1) rfl ?_); refine bxE 1 #[.int .i64 a0_0, .slice A0_1 l0_1.length c0_1] 47 ?_; intro gb326 hg w6 hbox hb; have BK326 := mK hbox; have GW326 := mK (gX hg HB); have GE326 := mK (gX hg HB); replace HB := bB HB hb; clear hb hbox hg; have hcz7_0 := q0 BK326; have hcz7_1 := q1 BK326; have hfz7_0 := fX BK326 0; have hfz7_1 := fX BK326 1) | ((with_reducible refine gate_callee (f := 49) rfl ?_); refine gsE (some 9) Try.func49 #[.agg #[.int .i64 a0_0, .slice A0_1 l0_1.length c0_1]] ?_; (with_reducible refine (impl_SimpleOk.calls a0_0 _ _ l0_1 true _ ?side1 ?side2 A2.out).mono ?_); (case side1 => exact cX HR0_1 HB); (case side2 => exact HC0_1.out); rintro e w8 ⟨rfl, hb⟩; refine ⟨_, rfl, ?_⟩; replace BK326 := kB BK326 hb; replace HB := bB HB hb; (try clear hb); (try clear hb2); (try clear hk); (try clear hi); have hcz9_0 := q0 BK326; have hcz9_1 := q1 BK326; have hfz9_0 := fX BK326 0; have hfz9_1 := fX BK326 1) | ((with_reducible refine gate_callee (f := 87) rfl ?_); refine gsE (some 13) Try.func87 #[.agg #[.int .i64 a0_0, .slice A0_1 l0_1.length c0_1]] ?_; (with_reducible refine (impl_graphOf.calls k a0_0 _ _ l0_1 t328 t329 t332 _ ?side1 ?side2 A4.out).mono ?_); (case side1 => exact cX HR0_1 HB); (case side2 => exact HC0_1.out); rintro e w10 ⟨v330, v333, rfl, ho0, ho1, hb⟩; refine ⟨_, rfl, ?_⟩; have HO331 := mK (Kd.R_lower ho0 (below_size (bX HB))); have HO334 := mK (Kd.R_lower ho1 (below_size (bX HB))); replace BK326 := kB BK326 hb; replace HB := bB HB hb; (try clear hb); (try clear hb2); (try clear hk); (try clear hi); (try clear ho0); (try clear ho1)) | ((with_reducible refine gate_dst (N := 3) rfl ?_); refine bxE 3 #[.int .i64 0, .slice none 0 0] 33 ?_; intro gb335 hg w11 hbox hb; replace HO331 := mK (Kd.R_below (rX HO331) hb); replace HO334 := mK (Kd.R_below (rX HO334) hb); have BK335 := mK hbox; have GW335 := mK (gX hg HB); have GE335 := mK (gX hg HB); replace HB := bB HB hb; have NB326_335 := mK (lX hg BK326); have NB335_326 := mK (mX hg BK326); replace BK326 := kB BK326 hb; clear hb hbox hg; have hnb12 := NB335_326.out; have hnc12 := NB326_335.out; have hcz13_0 := q0 BK335; have hcz13_1 := q1 BK335; have hfz13_0 := fX BK335 0; have hfz13_1 := fX BK335 1; obtain ⟨Ao14, co14, eo14⟩ := Kd.R_slice HO331.out; subst eo14) | ((with_reducible refine gate_callee (f := 38) rfl ?_); refine gsE (some 17) Try.func38 #[.agg #[.int .i64 t328, .slice Ao14 t329.length co14]] ?_; (with_reducible refine (impl_NegativeCycle.calls k t328 _ _ t329 t336 _ ?side1 ?side2 A5.out).mono ?_); (case side1 => refine (Kd.R_reads' (e := 70) (base := w.heap.size) (ok := fun k_ => True) (n := t329.length) (c := co14) ?_).2.2; exact (rF2 HO331 BK335)); (case side2 => exact (Kd.R_reads' HO331.out).2.1); rintro e w15 ⟨v337, rfl, ho0, hb⟩; refine ⟨_, rfl, ?_⟩; have n0_ := mK (Kd.R_below (rF2 HO331 BK335) hb); have n1_ := mK (Kd.R_elder' (rF2 HO334 BK335) (Kd.R_base ho0) hb); have n2_ := mK (Kd.R_lower (Kd.R_new' ho0 (Kd.R_lt (rF2 HO334 BK335))) (below_size (bX HB))); have n3_ := mK (blk_below (g := gb326) (o := .cells #[.int .i64 a0_0, .slice A0_1 l0_1.length c0_1] 47 (0, 0)) (kF BK326 NB326_335) hb); have n4_ := mK (blk_below (g := gb335) (o := .cells #[.int .i64 t328, .slice Ao14 t329.length co14] 33 (0, 0)) (kP2 BK335) hb); have n5_ := bB HB hb; clear HO331; clear HO334; clear BK326; clear BK335; clear HB; have HO331 := n0_; have HO334 := n1_; have HO338 := n2_; have BK326 := n3_; have BK335 := n4_; have HB := n5_; clear n0_ n1_ n2_ n3_ n4_ n5_; (try clear hb); (try clear hb2); (try clear hk); (try clear hi); (try clear ho0); obtain ⟨Ao16, co16, eo16⟩ := Kd.R_slice HO338.out; subst eo16))
 go_loopg [5, 19] k (fun kq v5 v19 w' => ∃ (x5_1 : List Int) (x19_1 : Int), v19 = .int .i64 x19_1 ∧ Aside0 (impl_ConflictOf.l0 kq t332 x5_1 t336 (t336.length : Int) x19_1 = some r) ∧ Aside0 (kq ≤ k) ∧ Aside0 (Kd.R (Kd.int .i64) 3 w' w.heap.size (fun k_ => some k_ ≠ (v5 : Value).ownBlock ∧ some k_ ≠ ((.slice Ao16 t336.length co16) : Value).ownBlock) v333 t332) ∧ Aside0 (Kd.R (Kd.int .i64) 3 w' w.heap.size (fun k_ => some k_ ≠ (v333 : Value).ownBlock ∧ some k_ ≠ ((.slice Ao16 t336.length co16) : Value).ownBlock) v5 x5_1) ∧ Aside0 (Kd.R (Kd.int .i64) 3 w' w.heap.size (fun k_ => some k_ ≠ (v333 : Value).ownBlock ∧ some k_ ≠ (v5 : Value).ownBlock) (.slice Ao16 t336.length co16) t336) ∧ Aside0 (Kd.R k70 70 w' w.heap.size (fun _ => True) (.slice Ao14 t329.length co14) t329) ∧ Aside0 (w'.heap[gb326]? = some (.cells #[.int .i64 a0_0, (.slice A0_1 l0_1.length c0_1)] 47 (0, 0))) ∧ Aside0 (w'.heap[gb335]? = some (.cells #[.int .i64 t328, (.slice Ao14 t329.length co14)] 33 (0, 0))) ∧ Aside0 (Below w.heap.size w w'))
 case atStart => exact ⟨(([] : List Int)), (0), (by first | rfl | (simp; done) | (simp [*]; done)), H', ⟨Nat.le_refl _⟩, ⟨by (with_reducible repeat first|apply rA|apply rN|apply rD); exact Kd.R_mono HO334.out (fun _ hk => ⟨(by simp [Value.ownBlock]), hk.2⟩)⟩, ⟨by first | exact Kd.R_nil _ _ _ _ _ | exact Kd.N_nil _ _ _ _ _ | exact Kd.V_nil _ _ _ _ _ | exact Kd.Q_nil _ _ _ _ _ | exact Kd.S_nil _ _ _ _ _⟩, ⟨by (with_reducible repeat first|apply rA|apply rN|apply rD); exact Kd.R_mono HO338.out (fun _ hk => ⟨hk.2, (by simp [Value.ownBlock])⟩)⟩, ⟨rX HO331⟩, ⟨kX BK326⟩, ⟨kX BK335⟩, ⟨bX HB⟩⟩
 case round => (
 clear H'
 try clear c1
 try clear p2
 try clear c3
 try clear c4
 try clear c8
 try clear c12
 try clear hcz13_0
 try clear hcz13_1
 try clear hcz7_0
 try clear hcz7_1
 try clear hcz9_0
 try clear hcz9_1
 try clear hfz13_0
 try clear hfz13_1
 try clear hfz7_0
 try clear hfz7_1
 try clear hfz9_0
 try clear hfz9_1
 obtain ⟨x5_1, x19_1, rfl, HA, HK1, HO_4, HO_5, HO_17, HO_336001, BK326, BK335, HB⟩ := hrel
 cases gk with
 | zero => exact absurd HA.out (by simp [impl_ConflictOf.l0])
 | succ k1 => (
 have H := HA.out
 clear HA
 simp only [impl_ConflictOf.l0] at H
 by_cases c17 : x19_1 < (t336.length : Int)
 rotate_left
 {
 rw [if_neg c17] at H
 have c17b0 : decide (x19_1 < (t336.length : Int)) = false := decide_eq_false c17
 clear c17
 obtain rfl := Option.some.inj H
 go_wp2
 go_ret
 exact ⟨_, by first | rfl | (simp [errW_none, errW_some] <;> rfl) | (simp [*, errW_none, errW_some] <;> rfl), by (with_reducible repeat first|apply rA|apply rN|apply rD); exact Kd.R_mono HO_5.out (fun _ hk => trivial), bX HB⟩
 }
 rw [if_pos c17] at H
 have c17b0 : decide (x19_1 < (t336.length : Int)) = true := decide_eq_true c17
 clear c17
 by_cases c18 : 0 ≤ x19_1
 rotate_left
 {
 rw [if_neg c18] at H
 exact absurd H (by simp)
 }
 rw [if_pos c18] at H
 have c18b0 : decide (0 ≤ x19_1) = true := decide_eq_true c18
 clear c18
 by_cases c19 : x19_1 < (t336.length : Int)
 rotate_left
 {
 rw [if_neg c19] at H
 exact absurd H (by simp)
 }
 rw [if_pos c19] at H
 have c19b0 : decide (x19_1 < (t336.length : Int)) = true := decide_eq_true c19
 clear c19
 by_cases c20 : 0 ≤ (rd t336 x19_1)
 rotate_left
 {
 rw [if_neg c20] at H
 exact absurd H (by simp)
 }
 rw [if_pos c20] at H
 have c20b0 : decide (0 ≤ (rd t336 x19_1)) = true := decide_eq_true c20
 clear c20
 by_cases c21 : (rd t336 x19_1) < (t332.length : Int)
 rotate_left
 {
 rw [if_neg c21] at H
 exact absurd H (by simp)
 }
 rw [if_pos c21] at H
 have c21b0 : decide ((rd t336 x19_1) < (t332.length : Int)) = true := decide_eq_true c21
 clear c21
 by_cases c22 : x5_1.length < 17592186044416
 rotate_left
 {
 rw [if_neg c22] at H
 exact absurd H (by simp)
 }
 rw [if_pos c22] at H
 have LMc22 := mK c22
 clear c22
 obtain ⟨y341, hy341⟩ : ∃ y_ : List Int, y_ = (x5_1 ++ [rd t332 (rd t336 x19_1)]) := ⟨_, rfl⟩
 replace H : (impl_ConflictOf.l0 k1 t332 y341 t336 (t336.length : Int) (wrap64 (x19_1 + 1))) = some r := by first | (rw [hy341]; with_reducible exact H) | (have H2_ := (Option.bind_some _ _).symm.trans H; rw [hy341]; with_reducible exact H2_) | (have H2_ := (Option.bind_some _ _).symm.trans H; with_reducible exact H2_) | with_reducible exact H | (rw [hy341]; exact H) | exact H
 have Ny341 := mK hy341
 clear hy341
 have H' := mK H
 clear H
 have p339 : 0 ≤ (x19_1 : Int) := of_decide_eq_true oX
 have q339 : x19_1 < (t336.length : Int) := of_decide_eq_true oX
 obtain ⟨ad339, e339, hx339_0⟩ := Kd.at_int (Kd.R_reads' HO_17.out).2.2 x19_1 p339 q339
 cases e339
 replace p339 := eq_true p339
 replace q339 := eq_true q339
 obtain ⟨Ao23, co23, eo23⟩ := Kd.R_slice HO_4.out
 subst eo23
 have p340 : 0 ≤ ((rd t336 x19_1) : Int) := of_decide_eq_true oX
 have q340 : (rd t336 x19_1) < (t332.length : Int) := of_decide_eq_true oX
 obtain ⟨ad340, e340, hx340_0⟩ := Kd.at_int (Kd.R_reads' HO_4.out).2.2 (rd t336 x19_1) p340 q340
 cases e340
 replace p340 := eq_true p340
 replace q340 := eq_true q340
 go_wp2_with (first | ((with_reducible refine gate_builtin (b := .append) (xs := #[.tmp 23, .tmp 28]) rfl ?_); at_builtin; refine Kd.R_append (Kd.int .i64) (w0 := w) w.heap.size rfl (.tmp 23) (.tmp 28) 26 3 (.int .i64 0) 8 rfl Try.underlying26 info3 rfl (by decide) (by omega) u5 x5_1 (rd t332 (rd t336 x19_1)) [.int .i64 (rd t332 (rd t336 x19_1))] (fun k_ => some k_ ≠ (.slice (some ad340) t332.length co23 : Value).ownBlock ∧ some k_ ≠ (.slice (some ad339) t336.length co16 : Value).ownBlock) (fun _ => False) rfl rfl ?aP (fun _ hk => hk.elim) ?aF ?aO ?aB ?aS ?aL ?_; (case aP => exact rfl); (case aB => exact (bX HB)); (case aF => exact (fun k_ hk => ⟨Kd.fresh' (Kd.R_lt (rX HO_4)) k_ hk, Kd.fresh' (Kd.R_lt (rX HO_17)) k_ hk⟩)); (case aO => exact (rX HO_5)); (case aS => exact (below_size (bX HB))); (case aL => have := LMc22.out; omega); intro v342 w24 ho hb hg hat; rw [← Ny341.out] at ho; have n0_ := mK (Kd.R_after (ok := (fun k_ => some k_ ≠ (.slice (some ad339) t336.length co16 : Value).ownBlock)) (by (with_reducible repeat first|apply rA|apply rN|apply rD); exact Kd.R_mono HO_4.out (fun _ hk => ⟨hk.2, hk.1⟩)) hg hat); have n1_ := mK (Kd.R_after (ok := (fun k_ => some k_ ≠ (.slice (some ad340) t332.length co23 : Value).ownBlock)) (rX HO_17) hg hat); have n2_ := mK (Kd.R_over' (rX HO_336001) (Kd.R_typed (rX HO_5)) (by decide) hg); have n3_ := mK (blk_grown (kX BK326) hg (Kd.R_ne HO_5.out BK326.out (by decide))); have n4_ := mK (blk_grown (kX BK335) hg (Kd.R_ne HO_5.out BK335.out (by decide))); have n5_ := mK (hb); have n6_ := mK (ho); clear HO_4; clear HO_17; clear HO_336001; clear BK326; clear BK335; clear HB; clear HO_5; have HO_4 := n0_; have HO_17 := n1_; have HO_336001 := n2_; have BK326 := n3_; have BK335 := n4_; have HB := n5_; have HO343 := n6_; clear n0_ n1_ n2_ n3_ n4_ n5_ n6_; clear ho hb hg hat))
 go_roundg k1
 case measure => have := HK1.out; omega
 case rel => exact ⟨(y341), (wrap64 (x19_1 + 1)), (by first | rfl | (simp; done) | (simp [*]; done)), H', ⟨by have := HK1.out; omega⟩, ⟨by (with_reducible repeat first|apply rA|apply rN|apply rD); exact Kd.R_mono HO_4.out (fun _ hk => ⟨hk.2, hk.1⟩)⟩, ⟨rX HO343⟩, ⟨rX HO_17⟩, ⟨rX HO_336001⟩, ⟨kX BK326⟩, ⟨kX BK335⟩, ⟨bX HB⟩⟩
 )
 )

/-! ### impl_Contains: function 53 -/
def impl_Contains.f (a0_0 : Int) (a0_1 : Int) (a1 : Int) : Option (Bool) := (impl_IntervalOk.f a0_0 a0_1).bind fun t345 => (if t345 = true then (if a0_0 = (-1000000) then (if a0_1 = 1000000 then (some true) else (some (decide (a1 ≤ a0_1)))) else (if a1 ≥ a0_0 then (if a0_1 = 1000000 then (some true) else (some (decide (a1 ≤ a0_1)))) else (some false))) else (some false))
set_option maxHeartbeats 8000000 in
set_option maxRecDepth 100000 in
theorem impl_Contains.calls (a0_0 : Int) (a0_1 : Int) (a1 : Int) (r : Bool) (w : World) (h : impl_Contains.f a0_0 a0_1 a1 = some r) :
    Calls Try.prog 53 #[.agg #[.int .i64 a0_0, .int .i64 a0_1], .int .i64 a1] w fun e w' => e = .returned (.bool r) ∧ Below w.heap.size w w' := by
  have hu52 := Try.underlying52
  have HB := mK (Below.refl w.heap.size w)
  have H : ((impl_IntervalOk.f a0_0 a0_1).bind fun t345 => (if t345 = true then (if a0_0 = (-1000000) then (if a0_1 = 1000000 then (some true) else (some (decide (a1 ≤ a0_1)))) else (if a1 ≥ a0_0 then (if a0_1 = 1000000 then (some true) else (some (decide (a1 ≤ a0_1)))) else (some false))) else (some false))) = some r := h
  clear h
  replace H := Option.bind_eq_some_iff.mp H
  obtain ⟨t345, A30, H⟩ := H
  replace H : (if t345 = true then (if a0_0 = (-1000000) then (if a0_1 = 1000000 then (some true) else (some (decide (a1 ≤ a0_1)))) else (if a1 ≥ a0_0 then (if a0_1 = 1000000 then (some true) else (some (decide (a1 ≤ a0_1)))) else (some false))) else (some false)) = some r := H
  have A3 := mK A30
  clear A30
  by_cases c4 : t345 = true
  rotate_left
  · replace c4 := Bool.eq_false_iff.mpr c4
    subst c4
    rw [if_neg (show ¬ (false = true) by decide)] at H
    obtain rfl := Option.some.inj H
    go_enter Try.func53, Try.ntmps53
    go_wp2_with (first | ((with_reducible refine gate_dst (N := 2) rfl ?_); refine bxE 2 #[.int .i64 a0_0, .int .i64 a0_1] 52 ?_; intro gb344 hg w29 hbox hb; have BK344 := mK hbox; have GW344 := mK (gX hg HB); have GE344 := mK (gX hg HB); replace HB := bB HB hb; clear hb hbox hg; have hcz30_0 := q0 BK344; have hcz30_1 := q1 BK344; have hfz30_0 := fX BK344 0; have hfz30_1 := fX BK344 1) | ((with_reducible refine gate_callee (f := 90) rfl ?_); refine gsE (some 6) Try.func90 #[.agg #[.int .i64 a0_0, .int .i64 a0_1]] ?_; (with_reducible refine (impl_IntervalOk.calls a0_0 a0_1 false _ A3.out).mono ?_); rintro e w31 ⟨rfl, hb⟩; refine ⟨_, rfl, ?_⟩; replace BK344 := kB BK344 hb; replace HB := bB HB hb; (try clear hb); (try clear hb2); (try clear hk); (try clear hi)))
    go_ret
    exact ⟨by first | rfl | (simp [errW_none, errW_some] <;> rfl) | (simp [*, errW_none, errW_some] <;> rfl), bX HB⟩
  subst c4
  rw [if_pos rfl] at H
  by_cases c5 : a0_0 = (-1000000)
  · rw [if_pos c5] at H
    have c5b0 : (a0_0 == (-1000000)) = true := beq_iff_eq.mpr c5
    have c5b1 : (a0_0 != (-1000000)) = false := bne_eq_false_iff_eq.mpr c5
    clear c5
    by_cases c6 : a0_1 = 1000000
    · rw [if_pos c6] at H
      have c6b0 : (a0_1 == 1000000) = true := beq_iff_eq.mpr c6
      have c6b1 : (a0_1 != 1000000) = false := bne_eq_false_iff_eq.mpr c6
      clear c6
      obtain rfl := Option.some.inj H
      go_enter Try.func53, Try.ntmps53
      go_wp2_with (first | ((with_reducible refine gate_dst (N := 2) rfl ?_); refine bxE 2 #[.int .i64 a0_0, .int .i64 a0_1] 52 ?_; intro gb344 hg w7 hbox hb; have BK344 := mK hbox; have GW344 := mK (gX hg HB); have GE344 := mK (gX hg HB); replace HB := bB HB hb; clear hb hbox hg; have hcz8_0 := q0 BK344; have hcz8_1 := q1 BK344; have hfz8_0 := fX BK344 0; have hfz8_1 := fX BK344 1) | ((with_reducible refine gate_callee (f := 90) rfl ?_); refine gsE (some 6) Try.func90 #[.agg #[.int .i64 a0_0, .int .i64 a0_1]] ?_; (with_reducible refine (impl_IntervalOk.calls a0_0 a0_1 true _ A3.out).mono ?_); rintro e w9 ⟨rfl, hb⟩; refine ⟨_, rfl, ?_⟩; replace BK344 := kB BK344 hb; replace HB := bB HB hb; (try clear hb); (try clear hb2); (try clear hk); (try clear hi); have hcz10_0 := q0 BK344; have hcz10_1 := q1 BK344; have hfz10_0 := fX BK344 0; have hfz10_1 := fX BK344 1))
      go_ret
      exact ⟨by first | rfl | (simp [errW_none, errW_some] <;> rfl) | (simp [*, errW_none, errW_some] <;> rfl), bX HB⟩
    rw [if_neg c6] at H
    have c6b0 : (a0_1 == 1000000) = false := beq_eq_false_iff_ne.mpr c6
    have c6b1 : (a0_1 != 1000000) = true := bne_iff_ne.mpr c6
    obtain rfl := Option.some.inj H
    go_enter Try.func53, Try.ntmps53
    go_wp2_with (first | ((with_reducible refine gate_dst (N := 2) rfl ?_); refine bxE 2 #[.int .i64 a0_0, .int .i64 a0_1] 52 ?_; intro gb344 hg w11 hbox hb; have BK344 := mK hbox; have GW344 := mK (gX hg HB); have GE344 := mK (gX hg HB); replace HB := bB HB hb; clear hb hbox hg; have hcz12_0 := q0 BK344; have hcz12_1 := q1 BK344; have hfz12_0 := fX BK344 0; have hfz12_1 := fX BK344 1) | ((with_reducible refine gate_callee (f := 90) rfl ?_); refine gsE (some 6) Try.func90 #[.agg #[.int .i64 a0_0, .int .i64 a0_1]] ?_; (with_reducible refine (impl_IntervalOk.calls a0_0 a0_1 true _ A3.out).mono ?_); rintro e w13 ⟨rfl, hb⟩; refine ⟨_, rfl, ?_⟩; replace BK344 := kB BK344 hb; replace HB := bB HB hb; (try clear hb); (try clear hb2); (try clear hk); (try clear hi); have hcz14_0 := q0 BK344; have hcz14_1 := q1 BK344; have hfz14_0 := fX BK344 0; have hfz14_1 := fX BK344 1))
    go_ret
    exact ⟨by first | rfl | (simp [errW_none, errW_some] <;> rfl) | (simp [*, errW_none, errW_some] <;> rfl), bX HB⟩
  rw [if_neg c5] at H
  have c5b0 : (a0_0 == (-1000000)) = false := beq_eq_false_iff_ne.mpr c5
  have c5b1 : (a0_0 != (-1000000)) = true := bne_iff_ne.mpr c5
  by_cases c15 : a1 ≥ a0_0
  rotate_left
  · rw [if_neg c15] at H
    have c15b0 : decide (a0_0 ≤ a1) = false := decide_eq_false c15
    clear c15
    obtain rfl := Option.some.inj H
    go_enter Try.func53, Try.ntmps53
    go_wp2_with (first | ((with_reducible refine gate_dst (N := 2) rfl ?_); refine bxE 2 #[.int .i64 a0_0, .int .i64 a0_1] 52 ?_; intro gb344 hg w25 hbox hb; have BK344 := mK hbox; have GW344 := mK (gX hg HB); have GE344 := mK (gX hg HB); replace HB := bB HB hb; clear hb hbox hg; have hcz26_0 := q0 BK344; have hcz26_1 := q1 BK344; have hfz26_0 := fX BK344 0; have hfz26_1 := fX BK344 1) | ((with_reducible refine gate_callee (f := 90) rfl ?_); refine gsE (some 6) Try.func90 #[.agg #[.int .i64 a0_0, .int .i64 a0_1]] ?_; (with_reducible refine (impl_IntervalOk.calls a0_0 a0_1 true _ A3.out).mono ?_); rintro e w27 ⟨rfl, hb⟩; refine ⟨_, rfl, ?_⟩; replace BK344 := kB BK344 hb; replace HB := bB HB hb; (try clear hb); (try clear hb2); (try clear hk); (try clear hi); have hcz28_0 := q0 BK344; have hcz28_1 := q1 BK344; have hfz28_0 := fX BK344 0; have hfz28_1 := fX BK344 1))
    go_ret
    exact ⟨by first | rfl | (simp [errW_none, errW_some] <;> rfl) | (simp [*, errW_none, errW_some] <;> rfl), bX HB⟩
  rw [if_pos c15] at H
  have c15b0 : decide (a0_0 ≤ a1) = true := decide_eq_true c15
  clear c15
  by_cases c16 : a0_1 = 1000000
  rotate_left
  · rw [if_neg c16] at H
    have c16b0 : (a0_1 == 1000000) = false := beq_eq_false_iff_ne.mpr c16
    have c16b1 : (a0_1 != 1000000) = true := bne_iff_ne.mpr c16
    obtain rfl := Option.some.inj H
    go_enter Try.func53, Try.ntmps53
    go_wp2_with (first | ((with_reducible refine gate_dst (N := 2) rfl ?_); refine bxE 2 #[.int .i64 a0_0, .int .i64 a0_1] 52 ?_; intro gb344 hg w21 hbox hb; have BK344 := mK hbox; have GW344 := mK (gX hg HB); have GE344 := mK (gX hg HB); replace HB := bB HB hb; clear hb hbox hg; have hcz22_0 := q0 BK344; have hcz22_1 := q1 BK344; have hfz22_0 := fX BK344 0; have hfz22_1 := fX BK344 1) | ((with_reducible refine gate_callee (f := 90) rfl ?_); refine gsE (some 6) Try.func90 #[.agg #[.int .i64 a0_0, .int .i64 a0_1]] ?_; (with_reducible refine (impl_IntervalOk.calls a0_0 a0_1 true _ A3.out).mono ?_); rintro e w23 ⟨rfl, hb⟩; refine ⟨_, rfl, ?_⟩; replace BK344 := kB BK344 hb; replace HB := bB HB hb; (try clear hb); (try clear hb2); (try clear hk); (try clear hi); have hcz24_0 := q0 BK344; have hcz24_1 := q1 BK344; have hfz24_0 := fX BK344 0; have hfz24_1 := fX BK344 1))
    go_ret
    exact ⟨by first | rfl | (simp [errW_none, errW_some] <;> rfl) | (simp [*, errW_none, errW_some] <;> rfl), bX HB⟩
  rw [if_pos c16] at H
  have c16b0 : (a0_1 == 1000000) = true := beq_iff_eq.mpr c16
  have c16b1 : (a0_1 != 1000000) = false := bne_eq_false_iff_eq.mpr c16
  clear c16
  obtain rfl := Option.some.inj H
  go_enter Try.func53, Try.ntmps53
  go_wp2_with (first | ((with_reducible refine gate_dst (N := 2) rfl ?_); refine bxE 2 #[.int .i64 a0_0, .int .i64 a0_1] 52 ?_; intro gb344 hg w17 hbox hb; have BK344 := mK hbox; have GW344 := mK (gX hg HB); have GE344 := mK (gX hg HB); replace HB := bB HB hb; clear hb hbox hg; have hcz18_0 := q0 BK344; have hcz18_1 := q1 BK344; have hfz18_0 := fX BK344 0; have hfz18_1 := fX BK344 1) | ((with_reducible refine gate_callee (f := 90) rfl ?_); refine gsE (some 6) Try.func90 #[.agg #[.int .i64 a0_0, .int .i64 a0_1]] ?_; (with_reducible refine (impl_IntervalOk.calls a0_0 a0_1 true _ A3.out).mono ?_); rintro e w19 ⟨rfl, hb⟩; refine ⟨_, rfl, ?_⟩; replace BK344 := kB BK344 hb; replace HB := bB HB hb; (try clear hb); (try clear hb2); (try clear hk); (try clear hi); have hcz20_0 := q0 BK344; have hcz20_1 := q1 BK344; have hfz20_0 := fX BK344 0; have hfz20_1 := fX BK344 1))
  go_ret
  exact ⟨by first | rfl | (simp [errW_none, errW_some] <;> rfl) | (simp [*, errW_none, errW_some] <;> rfl), bX HB⟩

/-! ### slices_IndexFunc_int_int: function 117 -/
section
open Go.Shelf Go.Lib
def encInt (x : Int) : List Value := [.int .i64 x]
set_option maxHeartbeats 2000000 in
theorem idxInt_calls (p : Int → Bool) (g : Nat) (lb : Array Value) (eg : ∀ args w, (callFunc g args).run Try.prog w = .ok (.enter g args) w) (b off n c : Nat) (zs : List Int) (w : World)
    (hp : ∀ (W : World) (x : Int), x ∈ zs → Below w.heap.size w W → Calls Try.prog g (#[(.int .i64 x)] ++ lb) W fun e w' => e = .returned (.bool (p x)) ∧ Below w.heap.size w w') (hz : n ≤ zs.length) (hbig : n ≤ 9223372036854775807) (hb : b < w.heap.size)
    (hc : ∀ j, j < zs.length → ∀ i v, (encInt zs[j]!)[i]? = some v → w.cell? ⟨b, off + j * 1 + i, none⟩ = some v) :
    Calls Try.prog 117 #[.slice (some ⟨b, off, none⟩) n c, .func (.func g) #[] lb] w fun e w' => e = .returned (.int .i64 (Lib.idxBy (fun _ y => p y) (zs.take n) (0 : Int))) ∧ Below w.heap.size w w' := by
  have hrow : ∀ (W : World), Below w.heap.size w W → ∀ j, j < zs.length → W.cell? ⟨b, off + j, none⟩ = some (.int .i64 zs[j]!) := fun W hW j hj =>
   (hW.cell (p := ⟨b, off + j, none⟩) hb).trans (by simpa using hc j hj 0 _ rfl)
  clear hc
  go_enter Try.func117, Try.ntmps117
  go_wp2
  go_loopg [5, 8] n (fun gg _ s8 wr => ∃ kk : Nat, kk ≤ n ∧ n - kk ≤ gg ∧ s8 = .int .i64 kk ∧ Aside (Below w.heap.size w wr) ∧ Aside (∀ j, j < kk → p zs[j]! = false))
  case atStart => exact ⟨0, Nat.zero_le _, by omega, rfl, Below.refl _ w, fun j hj => absurd hj (Nat.not_lt_zero _)⟩
  case round =>
   obtain ⟨kk, hkk, hg, rfl, BW, A⟩ := hrel
   by_cases hlt : kk < n
   rotate_left
   · have hltz : ¬ (kk : Int) < (n : Int) := by omega
     have : kk = n := by omega
     subst this
     go_wp2
     go_ret
     refine ⟨?_, BW.out⟩
     rw [Lib.idxBy_miss (fun _ y => p y) zs kk (0 : Int) A.out]
     rfl
   have hltz : (kk : Int) < (n : Int) := by omega
   have l0 := hrow wr BW.out kk (by omega)
   have hcall := hp wr zs[kk]! (by rw [getElem!_pos zs kk (by omega)]; exact List.getElem_mem _) BW.out
   clear hrow hp
   generalize hy : zs[kk]! = y at l0 hcall
   have B : Aside (zs[kk]! = y) := hy
   clear hy
   cases hq : p y with
   | true =>
    rw [hq] at hcall
    go_wp2_with (go_at_fn g; refine hcall.mono ?_; rintro e w' ⟨rfl, hb'⟩)
    go_ret
    refine ⟨?_, hb'⟩
    rw [Lib.idxBy_hit (fun _ y => p y) zs n kk (0 : Int) hlt hz (by show p zs[kk]! = true; rw [B.out]; exact hq) A.out]
    rfl
   | false =>
    rw [hq] at hcall
    go_wp2_with (go_at_fn g; refine hcall.mono ?_; rintro e w' ⟨rfl, hb'⟩)
    go_roundg (n - (kk + 1))
    case measure => omega
    case rel =>
     refine ⟨kk + 1, by omega, by omega, by go_num, hb', (show Aside _ from fun j hj => ?_)⟩
     by_cases e : j = kk
     rotate_left
     · exact A.out j (by omega)
     subst e
     rw [B.out]; exact hq
theorem idxInt_empty (a : Option Addr) (c : Nat) (fv : Value) (w : World) :
    Calls Try.prog 117 #[.slice a 0 c, fv] w fun e w' => e = .returned (.int .i64 (-1)) ∧ w' = w := by
  go_enter Try.func117, Try.ntmps117
  go_wp2
  go_loopg [5, 8] 0 (fun _ _ s8 wr => s8 = .int .i64 0 ∧ wr = w)
  case atStart => exact ⟨rfl, rfl⟩
  case round =>
   obtain ⟨rfl, rfl⟩ := hrel
   go_wp2
   go_ret
   exact ⟨rfl, rfl⟩
theorem addrInt_of {W : World} {a : Addr} {v : Value} (h : W.cell? a = some v) : ∃ b o, a = ⟨b, o, none⟩ ∧ b < W.heap.size := by
  obtain ⟨b, o, s⟩ := a
  have hlt := World.block_lt_of_cell? W _ h
  cases s with
  | none => exact ⟨b, o, rfl, hlt⟩
  | some s =>
   unfold World.cell? at h
   split at h
   · simp at h
   · simp at h
theorem idxInt_at (p : Int → Bool) (g : Nat) (lb : Array Value) (eg : ∀ args w, (callFunc g args).run Try.prog w = .ok (.enter g args) w) (A : Option Addr) (c : Nat) (l : List Int) (w : World)
    (hp : ∀ (W : World) (x : Int), x ∈ l → Below w.heap.size w W → Calls Try.prog g (#[(.int .i64 x)] ++ lb) W fun e w' => e = .returned (.bool (p x)) ∧ Below w.heap.size w w') (hr : Kd.C (Kd.int .i64) w A l.length l) :
    Calls Try.prog 117 #[.slice A l.length c, .func (.func g) #[] lb] w fun e w' => e = .returned (.int .i64 (Lib.idxBy (fun _ y => p y) l (0 : Int))) ∧ Below w.heap.size w w' := by
  cases l with
  | nil => exact (idxInt_empty A c _ w).mono fun e w' ⟨he, hw⟩ => by subst hw; exact ⟨he, Below.refl _ _⟩
  | cons x l' =>
   have hrow : ∀ j, j < (x :: l').length → ∃ ad, A = some ad ∧ ∀ i v, (encInt (x :: l')[j]!)[i]? = some v → w.cell? (ad.add (j * 1 + i)) = some v := by
    intro j hj
    obtain ⟨ad, cs, e, _, hK, hc0⟩ := Kd.C_get hr (0 : Int) j (by omega) (by omega)
    have hcs : cs = encInt ((x :: l').getD j (0 : Int)) := by simpa [Kd.int, Kd.scalar, encInt] using hK
    refine ⟨ad, e, fun i v hi => ?_⟩
    have e1 : (x :: l')[j]! = (x :: l').getD j (0 : Int) := by rw [List.getD_eq_getElem?_getD, List.getElem!_eq_getElem?_getD]; rfl
    have := hc0 i v (by rw [hcs, ← e1]; exact hi)
    simpa [Kd.int, Kd.scalar] using this
   obtain ⟨ad, rfl, h0⟩ := hrow 0 (by simp)
   obtain ⟨b, o, rfl, hb⟩ := addrInt_of (h0 0 _ rfl)
   have hcon := idxInt_calls p g lb eg b o (x :: l').length c (x :: l') w
     hp (Nat.le_refl _) (Kd.C_max hr) hb (fun j hj i v hi => by
       obtain ⟨ad', e, h⟩ := hrow j hj
       obtain rfl := Option.some.inj e
       have := h i v hi
       rw [Addr.add_lit] at this
       rw [← this, Nat.add_assoc])
   rw [List.take_length] at hcon
   exact hcon
end

/-! ### slices_ContainsFunc_int_int: function 110 -/
section
open Go.Shelf Go.Lib
theorem anyInt_at (p : Int → Bool) (g : Nat) (lb : Array Value) (eg : ∀ args w, (callFunc g args).run Try.prog w = .ok (.enter g args) w) (A : Option Addr) (c : Nat) (l : List Int) (w : World)
    (hp : ∀ (W : World) (x : Int), x ∈ l → Below w.heap.size w W → Calls Try.prog g (#[(.int .i64 x)] ++ lb) W fun e w' => e = .returned (.bool (p x)) ∧ Below w.heap.size w w') (hr : Kd.C (Kd.int .i64) w A l.length l) :
    Calls Try.prog 110 #[.slice A l.length c, .func (.func g) #[] lb] w fun e w' => e = .returned (.bool (l.any p)) ∧ Below w.heap.size w w' := by
  rw [show l.any p = decide (0 ≤ Lib.idxBy (fun _ y => p y) l (0 : Int)) from (Lib.idxBy_nonneg_iff (fun _ y => p y) l (0 : Int)).symm]
  have hcon := idxInt_at p g lb eg A c l w hp hr
  generalize Lib.idxBy (fun _ y => p y) l (0 : Int) = r at hcon ⊢
  go_enter Try.func110, Try.ntmps110
  go_wp2_with (go_at_call 117; refine hcon.mono ?_; rintro e w' ⟨rfl, hb'⟩)
  go_ret
  exact ⟨by simp, hb'⟩
end

/-! ### impl_areTimes: function 91 -/
section
open Go.Shelf Go.Lib
def badTime (x : Int) : Bool := decide (x < -1000000 ∨ 1000000 < x)
theorem badTime_calls (x : Int) (W : World) : Calls Try.prog 111 #[.int .i64 x] W fun e w' => e = .returned (.bool (badTime x)) ∧ W = w' := by
  by_cases c : x < -1000000
  · rw [show badTime x = true from decide_eq_true (Or.inl c)]
    go_enter Try.func111, Try.ntmps111
    go_wp2
    go_ret
    exact ⟨by simp, rfl⟩
  by_cases d : 1000000 < x
  · rw [show badTime x = true from decide_eq_true (Or.inr d)]
    go_enter Try.func111, Try.ntmps111
    go_wp2
    go_ret
    exact ⟨by simp, rfl⟩
  rw [show badTime x = false from decide_eq_false (by omega)]
  go_enter Try.func111, Try.ntmps111
  go_wp2
  go_ret
  exact ⟨by simp, rfl⟩
theorem anyBad (A : Option Addr) (c : Nat) (l : List Int) (w : World) (hr : Kd.C (Kd.int .i64) w A l.length l) :
    Calls Try.prog 110 #[.slice A l.length c, .func (.func 111) #[] #[]] w fun e w' => e = .returned (.bool (l.any badTime)) ∧ Below w.heap.size w w' := by
  have eg : ∀ args w, (callFunc 111 args).run Try.prog w = .ok (.enter 111 args) w := enters_of Try.func111 (by kernel_rfl) rfl
  exact anyInt_at badTime 111 #[] eg A c l w (fun W x _ hb => (badTime_calls x W).mono fun e w' ⟨he, h⟩ => ⟨he, by rw [← h]; exact hb⟩) hr
def impl_areTimes.f (a0_0 : Int) (l0_1 : List (S76)) (l1 : List Int) : Option (Bool) := (impl_SimpleOk.f a0_0 l0_1).bind fun t => if t = true then (if (l1.length : Int) = a0_0 then some (!(l1.any badTime)) else some false) else some false
theorem impl_areTimes.calls (a0_0 : Int) (A0_1 : Option Addr) (c0_1 : Nat) (l0_1 : List (S76)) (A1 : Option Addr) (c1 : Nat) (l1 : List Int) (r : Bool) (w : World) (hr0_1 : Kd.C k76 w A0_1 l0_1.length l0_1) (hc0_1 : l0_1.length ≤ c0_1) (hr1 : Kd.C (Kd.int .i64) w A1 l1.length l1) (hc1 : l1.length ≤ c1) (h : impl_areTimes.f a0_0 l0_1 l1 = some r) :
    Calls Try.prog 91 #[.agg #[.int .i64 a0_0, .slice A0_1 l0_1.length c0_1], .slice A1 l1.length c1] w fun e w' => e = .returned (.bool r) ∧ Below w.heap.size w w' := by
  obtain ⟨t, ht⟩ : ∃ t, impl_SimpleOk.f a0_0 l0_1 = some t := ⟨_, rfl⟩
  unfold impl_areTimes.f at h
  rw [ht] at h
  simp only [Option.bind_some] at h
  have hS := fun W (hW : Below w.heap.size w W) => impl_SimpleOk.calls a0_0 A0_1 c0_1 l0_1 t W (Kd.C_below hr0_1 hW) hc0_1 ht
  have hA := fun W (hW : Below w.heap.size w W) => anyBad A1 c1 l1 W (Kd.C_below hr1 hW)
  generalize l1.any badTime = q at hA h
  cases t with
  | false =>
   obtain rfl := Option.some.inj h
   go_enter Try.func91, Try.ntmps91
   go_wp2_with (go_at_call 49; refine (hS _ ?sideB).mono ?_; (case sideB => exact (Below.refl _ w).alloc (Nat.le_refl _) _); rintro e w' ⟨rfl, hb'⟩; have hcell : w'.cell? ⟨w.heap.size, 0, none⟩ = some (.int .i64 a0_0) := (hb'.cell (p := ⟨w.heap.size, 0, none⟩) (by simp)).trans (by simp); have hB : Below w.heap.size w w' := ((Below.refl _ w).alloc (Nat.le_refl _) _).trans (hb'.mono (by simp)))
   go_ret
   exact ⟨by simp, hB⟩
  | true =>
   rw [if_pos rfl] at h
   by_cases c : (l1.length : Int) = a0_0
   rotate_left
   · rw [if_neg c] at h
     obtain rfl := Option.some.inj h
     have c0 : ((l1.length : Int) == a0_0) = false := beq_eq_false_iff_ne.mpr c
     go_enter Try.func91, Try.ntmps91
     go_wp2_with (go_at_call 49; refine (hS _ ?sideB).mono ?_; (case sideB => exact (Below.refl _ w).alloc (Nat.le_refl _) _); rintro e w' ⟨rfl, hb'⟩; have hcell : w'.cell? ⟨w.heap.size, 0, none⟩ = some (.int .i64 a0_0) := (hb'.cell (p := ⟨w.heap.size, 0, none⟩) (by simp)).trans (by simp); have hB : Below w.heap.size w w' := ((Below.refl _ w).alloc (Nat.le_refl _) _).trans (hb'.mono (by simp)))
     go_ret
     exact ⟨by simp, hB⟩
   rw [if_pos c] at h
   obtain rfl := Option.some.inj h
   have c0 : ((l1.length : Int) == a0_0) = true := beq_iff_eq.mpr c
   go_enter Try.func91, Try.ntmps91
   go_wp2_with (first | (go_at_call 49; refine (hS _ ?sideB).mono ?_; (case sideB => exact (Below.refl _ w).alloc (Nat.le_refl _) _); rintro e w' ⟨rfl, hb'⟩; have hcell : w'.cell? ⟨w.heap.size, 0, none⟩ = some (.int .i64 a0_0) := (hb'.cell (p := ⟨w.heap.size, 0, none⟩) (by simp)).trans (by simp); have hB : Below w.heap.size w w' := ((Below.refl _ w).alloc (Nat.le_refl _) _).trans (hb'.mono (by simp))) | (go_at_call 110; refine (hA _ hB).mono ?_; rintro e w2 ⟨rfl, hb2⟩))
   go_ret
   exact ⟨by simp, hB.trans (hb2.mono hB.size)⟩
end

/-! ### impl_BrokenLink: function 52 -/
section
open Go.Shelf Go.Lib
def containsB (a b n : Int) : Bool := (impl_Contains.f a b n).getD false
theorem containsB_f (a b n : Int) : impl_Contains.f a b n = some (containsB a b n) := by
  have : ∃ r, impl_Contains.f a b n = some r := by
   unfold impl_Contains.f impl_IntervalOk.f
   repeat' split
   all_goals (simp only [Option.bind_some]; repeat' split)
   all_goals exact ⟨_, rfl⟩
  obtain ⟨r, h⟩ := this
  unfold containsB
  rw [h]; rfl
def brokenB (t : List Int) (e : S76) : Bool := !containsB e.f2.f0 e.f2.f1 (wrap64 (rd t e.f1 - rd t e.f0))
def brokenB.T : Bool × List (List Nat × List Nat) := (true, [([], []), ([0], [0]), ([], []), ([], []), ([3], [3]), ([2, 4], [2, 4]), ([5], [5]), ([], []), ([], []), ([8], [8]), ([7, 9], [7, 9]), ([10], [10]), ([6, 11], [6, 11]), ([1, 12], [1, 12]), ([13], [13]), ([14, 13, 0, 1, 2, 3, 4, 5, 6, 7, 8, 9, 10, 11, 12, 13, 14], [14])])
def brokenB.B : List Nat := [0, 1, 0, 0, 8, 28, 60, 0, 0, 256, 896, 1920, 4092, 8191, 16383, 32767]
theorem brokenB.tab : rtab .any (opsOf Try.f95 1) = brokenB.T := by kernel_rfl
theorem brokenB.bits : waitsOk brokenB.T.2 brokenB.B = true := by kernel_rfl
set_option maxHeartbeats 4000000 in
set_option maxRecDepth 100000 in
theorem brokenB_calls (t : List Int) (A1 : Option Addr) (c B : Nat) (x : S76) (W : World) (hBW : B < W.heap.size) (hc : W.cell? ⟨B, 0, none⟩ = some (.slice A1 t.length c)) (ht : Kd.C (Kd.int .i64) W A1 t.length t) (h0 : 0 ≤ x.f0 ∧ x.f0 < t.length) (h1 : 0 ≤ x.f1 ∧ x.f1 < t.length) :
    Calls Try.prog 95 #[.agg #[.int .i64 x.f0, .int .i64 x.f1, .int .i64 x.f2.f0, .int .i64 x.f2.f1], .pointer (some ⟨B, 0, none⟩)] W fun e w' => e = .returned (.bool (brokenB t x)) ∧ Below W.heap.size W w' := by
  have hu47 := Try.underlying76
  have hu45 := Try.underlying52
  obtain ⟨x0, x1, lo, hi⟩ := x
  simp only at h0 h1
  show Calls Try.prog 95 #[.agg #[.int .i64 x0, .int .i64 x1, .int .i64 lo, .int .i64 hi], .pointer (some ⟨B, 0, none⟩)] W _
  have k := fun W => impl_Contains.calls lo hi (wrap64 (rd t x1 - rd t x0)) _ W (containsB_f _ _ _)
  rw [show brokenB t ⟨x0, x1, lo, hi⟩ = !containsB lo hi (wrap64 (rd t x1 - rd t x0)) from rfl]
  generalize containsB lo hi (wrap64 (rd t x1 - rd t x0)) = r at k ⊢
  obtain ⟨ad, e1, hx1⟩ := Kd.at_int ht x1 h1.1 h1.2
  obtain ⟨ad2, e2, hx0⟩ := Kd.at_int ht x0 h0.1 h0.2
  clear ht
  subst e1
  obtain rfl : ad = ad2 := by injection e2
  have p1 := eq_true h1.1
  have q1 := eq_true h1.2
  have p0 := eq_true h0.1
  have q0 := eq_true h0.2
  clear h0 h1
  go_enter Try.func95, Try.ntmps95
  go_wp2
  have HB : Below W.heap.size W (W.alloc (.cells #[.int .i64 x0, .int .i64 x1, .int .i64 lo, .int .i64 hi] 76)).drew := below_drew1 ((Below.refl _ W).alloc (Nat.le_refl _) _)
  have BK : (W.alloc (.cells #[.int .i64 x0, .int .i64 x1, .int .i64 lo, .int .i64 hi] 76)).drew.heap[W.heap.size]? = some (.cells #[.int .i64 x0, .int .i64 x1, .int .i64 lo, .int .i64 hi] 76 (0, 0)) := blk_drew (by unfold World.alloc; exact Array.getElem?_push_size)
  refine start_ (n := 16) (S := fun w' => w'.cell? ⟨W.heap.size, 0, none⟩ = some (.int .i64 x0) ∧ w'.cell? ⟨W.heap.size, 1, none⟩ = some (.int .i64 x1) ∧ w'.cell? ⟨W.heap.size, 2, none⟩ = some (.int .i64 lo) ∧ w'.cell? ⟨W.heap.size, 3, none⟩ = some (.int .i64 hi) ∧ w'.cell? ⟨B, 0, none⟩ = some (.slice (some ad) t.length c) ∧ w'.cell? (ad.add x1.toNat) = some (.int .i64 (rd t x1)) ∧ w'.cell? (ad.add x0.toNat) = some (.int .i64 (rd t x0))) (ds := []) (bs 0 16) (by kernel_rfl) rfl (by kernel_rfl) ⟨(blk_cell BK 0).trans rfl, (blk_cell BK 1).trans rfl, (blk_cell BK 2).trans rfl, (blk_cell BK 3).trans rfl, (HB.cell (p := ⟨B, 0, none⟩) hBW).trans hc, (HB.cell (World.block_lt_of_cell? W _ hx1)).trans hx1, (HB.cell (World.block_lt_of_cell? W _ hx0)).trans hx0⟩ (fun hHeld => ?_)
  refine with_tabW brokenB.tab brokenB.bits (fun HT_ HW_ => ?_)
  generalize (W.alloc (.cells #[.int .i64 x0, .int .i64 x1, .int .i64 lo, .int .i64 hi] 76)).drew = w22 at BK HB hHeld ⊢
  refine pure_ (i := 0) (N := some 4) (v := ?_) (a' := ?_) (bs 1 16) rfl rfl (any_of HT_.out (by kernel_rfl)) (fun _ _ _ h => h) (Or.inl ⟨by rfl, ?_⟩) ?_ ?_
  rotate_left
  · intro w'
    go_simp
    with_reducible rfl
  rotate_left
  · simp only [Act.put, sT, sZ, sU, i64_w, i32_w]
    rfl
  refine pure_ (i := 3) (N := some 7) (v := ?_) (a' := ?_) #[true, false, false, true, false, false, false, false, false, false, false, false, false, false, false, false] rfl rfl (any_of HT_.out (by kernel_rfl)) (fun _ _ _ h => h) (Or.inl ⟨by rfl, ?_⟩) ?_ ?_
  rotate_left
  · intro w'
    go_simp
    with_reducible rfl
  rotate_left
  · simp only [Act.put, sT, sZ, sU, i64_w, i32_w]
    rfl
  refine pure_ (i := 8) (N := some 12) (v := ?_) (a' := ?_) #[true, false, false, true, false, false, false, false, true, false, false, false, false, false, false, false] rfl rfl (any_of HT_.out (by kernel_rfl)) (fun _ _ _ h => h) (Or.inl ⟨by rfl, ?_⟩) ?_ ?_
  rotate_left
  · intro w'
    go_simp
    with_reducible rfl
  rotate_left
  · simp only [Act.put, sT, sZ, sU, i64_w, i32_w]
    rfl
  refine take_ (i := 1) (N := some 5) (v := ?_) (a' := ?_) #[true, true, false, true, false, false, false, false, true, false, false, false, false, false, false, false] rfl rfl (take_ofW HT_.out HW_.out (by kernel_rfl)) (fun _ _ _ h => h) (Or.inl ⟨by rfl, ?_⟩) hHeld ?_ ?_
  rotate_left
  · rintro w' ⟨s0, s1, s2, s3, s4, s5, s6⟩
    go_simp
    with_reducible rfl
  rotate_left
  · simp only [Act.put, sT, sZ, sU, i64_w, i32_w]
    rfl
  refine take_ (i := 2) (N := some 6) (v := ?_) (a' := ?_) #[true, true, true, true, false, false, false, false, true, false, false, false, false, false, false, false] rfl rfl (take_ofW HT_.out HW_.out (by kernel_rfl)) (fun _ _ _ h => h) (Or.inl ⟨by rfl, ?_⟩) hHeld ?_ ?_
  rotate_left
  · rintro w' ⟨s0, s1, s2, s3, s4, s5, s6⟩
    go_simp
    with_reducible rfl
  rotate_left
  · simp only [Act.put, sT, sZ, sU, i64_w, i32_w]
    rfl
  refine take_ (i := 4) (N := some 8) (v := ?_) (a' := ?_) #[true, true, true, true, true, false, false, false, true, false, false, false, false, false, false, false] rfl rfl (take_ofW HT_.out HW_.out (by kernel_rfl)) (fun _ _ _ h => h) (Or.inl ⟨by rfl, ?_⟩) hHeld ?_ ?_
  rotate_left
  · rintro w' ⟨s0, s1, s2, s3, s4, s5, s6⟩
    go_simp
    with_reducible rfl
  rotate_left
  · simp only [Act.put, sT, sZ, sU, i64_w, i32_w]
    rfl
  refine pure_ (i := 5) (N := some 9) (v := ?_) (a' := ?_) #[true, true, true, true, true, true, false, false, true, false, false, false, false, false, false, false] rfl rfl (any_of HT_.out (by kernel_rfl)) (fun _ _ _ h => h) (Or.inl ⟨by rfl, ?_⟩) ?_ ?_
  rotate_left
  · intro w'
    go_simp
    with_reducible rfl
  rotate_left
  · simp only [Act.put, sT, sZ, sU, i64_w, i32_w]
    rfl
  refine take_ (i := 6) (N := some 10) (v := ?_) (a' := ?_) #[true, true, true, true, true, true, true, false, true, false, false, false, false, false, false, false] rfl rfl (take_ofW HT_.out HW_.out (by kernel_rfl)) (fun _ _ _ h => h) (Or.inl ⟨by rfl, ?_⟩) hHeld ?_ ?_
  rotate_left
  · rintro w' ⟨s0, s1, s2, s3, s4, s5, s6⟩
    go_simp
    with_reducible rfl
  rotate_left
  · simp only [Act.put, sT, sZ, sU, i64_w, i32_w]
    rfl
  refine take_ (i := 7) (N := some 11) (v := ?_) (a' := ?_) (bs 9 16) rfl rfl (take_ofW HT_.out HW_.out (by kernel_rfl)) (fun _ _ _ h => h) (Or.inl ⟨by rfl, ?_⟩) hHeld ?_ ?_
  rotate_left
  · rintro w' ⟨s0, s1, s2, s3, s4, s5, s6⟩
    go_simp
    with_reducible rfl
  rotate_left
  · simp only [Act.put, sT, sZ, sU, i64_w, i32_w]
    rfl
  refine take_ (i := 9) (N := some 13) (v := ?_) (a' := ?_) (bs 10 16) rfl rfl (take_ofW HT_.out HW_.out (by kernel_rfl)) (fun _ _ _ h => h) (Or.inl ⟨by rfl, ?_⟩) hHeld ?_ ?_
  rotate_left
  · rintro w' ⟨s0, s1, s2, s3, s4, s5, s6⟩
    go_simp
    with_reducible rfl
  rotate_left
  · simp only [Act.put, sT, sZ, sU, i64_w, i32_w]
    rfl
  refine pure_ (i := 10) (N := some 14) (v := ?_) (a' := ?_) (bs 11 16) rfl rfl (any_of HT_.out (by kernel_rfl)) (fun _ _ _ h => h) (Or.inl ⟨by rfl, ?_⟩) ?_ ?_
  rotate_left
  · intro w'
    go_simp
    with_reducible rfl
  rotate_left
  · simp only [Act.put, sT, sZ, sU, i64_w, i32_w]
    rfl
  refine take_ (i := 11) (N := some 15) (v := ?_) (a' := ?_) (bs 12 16) rfl rfl (take_ofW HT_.out HW_.out (by kernel_rfl)) (fun _ _ _ h => h) (Or.inl ⟨by rfl, ?_⟩) hHeld ?_ ?_
  rotate_left
  · rintro w' ⟨s0, s1, s2, s3, s4, s5, s6⟩
    go_simp
    with_reducible rfl
  rotate_left
  · simp only [Act.put, sT, sZ, sU, i64_w, i32_w]
    rfl
  refine pure_ (i := 12) (N := some 16) (v := ?_) (a' := ?_) (bs 13 16) rfl rfl (any_of HT_.out (by kernel_rfl)) (fun _ _ _ h => h) (Or.inl ⟨by rfl, ?_⟩) ?_ ?_
  rotate_left
  · intro w'
    go_simp
    with_reducible rfl
  rotate_left
  · simp only [Act.put, sT, sZ, sU, i64_w, i32_w]
    rfl
  refine one_ (i := 13) (N := some 17) (bs 14 16) rfl rfl (one_of HT_.out (by kernel_rfl)) (by decide) (fun K hK => ?_)
  refine goes_ Try.func53 (by kernel_rfl) rfl #[.agg #[.int .i64 lo, .int .i64 hi], .int .i64 (wrap64 (rd t x1 - rd t x0))] (by rfl) rfl rfl (by (try simp only [List.map_toArray, List.map_cons, List.map_nil]); first | done | rfl) ?_
  with_reducible refine (k _).mono ?_
  rintro e w23 ⟨rfl, hb⟩
  refine ⟨_, rfl, ?_⟩
  have BK2 := blk_below BK hb
  have HB2 := below_step HB hb
  clear BK HB
  have BK := BK2
  have HB := HB2
  clear BK2 HB2 hb
  refine hK.out _ _ ⟨(blk_cell BK 0).trans rfl, (blk_cell BK 1).trans rfl, (blk_cell BK 2).trans rfl, (blk_cell BK 3).trans rfl, (HB.cell (p := ⟨B, 0, none⟩) hBW).trans hc, (HB.cell (World.block_lt_of_cell? W _ hx1)).trans hx1, (HB.cell (World.block_lt_of_cell? W _ hx0)).trans hx0⟩ (fun hHeld => ?_)
  clear hK K
  refine norm_ (a' := ?_) ?_ ?_
  rotate_left
  · show Act.put _ (some 17) _ = _
    simp only [Act.put, sT, sZ, sU, i64_w, i32_w]
    rfl
  refine pure_ (i := 14) (N := some 18) (v := ?_) (a' := ?_) (bs 15 16) rfl rfl (any_of HT_.out (by kernel_rfl)) (fun _ _ _ h => h) (Or.inl ⟨by rfl, ?_⟩) ?_ ?_
  rotate_left
  · intro w'
    go_simp
    with_reducible rfl
  rotate_left
  · simp only [Act.put, sT, sZ, sU, i64_w, i32_w]
    rfl
  refine pure_ (i := 15) (N := some 3) (v := ?_) (a' := ?_) (bs 16 16) rfl rfl (any_of HT_.out (by kernel_rfl)) (fun _ _ _ h => h) (Or.inl ⟨by rfl, ?_⟩) ?_ ?_
  rotate_left
  · intro w'
    go_simp
    with_reducible rfl
  rotate_left
  · simp only [Act.put, sT, sZ, sU, i64_w, i32_w]
    rfl
  refine done_ (done_of HT_.out (by kernel_rfl)) ?_
  go_wp2
  go_ret
  exact ⟨by simp, HB⟩
theorem node_of {n : Int} {l : List S76} (h : impl_SimpleOk.f n l = some true) : 1 ≤ n ∧ ∀ x ∈ l, (0 ≤ x.f0 ∧ x.f0 < n) ∧ (0 ≤ x.f1 ∧ x.f1 < n) := by
  unfold impl_SimpleOk.f at h
  have h := Option.some.inj h
  split at h
  · exact absurd h (by simp)
  split at h
  · exact absurd h (by simp)
  split at h
  · exact absurd h (by simp)
  refine ⟨by omega, fun x hx => ?_⟩
  have hn : l.any (badLink n) = false := by simpa using h
  rw [List.any_eq_false] at hn
  have hb := hn x hx
  unfold badLink sNodeB at hb
  simp only [Bool.or_eq_true, Bool.not_eq_true', decide_eq_false_iff_not, not_or, Classical.not_not] at hb
  exact ⟨hb.1, hb.2.1⟩
def impl_BrokenLink.f (a0_0 : Int) (l0_1 : List (S76)) (l1 : List Int) : Option (Int) := (impl_areTimes.f a0_0 l0_1 l1).bind fun t => if t = true then some (Lib.idxBy (fun _ y => brokenB l1 y) l0_1 default) else some (-1)
theorem impl_BrokenLink.calls (a0_0 : Int) (A0_1 : Option Addr) (c0_1 : Nat) (l0_1 : List (S76)) (A1 : Option Addr) (c1 : Nat) (l1 : List Int) (r : Int) (w : World) (hr0_1 : Kd.C k76 w A0_1 l0_1.length l0_1) (hc0_1 : l0_1.length ≤ c0_1) (hr1 : Kd.C (Kd.int .i64) w A1 l1.length l1) (hc1 : l1.length ≤ c1) (h : impl_BrokenLink.f a0_0 l0_1 l1 = some r) :
    Calls Try.prog 52 #[.agg #[.int .i64 a0_0, .slice A0_1 l0_1.length c0_1], .slice A1 l1.length c1] w fun e w' => e = .returned (.int .i64 r) ∧ Below w.heap.size w w' := by
  unfold impl_BrokenLink.f at h
  obtain ⟨t, ht, h⟩ := Option.bind_eq_some_iff.mp h
  have hT := fun W (hW : Below w.heap.size w W) => impl_areTimes.calls a0_0 A0_1 c0_1 l0_1 A1 c1 l1 t W (Kd.C_below hr0_1 hW) hc0_1 (Kd.C_below hr1 hW) hc1 ht
  cases t with
  | false =>
   obtain rfl := Option.some.inj h
   go_enter Try.func52, Try.ntmps52
   go_wp2_with (go_at_call 91; refine (hT _ ?sideB).mono ?_; (case sideB => exact ((Below.refl _ w).alloc (Nat.le_refl _) _).alloc (by simp <;> omega) _); rintro e w' ⟨rfl, hb'⟩; have hc1' := (hb'.cell (p := ⟨w.heap.size, 1, none⟩) (by simp <;> omega)).trans (show _ = some (.slice A0_1 l0_1.length c0_1) by simp [show w.heap.size ≠ w.heap.size + 1 by omega]); have hc2' := (hb'.cell (p := ⟨w.heap.size + 1, 0, none⟩) (by simp <;> omega)).trans (show _ = some (.slice A1 l1.length c1) by simp [show w.heap.size ≠ w.heap.size + 1 by omega]); have hB : Below w.heap.size w w' := (((Below.refl _ w).alloc (Nat.le_refl _) _).alloc (by simp <;> omega) _).trans (hb'.mono (by simp <;> omega)))
   go_ret
   exact ⟨by simp, hB⟩
  | true =>
   rw [if_pos rfl] at h
   obtain rfl := Option.some.inj h
   have hk : impl_SimpleOk.f a0_0 l0_1 = some true ∧ (l1.length : Int) = a0_0 := by
    unfold impl_areTimes.f at ht
    obtain ⟨u, hu, h2⟩ := Option.bind_eq_some_iff.mp ht
    cases u with
    | false => simp at h2
    | true =>
     rw [if_pos rfl] at h2
     by_cases c : (l1.length : Int) = a0_0
     · exact ⟨hu, c⟩
     rw [if_neg c] at h2; simp at h2
   obtain ⟨n1, hm⟩ := node_of hk.1
   have eg : ∀ args w, (callFunc 95 args).run Try.prog w = .ok (.enter 95 args) w := enters_of Try.func95 (by kernel_rfl) rfl
   have hI := fun W (hW : Below w.heap.size w W) (hs : w.heap.size + 1 < W.heap.size) (hW2 : W.cell? ⟨w.heap.size + 1, 0, none⟩ = some (.slice A1 l1.length c1)) => idxLink_at (brokenB l1) 95 #[.pointer (some ⟨w.heap.size + 1, 0, none⟩)] eg A0_1 c0_1 l0_1 W
     (fun V x hxl hV => (brokenB_calls l1 A1 c1 (w.heap.size + 1) x V (Nat.lt_of_lt_of_le hs hV.size) ((hV.cell (p := ⟨w.heap.size + 1, 0, none⟩) hs).trans hW2)
       (Kd.C_below hr1 (hW.trans (hV.mono hW.size))) (by rw [hk.2]; exact (hm x hxl).1) (by rw [hk.2]; exact (hm x hxl).2)).mono fun e w' ⟨he, h⟩ => ⟨he, hV.trans (h.mono hV.size)⟩) (Kd.C_below hr0_1 hW)
   generalize Lib.idxBy (fun _ y => brokenB l1 y) l0_1 default = q at hI ⊢
   go_enter Try.func52, Try.ntmps52
   go_wp2_with (first | (go_at_call 91; refine (hT _ ?sideB).mono ?_; (case sideB => exact ((Below.refl _ w).alloc (Nat.le_refl _) _).alloc (by simp <;> omega) _); rintro e w' ⟨rfl, hb'⟩; have hc1' := (hb'.cell (p := ⟨w.heap.size, 1, none⟩) (by simp <;> omega)).trans (show _ = some (.slice A0_1 l0_1.length c0_1) by simp [show w.heap.size ≠ w.heap.size + 1 by omega]); have hc2' := (hb'.cell (p := ⟨w.heap.size + 1, 0, none⟩) (by simp <;> omega)).trans (show _ = some (.slice A1 l1.length c1) by simp [show w.heap.size ≠ w.heap.size + 1 by omega]); have hB : Below w.heap.size w w' := (((Below.refl _ w).alloc (Nat.le_refl _) _).alloc (by simp <;> omega) _).trans (hb'.mono (by simp <;> omega))) | (go_at_call 94; refine (hI _ hB (Nat.lt_of_lt_of_le (by simp <;> omega) hb'.size) hc2').mono ?_; rintro e w2 ⟨rfl, hb2⟩))
   go_ret
   exact ⟨by simp, hB.trans (hb2.mono hB.size)⟩
end

/-! ### impl_IsSchedule: function 50 -/
def impl_IsSchedule.f (a0_0 : Int) (l0_1 : List (S76)) (l1 : List Int) : Option (Bool) := (impl_areTimes.f a0_0 l0_1 l1).bind fun t347 => (if t347 = true then (if 0 < (l1.length : Int) then (if (rd l1 0) = 0 then ((impl_BrokenLink.f a0_0 l0_1 l1).bind fun t349 => (some (decide (t349 < 0)))) else (some false)) else (none)) else (some false))
set_option maxHeartbeats 8000000 in
set_option maxRecDepth 100000 in
theorem impl_IsSchedule.calls (a0_0 : Int) (A0_1 : Option Addr) (c0_1 : Nat) (l0_1 : List (S76)) (A1 : Option Addr) (c1 : Nat) (l1 : List Int) (r : Bool) (w : World) (hr0_1 : Kd.C k76 w A0_1 l0_1.length l0_1) (hc0_1 : l0_1.length ≤ c0_1) (hr1 : Kd.C (Kd.int .i64) w A1 l1.length l1) (hc1 : l1.length ≤ c1) (h : impl_IsSchedule.f a0_0 l0_1 l1 = some r) :
    Calls Try.prog 50 #[.agg #[.int .i64 a0_0, .slice A0_1 l0_1.length c0_1], .slice A1 l1.length c1] w fun e w' => e = .returned (.bool r) ∧ Below w.heap.size w w' := by
  have hu47 := Try.underlying47
  have HR0_1 := mK hr0_1
  have HC0_1 := mK hc0_1
  clear hr0_1 hc0_1
  have HR1 := mK hr1
  have HC1 := mK hc1
  clear hr1 hc1
  have HB := mK (Below.refl w.heap.size w)
  have H : ((impl_areTimes.f a0_0 l0_1 l1).bind fun t347 => (if t347 = true then (if 0 < (l1.length : Int) then (if (rd l1 0) = 0 then ((impl_BrokenLink.f a0_0 l0_1 l1).bind fun t349 => (some (decide (t349 < 0)))) else (some false)) else (none)) else (some false))) = some r := h
  clear h
  replace H := Option.bind_eq_some_iff.mp H
  obtain ⟨t347, A30, H⟩ := H
  replace H : (if t347 = true then (if 0 < (l1.length : Int) then (if (rd l1 0) = 0 then ((impl_BrokenLink.f a0_0 l0_1 l1).bind fun t349 => (some (decide (t349 < 0)))) else (some false)) else (none)) else (some false)) = some r := H
  have A3 := mK A30
  clear A30
  by_cases c4 : t347 = true
  rotate_left
  · replace c4 := Bool.eq_false_iff.mpr c4
    subst c4
    rw [if_neg (show ¬ (false = true) by decide)] at H
    obtain rfl := Option.some.inj H
    go_enter Try.func50, Try.ntmps50
    go_wp2_with (first | ((with_reducible refine gate_dst (N := 2) rfl ?_); refine bxE 2 #[.int .i64 a0_0, .slice A0_1 l0_1.length c0_1] 47 ?_; intro gb346 hg w16 hbox hb; have BK346 := mK hbox; have GW346 := mK (gX hg HB); have GE346 := mK (gX hg HB); replace HB := bB HB hb; clear hb hbox hg; have hcz17_0 := q0 BK346; have hcz17_1 := q1 BK346; have hfz17_0 := fX BK346 0; have hfz17_1 := fX BK346 1) | ((with_reducible refine gate_callee (f := 91) rfl ?_); refine gsE (some 7) Try.func91 #[.agg #[.int .i64 a0_0, .slice A0_1 l0_1.length c0_1], .slice A1 l1.length c1] ?_; (with_reducible refine (impl_areTimes.calls a0_0 _ _ l0_1 _ _ l1 false _ ?side1 ?side2 ?side3 ?side4 A3.out).mono ?_); (case side1 => exact cX HR0_1 HB); (case side2 => exact HC0_1.out); (case side3 => exact cX HR1 HB); (case side4 => exact HC1.out); rintro e w18 ⟨rfl, hb⟩; refine ⟨_, rfl, ?_⟩; replace BK346 := kB BK346 hb; replace HB := bB HB hb; (try clear hb); (try clear hb2); (try clear hk); (try clear hi)))
    go_ret
    exact ⟨by first | rfl | (simp [errW_none, errW_some] <;> rfl) | (simp [*, errW_none, errW_some] <;> rfl), bX HB⟩
  subst c4
  rw [if_pos rfl] at H
  by_cases c5 : 0 < (l1.length : Int)
  rotate_left
  · rw [if_neg c5] at H
    exact absurd H (by simp)
  rw [if_pos c5] at H
  have c5b0 : decide (0 < (l1.length : Int)) = true := decide_eq_true c5
  have c5b1 : decide (0 < l1.length) = true := decide_eq_true (by omega)
  clear c5
  by_cases c6 : (rd l1 0) = 0
  rotate_left
  · rw [if_neg c6] at H
    have c6b0 : ((rd l1 0) == 0) = false := beq_eq_false_iff_ne.mpr c6
    have c6b1 : ((rd l1 0) != 0) = true := bne_iff_ne.mpr c6
    obtain rfl := Option.some.inj H
    go_enter Try.func50, Try.ntmps50
    go_wp2_with (first | ((with_reducible refine gate_dst (N := 2) rfl ?_); refine bxE 2 #[.int .i64 a0_0, .slice A0_1 l0_1.length c0_1] 47 ?_; intro gb346 hg w13 hbox hb; have BK346 := mK hbox; have GW346 := mK (gX hg HB); have GE346 := mK (gX hg HB); replace HB := bB HB hb; clear hb hbox hg; have hcz14_0 := q0 BK346; have hcz14_1 := q1 BK346; have hfz14_0 := fX BK346 0; have hfz14_1 := fX BK346 1) | ((with_reducible refine gate_callee (f := 91) rfl ?_); refine gsE (some 7) Try.func91 #[.agg #[.int .i64 a0_0, .slice A0_1 l0_1.length c0_1], .slice A1 l1.length c1] ?_; (with_reducible refine (impl_areTimes.calls a0_0 _ _ l0_1 _ _ l1 true _ ?side1 ?side2 ?side3 ?side4 A3.out).mono ?_); (case side1 => exact cX HR0_1 HB); (case side2 => exact HC0_1.out); (case side3 => exact cX HR1 HB); (case side4 => exact HC1.out); rintro e w15 ⟨rfl, hb⟩; refine ⟨_, rfl, ?_⟩; replace BK346 := kB BK346 hb; replace HB := bB HB hb; (try clear hb); (try clear hb2); (try clear hk); (try clear hi); have p348 : 0 ≤ (0 : Int) := (by omega); have q348 : 0 < (l1.length : Int) := of_decide_eq_true oX; obtain ⟨ad348, e348, hx348_0⟩ := Kd.at_int HR1.out 0 p348 q348; cases e348; have qi348 : (0 < l1.length) = True := eq_true (by omega); (try rw [show ((0 : Int)).toNat = 0 from rfl] at hx348_0); (try rw [Addr.add_zero'] at hx348_0); replace hx348_0 := (HB.out.cell (World.block_lt_of_cell? w _ hx348_0)).trans hx348_0; replace p348 := eq_true p348; replace q348 := eq_true q348))
    go_ret
    exact ⟨by first | rfl | (simp [errW_none, errW_some] <;> rfl) | (simp [*, errW_none, errW_some] <;> rfl), bX HB⟩
  rw [if_pos c6] at H
  have c6b0 : ((rd l1 0) == 0) = true := beq_iff_eq.mpr c6
  have c6b1 : ((rd l1 0) != 0) = false := bne_eq_false_iff_eq.mpr c6
  clear c6
  replace H := Option.bind_eq_some_iff.mp H
  obtain ⟨t349, A70, H⟩ := H
  replace H : (some (decide (t349 < 0))) = some r := H
  have A7 := mK A70
  clear A70
  obtain rfl := Option.some.inj H
  go_enter Try.func50, Try.ntmps50
  go_wp2_with (first | ((with_reducible refine gate_dst (N := 2) rfl ?_); refine bxE 2 #[.int .i64 a0_0, .slice A0_1 l0_1.length c0_1] 47 ?_; intro gb346 hg w8 hbox hb; have BK346 := mK hbox; have GW346 := mK (gX hg HB); have GE346 := mK (gX hg HB); replace HB := bB HB hb; clear hb hbox hg; have hcz9_0 := q0 BK346; have hcz9_1 := q1 BK346; have hfz9_0 := fX BK346 0; have hfz9_1 := fX BK346 1) | ((with_reducible refine gate_callee (f := 91) rfl ?_); refine gsE (some 7) Try.func91 #[.agg #[.int .i64 a0_0, .slice A0_1 l0_1.length c0_1], .slice A1 l1.length c1] ?_; (with_reducible refine (impl_areTimes.calls a0_0 _ _ l0_1 _ _ l1 true _ ?side1 ?side2 ?side3 ?side4 A3.out).mono ?_); (case side1 => exact cX HR0_1 HB); (case side2 => exact HC0_1.out); (case side3 => exact cX HR1 HB); (case side4 => exact HC1.out); rintro e w10 ⟨rfl, hb⟩; refine ⟨_, rfl, ?_⟩; replace BK346 := kB BK346 hb; replace HB := bB HB hb; (try clear hb); (try clear hb2); (try clear hk); (try clear hi); have p348 : 0 ≤ (0 : Int) := (by omega); have q348 : 0 < (l1.length : Int) := of_decide_eq_true oX; obtain ⟨ad348, e348, hx348_0⟩ := Kd.at_int HR1.out 0 p348 q348; cases e348; have qi348 : (0 < l1.length) = True := eq_true (by omega); (try rw [show ((0 : Int)).toNat = 0 from rfl] at hx348_0); (try rw [Addr.add_zero'] at hx348_0); replace hx348_0 := (HB.out.cell (World.block_lt_of_cell? w _ hx348_0)).trans hx348_0; replace p348 := eq_true p348; replace q348 := eq_true q348; have hcz11_0 := q0 BK346; have hcz11_1 := q1 BK346; have hfz11_0 := fX BK346 0; have hfz11_1 := fX BK346 1) | (go_at_call 52; (with_reducible refine (impl_BrokenLink.calls a0_0 _ _ l0_1 _ _ l1 t349 _ ?side1 ?side2 ?side3 ?side4 A7.out).mono ?_); (case side1 => exact cX HR0_1 HB); (case side2 => exact HC0_1.out); (case side3 => exact cX HR1 HB); (case side4 => exact HC1.out); rintro e w12 ⟨rfl, hb⟩; replace BK346 := kB BK346 hb; replace HB := bB HB hb; (try clear hb); (try clear hb2); (try clear hk); (try clear hi)))
  go_ret
  exact ⟨by first | rfl | (simp [errW_none, errW_some] <;> rfl) | (simp [*, errW_none, errW_some] <;> rfl), bX HB⟩

/-! ### spec_l29New: function 92 -/
section
open Go.Shelf Go.Lib
def mnSkip (s : List Int) : Nat → Int → Int → Option (Int × Int)
  | 0, i, h => some (i, h)
  | n + 1, i, h => (spec_l01Byte.f s i h).bind fun t => mnSkip s n t.2.1 t.2.2
set_option maxHeartbeats 2000000 in
theorem l29New_calls (k n : Nat) (A0 : Option Addr) (c0 : Nat) (l0 s : List Int) (i0 h0 i1 h1 : Int) (w : World) (hr0 : Kd.C (Kd.int .u8) w A0 l0.length l0) (hc0 : l0.length ≤ c0) (hn : n ≤ 1000) (hN : spec_l01New.f k l0 = some (s, i0, h0)) (hs : mnSkip s n i0 h0 = some (i1, h1)) :
    Calls Try.prog 92 #[.slice A0 l0.length c0, .int .i64 n] w fun e w' => ∃ g : Nat, e = .returned (.pointer (some ⟨g, 0, none⟩)) ∧ IsS132 w w' g s i1 h1 ∧ Below w.heap.size w w' := by
  have hnew := fun W (hW : Below w.heap.size w W) => spec_l01New.calls k A0 c0 l0 s i0 h0 w W hW (Kd.C_below hr0 (Below.refl _ w)) hc0 hN
  have HS0 := mK hs
  clear hs
  go_enter Try.func92, Try.ntmps92
  go_wp2_with (go_at_call 76; refine (hnew _ (Below.refl _ w)).mono ?_; rintro e w1 ⟨g, rfl, hI, hb1, hb2⟩)
  have HI := mK hI
  have HB := mK hb1
  clear hI hb1 hb2 hnew
  go_loopg [6] n (fun gg s6 wr => ∃ (kk : Nat) (i h : Int), kk ≤ n ∧ n - kk ≤ gg ∧ s6 = .int .i64 kk ∧ Aside0 (mnSkip s (n - kk) i h = some (i1, h1)) ∧ Aside0 (IsS132 w wr g s i h) ∧ Aside0 (Below w.heap.size w wr))
  case atStart => exact ⟨0, i0, h0, Nat.zero_le _, by omega, rfl, HS0, HI, HB⟩
  case round =>
   obtain ⟨kk, i, h, hk, hg, rfl, A, I, B⟩ := hrel
   by_cases hlt : kk < n
   rotate_left
   · have hltz : ¬ (kk : Int) < (n : Int) := by omega
     have : kk = n := by omega
     subst this
     have hA := A.out
     rw [Nat.sub_self, mnSkip] at hA
     obtain ⟨rfl, rfl⟩ := Prod.mk.inj (Option.some.inj hA)
     clear hA A
     go_wp2
     go_ret
     exact ⟨_, rfl, I.out, B.out⟩
   have hltz : (kk : Int) < (n : Int) := by omega
   have hA := A.out
   rw [show n - kk = (n - (kk + 1)) + 1 by omega, mnSkip] at hA
   obtain ⟨⟨b, i2, h2⟩, hb, hA⟩ := Option.bind_eq_some_iff.mp hA
   have HA := mK hA
   have hbyte := fun W (hI : IsS132 w W g s i h) (hW : Below w.heap.size w W) => spec_l01Byte.calls g s i h b i2 h2 w W hI hW hb
   clear hA hb A HS0 HI HB
   go_wp2_with (go_at_call 112; refine (hbyte _ I.out B.out).mono ?_; rintro e w2 ⟨rfl, hI2, hb2, hk2⟩)
   go_roundg (n - (kk + 1))
   case measure => omega
   case rel => exact ⟨kk + 1, i2, h2, by omega, by omega, by go_num, HA, ⟨hI2⟩, ⟨hb2⟩⟩
end

/-! ### spec_MakeTimes: function 51 -/
section
open Go.Shelf Go.Lib
def mtL (s : List Int) (n : Int) : Nat → List Int → Int → Int → Option (List Int)
  | 0, _, _, _ => none
  | k + 1, x, i, h => if (x.length : Int) < n then ((spec_l01Below.f s i h 6).bind fun t => (if x.length < 17592186044416 then mtL s n k (x ++ [t.1]) t.2.1 t.2.2 else none)) else some x
theorem mtL_mono (s : List Int) (n : Int) : ∀ k x i h, LeO (mtL s n k x i h) (mtL s n (k + 1) x i h)
  | 0, _, _, _ => fun r h => by simp [mtL] at h
  | k + 1, x, i, h => by
    unfold mtL
    exact LeO.ite (LeO.bind (LeO.refl _) fun t => LeO.ite (mtL_mono s n k _ _ _) (LeO.refl _)) (LeO.refl _)
def spec_MakeTimes.f (k : Nat) (l0 : List Int) (a1 : Int) (a2 : Int) : Option (List Int) := if 0 ≤ a1 ∧ a1 ≤ 1000 then (spec_l01New.f k l0).bind fun s => (mnSkip s.1 a1.toNat s.2.1 s.2.2).bind fun p => mtL s.1 a2 k [0] p.1 p.2 else none
theorem spec_MakeTimes.mono : ∀ a0 a1 a2 k, LeO (spec_MakeTimes.f k a0 a1 a2) (spec_MakeTimes.f (k + 1) a0 a1 a2) := by
  intro a0 a1 a2 k
  unfold spec_MakeTimes.f
  exact LeO.ite (LeO.bind (spec_l01New.mono a0 k) fun s => LeO.bind (LeO.refl _) fun p => mtL_mono _ _ k _ _ _) (LeO.refl _)
set_option maxHeartbeats 4000000 in
set_option maxRecDepth 100000 in
theorem spec_MakeTimes.calls (k : Nat) (A0 : Option Addr) (c0 : Nat) (l0 : List Int) (a1 : Int) (a2 : Int) (r : List Int) (w : World) (hr0 : Kd.C (Kd.int .u8) w A0 l0.length l0) (hc0 : l0.length ≤ c0) (h : spec_MakeTimes.f k l0 a1 a2 = some r) :
    Calls Try.prog 51 #[.slice A0 l0.length c0, .int .i64 a1, .int .i64 a2] w fun e w' => ∃ v0_ : Value, e = .returned (v0_) ∧ Kd.R (Kd.int .i64) 3 w' w.heap.size (fun _ => True) v0_ r ∧ Below w.heap.size w w' := by
  unfold spec_MakeTimes.f at h
  split at h
  · rename_i cnd
    obtain ⟨m, rfl⟩ : ∃ m : Nat, a1 = (m : Int) := ⟨a1.toNat, by omega⟩
    obtain ⟨⟨s, i0, h0⟩, e1, h⟩ := Option.bind_eq_some_iff.mp h
    obtain ⟨⟨i1, h1⟩, e2, h⟩ := Option.bind_eq_some_iff.mp h
    have hnew := l29New_calls k m A0 c0 l0 s i0 h0 i1 h1 w hr0 hc0 (by omega) e1 e2
    have H0 := mK h
    clear e1 e2 h cnd
    go_enter Try.func51, Try.ntmps51
    go_wp2_with (first | (go_at_call 92; refine hnew.mono ?_; rintro e w1 ⟨g, rfl, hI, hB⟩; have HI := mK hI; have HB := mK hB; clear hI hB) | ((with_reducible refine gate_dst (N := 12) rfl ?_); refine Kd.R_lit (Kd.int .i64) _ 3 ?hg (N := 12) ?hd (xs := ([0] : List Int)) (inner := [.int .i64 0]) (ok := fun _ => True) (okp := fun _ => True) ?hr ?hp (fun _ hk => hk) trivial (Below.refl _ _) (Nat.le_refl _) (by simp) ?_; (case hd => rfl); (case hg => rfl); (case hr => go_simp <;> rfl); (case hp => exact (Reps.one (show Kd.M (Kd.int .i64) _ _ _ 0 [.int .i64 0] from rfl) (Reps.none _ _))); intro v2 w2 ho hb hg_ hnew_; clear hg_ hnew_; have HO := mK (Kd.R_lower ho (below_size (bX HB))); replace HI := mK (IsS132.below HI.out hb); replace HB := bB HB hb; clear ho hb))
    go_loopg [8] k (fun kq v8 w' => ∃ (x : List Int) (i h : Int), Aside0 (mtL s a2 kq x i h = some r) ∧ Aside0 (kq ≤ k) ∧ Aside0 (Kd.R (Kd.int .i64) 3 w' w.heap.size (fun _ => True) v8 x) ∧ Aside0 (IsS132 w w' g s i h) ∧ Aside0 (Below w.heap.size w w'))
    case atStart => exact ⟨[0], i1, h1, H0, ⟨Nat.le_refl _⟩, HO, HI, HB⟩
    case round =>
     clear H0 HO HI HB hnew
     obtain ⟨x, i, h, HA, HK1, HO, HI, HB⟩ := hrel
     cases gk with
     | zero => exact absurd HA.out (by simp [mtL])
     | succ k1 =>
      have H := HA.out
      clear HA
      simp only [mtL] at H
      obtain ⟨Ao, co, eo⟩ := Kd.R_slice HO.out
      subst eo
      by_cases c : (x.length : Int) < a2
      rotate_left
      · rw [if_neg c] at H
        have cb : decide ((x.length : Int) < a2) = false := decide_eq_false c
        clear c
        obtain rfl := Option.some.inj H
        clear H
        go_wp2
        go_ret
        exact ⟨_, by first | rfl | simp, rX HO, bX HB⟩
      rw [if_pos c] at H
      have cb : decide ((x.length : Int) < a2) = true := decide_eq_true c
      clear c
      obtain ⟨⟨t1, t2, t3⟩, A2, H⟩ := Option.bind_eq_some_iff.mp H
      have hbel := fun W (hI : IsS132 w W g s i h) (hW : Below w.heap.size w W) => spec_l01Below.calls g s i h 6 t1 t2 t3 w W hI hW A2
      clear A2
      by_cases c : x.length < 17592186044416
      rotate_left
      · rw [if_neg c] at H
        exact absurd H (by simp)
      rw [if_pos c] at H
      have LM := mK c
      have H' := mK H
      clear c H
      go_wp2_with (first | (go_at_call 93; (with_reducible refine (hbel _ HI.out HB.out).mono ?_); rintro e w3 ⟨rfl, hI, hB, hk⟩; replace HO := mK (Kd.R_mono (Kd.R_keep (IsS132.apart HI.out HO.out (by decide)) hk (fun _ h => h.2)) (fun _ h => h.1)); replace HI := mK hI; replace HB := mK hB; clear hI hB hk) | ((with_reducible refine gate_builtin (b := .append) (xs := #[.tmp 17, .tmp 20]) rfl ?_); at_builtin; refine Kd.R_append (Kd.int .i64) (w0 := w) w.heap.size rfl (.tmp 17) (.tmp 20) 26 3 (.int .i64 0) 8 rfl Try.underlying26 info3 rfl (by decide) (by omega) (.slice Ao x.length co) x t1 [.int .i64 t1] (fun _ => True) (fun _ => False) rfl (by go_simp <;> rfl) ?aP (fun _ hk => hk.elim) ?aF ?aO ?aB ?aS ?aL ?_; (case aP => exact rfl); (case aB => exact HB.out); (case aF => exact (fun _ _ => trivial)); (case aO => exact HO.out); (case aS => exact (below_size HB.out)); (case aL => have := LM.out; omega); intro v9 w9 ho hb hg hat; replace HI := mK (IsS132.grown HI.out hg (IsS132.own_ne HI.out HO.out (by decide))); replace HB := mK hb; replace HO := mK ho; clear ho hb hg hat))
      go_roundg k1
      case measure => have := HK1.out; omega
      case rel => exact ⟨x ++ [t1], t2, t3, H', ⟨by have := HK1.out; omega⟩, HO, HI, HB⟩
  · exact absurd h (by simp)
end

end Go.Proofs.Ytbbblnmngjhadaa.QFnSchedules
