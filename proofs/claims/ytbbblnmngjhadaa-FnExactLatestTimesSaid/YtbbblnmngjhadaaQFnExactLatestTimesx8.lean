-- Written by this session's program wip/tools/mk.py out of the translation; Lean checks it.
import Derived.Test.YtbbblnmngjhadaaQFnExactLatestTimesx0
import Derived.Test.YtbbblnmngjhadaaQFnExactLatestTimesx2
import Derived.Test.YtbbblnmngjhadaaQFnExactLatestTimesx5
import Derived.Test.YtbbblnmngjhadaaQFnExactLatestTimesx7
namespace Go.Proofs.Ytbbblnmngjhadaa.QFnExactLatestTimes
open Go.RowKit Go.Proofs.YtbbblnmngjhadaaW.PrintWords Go.Proofs.YtbbblnmngjhadaaW.PrintLast Go.Proofs.YtbbblnmngjhadaaW.PrintMore
attribute [local go_sem] max2_int min2_int max_two min_two max_three min_three max_four min_four   -- for this text's walks alone
set_option linter.unusedVariables false
set_option linter.unusedSimpArgs false

/-! ### spec_WindowBetween: function 69 -/
def spec_WindowBetween.j0 : Nat → Int → Int → Bool → Int → List Int → Option (Int × Int × Bool)
  | 0, _, _, _, _, _ => none
  | k + 1, x1, x2, x27, x305000, x305001 => if x27 = true then (some (0, 0, false)) else ((spec_l04At.f x305000 x305001 x2 x1).bind fun t309 => ((spec_l04At.f x305000 x305001 x1 x2).bind fun t310 => ((spec_IntervalOk.f (wrap64 (-t309)) t310).bind fun t312 => (if t312 = true then (some (wrap64 (-t309), t310, true)) else (some (0, 0, false))))))
def spec_WindowBetween.f (k : Nat) (a0_0 : Int) (l0_1 : List Int) (a1 : Int) (a2 : Int) : Option (Int × Int × Bool) := (spec_TableOk.f k a0_0 l0_1).bind fun t306 => (if t306 = true then ((spec_l01In.f a1 0 (wrap64 (a0_0 - 1))).bind fun t307 => (if t307 = true then ((spec_l01In.f a2 0 (wrap64 (a0_0 - 1))).bind fun t308 => (spec_WindowBetween.j0 k a1 a2 (!t308) a0_0 l0_1)) else (spec_WindowBetween.j0 k a1 a2 true a0_0 l0_1))) else (spec_WindowBetween.j0 k a1 a2 true a0_0 l0_1))
theorem spec_WindowBetween.mono_l : ∀ k, (∀ y0 y1 y2 y3 y4, LeO (spec_WindowBetween.j0 k y0 y1 y2 y3 y4) (spec_WindowBetween.j0 (k + 1) y0 y1 y2 y3 y4))
  | 0 => fun _ _ _ _ _ r h => by simp [spec_WindowBetween.j0] at h
  | k + 1 => by
    have ih0 := spec_WindowBetween.mono_l k
    · intro y0 y1 y2 y3 y4
      unfold spec_WindowBetween.j0
      repeat' first|(with_reducible first|exact ih0 _ _ _ _ _|exact spec_TableOk.mono _ _ _|exact lR _|exact lN _|refine lI ?_ ?_|refine lB ?_ (fun _ => ?_))|exact ih0 _ _ _ _ _|exact spec_TableOk.mono _ _ _|exact lN _|refine lI ?_ ?_|refine lB ?_ (fun _ => ?_)
theorem spec_WindowBetween.mono : ∀ a0 a1 a2 a3 k, LeO (spec_WindowBetween.f k a0 a1 a2 a3) (spec_WindowBetween.f (k + 1) a0 a1 a2 a3) := by
  intro a0 a1 a2 a3 k
  have ih0 := spec_WindowBetween.mono_l k
  unfold spec_WindowBetween.f
  repeat' first|(with_reducible first|exact ih0 _ _ _ _ _|exact spec_TableOk.mono _ _ _|exact lR _|exact lN _|refine lI ?_ ?_|refine lB ?_ (fun _ => ?_))|exact ih0 _ _ _ _ _|exact spec_TableOk.mono _ _ _|exact lN _|refine lI ?_ ?_|refine lB ?_ (fun _ => ?_)
def spec_WindowBetween.T3 : Bool × List (List Nat × List Nat) := (true, [([], []), ([], []), ([], []), ([0, 1, 2], [0, 1, 2]), ([3], [3]), ([], []), ([], []), ([], []), ([5, 6, 7, 3], [5, 6, 7]), ([4, 8], [4, 8]), ([], []), ([10, 9, 8, 0, 1, 2, 3, 4, 5, 6, 7, 8, 9, 10], [9, 10])])
def spec_WindowBetween.B3 : List Nat := [0, 0, 0, 7, 15, 0, 0, 0, 239, 511, 0, 2047]
theorem spec_WindowBetween.tab3 : rtab .any (opsOf Try.f69 3) = spec_WindowBetween.T3 := by kernel_rfl
theorem spec_WindowBetween.bits3 : waitsOk spec_WindowBetween.T3.2 spec_WindowBetween.B3 = true := by kernel_rfl
set_option maxHeartbeats 8000000 in
set_option maxRecDepth 100000 in
theorem spec_WindowBetween.calls (k : Nat) (a0_0 : Int) (A0_1 : Option Addr) (c0_1 : Nat) (l0_1 : List Int) (a1 : Int) (a2 : Int) (r1 : Int) (r2 : Int) (r3 : Bool) (w : World) (hr0_1 : Kd.C (Kd.int .i64) w A0_1 l0_1.length l0_1) (hc0_1 : l0_1.length ≤ c0_1) (h : spec_WindowBetween.f k a0_0 l0_1 a1 a2 = some (r1, r2, r3)) :
    Calls Try.prog 69 #[.agg #[.int .i64 a0_0, .slice A0_1 l0_1.length c0_1], .int .i64 a1, .int .i64 a2] w fun e w' => e = .returned (.tuple #[.agg #[.int .i64 r1, .int .i64 r2], .bool r3]) ∧ Below w.heap.size w w' := by
 have hu28 := Try.underlying28
 have hu52 := Try.underlying52
 have HR0_1 := mK hr0_1
 have HC0_1 := mK hc0_1
 clear hr0_1 hc0_1
 have HB := mK (Below.refl w.heap.size w)
 have H : ((spec_TableOk.f k a0_0 l0_1).bind fun t306 => (if t306 = true then ((spec_l01In.f a1 0 (wrap64 (a0_0 - 1))).bind fun t307 => (if t307 = true then ((spec_l01In.f a2 0 (wrap64 (a0_0 - 1))).bind fun t308 => (spec_WindowBetween.j0 k a1 a2 (!t308) a0_0 l0_1)) else (spec_WindowBetween.j0 k a1 a2 true a0_0 l0_1))) else (spec_WindowBetween.j0 k a1 a2 true a0_0 l0_1))) = some (r1, r2, r3) := h
 clear h
 have HC4 := mK H
 clear H
 go_enter Try.func69, Try.ntmps69
 go_upto_region 1 with (first | ((with_reducible refine gate_dst (N := 3) rfl ?_); refine bxE 3 #[.int .i64 a0_0, .slice A0_1 l0_1.length c0_1] 28 ?_; intro gb304 hg w5 hbox hb; have BK304 := mK hbox; have GW304 := mK (gX hg HB); have GE304 := mK (gX hg HB); replace HB := bB HB hb; clear hb hbox hg) | ((with_reducible refine gate_dst (N := 6) rfl ?_); refine bxE 6 #[.int .i64 0, .int .i64 0] 52 ?_; intro gb305 hg w6 hbox hb; have BK305 := mK hbox; have GW305 := mK (gX hg HB); have GE305 := mK (gX hg HB); replace HB := bB HB hb; have NB304_305 := mK (lX hg BK304); have NB305_304 := mK (mX hg BK304); replace BK304 := kB BK304 hb; clear hb hbox hg))
 (try simp only [Act.put, sT, sZ, sU])
 go_cut [27] (fun v27 wc => ∃ (kq : Nat) (x27_3 : Bool), v27 = .bool x27_3 ∧ Aside0 (spec_WindowBetween.j0 kq a1 a2 x27_3 a0_0 l0_1 = some (r1, r2, r3)) ∧ Aside0 (kq ≤ k) ∧ Aside0 (wc.heap[gb304]? = some (.cells #[.int .i64 a0_0, (.slice A0_1 l0_1.length c0_1)] 28 (0, 0))) ∧ Aside0 (wc.heap[gb305]? = some (.cells #[.int .i64 0, .int .i64 0] 52 (0, 0))) ∧ Aside0 (Below w.heap.size w wc))
 case first => (
 have H := HC4.out
 clear HC4
 replace H := Option.bind_eq_some_iff.mp H
 obtain ⟨t306, A70, H⟩ := H
 replace H : (if t306 = true then ((spec_l01In.f a1 0 (wrap64 (a0_0 - 1))).bind fun t307 => (if t307 = true then ((spec_l01In.f a2 0 (wrap64 (a0_0 - 1))).bind fun t308 => (spec_WindowBetween.j0 k a1 a2 (!t308) a0_0 l0_1)) else (spec_WindowBetween.j0 k a1 a2 true a0_0 l0_1))) else (spec_WindowBetween.j0 k a1 a2 true a0_0 l0_1)) = some (r1, r2, r3) := H
 have A7 := mK A70
 clear A70
 by_cases c8 : t306 = true
 rotate_left
 {
 replace c8 := Bool.eq_false_iff.mpr c8
 subst c8
 rw [if_neg (show ¬ (false = true) by decide)] at H
 have H' := mK H
 clear H
 have hnb20 := NB304_305.out
 have hnc20 := NB305_304.out
 have hcz21_0 := q0 BK304
 have hcz21_1 := q1 BK304
 have hfz21_0 := fX BK304 0
 have hfz21_1 := fX BK304 1
 go_wp2_with (first | ((with_reducible refine gate_callee (f := 104) rfl ?_); refine gsE (some 10) Try.func104 #[.agg #[.int .i64 a0_0, .slice A0_1 l0_1.length c0_1]] ?_; (with_reducible refine (spec_TableOk.calls k a0_0 _ _ l0_1 false _ ?side1 ?side2 A7.out).mono ?_); (case side1 => exact cX HR0_1 HB); (case side2 => exact HC0_1.out); rintro e w22 ⟨rfl, hb⟩; refine ⟨_, rfl, ?_⟩; replace BK304 := kB BK304 hb; replace BK305 := kB BK305 hb; replace HB := bB HB hb; (try clear hb); (try clear hb2); (try clear hk); (try clear hi)))
 go_meet
 case rel => exact ⟨_, (true), (by first | rfl | (simp; done) | (simp [*]; done)), H', ⟨by first | omega | exact Nat.le_refl _⟩, ⟨kX BK304⟩, ⟨kX BK305⟩, ⟨bX HB⟩⟩
 }
 subst c8
 rw [if_pos rfl] at H
 replace H := Option.bind_eq_some_iff.mp H
 obtain ⟨t307, A90, H⟩ := H
 replace H : (if t307 = true then ((spec_l01In.f a2 0 (wrap64 (a0_0 - 1))).bind fun t308 => (spec_WindowBetween.j0 k a1 a2 (!t308) a0_0 l0_1)) else (spec_WindowBetween.j0 k a1 a2 true a0_0 l0_1)) = some (r1, r2, r3) := H
 have A9 := mK A90
 clear A90
 by_cases c10 : t307 = true
 rotate_left
 {
 replace c10 := Bool.eq_false_iff.mpr c10
 subst c10
 rw [if_neg (show ¬ (false = true) by decide)] at H
 have H' := mK H
 clear H
 have hnb16 := NB304_305.out
 have hnc16 := NB305_304.out
 have hcz17_0 := q0 BK304
 have hcz17_1 := q1 BK304
 have hfz17_0 := fX BK304 0
 have hfz17_1 := fX BK304 1
 go_wp2_with (first | ((with_reducible refine gate_callee (f := 104) rfl ?_); refine gsE (some 10) Try.func104 #[.agg #[.int .i64 a0_0, .slice A0_1 l0_1.length c0_1]] ?_; (with_reducible refine (spec_TableOk.calls k a0_0 _ _ l0_1 true _ ?side1 ?side2 A7.out).mono ?_); (case side1 => exact cX HR0_1 HB); (case side2 => exact HC0_1.out); rintro e w18 ⟨rfl, hb⟩; refine ⟨_, rfl, ?_⟩; replace BK304 := kB BK304 hb; replace BK305 := kB BK305 hb; replace HB := bB HB hb; (try clear hb); (try clear hb2); (try clear hk); (try clear hi); have hcz19_0 := q0 BK304; have hcz19_1 := q1 BK304; have hfz19_0 := fX BK304 0; have hfz19_1 := fX BK304 1) | (go_at_call 96; (with_reducible refine (spec_l01In.calls a1 0 (wrap64 (a0_0 - 1)) false _ A9.out).mono ?_); rintro e w' ⟨rfl, ⟨nd, rfl⟩⟩))
 go_meet
 case rel => exact ⟨_, (true), (by first | rfl | (simp; done) | (simp [*]; done)), H', ⟨by first | omega | exact Nat.le_refl _⟩, ⟨kX BK304⟩, ⟨kX BK305⟩, ⟨bX HB⟩⟩
 }
 subst c10
 rw [if_pos rfl] at H
 replace H := Option.bind_eq_some_iff.mp H
 obtain ⟨t308, A110, H⟩ := H
 replace H : (spec_WindowBetween.j0 k a1 a2 (!t308) a0_0 l0_1) = some (r1, r2, r3) := H
 have A11 := mK A110
 clear A110
 have H' := mK H
 clear H
 have hnb12 := NB304_305.out
 have hnc12 := NB305_304.out
 have hcz13_0 := q0 BK304
 have hcz13_1 := q1 BK304
 have hfz13_0 := fX BK304 0
 have hfz13_1 := fX BK304 1
 go_wp2_with (first | ((with_reducible refine gate_callee (f := 104) rfl ?_); refine gsE (some 10) Try.func104 #[.agg #[.int .i64 a0_0, .slice A0_1 l0_1.length c0_1]] ?_; (with_reducible refine (spec_TableOk.calls k a0_0 _ _ l0_1 true _ ?side1 ?side2 A7.out).mono ?_); (case side1 => exact cX HR0_1 HB); (case side2 => exact HC0_1.out); rintro e w14 ⟨rfl, hb⟩; refine ⟨_, rfl, ?_⟩; replace BK304 := kB BK304 hb; replace BK305 := kB BK305 hb; replace HB := bB HB hb; (try clear hb); (try clear hb2); (try clear hk); (try clear hi); have hcz15_0 := q0 BK304; have hcz15_1 := q1 BK304; have hfz15_0 := fX BK304 0; have hfz15_1 := fX BK304 1) | (go_at_call 96; (with_reducible refine (spec_l01In.calls a1 0 (wrap64 (a0_0 - 1)) true _ A9.out).mono ?_); rintro e w' ⟨rfl, ⟨nd, rfl⟩⟩) | (go_at_call 96; (with_reducible refine (spec_l01In.calls a2 0 (wrap64 (a0_0 - 1)) t308 _ A11.out).mono ?_); rintro e w' ⟨rfl, ⟨nd, rfl⟩⟩))
 go_meet
 case rel => exact ⟨_, (!t308), (by first | rfl | (simp; done) | (simp [*]; done)), H', ⟨by first | omega | exact Nat.le_refl _⟩, ⟨kX BK304⟩, ⟨kX BK305⟩, ⟨bX HB⟩⟩
 )
 case rest => (
 clear HC4
 try clear c1
 try clear c2
 try clear p2
 try clear c6
 try clear p6
 try clear c8
 try clear c10
 try clear c12
 try clear c16
 try clear c20
 try clear hcz13_0
 try clear hcz13_1
 try clear hcz15_0
 try clear hcz15_1
 try clear hcz17_0
 try clear hcz17_1
 try clear hcz19_0
 try clear hcz19_1
 try clear hcz21_0
 try clear hcz21_1
 try clear hfz13_0
 try clear hfz13_1
 try clear hfz15_0
 try clear hfz15_1
 try clear hfz17_0
 try clear hfz17_1
 try clear hfz19_0
 try clear hfz19_1
 try clear hfz21_0
 try clear hfz21_1
 obtain ⟨kq, x27_3, rfl, HA, HJ3, BK304, BK305, HB⟩ := hcut
 cases kq with
 | zero => exact absurd HA.out (by simp [spec_WindowBetween.j0])
 | succ kj3 => (
 have H := HA.out
 clear HA
 simp only [spec_WindowBetween.j0] at H
 by_cases c23 : x27_3 = true
 {
 subst c23
 rw [if_pos rfl] at H
 simp only [Option.some.injEq, Prod.mk.injEq] at H
 obtain ⟨rfl, rfl, rfl⟩ := H
 have hnb24 := NB305_304.out
 have hnc24 := NB304_305.out
 have hcz25_0 := q0 BK305
 have hcz25_1 := q1 BK305
 have hfz25_0 := fX BK305 0
 have hfz25_1 := fX BK305 1
 go_wp2
 refine bodyPost_ret (results_ct rfl _ _ gb305 52 #[.int .i64 0, .int .i64 0] (0, 0) _ rfl (kP2 BK305) Try.underlying52 rfl (by kernel_rfl)) rfl ?_
 exact ⟨by first | rfl | (simp [errW_none, errW_some] <;> rfl) | (simp [*, errW_none, errW_some] <;> rfl), bX HB⟩
 }
 replace c23 := Bool.eq_false_iff.mpr c23
 subst c23
 rw [if_neg (show ¬ (false = true) by decide)] at H
 replace H := Option.bind_eq_some_iff.mp H
 obtain ⟨t309, A260, H⟩ := H
 replace H : ((spec_l04At.f a0_0 l0_1 a1 a2).bind fun t310 => ((spec_IntervalOk.f (wrap64 (-t309)) t310).bind fun t312 => (if t312 = true then (some (wrap64 (-t309), t310, true)) else (some (0, 0, false))))) = some (r1, r2, r3) := H
 have A26 := mK A260
 clear A260
 replace H := Option.bind_eq_some_iff.mp H
 obtain ⟨t310, A270, H⟩ := H
 replace H : ((spec_IntervalOk.f (wrap64 (-t309)) t310).bind fun t312 => (if t312 = true then (some (wrap64 (-t309), t310, true)) else (some (0, 0, false)))) = some (r1, r2, r3) := H
 have A27 := mK A270
 clear A270
 replace H := Option.bind_eq_some_iff.mp H
 obtain ⟨t312, A280, H⟩ := H
 replace H : (if t312 = true then (some (wrap64 (-t309), t310, true)) else (some (0, 0, false))) = some (r1, r2, r3) := H
 have A28 := mK A280
 clear A280
 by_cases c29 : t312 = true
 rotate_left
 {
 replace c29 := Bool.eq_false_iff.mpr c29
 subst c29
 rw [if_neg (show ¬ (false = true) by decide)] at H
 simp only [Option.some.injEq, Prod.mk.injEq] at H
 obtain ⟨rfl, rfl, rfl⟩ := H
 try go_wp2
 have n0_ := mK (blk_drew BK304.out)
 have n1_ := mK (blk_drew BK305.out)
 have n2_ := mK (below_drew1 HB.out)
 clear BK304
 clear BK305
 clear HB
 have BK304 := n0_
 have BK305 := n1_
 have HB := n2_
 clear n0_ n1_ n2_
 refine start_ (n := 12) (S := fun w' => w'.cell? ⟨gb304, 0, none⟩ = some (.int .i64 a0_0) ∧ w'.cell? ⟨gb304, 1, none⟩ = some (.slice A0_1 l0_1.length c0_1)) (ds := []) (bs 0 12) (by kernel_rfl) rfl (by kernel_rfl) ⟨(blk_cell BK304.out 0).trans rfl, (blk_cell BK304.out 1).trans rfl⟩ (fun hHeld => ?_); refine with_tabW spec_WindowBetween.tab3 spec_WindowBetween.bits3 (fun HT_ HW_ => ?_)
 generalize wc.drew = w44 at BK304 BK305 HB hHeld ⊢
 refine pL 1 30 #[false, true, false, false, false, false, false, false, false, false, false, false] HT_ ?_
 refine pL 2 31 #[false, true, true, false, false, false, false, false, false, false, false, false] HT_ ?_
 refine pL 6 35 #[false, true, true, false, false, false, true, false, false, false, false, false] HT_ ?_
 refine pL 7 36 #[false, true, true, false, false, false, true, true, false, false, false, false] HT_ ?_
 refine tL 0 29 #[true, true, true, false, false, false, true, true, false, false, false, false] HT_ HW_ hHeld ?_
 refine tL 5 34 #[true, true, true, false, false, true, true, true, false, false, false, false] HT_ HW_ hHeld ?_
 refine join_ (σ := Nat) 1 (bs 11 12) (fun s_ => [(32, .int .i64 t309), (37, .int .i64 t310), (8, .pointer (some ⟨s_, 0, none⟩)), (33, .int .i64 (wrap64 (-t309))), (38, .agg #[.int .i64 (wrap64 (-t309)), .int .i64 t310])]) (fun s_ w' => (w'.cell? ⟨gb304, 0, none⟩ = some (.int .i64 a0_0) ∧ w'.cell? ⟨gb304, 1, none⟩ = some (.slice A0_1 l0_1.length c0_1)) ∧ (w'.heap[gb304]? = some (.cells #[.int .i64 a0_0, .slice A0_1 l0_1.length c0_1] 28 (0, 0))) ∧ (w'.heap[gb305]? = some (.cells #[.int .i64 0, .int .i64 0] 52 (0, 0))) ∧ (w'.heap[s_]? = some (.cells #[.int .i64 0, .int .i64 0] 52 (0, 0))) ∧ (w.heap.size ≤ s_) ∧ (w.heap.size ≤ s_) ∧ (gb304 ≠ s_) ∧ (s_ ≠ gb304) ∧ (gb305 ≠ s_) ∧ (s_ ≠ gb305) ∧ (Below w.heap.size w w')) ?_ ?_
 rotate_left
 {
 intro hCont
 refine two_ (i := 3) (j := 10) (Ni := some 32) (Nj := some 8) #[true, true, true, true, false, true, true, true, false, false, false, false] #[true, true, true, false, false, true, true, true, false, false, true, false] rfl rfl rfl rfl (two_of HT_.out (by kernel_rfl)) (by decide) (by decide) (fun K hK => ?_) (fun K hK => ?_)
 {
 skip
 refine gsK Try.func105 #[.agg #[.int .i64 a0_0, .slice A0_1 l0_1.length c0_1], .int .i64 a2, .int .i64 a1] ?_
 with_reducible refine (spec_l04At.calls a0_0 _ _ l0_1 a2 a1 t309 _ ?side1 ?side2 A26.out).mono ?_
 (case side1 => exact cX HR0_1 HB)
 (case side2 => exact HC0_1.out)
 rintro e w45 ⟨rfl, hb⟩
 refine ⟨_, rfl, ?_⟩
 have n0_ := kB BK304 hb
 have n1_ := kB BK305 hb
 have n2_ := bB HB hb
 clear BK304
 clear BK305
 clear HB
 have BK304 := n0_
 have BK305 := n1_
 have HB := n2_
 clear n0_ n1_ n2_
 (try clear hb)
 (try clear hb2)
 (try clear hk)
 (try clear hi)
 refine hK.out _ _ ⟨(blk_cell BK304.out 0).trans rfl, (blk_cell BK304.out 1).trans rfl⟩ (fun hHeld => ?_)
 clear hK K
 refine norm_ (a' := ?_) ?_ ?_
 rotate_left
 {
 show Act.put _ (some 32) _ = _
 simp only [Act.put, sT, sZ, sU, i64_w, i32_w]
 rfl
 }
 refine pL 4 33 (bs 8 12) HT_ ?_
 refine two_ (i := 8) (j := 10) (Ni := some 37) (Nj := some 8) (bs 9 12) #[true, true, true, true, true, true, true, true, false, false, true, false] rfl rfl rfl rfl (two_of HT_.out (by kernel_rfl)) (by decide) (by decide) (fun K hK => ?_) (fun K hK => ?_)
 {
 skip
 refine gsK Try.func105 #[.agg #[.int .i64 a0_0, .slice A0_1 l0_1.length c0_1], .int .i64 a1, .int .i64 a2] ?_
 with_reducible refine (spec_l04At.calls a0_0 _ _ l0_1 a1 a2 t310 _ ?side1 ?side2 A27.out).mono ?_
 (case side1 => exact cX HR0_1 HB)
 (case side2 => exact HC0_1.out)
 rintro e w46 ⟨rfl, hb⟩
 refine ⟨_, rfl, ?_⟩
 have n0_ := kB BK304 hb
 have n1_ := kB BK305 hb
 have n2_ := bB HB hb
 clear BK304
 clear BK305
 clear HB
 have BK304 := n0_
 have BK305 := n1_
 have HB := n2_
 clear n0_ n1_ n2_
 (try clear hb)
 (try clear hb2)
 (try clear hk)
 (try clear hi)
 refine hK.out _ _ ⟨(blk_cell BK304.out 0).trans rfl, (blk_cell BK304.out 1).trans rfl⟩ (fun hHeld => ?_)
 clear hK K
 refine norm_ (a' := ?_) ?_ ?_
 rotate_left
 {
 show Act.put _ (some 37) _ = _
 simp only [Act.put, sT, sZ, sU, i64_w, i32_w]
 rfl
 }
 refine pL 9 38 (bs 10 12) HT_ ?_
 refine one_ (i := 10) (N := some 8) (bs 11 12) rfl rfl (one_of HT_.out (by kernel_rfl)) (by decide) (fun K hK => ?_)
 refine box_step ?hg (N := 8) ?hd (cs := #[.int .i64 0, .int .i64 0]) (t := 52) ?hr ?_; (case hd => rfl); (case hg => rfl); (case hr => go_simp <;> rfl)
 intro gb311 hg w47 hbox hb
 have n0_ := kB BK304 hb
 have n1_ := kB BK305 hb
 have n2_ := bB HB hb
 have n3_ := mK hbox
 have n4_ := mK (gX hg HB)
 have n5_ := mK (gX hg HB)
 have n6_ := mK (lX hg BK304)
 have n7_ := mK (mX hg BK304)
 have n8_ := mK (lX hg BK305)
 have n9_ := mK (mX hg BK305)
 clear BK304
 clear BK305
 clear HB
 have BK304 := n0_
 have BK305 := n1_
 have HB := n2_
 have BK311 := n3_
 have GW311 := n4_
 have GE311 := n5_
 have NB304_311 := n6_
 have NB311_304 := n7_
 have NB305_311 := n8_
 have NB311_305 := n9_
 clear n0_ n1_ n2_ n3_ n4_ n5_ n6_ n7_ n8_ n9_
 clear hb hbox hg
 refine hK.out _ _ ⟨(blk_cell BK304.out 0).trans rfl, (blk_cell BK304.out 1).trans rfl⟩ (fun hHeld => ?_)
 clear hK K
 refine norm_ (a' := ?_) ?_ ?_
 rotate_left
 {
 show Act.put _ (some 8) _ = _
 simp only [Act.put, sT, sZ, sU, i64_w, i32_w]
 rfl
 }
 exact norm_ (by simp only [putAll, Act.put, sT, sZ, sU]) (hCont (gb311) _ ⟨hHeld, BK304.out, BK305.out, BK311.out, GW311.out, GE311.out, NB304_311.out, NB311_304.out, NB305_311.out, NB311_305.out, HB.out⟩)
 }
 {
 skip
 refine box_step ?hg (N := 8) ?hd (cs := #[.int .i64 0, .int .i64 0]) (t := 52) ?hr ?_; (case hd => rfl); (case hg => rfl); (case hr => go_simp <;> rfl)
 intro gb311 hg w46 hbox hb
 have n0_ := kB BK304 hb
 have n1_ := kB BK305 hb
 have n2_ := bB HB hb
 have n3_ := mK hbox
 have n4_ := mK (gX hg HB)
 have n5_ := mK (gX hg HB)
 have n6_ := mK (lX hg BK304)
 have n7_ := mK (mX hg BK304)
 have n8_ := mK (lX hg BK305)
 have n9_ := mK (mX hg BK305)
 clear BK304
 clear BK305
 clear HB
 have BK304 := n0_
 have BK305 := n1_
 have HB := n2_
 have BK311 := n3_
 have GW311 := n4_
 have GE311 := n5_
 have NB304_311 := n6_
 have NB311_304 := n7_
 have NB305_311 := n8_
 have NB311_305 := n9_
 clear n0_ n1_ n2_ n3_ n4_ n5_ n6_ n7_ n8_ n9_
 clear hb hbox hg
 refine hK.out _ _ ⟨(blk_cell BK304.out 0).trans rfl, (blk_cell BK304.out 1).trans rfl⟩ (fun hHeld => ?_)
 clear hK K
 refine norm_ (a' := ?_) ?_ ?_
 rotate_left
 {
 show Act.put _ (some 8) _ = _
 simp only [Act.put, sT, sZ, sU, i64_w, i32_w]
 rfl
 }
 refine one_ (i := 8) (N := some 37) #[true, true, true, true, true, true, true, true, true, false, true, false] rfl rfl (one_of HT_.out (by kernel_rfl)) (by decide) (fun K hK => ?_)
 refine gsK Try.func105 #[.agg #[.int .i64 a0_0, .slice A0_1 l0_1.length c0_1], .int .i64 a1, .int .i64 a2] ?_
 with_reducible refine (spec_l04At.calls a0_0 _ _ l0_1 a1 a2 t310 _ ?side1 ?side2 A27.out).mono ?_
 (case side1 => exact cX HR0_1 HB)
 (case side2 => exact HC0_1.out)
 rintro e w47 ⟨rfl, hb⟩
 refine ⟨_, rfl, ?_⟩
 have n0_ := kB BK304 hb
 have n1_ := kB BK305 hb
 have n2_ := kB BK311 hb
 have n3_ := bB HB hb
 clear BK304
 clear BK305
 clear BK311
 clear HB
 have BK304 := n0_
 have BK305 := n1_
 have BK311 := n2_
 have HB := n3_
 clear n0_ n1_ n2_ n3_
 (try clear hb)
 (try clear hb2)
 (try clear hk)
 (try clear hi)
 refine hK.out _ _ ⟨(blk_cell BK304.out 0).trans rfl, (blk_cell BK304.out 1).trans rfl⟩ (fun hHeld => ?_)
 clear hK K
 refine norm_ (a' := ?_) ?_ ?_
 rotate_left
 {
 show Act.put _ (some 37) _ = _
 simp only [Act.put, sT, sZ, sU, i64_w, i32_w]
 rfl
 }
 refine pL 9 38 (bs 11 12) HT_ ?_
 exact norm_ (by simp only [putAll, Act.put, sT, sZ, sU]) (hCont (gb311) _ ⟨hHeld, BK304.out, BK305.out, BK311.out, GW311.out, GE311.out, NB304_311.out, NB311_304.out, NB305_311.out, NB311_305.out, HB.out⟩)
 }
 }
 {
 skip
 refine box_step ?hg (N := 8) ?hd (cs := #[.int .i64 0, .int .i64 0]) (t := 52) ?hr ?_; (case hd => rfl); (case hg => rfl); (case hr => go_simp <;> rfl)
 intro gb311 hg w45 hbox hb
 have n0_ := kB BK304 hb
 have n1_ := kB BK305 hb
 have n2_ := bB HB hb
 have n3_ := mK hbox
 have n4_ := mK (gX hg HB)
 have n5_ := mK (gX hg HB)
 have n6_ := mK (lX hg BK304)
 have n7_ := mK (mX hg BK304)
 have n8_ := mK (lX hg BK305)
 have n9_ := mK (mX hg BK305)
 clear BK304
 clear BK305
 clear HB
 have BK304 := n0_
 have BK305 := n1_
 have HB := n2_
 have BK311 := n3_
 have GW311 := n4_
 have GE311 := n5_
 have NB304_311 := n6_
 have NB311_304 := n7_
 have NB305_311 := n8_
 have NB311_305 := n9_
 clear n0_ n1_ n2_ n3_ n4_ n5_ n6_ n7_ n8_ n9_
 clear hb hbox hg
 refine hK.out _ _ ⟨(blk_cell BK304.out 0).trans rfl, (blk_cell BK304.out 1).trans rfl⟩ (fun hHeld => ?_)
 clear hK K
 refine norm_ (a' := ?_) ?_ ?_
 rotate_left
 {
 show Act.put _ (some 8) _ = _
 simp only [Act.put, sT, sZ, sU, i64_w, i32_w]
 rfl
 }
 refine one_ (i := 3) (N := some 32) #[true, true, true, true, false, true, true, true, false, false, true, false] rfl rfl (one_of HT_.out (by kernel_rfl)) (by decide) (fun K hK => ?_)
 refine gsK Try.func105 #[.agg #[.int .i64 a0_0, .slice A0_1 l0_1.length c0_1], .int .i64 a2, .int .i64 a1] ?_
 with_reducible refine (spec_l04At.calls a0_0 _ _ l0_1 a2 a1 t309 _ ?side1 ?side2 A26.out).mono ?_
 (case side1 => exact cX HR0_1 HB)
 (case side2 => exact HC0_1.out)
 rintro e w46 ⟨rfl, hb⟩
 refine ⟨_, rfl, ?_⟩
 have n0_ := kB BK304 hb
 have n1_ := kB BK305 hb
 have n2_ := kB BK311 hb
 have n3_ := bB HB hb
 clear BK304
 clear BK305
 clear BK311
 clear HB
 have BK304 := n0_
 have BK305 := n1_
 have BK311 := n2_
 have HB := n3_
 clear n0_ n1_ n2_ n3_
 (try clear hb)
 (try clear hb2)
 (try clear hk)
 (try clear hi)
 refine hK.out _ _ ⟨(blk_cell BK304.out 0).trans rfl, (blk_cell BK304.out 1).trans rfl⟩ (fun hHeld => ?_)
 clear hK K
 refine norm_ (a' := ?_) ?_ ?_
 rotate_left
 {
 show Act.put _ (some 32) _ = _
 simp only [Act.put, sT, sZ, sU, i64_w, i32_w]
 rfl
 }
 refine pL 4 33 #[true, true, true, true, true, true, true, true, false, false, true, false] HT_ ?_
 refine one_ (i := 8) (N := some 37) #[true, true, true, true, true, true, true, true, true, false, true, false] rfl rfl (one_of HT_.out (by kernel_rfl)) (by decide) (fun K hK => ?_)
 refine gsK Try.func105 #[.agg #[.int .i64 a0_0, .slice A0_1 l0_1.length c0_1], .int .i64 a1, .int .i64 a2] ?_
 with_reducible refine (spec_l04At.calls a0_0 _ _ l0_1 a1 a2 t310 _ ?side1 ?side2 A27.out).mono ?_
 (case side1 => exact cX HR0_1 HB)
 (case side2 => exact HC0_1.out)
 rintro e w47 ⟨rfl, hb⟩
 refine ⟨_, rfl, ?_⟩
 have n0_ := kB BK304 hb
 have n1_ := kB BK305 hb
 have n2_ := kB BK311 hb
 have n3_ := bB HB hb
 clear BK304
 clear BK305
 clear BK311
 clear HB
 have BK304 := n0_
 have BK305 := n1_
 have BK311 := n2_
 have HB := n3_
 clear n0_ n1_ n2_ n3_
 (try clear hb)
 (try clear hb2)
 (try clear hk)
 (try clear hi)
 refine hK.out _ _ ⟨(blk_cell BK304.out 0).trans rfl, (blk_cell BK304.out 1).trans rfl⟩ (fun hHeld => ?_)
 clear hK K
 refine norm_ (a' := ?_) ?_ ?_
 rotate_left
 {
 show Act.put _ (some 37) _ = _
 simp only [Act.put, sT, sZ, sU, i64_w, i32_w]
 rfl
 }
 refine pL 9 38 (bs 11 12) HT_ ?_
 exact norm_ (by simp only [putAll, Act.put, sT, sZ, sU]) (hCont (gb311) _ ⟨hHeld, BK304.out, BK305.out, BK311.out, GW311.out, GE311.out, NB304_311.out, NB311_304.out, NB305_311.out, NB311_305.out, HB.out⟩)
 }
 }
 rintro gb311 w48 ⟨hS_, h0_, h1_, h2_, h3_, h4_, h5_, h6_, h7_, h8_, h9_⟩
 have n0_ : Aside0 (w48.heap[gb304]? = some (.cells #[.int .i64 a0_0, .slice A0_1 l0_1.length c0_1] 28 (0, 0))) := ⟨h0_⟩
 have n1_ : Aside0 (w48.heap[gb305]? = some (.cells #[.int .i64 0, .int .i64 0] 52 (0, 0))) := ⟨h1_⟩
 have n2_ : Aside0 (w48.heap[gb311]? = some (.cells #[.int .i64 0, .int .i64 0] 52 (0, 0))) := ⟨h2_⟩
 have n3_ : Aside0 (w.heap.size ≤ gb311) := ⟨h3_⟩
 have n4_ : Aside0 (w.heap.size ≤ gb311) := ⟨h4_⟩
 have n5_ : Aside0 (gb304 ≠ gb311) := ⟨h5_⟩
 have n6_ : Aside0 (gb311 ≠ gb304) := ⟨h6_⟩
 have n7_ : Aside0 (gb305 ≠ gb311) := ⟨h7_⟩
 have n8_ : Aside0 (gb311 ≠ gb305) := ⟨h8_⟩
 have n9_ : Aside0 (Below w.heap.size w w48) := ⟨h9_⟩
 clear BK304
 clear BK305
 clear HB
 clear h0_ h1_ h2_ h3_ h4_ h5_ h6_ h7_ h8_ h9_
 have BK304 := n0_
 have BK305 := n1_
 have BK311 := n2_
 have GW311 := n3_
 have GE311 := n4_
 have NB304_311 := n5_
 have NB311_304 := n6_
 have NB305_311 := n7_
 have NB311_305 := n8_
 have HB := n9_
 clear n0_ n1_ n2_ n3_ n4_ n5_ n6_ n7_ n8_ n9_
 have hHeld : w48.cell? ⟨gb304, 0, none⟩ = some (.int .i64 a0_0) ∧ w48.cell? ⟨gb304, 1, none⟩ = some (.slice A0_1 l0_1.length c0_1) := hS_
 refine norm_ (a' := ?_) ?_ ?_
 rotate_left
 {
 simp only [putAll, Act.put, sT, sZ, sU]
 rfl
 }
 refine one_ (i := 11) (N := none) (bs 12 12) rfl rfl (one_of HT_.out (by kernel_rfl)) (by decide) (fun K hK => ?_)
 have hs49 : w48.cell? ⟨gb311, 0, none⟩ = some (.int .i64 0) := (blk_cell BK311.out 0).trans rfl
 have hfs49 := fX BK311 0
 have hns49_0 := NB304_311.out
 have hns49_1 := NB305_311.out
 have hms49_0 := NB311_304.out
 have hms49_1 := NB311_305.out
 have hs50 : w48.cell? ⟨gb311, 1, none⟩ = some (.int .i64 0) := (blk_cell BK311.out 1).trans rfl
 have hfs50 := fX BK311 1
 have hns50_0 := NB304_311.out
 have hns50_1 := NB305_311.out
 have hms50_0 := NB311_304.out
 have hms50_1 := NB311_305.out
 refine skip_ (w1 := ?_) (by rfl) rfl ?_ ?_
 rotate_left
 {
 go_simp
 rfl
 }
 refine hK.out _ _ ⟨((cell_far (p := ⟨gb311, _, none⟩) NB304_311.out _).trans (((cell_far (p := ⟨gb311, _, none⟩) NB304_311.out _).trans (hHeld.1)))), ((cell_far (p := ⟨gb311, _, none⟩) NB304_311.out _).trans (((cell_far (p := ⟨gb311, _, none⟩) NB304_311.out _).trans (hHeld.2))))⟩ (fun hHeld => ?_)
 clear hK K
 refine done_ (done_of HT_.out (by kernel_rfl)) ?_
 have hnb51 := NB311_304.out
 have hnc51 := NB304_311.out
 have hnb52 := NB311_305.out
 have hnc52 := NB305_311.out
 have hcz53_0 := q0 BK311
 have hcz53_1 := q1 BK311
 have hfz53_0 := fX BK311 0
 have hfz53_1 := fX BK311 1
 try go_wp2_with (first | ((with_reducible refine gate_callee (f := 100) rfl ?_); refine gsE (some 40) Try.func100 #[.agg #[.int .i64 (wrap64 (-t309)), .int .i64 t310]] ?_; (with_reducible refine (spec_IntervalOk.calls (wrap64 (-t309)) t310 false _ A28.out).mono ?_); rintro e w54 ⟨rfl, hb⟩; refine ⟨_, rfl, ?_⟩; have n0_ := mK (blk_below (g := gb304) (o := .cells #[.int .i64 a0_0, .slice A0_1 l0_1.length c0_1] 28 (0, 0)) (kF BK304 NB304_311) hb); have n1_ := mK (blk_below (g := gb305) (o := .cells #[.int .i64 0, .int .i64 0] 52 (0, 0)) (kF BK305 NB305_311) hb); have n2_ := mK (blk_below (g := gb311) (o := .cells #[.int .i64 (wrap64 (-t309)), .int .i64 t310] 52 (0, 0)) (kP2 BK311) hb); have n3_ := bB HB hb; clear BK304; clear BK305; clear BK311; clear HB; have BK304 := n0_; have BK305 := n1_; have BK311 := n2_; have HB := n3_; clear n0_ n1_ n2_ n3_; (try clear hb); (try clear hb2); (try clear hk); (try clear hi); have hnb55 := NB305_304.out; have hnc55 := NB304_305.out; have hcz56_0 := q0 BK305; have hcz56_1 := q1 BK305; have hfz56_0 := fX BK305 0; have hfz56_1 := fX BK305 1))
 refine bodyPost_ret (results_ct rfl _ _ gb305 52 #[.int .i64 0, .int .i64 0] (0, 0) _ rfl (kP2 BK305) Try.underlying52 rfl (by kernel_rfl)) rfl ?_
 exact ⟨by first | rfl | (simp [errW_none, errW_some] <;> rfl) | (simp [*, errW_none, errW_some] <;> rfl), bX HB⟩
 }
 subst c29
 rw [if_pos rfl] at H
 simp only [Option.some.injEq, Prod.mk.injEq] at H
 obtain ⟨rfl, rfl, rfl⟩ := H
 try go_wp2
 have n0_ := mK (blk_drew BK304.out)
 have n1_ := mK (blk_drew BK305.out)
 have n2_ := mK (below_drew1 HB.out)
 clear BK304
 clear BK305
 clear HB
 have BK304 := n0_
 have BK305 := n1_
 have HB := n2_
 clear n0_ n1_ n2_
 refine start_ (n := 12) (S := fun w' => w'.cell? ⟨gb304, 0, none⟩ = some (.int .i64 a0_0) ∧ w'.cell? ⟨gb304, 1, none⟩ = some (.slice A0_1 l0_1.length c0_1)) (ds := []) (bs 0 12) (by kernel_rfl) rfl (by kernel_rfl) ⟨(blk_cell BK304.out 0).trans rfl, (blk_cell BK304.out 1).trans rfl⟩ (fun hHeld => ?_); refine with_tabW spec_WindowBetween.tab3 spec_WindowBetween.bits3 (fun HT_ HW_ => ?_)
 generalize wc.drew = w30 at BK304 BK305 HB hHeld ⊢
 refine pL 1 30 #[false, true, false, false, false, false, false, false, false, false, false, false] HT_ ?_
 refine pL 2 31 #[false, true, true, false, false, false, false, false, false, false, false, false] HT_ ?_
 refine pL 6 35 #[false, true, true, false, false, false, true, false, false, false, false, false] HT_ ?_
 refine pL 7 36 #[false, true, true, false, false, false, true, true, false, false, false, false] HT_ ?_
 refine tL 0 29 #[true, true, true, false, false, false, true, true, false, false, false, false] HT_ HW_ hHeld ?_
 refine tL 5 34 #[true, true, true, false, false, true, true, true, false, false, false, false] HT_ HW_ hHeld ?_
 refine join_ (σ := Nat) 1 (bs 11 12) (fun s_ => [(32, .int .i64 t309), (37, .int .i64 t310), (8, .pointer (some ⟨s_, 0, none⟩)), (33, .int .i64 (wrap64 (-t309))), (38, .agg #[.int .i64 (wrap64 (-t309)), .int .i64 t310])]) (fun s_ w' => (w'.cell? ⟨gb304, 0, none⟩ = some (.int .i64 a0_0) ∧ w'.cell? ⟨gb304, 1, none⟩ = some (.slice A0_1 l0_1.length c0_1)) ∧ (w'.heap[gb304]? = some (.cells #[.int .i64 a0_0, .slice A0_1 l0_1.length c0_1] 28 (0, 0))) ∧ (w'.heap[gb305]? = some (.cells #[.int .i64 0, .int .i64 0] 52 (0, 0))) ∧ (w'.heap[s_]? = some (.cells #[.int .i64 0, .int .i64 0] 52 (0, 0))) ∧ (w.heap.size ≤ s_) ∧ (w.heap.size ≤ s_) ∧ (gb304 ≠ s_) ∧ (s_ ≠ gb304) ∧ (gb305 ≠ s_) ∧ (s_ ≠ gb305) ∧ (Below w.heap.size w w')) ?_ ?_
 rotate_left
 {
 intro hCont
 refine two_ (i := 3) (j := 10) (Ni := some 32) (Nj := some 8) #[true, true, true, true, false, true, true, true, false, false, false, false] #[true, true, true, false, false, true, true, true, false, false, true, false] rfl rfl rfl rfl (two_of HT_.out (by kernel_rfl)) (by decide) (by decide) (fun K hK => ?_) (fun K hK => ?_)
 {
 skip
 refine gsK Try.func105 #[.agg #[.int .i64 a0_0, .slice A0_1 l0_1.length c0_1], .int .i64 a2, .int .i64 a1] ?_
 with_reducible refine (spec_l04At.calls a0_0 _ _ l0_1 a2 a1 t309 _ ?side1 ?side2 A26.out).mono ?_
 (case side1 => exact cX HR0_1 HB)
 (case side2 => exact HC0_1.out)
 rintro e w31 ⟨rfl, hb⟩
 refine ⟨_, rfl, ?_⟩
 have n0_ := kB BK304 hb
 have n1_ := kB BK305 hb
 have n2_ := bB HB hb
 clear BK304
 clear BK305
 clear HB
 have BK304 := n0_
 have BK305 := n1_
 have HB := n2_
 clear n0_ n1_ n2_
 (try clear hb)
 (try clear hb2)
 (try clear hk)
 (try clear hi)
 refine hK.out _ _ ⟨(blk_cell BK304.out 0).trans rfl, (blk_cell BK304.out 1).trans rfl⟩ (fun hHeld => ?_)
 clear hK K
 refine norm_ (a' := ?_) ?_ ?_
 rotate_left
 {
 show Act.put _ (some 32) _ = _
 simp only [Act.put, sT, sZ, sU, i64_w, i32_w]
 rfl
 }
 refine pL 4 33 (bs 8 12) HT_ ?_
 refine two_ (i := 8) (j := 10) (Ni := some 37) (Nj := some 8) (bs 9 12) #[true, true, true, true, true, true, true, true, false, false, true, false] rfl rfl rfl rfl (two_of HT_.out (by kernel_rfl)) (by decide) (by decide) (fun K hK => ?_) (fun K hK => ?_)
 {
 skip
 refine gsK Try.func105 #[.agg #[.int .i64 a0_0, .slice A0_1 l0_1.length c0_1], .int .i64 a1, .int .i64 a2] ?_
 with_reducible refine (spec_l04At.calls a0_0 _ _ l0_1 a1 a2 t310 _ ?side1 ?side2 A27.out).mono ?_
 (case side1 => exact cX HR0_1 HB)
 (case side2 => exact HC0_1.out)
 rintro e w32 ⟨rfl, hb⟩
 refine ⟨_, rfl, ?_⟩
 have n0_ := kB BK304 hb
 have n1_ := kB BK305 hb
 have n2_ := bB HB hb
 clear BK304
 clear BK305
 clear HB
 have BK304 := n0_
 have BK305 := n1_
 have HB := n2_
 clear n0_ n1_ n2_
 (try clear hb)
 (try clear hb2)
 (try clear hk)
 (try clear hi)
 refine hK.out _ _ ⟨(blk_cell BK304.out 0).trans rfl, (blk_cell BK304.out 1).trans rfl⟩ (fun hHeld => ?_)
 clear hK K
 refine norm_ (a' := ?_) ?_ ?_
 rotate_left
 {
 show Act.put _ (some 37) _ = _
 simp only [Act.put, sT, sZ, sU, i64_w, i32_w]
 rfl
 }
 refine pL 9 38 (bs 10 12) HT_ ?_
 refine one_ (i := 10) (N := some 8) (bs 11 12) rfl rfl (one_of HT_.out (by kernel_rfl)) (by decide) (fun K hK => ?_)
 refine box_step ?hg (N := 8) ?hd (cs := #[.int .i64 0, .int .i64 0]) (t := 52) ?hr ?_; (case hd => rfl); (case hg => rfl); (case hr => go_simp <;> rfl)
 intro gb311 hg w33 hbox hb
 have n0_ := kB BK304 hb
 have n1_ := kB BK305 hb
 have n2_ := bB HB hb
 have n3_ := mK hbox
 have n4_ := mK (gX hg HB)
 have n5_ := mK (gX hg HB)
 have n6_ := mK (lX hg BK304)
 have n7_ := mK (mX hg BK304)
 have n8_ := mK (lX hg BK305)
 have n9_ := mK (mX hg BK305)
 clear BK304
 clear BK305
 clear HB
 have BK304 := n0_
 have BK305 := n1_
 have HB := n2_
 have BK311 := n3_
 have GW311 := n4_
 have GE311 := n5_
 have NB304_311 := n6_
 have NB311_304 := n7_
 have NB305_311 := n8_
 have NB311_305 := n9_
 clear n0_ n1_ n2_ n3_ n4_ n5_ n6_ n7_ n8_ n9_
 clear hb hbox hg
 refine hK.out _ _ ⟨(blk_cell BK304.out 0).trans rfl, (blk_cell BK304.out 1).trans rfl⟩ (fun hHeld => ?_)
 clear hK K
 refine norm_ (a' := ?_) ?_ ?_
 rotate_left
 {
 show Act.put _ (some 8) _ = _
 simp only [Act.put, sT, sZ, sU, i64_w, i32_w]
 rfl
 }
 exact norm_ (by simp only [putAll, Act.put, sT, sZ, sU]) (hCont (gb311) _ ⟨hHeld, BK304.out, BK305.out, BK311.out, GW311.out, GE311.out, NB304_311.out, NB311_304.out, NB305_311.out, NB311_305.out, HB.out⟩)
 }
 {
 skip
 refine box_step ?hg (N := 8) ?hd (cs := #[.int .i64 0, .int .i64 0]) (t := 52) ?hr ?_; (case hd => rfl); (case hg => rfl); (case hr => go_simp <;> rfl)
 intro gb311 hg w32 hbox hb
 have n0_ := kB BK304 hb
 have n1_ := kB BK305 hb
 have n2_ := bB HB hb
 have n3_ := mK hbox
 have n4_ := mK (gX hg HB)
 have n5_ := mK (gX hg HB)
 have n6_ := mK (lX hg BK304)
 have n7_ := mK (mX hg BK304)
 have n8_ := mK (lX hg BK305)
 have n9_ := mK (mX hg BK305)
 clear BK304
 clear BK305
 clear HB
 have BK304 := n0_
 have BK305 := n1_
 have HB := n2_
 have BK311 := n3_
 have GW311 := n4_
 have GE311 := n5_
 have NB304_311 := n6_
 have NB311_304 := n7_
 have NB305_311 := n8_
 have NB311_305 := n9_
 clear n0_ n1_ n2_ n3_ n4_ n5_ n6_ n7_ n8_ n9_
 clear hb hbox hg
 refine hK.out _ _ ⟨(blk_cell BK304.out 0).trans rfl, (blk_cell BK304.out 1).trans rfl⟩ (fun hHeld => ?_)
 clear hK K
 refine norm_ (a' := ?_) ?_ ?_
 rotate_left
 {
 show Act.put _ (some 8) _ = _
 simp only [Act.put, sT, sZ, sU, i64_w, i32_w]
 rfl
 }
 refine one_ (i := 8) (N := some 37) #[true, true, true, true, true, true, true, true, true, false, true, false] rfl rfl (one_of HT_.out (by kernel_rfl)) (by decide) (fun K hK => ?_)
 refine gsK Try.func105 #[.agg #[.int .i64 a0_0, .slice A0_1 l0_1.length c0_1], .int .i64 a1, .int .i64 a2] ?_
 with_reducible refine (spec_l04At.calls a0_0 _ _ l0_1 a1 a2 t310 _ ?side1 ?side2 A27.out).mono ?_
 (case side1 => exact cX HR0_1 HB)
 (case side2 => exact HC0_1.out)
 rintro e w33 ⟨rfl, hb⟩
 refine ⟨_, rfl, ?_⟩
 have n0_ := kB BK304 hb
 have n1_ := kB BK305 hb
 have n2_ := kB BK311 hb
 have n3_ := bB HB hb
 clear BK304
 clear BK305
 clear BK311
 clear HB
 have BK304 := n0_
 have BK305 := n1_
 have BK311 := n2_
 have HB := n3_
 clear n0_ n1_ n2_ n3_
 (try clear hb)
 (try clear hb2)
 (try clear hk)
 (try clear hi)
 refine hK.out _ _ ⟨(blk_cell BK304.out 0).trans rfl, (blk_cell BK304.out 1).trans rfl⟩ (fun hHeld => ?_)
 clear hK K
 refine norm_ (a' := ?_) ?_ ?_
 rotate_left
 {
 show Act.put _ (some 37) _ = _
 simp only [Act.put, sT, sZ, sU, i64_w, i32_w]
 rfl
 }
 refine pL 9 38 (bs 11 12) HT_ ?_
 exact norm_ (by simp only [putAll, Act.put, sT, sZ, sU]) (hCont (gb311) _ ⟨hHeld, BK304.out, BK305.out, BK311.out, GW311.out, GE311.out, NB304_311.out, NB311_304.out, NB305_311.out, NB311_305.out, HB.out⟩)
 }
 }
 {
 skip
 refine box_step ?hg (N := 8) ?hd (cs := #[.int .i64 0, .int .i64 0]) (t := 52) ?hr ?_; (case hd => rfl); (case hg => rfl); (case hr => go_simp <;> rfl)
 intro gb311 hg w31 hbox hb
 have n0_ := kB BK304 hb
 have n1_ := kB BK305 hb
 have n2_ := bB HB hb
 have n3_ := mK hbox
 have n4_ := mK (gX hg HB)
 have n5_ := mK (gX hg HB)
 have n6_ := mK (lX hg BK304)
 have n7_ := mK (mX hg BK304)
 have n8_ := mK (lX hg BK305)
 have n9_ := mK (mX hg BK305)
 clear BK304
 clear BK305
 clear HB
 have BK304 := n0_
 have BK305 := n1_
 have HB := n2_
 have BK311 := n3_
 have GW311 := n4_
 have GE311 := n5_
 have NB304_311 := n6_
 have NB311_304 := n7_
 have NB305_311 := n8_
 have NB311_305 := n9_
 clear n0_ n1_ n2_ n3_ n4_ n5_ n6_ n7_ n8_ n9_
 clear hb hbox hg
 refine hK.out _ _ ⟨(blk_cell BK304.out 0).trans rfl, (blk_cell BK304.out 1).trans rfl⟩ (fun hHeld => ?_)
 clear hK K
 refine norm_ (a' := ?_) ?_ ?_
 rotate_left
 {
 show Act.put _ (some 8) _ = _
 simp only [Act.put, sT, sZ, sU, i64_w, i32_w]
 rfl
 }
 refine one_ (i := 3) (N := some 32) #[true, true, true, true, false, true, true, true, false, false, true, false] rfl rfl (one_of HT_.out (by kernel_rfl)) (by decide) (fun K hK => ?_)
 refine gsK Try.func105 #[.agg #[.int .i64 a0_0, .slice A0_1 l0_1.length c0_1], .int .i64 a2, .int .i64 a1] ?_
 with_reducible refine (spec_l04At.calls a0_0 _ _ l0_1 a2 a1 t309 _ ?side1 ?side2 A26.out).mono ?_
 (case side1 => exact cX HR0_1 HB)
 (case side2 => exact HC0_1.out)
 rintro e w32 ⟨rfl, hb⟩
 refine ⟨_, rfl, ?_⟩
 have n0_ := kB BK304 hb
 have n1_ := kB BK305 hb
 have n2_ := kB BK311 hb
 have n3_ := bB HB hb
 clear BK304
 clear BK305
 clear BK311
 clear HB
 have BK304 := n0_
 have BK305 := n1_
 have BK311 := n2_
 have HB := n3_
 clear n0_ n1_ n2_ n3_
 (try clear hb)
 (try clear hb2)
 (try clear hk)
 (try clear hi)
 refine hK.out _ _ ⟨(blk_cell BK304.out 0).trans rfl, (blk_cell BK304.out 1).trans rfl⟩ (fun hHeld => ?_)
 clear hK K
 refine norm_ (a' := ?_) ?_ ?_
 rotate_left
 {
 show Act.put _ (some 32) _ = _
 simp only [Act.put, sT, sZ, sU, i64_w, i32_w]
 rfl
 }
 refine pL 4 33 #[true, true, true, true, true, true, true, true, false, false, true, false] HT_ ?_
 refine one_ (i := 8) (N := some 37) #[true, true, true, true, true, true, true, true, true, false, true, false] rfl rfl (one_of HT_.out (by kernel_rfl)) (by decide) (fun K hK => ?_)
 refine gsK Try.func105 #[.agg #[.int .i64 a0_0, .slice A0_1 l0_1.length c0_1], .int .i64 a1, .int .i64 a2] ?_
 with_reducible refine (spec_l04At.calls a0_0 _ _ l0_1 a1 a2 t310 _ ?side1 ?side2 A27.out).mono ?_
 (case side1 => exact cX HR0_1 HB)
 (case side2 => exact HC0_1.out)
 rintro e w33 ⟨rfl, hb⟩
 refine ⟨_, rfl, ?_⟩
 have n0_ := kB BK304 hb
 have n1_ := kB BK305 hb
 have n2_ := kB BK311 hb
 have n3_ := bB HB hb
 clear BK304
 clear BK305
 clear BK311
 clear HB
 have BK304 := n0_
 have BK305 := n1_
 have BK311 := n2_
 have HB := n3_
 clear n0_ n1_ n2_ n3_
 (try clear hb)
 (try clear hb2)
 (try clear hk)
 (try clear hi)
 refine hK.out _ _ ⟨(blk_cell BK304.out 0).trans rfl, (blk_cell BK304.out 1).trans rfl⟩ (fun hHeld => ?_)
 clear hK K
 refine norm_ (a' := ?_) ?_ ?_
 rotate_left
 {
 show Act.put _ (some 37) _ = _
 simp only [Act.put, sT, sZ, sU, i64_w, i32_w]
 rfl
 }
 refine pL 9 38 (bs 11 12) HT_ ?_
 exact norm_ (by simp only [putAll, Act.put, sT, sZ, sU]) (hCont (gb311) _ ⟨hHeld, BK304.out, BK305.out, BK311.out, GW311.out, GE311.out, NB304_311.out, NB311_304.out, NB305_311.out, NB311_305.out, HB.out⟩)
 }
 }
 rintro gb311 w34 ⟨hS_, h0_, h1_, h2_, h3_, h4_, h5_, h6_, h7_, h8_, h9_⟩
 have n0_ : Aside0 (w34.heap[gb304]? = some (.cells #[.int .i64 a0_0, .slice A0_1 l0_1.length c0_1] 28 (0, 0))) := ⟨h0_⟩
 have n1_ : Aside0 (w34.heap[gb305]? = some (.cells #[.int .i64 0, .int .i64 0] 52 (0, 0))) := ⟨h1_⟩
 have n2_ : Aside0 (w34.heap[gb311]? = some (.cells #[.int .i64 0, .int .i64 0] 52 (0, 0))) := ⟨h2_⟩
 have n3_ : Aside0 (w.heap.size ≤ gb311) := ⟨h3_⟩
 have n4_ : Aside0 (w.heap.size ≤ gb311) := ⟨h4_⟩
 have n5_ : Aside0 (gb304 ≠ gb311) := ⟨h5_⟩
 have n6_ : Aside0 (gb311 ≠ gb304) := ⟨h6_⟩
 have n7_ : Aside0 (gb305 ≠ gb311) := ⟨h7_⟩
 have n8_ : Aside0 (gb311 ≠ gb305) := ⟨h8_⟩
 have n9_ : Aside0 (Below w.heap.size w w34) := ⟨h9_⟩
 clear BK304
 clear BK305
 clear HB
 clear h0_ h1_ h2_ h3_ h4_ h5_ h6_ h7_ h8_ h9_
 have BK304 := n0_
 have BK305 := n1_
 have BK311 := n2_
 have GW311 := n3_
 have GE311 := n4_
 have NB304_311 := n5_
 have NB311_304 := n6_
 have NB305_311 := n7_
 have NB311_305 := n8_
 have HB := n9_
 clear n0_ n1_ n2_ n3_ n4_ n5_ n6_ n7_ n8_ n9_
 have hHeld : w34.cell? ⟨gb304, 0, none⟩ = some (.int .i64 a0_0) ∧ w34.cell? ⟨gb304, 1, none⟩ = some (.slice A0_1 l0_1.length c0_1) := hS_
 refine norm_ (a' := ?_) ?_ ?_
 rotate_left
 {
 simp only [putAll, Act.put, sT, sZ, sU]
 rfl
 }
 refine one_ (i := 11) (N := none) (bs 12 12) rfl rfl (one_of HT_.out (by kernel_rfl)) (by decide) (fun K hK => ?_)
 have hs35 : w34.cell? ⟨gb311, 0, none⟩ = some (.int .i64 0) := (blk_cell BK311.out 0).trans rfl
 have hfs35 := fX BK311 0
 have hns35_0 := NB304_311.out
 have hns35_1 := NB305_311.out
 have hms35_0 := NB311_304.out
 have hms35_1 := NB311_305.out
 have hs36 : w34.cell? ⟨gb311, 1, none⟩ = some (.int .i64 0) := (blk_cell BK311.out 1).trans rfl
 have hfs36 := fX BK311 1
 have hns36_0 := NB304_311.out
 have hns36_1 := NB305_311.out
 have hms36_0 := NB311_304.out
 have hms36_1 := NB311_305.out
 refine skip_ (w1 := ?_) (by rfl) rfl ?_ ?_
 rotate_left
 {
 go_simp
 rfl
 }
 refine hK.out _ _ ⟨((cell_far (p := ⟨gb311, _, none⟩) NB304_311.out _).trans (((cell_far (p := ⟨gb311, _, none⟩) NB304_311.out _).trans (hHeld.1)))), ((cell_far (p := ⟨gb311, _, none⟩) NB304_311.out _).trans (((cell_far (p := ⟨gb311, _, none⟩) NB304_311.out _).trans (hHeld.2))))⟩ (fun hHeld => ?_)
 clear hK K
 refine done_ (done_of HT_.out (by kernel_rfl)) ?_
 have hnb37 := NB311_304.out
 have hnc37 := NB304_311.out
 have hnb38 := NB311_305.out
 have hnc38 := NB305_311.out
 have hcz39_0 := q0 BK311
 have hcz39_1 := q1 BK311
 have hfz39_0 := fX BK311 0
 have hfz39_1 := fX BK311 1
 try go_wp2_with (first | ((with_reducible refine gate_callee (f := 100) rfl ?_); refine gsE (some 40) Try.func100 #[.agg #[.int .i64 (wrap64 (-t309)), .int .i64 t310]] ?_; (with_reducible refine (spec_IntervalOk.calls (wrap64 (-t309)) t310 true _ A28.out).mono ?_); rintro e w40 ⟨rfl, hb⟩; refine ⟨_, rfl, ?_⟩; have n0_ := mK (blk_below (g := gb304) (o := .cells #[.int .i64 a0_0, .slice A0_1 l0_1.length c0_1] 28 (0, 0)) (kF BK304 NB304_311) hb); have n1_ := mK (blk_below (g := gb305) (o := .cells #[.int .i64 0, .int .i64 0] 52 (0, 0)) (kF BK305 NB305_311) hb); have n2_ := mK (blk_below (g := gb311) (o := .cells #[.int .i64 (wrap64 (-t309)), .int .i64 t310] 52 (0, 0)) (kP2 BK311) hb); have n3_ := bB HB hb; clear BK304; clear BK305; clear BK311; clear HB; have BK304 := n0_; have BK305 := n1_; have BK311 := n2_; have HB := n3_; clear n0_ n1_ n2_ n3_; (try clear hb); (try clear hb2); (try clear hk); (try clear hi); have hcz41_0 := q0 BK311; have hcz41_1 := q1 BK311; have hfz41_0 := fX BK311 0; have hfz41_1 := fX BK311 1; have hnb42 := NB305_304.out; have hnc42 := NB304_305.out; have hcz43_0 := q0 BK305; have hcz43_1 := q1 BK305; have hfz43_0 := fX BK305 0; have hfz43_1 := fX BK305 1))
 refine bodyPost_ret (results_ct rfl _ _ gb305 52 #[.int .i64 (wrap64 (-t309)), .int .i64 t310] (0, 0) _ rfl (kP2 BK305) Try.underlying52 rfl (by kernel_rfl)) rfl ?_
 exact ⟨by first | rfl | (simp [errW_none, errW_some] <;> rfl) | (simp [*, errW_none, errW_some] <;> rfl), bX HB⟩
 )
 )

end Go.Proofs.Ytbbblnmngjhadaa.QFnExactLatestTimes
