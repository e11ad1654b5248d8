-- Written by this session's program wip/tools/mk.py out of the translation; Lean checks it.
import Derived.Test.YtbbblnmngjhadaaQFnExactWindowOfx0
import Derived.Test.YtbbblnmngjhadaaQFnExactWindowOfx9
import Derived.Test.YtbbblnmngjhadaaQFnExactWindowOfx11
import Derived.Test.YtbbblnmngjhadaaQFnExactWindowOfx12
namespace Go.Proofs.Ytbbblnmngjhadaa.QFnExactWindowOf
open Go.RowKit Go.Proofs.YtbbblnmngjhadaaW.PrintWords Go.Proofs.YtbbblnmngjhadaaW.PrintLast Go.Proofs.YtbbblnmngjhadaaW.PrintMore
attribute [local go_sem] max2_int min2_int max_two min_two max_three min_three max_four min_four   -- for this text's walks alone
set_option linter.unusedVariables false
set_option linter.unusedSimpArgs false

/-! ### impl_WindowBetween: function 70 -/
def impl_WindowBetween.j0 : Nat → Int → Int → Bool → Int → List Int → Option (Int × Int × Bool)
  | 0, _, _, _, _, _ => none
  | k + 1, x1, x2, x24, x400000, x400001 => if x24 = true then (some (0, 0, false)) else ((impl_Table_cell.f x400000 x400001 x2 x1).bind fun t404 => ((impl_Table_cell.f x400000 x400001 x1 x2).bind fun t405 => ((impl_checked.f (wrap64 (-t404)) t405 true).bind fun bt406 => (some (bt406.1, bt406.2.1, bt406.2.2)))))
def impl_WindowBetween.f (k : Nat) (a0_0 : Int) (l0_1 : List Int) (a1 : Int) (a2 : Int) : Option (Int × Int × Bool) := (impl_TableOk.f k a0_0 l0_1).bind fun t401 => (if t401 = true then ((impl_isNode.f a0_0 a1).bind fun t402 => (if t402 = true then ((impl_isNode.f a0_0 a2).bind fun t403 => (impl_WindowBetween.j0 k a1 a2 (!t403) a0_0 l0_1)) else (impl_WindowBetween.j0 k a1 a2 true a0_0 l0_1))) else (impl_WindowBetween.j0 k a1 a2 true a0_0 l0_1))
theorem impl_WindowBetween.mono_l : ∀ k, (∀ y0 y1 y2 y3 y4, LeO (impl_WindowBetween.j0 k y0 y1 y2 y3 y4) (impl_WindowBetween.j0 (k + 1) y0 y1 y2 y3 y4))
  | 0 => fun _ _ _ _ _ r h => by simp [impl_WindowBetween.j0] at h
  | k + 1 => by
    have ih0 := impl_WindowBetween.mono_l k
    · intro y0 y1 y2 y3 y4
      unfold impl_WindowBetween.j0
      repeat' first|(with_reducible first|exact ih0 _ _ _ _ _|exact impl_TableOk.mono _ _ _|exact lR _|exact lN _|refine lI ?_ ?_|refine lB ?_ (fun _ => ?_))|exact ih0 _ _ _ _ _|exact impl_TableOk.mono _ _ _|exact lN _|refine lI ?_ ?_|refine lB ?_ (fun _ => ?_)
theorem impl_WindowBetween.mono : ∀ a0 a1 a2 a3 k, LeO (impl_WindowBetween.f k a0 a1 a2 a3) (impl_WindowBetween.f (k + 1) a0 a1 a2 a3) := by
  intro a0 a1 a2 a3 k
  have ih0 := impl_WindowBetween.mono_l k
  unfold impl_WindowBetween.f
  repeat' first|(with_reducible first|exact ih0 _ _ _ _ _|exact impl_TableOk.mono _ _ _|exact lR _|exact lN _|refine lI ?_ ?_|refine lB ?_ (fun _ => ?_))|exact ih0 _ _ _ _ _|exact impl_TableOk.mono _ _ _|exact lN _|refine lI ?_ ?_|refine lB ?_ (fun _ => ?_)
def impl_WindowBetween.T3 : Bool × List (List Nat × List Nat) := (true, [([], []), ([], []), ([], []), ([0, 1, 2], [0, 1, 2]), ([3], [3]), ([], []), ([], []), ([], []), ([5, 6, 7, 3], [5, 6, 7]), ([4, 8], [4, 8]), ([9, 8], [9]), ([10], [10]), ([10], [10]), ([11, 10, 0, 1, 2, 3, 4, 5, 6, 7, 8, 9, 10, 11, 12], [11]), ([12, 13, 0, 1, 2, 3, 4, 5, 6, 7, 8, 9, 10, 11, 12, 13], [12])])
def impl_WindowBetween.B3 : List Nat := [0, 0, 0, 7, 15, 0, 0, 0, 239, 511, 1023, 2047, 2047, 8191, 16383]
theorem impl_WindowBetween.tab3 : rtab .any (opsOf Try.f70 3) = impl_WindowBetween.T3 := by kernel_rfl
theorem impl_WindowBetween.bits3 : waitsOk impl_WindowBetween.T3.2 impl_WindowBetween.B3 = true := by kernel_rfl
set_option maxHeartbeats 8000000 in
set_option maxRecDepth 100000 in
theorem impl_WindowBetween.calls (k : Nat) (a0_0 : Int) (A0_1 : Option Addr) (c0_1 : Nat) (l0_1 : List Int) (a1 : Int) (a2 : Int) (r1 : Int) (r2 : Int) (r3 : Bool) (w : World) (hr0_1 : Kd.C (Kd.int .i64) w A0_1 l0_1.length l0_1) (hc0_1 : l0_1.length ≤ c0_1) (h : impl_WindowBetween.f k a0_0 l0_1 a1 a2 = some (r1, r2, r3)) :
    Calls Try.prog 70 #[.agg #[.int .i64 a0_0, .slice A0_1 l0_1.length c0_1], .int .i64 a1, .int .i64 a2] w fun e w' => e = .returned (.tuple #[.agg #[.int .i64 r1, .int .i64 r2], .bool r3]) ∧ Below w.heap.size w w' := by
 have hu28 := Try.underlying28
 have hu52 := Try.underlying52
 have HR0_1 := mK hr0_1
 have HC0_1 := mK hc0_1
 clear hr0_1 hc0_1
 have HB := mK (Below.refl w.heap.size w)
 have H : ((impl_TableOk.f k a0_0 l0_1).bind fun t401 => (if t401 = true then ((impl_isNode.f a0_0 a1).bind fun t402 => (if t402 = true then ((impl_isNode.f a0_0 a2).bind fun t403 => (impl_WindowBetween.j0 k a1 a2 (!t403) a0_0 l0_1)) else (impl_WindowBetween.j0 k a1 a2 true a0_0 l0_1))) else (impl_WindowBetween.j0 k a1 a2 true a0_0 l0_1))) = some (r1, r2, r3) := h
 clear h
 have HC4 := mK H
 clear H
 go_enter Try.func70, Try.ntmps70
 go_upto_region 1 with (first | ((with_reducible refine gate_dst (N := 3) rfl ?_); refine bxE 3 #[.int .i64 a0_0, .slice A0_1 l0_1.length c0_1] 28 ?_; intro gb399 hg w5 hbox hb; have BK399 := mK hbox; have GW399 := mK (gX hg HB); have GE399 := mK (gX hg HB); replace HB := bB HB hb; clear hb hbox hg) | ((with_reducible refine gate_dst (N := 6) rfl ?_); refine bxE 6 #[.int .i64 0, .int .i64 0] 52 ?_; intro gb400 hg w6 hbox hb; have BK400 := mK hbox; have GW400 := mK (gX hg HB); have GE400 := mK (gX hg HB); replace HB := bB HB hb; have NB399_400 := mK (lX hg BK399); have NB400_399 := mK (mX hg BK399); replace BK399 := kB BK399 hb; clear hb hbox hg))
 (try simp only [Act.put, sT, sZ, sU])
 go_cut [24] (fun v24 wc => ∃ (kq : Nat) (x24_3 : Bool), v24 = .bool x24_3 ∧ Aside0 (impl_WindowBetween.j0 kq a1 a2 x24_3 a0_0 l0_1 = some (r1, r2, r3)) ∧ Aside0 (kq ≤ k) ∧ Aside0 (wc.heap[gb399]? = some (.cells #[.int .i64 a0_0, (.slice A0_1 l0_1.length c0_1)] 28 (0, 0))) ∧ Aside0 (wc.heap[gb400]? = some (.cells #[.int .i64 0, .int .i64 0] 52 (0, 0))) ∧ Aside0 (Below w.heap.size w wc))
 case first => (
 have H := HC4.out
 clear HC4
 replace H := Option.bind_eq_some_iff.mp H
 obtain ⟨t401, A70, H⟩ := H
 replace H : (if t401 = true then ((impl_isNode.f a0_0 a1).bind fun t402 => (if t402 = true then ((impl_isNode.f a0_0 a2).bind fun t403 => (impl_WindowBetween.j0 k a1 a2 (!t403) a0_0 l0_1)) else (impl_WindowBetween.j0 k a1 a2 true a0_0 l0_1))) else (impl_WindowBetween.j0 k a1 a2 true a0_0 l0_1)) = some (r1, r2, r3) := H
 have A7 := mK A70
 clear A70
 by_cases c8 : t401 = true
 rotate_left
 {
 replace c8 := Bool.eq_false_iff.mpr c8
 subst c8
 rw [if_neg (show ¬ (false = true) by decide)] at H
 have H' := mK H
 clear H
 have hnb20 := NB399_400.out
 have hnc20 := NB400_399.out
 have hcz21_0 := q0 BK399
 have hcz21_1 := q1 BK399
 have hfz21_0 := fX BK399 0
 have hfz21_1 := fX BK399 1
 go_wp2_with (first | ((with_reducible refine gate_callee (f := 45) rfl ?_); refine gsE (some 9) Try.func45 #[.agg #[.int .i64 a0_0, .slice A0_1 l0_1.length c0_1]] ?_; (with_reducible refine (impl_TableOk.calls k a0_0 _ _ l0_1 false _ ?side1 ?side2 A7.out).mono ?_); (case side1 => exact cX HR0_1 HB); (case side2 => exact HC0_1.out); rintro e w22 ⟨rfl, hb⟩; refine ⟨_, rfl, ?_⟩; replace BK399 := kB BK399 hb; replace BK400 := kB BK400 hb; replace HB := bB HB hb; (try clear hb); (try clear hb2); (try clear hk); (try clear hi)))
 go_meet
 case rel => exact ⟨_, (true), (by first | rfl | (simp; done) | (simp [*]; done)), H', ⟨by first | omega | exact Nat.le_refl _⟩, ⟨kX BK399⟩, ⟨kX BK400⟩, ⟨bX HB⟩⟩
 }
 subst c8
 rw [if_pos rfl] at H
 replace H := Option.bind_eq_some_iff.mp H
 obtain ⟨t402, A90, H⟩ := H
 replace H : (if t402 = true then ((impl_isNode.f a0_0 a2).bind fun t403 => (impl_WindowBetween.j0 k a1 a2 (!t403) a0_0 l0_1)) else (impl_WindowBetween.j0 k a1 a2 true a0_0 l0_1)) = some (r1, r2, r3) := H
 have A9 := mK A90
 clear A90
 by_cases c10 : t402 = true
 rotate_left
 {
 replace c10 := Bool.eq_false_iff.mpr c10
 subst c10
 rw [if_neg (show ¬ (false = true) by decide)] at H
 have H' := mK H
 clear H
 have hnb16 := NB399_400.out
 have hnc16 := NB400_399.out
 have hcz17_0 := q0 BK399
 have hcz17_1 := q1 BK399
 have hfz17_0 := fX BK399 0
 have hfz17_1 := fX BK399 1
 go_wp2_with (first | ((with_reducible refine gate_callee (f := 45) rfl ?_); refine gsE (some 9) Try.func45 #[.agg #[.int .i64 a0_0, .slice A0_1 l0_1.length c0_1]] ?_; (with_reducible refine (impl_TableOk.calls k a0_0 _ _ l0_1 true _ ?side1 ?side2 A7.out).mono ?_); (case side1 => exact cX HR0_1 HB); (case side2 => exact HC0_1.out); rintro e w18 ⟨rfl, hb⟩; refine ⟨_, rfl, ?_⟩; replace BK399 := kB BK399 hb; replace BK400 := kB BK400 hb; replace HB := bB HB hb; (try clear hb); (try clear hb2); (try clear hk); (try clear hi); have hcz19_0 := q0 BK399; have hcz19_1 := q1 BK399; have hfz19_0 := fX BK399 0; have hfz19_1 := fX BK399 1) | (go_at_call 79; (with_reducible refine (impl_isNode.calls a0_0 a1 false _ A9.out).mono ?_); rintro e w' ⟨rfl, ⟨nd, rfl⟩⟩))
 go_meet
 case rel => exact ⟨_, (true), (by first | rfl | (simp; done) | (simp [*]; done)), H', ⟨by first | omega | exact Nat.le_refl _⟩, ⟨kX BK399⟩, ⟨kX BK400⟩, ⟨bX HB⟩⟩
 }
 subst c10
 rw [if_pos rfl] at H
 replace H := Option.bind_eq_some_iff.mp H
 obtain ⟨t403, A110, H⟩ := H
 replace H : (impl_WindowBetween.j0 k a1 a2 (!t403) a0_0 l0_1) = some (r1, r2, r3) := H
 have A11 := mK A110
 clear A110
 have H' := mK H
 clear H
 have hnb12 := NB399_400.out
 have hnc12 := NB400_399.out
 have hcz13_0 := q0 BK399
 have hcz13_1 := q1 BK399
 have hfz13_0 := fX BK399 0
 have hfz13_1 := fX BK399 1
 go_wp2_with (first | ((with_reducible refine gate_callee (f := 45) rfl ?_); refine gsE (some 9) Try.func45 #[.agg #[.int .i64 a0_0, .slice A0_1 l0_1.length c0_1]] ?_; (with_reducible refine (impl_TableOk.calls k a0_0 _ _ l0_1 true _ ?side1 ?side2 A7.out).mono ?_); (case side1 => exact cX HR0_1 HB); (case side2 => exact HC0_1.out); rintro e w14 ⟨rfl, hb⟩; refine ⟨_, rfl, ?_⟩; replace BK399 := kB BK399 hb; replace BK400 := kB BK400 hb; replace HB := bB HB hb; (try clear hb); (try clear hb2); (try clear hk); (try clear hi); have hcz15_0 := q0 BK399; have hcz15_1 := q1 BK399; have hfz15_0 := fX BK399 0; have hfz15_1 := fX BK399 1) | (go_at_call 79; (with_reducible refine (impl_isNode.calls a0_0 a1 true _ A9.out).mono ?_); rintro e w' ⟨rfl, ⟨nd, rfl⟩⟩) | (go_at_call 79; (with_reducible refine (impl_isNode.calls a0_0 a2 t403 _ A11.out).mono ?_); rintro e w' ⟨rfl, ⟨nd, rfl⟩⟩))
 go_meet
 case rel => exact ⟨_, (!t403), (by first | rfl | (simp; done) | (simp [*]; done)), H', ⟨by first | omega | exact Nat.le_refl _⟩, ⟨kX BK399⟩, ⟨kX BK400⟩, ⟨bX HB⟩⟩
 )
 case rest => (
 clear HC4
 try clear c1
 try clear c2
 try clear p2
 try clear c4
 try clear c7
 try clear c8
 try clear c10
 try clear c12
 try clear c16
 try clear c20
 try clear hcz13_0
 try clear hcz13_1
 try clear hcz15_0
 try clear hcz15_1
 try clear hcz17_0
 try clear hcz17_1
 try clear hcz19_0
 try clear hcz19_1
 try clear hcz21_0
 try clear hcz21_1
 try clear hfz13_0
 try clear hfz13_1
 try clear hfz15_0
 try clear hfz15_1
 try clear hfz17_0
 try clear hfz17_1
 try clear hfz19_0
 try clear hfz19_1
 try clear hfz21_0
 try clear hfz21_1
 obtain ⟨kq, x24_3, rfl, HA, HJ3, BK399, BK400, HB⟩ := hcut
 cases kq with
 | zero => exact absurd HA.out (by simp [impl_WindowBetween.j0])
 | succ kj3 => (
 have H := HA.out
 clear HA
 simp only [impl_WindowBetween.j0] at H
 by_cases c23 : x24_3 = true
 {
 subst c23
 rw [if_pos rfl] at H
 simp only [Option.some.injEq, Prod.mk.injEq] at H
 obtain ⟨rfl, rfl, rfl⟩ := H
 have hnb24 := NB400_399.out
 have hnc24 := NB399_400.out
 have hcz25_0 := q0 BK400
 have hcz25_1 := q1 BK400
 have hfz25_0 := fX BK400 0
 have hfz25_1 := fX BK400 1
 go_wp2
 refine bodyPost_ret (results_ct rfl _ _ gb400 52 #[.int .i64 0, .int .i64 0] (0, 0) _ rfl (kP2 BK400) Try.underlying52 rfl (by kernel_rfl)) rfl ?_
 exact ⟨by first | rfl | (simp [errW_none, errW_some] <;> rfl) | (simp [*, errW_none, errW_some] <;> rfl), bX HB⟩
 }
 replace c23 := Bool.eq_false_iff.mpr c23
 subst c23
 rw [if_neg (show ¬ (false = true) by decide)] at H
 replace H := Option.bind_eq_some_iff.mp H
 obtain ⟨t404, A260, H⟩ := H
 replace H : ((impl_Table_cell.f a0_0 l0_1 a1 a2).bind fun t405 => ((impl_checked.f (wrap64 (-t404)) t405 true).bind fun bt406 => (some (bt406.1, bt406.2.1, bt406.2.2)))) = some (r1, r2, r3) := H
 have A26 := mK A260
 clear A260
 replace H := Option.bind_eq_some_iff.mp H
 obtain ⟨t405, A270, H⟩ := H
 replace H : ((impl_checked.f (wrap64 (-t404)) t405 true).bind fun bt406 => (some (bt406.1, bt406.2.1, bt406.2.2))) = some (r1, r2, r3) := H
 have A27 := mK A270
 clear A270
 replace H := Option.bind_eq_some_iff.mp H
 obtain ⟨⟨t406, t407, t408⟩, A280, H⟩ := H
 replace H : (some (t406, t407, t408)) = some (r1, r2, r3) := H
 have A28 := mK A280
 clear A280
 simp only [Option.some.injEq, Prod.mk.injEq] at H
 obtain ⟨rfl, rfl, rfl⟩ := H
 try go_wp2
 have n0_ := mK (blk_drew BK399.out)
 have n1_ := mK (blk_drew BK400.out)
 have n2_ := mK (below_drew1 HB.out)
 clear BK399
 clear BK400
 clear HB
 have BK399 := n0_
 have BK400 := n1_
 have HB := n2_
 clear n0_ n1_ n2_
 refine start_ (n := 15) (S := fun w' => w'.cell? ⟨gb399, 0, none⟩ = some (.int .i64 a0_0) ∧ w'.cell? ⟨gb399, 1, none⟩ = some (.slice A0_1 l0_1.length c0_1)) (ds := []) (bs 0 15) (by kernel_rfl) rfl (by kernel_rfl) ⟨(blk_cell BK399.out 0).trans rfl, (blk_cell BK399.out 1).trans rfl⟩ (fun hHeld => ?_); refine with_tabW impl_WindowBetween.tab3 impl_WindowBetween.bits3 (fun HT_ HW_ => ?_)
 generalize wc.drew = w29 at BK399 BK400 HB hHeld ⊢
 refine pL 1 27 #[false, true, false, false, false, false, false, false, false, false, false, false, false, false, false] HT_ ?_
 refine pL 2 28 #[false, true, true, false, false, false, false, false, false, false, false, false, false, false, false] HT_ ?_
 refine pL 6 32 #[false, true, true, false, false, false, true, false, false, false, false, false, false, false, false] HT_ ?_
 refine pL 7 33 #[false, true, true, false, false, false, true, true, false, false, false, false, false, false, false] HT_ ?_
 refine tL 0 26 #[true, true, true, false, false, false, true, true, false, false, false, false, false, false, false] HT_ HW_ hHeld ?_
 refine tL 5 31 #[true, true, true, false, false, true, true, true, false, false, false, false, false, false, false] HT_ HW_ hHeld ?_
 refine one_ (i := 3) (N := some 29) #[true, true, true, true, false, true, true, true, false, false, false, false, false, false, false] rfl rfl (one_of HT_.out (by kernel_rfl)) (by decide) (fun K hK => ?_)
 refine gsK Try.func83 #[.agg #[.int .i64 a0_0, .slice A0_1 l0_1.length c0_1], .int .i64 a2, .int .i64 a1] ?_
 with_reducible refine (impl_Table_cell.calls a0_0 _ _ l0_1 a2 a1 t404 _ ?side1 ?side2 A26.out).mono ?_
 (case side1 => exact cX HR0_1 HB)
 (case side2 => exact HC0_1.out)
 rintro e w30 ⟨rfl, hb⟩
 refine ⟨_, rfl, ?_⟩
 have n0_ := kB BK399 hb
 have n1_ := kB BK400 hb
 have n2_ := bB HB hb
 clear BK399
 clear BK400
 clear HB
 have BK399 := n0_
 have BK400 := n1_
 have HB := n2_
 clear n0_ n1_ n2_
 (try clear hb)
 (try clear hb2)
 (try clear hk)
 (try clear hi)
 refine hK.out _ _ ⟨(blk_cell BK399.out 0).trans rfl, (blk_cell BK399.out 1).trans rfl⟩ (fun hHeld => ?_)
 clear hK K
 refine norm_ (a' := ?_) ?_ ?_
 rotate_left
 {
 show Act.put _ (some 29) _ = _
 simp only [Act.put, sT, sZ, sU, i64_w, i32_w]
 rfl
 }
 refine pL 4 30 (bs 8 15) HT_ ?_
 refine one_ (i := 8) (N := some 34) (bs 9 15) rfl rfl (one_of HT_.out (by kernel_rfl)) (by decide) (fun K hK => ?_)
 refine gsK Try.func83 #[.agg #[.int .i64 a0_0, .slice A0_1 l0_1.length c0_1], .int .i64 a1, .int .i64 a2] ?_
 with_reducible refine (impl_Table_cell.calls a0_0 _ _ l0_1 a1 a2 t405 _ ?side1 ?side2 A27.out).mono ?_
 (case side1 => exact cX HR0_1 HB)
 (case side2 => exact HC0_1.out)
 rintro e w31 ⟨rfl, hb⟩
 refine ⟨_, rfl, ?_⟩
 have n0_ := kB BK399 hb
 have n1_ := kB BK400 hb
 have n2_ := bB HB hb
 clear BK399
 clear BK400
 clear HB
 have BK399 := n0_
 have BK400 := n1_
 have HB := n2_
 clear n0_ n1_ n2_
 (try clear hb)
 (try clear hb2)
 (try clear hk)
 (try clear hi)
 refine hK.out _ _ ⟨(blk_cell BK399.out 0).trans rfl, (blk_cell BK399.out 1).trans rfl⟩ (fun hHeld => ?_)
 clear hK K
 refine norm_ (a' := ?_) ?_ ?_
 rotate_left
 {
 show Act.put _ (some 34) _ = _
 simp only [Act.put, sT, sZ, sU, i64_w, i32_w]
 rfl
 }
 refine pL 9 35 (bs 10 15) HT_ ?_
 refine one_ (i := 10) (N := some 36) (bs 11 15) rfl rfl (one_of HT_.out (by kernel_rfl)) (by decide) (fun K hK => ?_)
 refine gsK Try.func106 #[.agg #[.int .i64 (wrap64 (-t404)), .int .i64 t405], .bool true] ?_
 with_reducible refine (impl_checked.calls (wrap64 (-t404)) t405 true t406 t407 t408 _ A28.out).mono ?_
 rintro e w32 ⟨rfl, hb⟩
 refine ⟨_, rfl, ?_⟩
 have n0_ := kB BK399 hb
 have n1_ := kB BK400 hb
 have n2_ := bB HB hb
 clear BK399
 clear BK400
 clear HB
 have BK399 := n0_
 have BK400 := n1_
 have HB := n2_
 clear n0_ n1_ n2_
 (try clear hb)
 (try clear hb2)
 (try clear hk)
 (try clear hi)
 refine hK.out _ _ ⟨(blk_cell BK399.out 0).trans rfl, (blk_cell BK399.out 1).trans rfl⟩ (fun hHeld => ?_)
 clear hK K
 refine norm_ (a' := ?_) ?_ ?_
 rotate_left
 {
 show Act.put _ (some 36) _ = _
 simp only [Act.put, sT, sZ, sU, i64_w, i32_w]
 rfl
 }
 refine pL 11 37 (bs 12 15) HT_ ?_
 refine pL 12 38 (bs 13 15) HT_ ?_
 refine one_ (i := 13) (N := none) (bs 14 15) rfl rfl (one_of HT_.out (by kernel_rfl)) (by decide) (fun K hK => ?_)
 have hs33 : w32.cell? ⟨gb400, 0, none⟩ = some (.int .i64 0) := (blk_cell BK400.out 0).trans rfl
 have hfs33 := fX BK400 0
 have hns33_0 := NB399_400.out
 have hms33_0 := NB400_399.out
 have hs34 : w32.cell? ⟨gb400, 1, none⟩ = some (.int .i64 0) := (blk_cell BK400.out 1).trans rfl
 have hfs34 := fX BK400 1
 have hns34_0 := NB399_400.out
 have hms34_0 := NB400_399.out
 refine skip_ (w1 := ?_) (by rfl) rfl ?_ ?_
 rotate_left
 {
 go_simp
 rfl
 }
 refine hK.out _ _ ⟨((cell_far (p := ⟨gb400, _, none⟩) NB399_400.out _).trans (((cell_far (p := ⟨gb400, _, none⟩) NB399_400.out _).trans (hHeld.1)))), ((cell_far (p := ⟨gb400, _, none⟩) NB399_400.out _).trans (((cell_far (p := ⟨gb400, _, none⟩) NB399_400.out _).trans (hHeld.2))))⟩ (fun hHeld => ?_)
 clear hK K
 refine pL 14 7 (bs 15 15) HT_ ?_
 refine done_ (done_of HT_.out (by kernel_rfl)) ?_
 try go_wp2
 refine bodyPost_ret (results_ct rfl _ _ gb400 52 #[.int .i64 t406, .int .i64 t407] (0, 0) _ rfl (kP2 BK400) Try.underlying52 rfl (by kernel_rfl)) rfl ?_
 exact ⟨by first | rfl | (simp [errW_none, errW_some] <;> rfl) | (simp [*, errW_none, errW_some] <;> rfl), bX HB⟩
 )
 )

/-! ### impl_WindowOf: function 27 -/
def impl_WindowOf.f (k : Nat) (a0_0 : Int) (l0_1 : List (S76)) (a1 : Int) : Option (Int × Int × Bool) := (impl_GraphOf.f k a0_0 l0_1).bind fun bt411 => ((impl_CloseGraph.f k bt411.1 bt411.2).bind fun bt415 => (if bt415.2.2 = true then ((impl_SimpleOk.f a0_0 l0_1).bind fun t421 => (if t421 = true then ((impl_WindowBetween.f k bt415.1 bt415.2.1 0 a1).bind fun bt422 => (some (bt422.1, bt422.2.1, bt422.2.2))) else (some (0, 0, false)))) else (some (0, 0, false))))
theorem impl_WindowOf.mono : ∀ a0 a1 a2 k, LeO (impl_WindowOf.f k a0 a1 a2) (impl_WindowOf.f (k + 1) a0 a1 a2) := by
  intro a0 a1 a2 k
  unfold impl_WindowOf.f
  repeat' first|(with_reducible first|exact impl_CloseGraph.mono _ _ _|exact impl_GraphOf.mono _ _ _|exact impl_WindowBetween.mono _ _ _ _ _|exact lR _|exact lN _|refine lI ?_ ?_|refine lB ?_ (fun _ => ?_))|exact impl_CloseGraph.mono _ _ _|exact impl_GraphOf.mono _ _ _|exact impl_WindowBetween.mono _ _ _ _ _|exact lN _|refine lI ?_ ?_|refine lB ?_ (fun _ => ?_)
set_option maxHeartbeats 8000000 in
set_option maxRecDepth 100000 in
theorem impl_WindowOf.calls (k : Nat) (a0_0 : Int) (A0_1 : Option Addr) (c0_1 : Nat) (l0_1 : List (S76)) (a1 : Int) (r1 : Int) (r2 : Int) (r3 : Bool) (w : World) (hr0_1 : Kd.C k76 w A0_1 l0_1.length l0_1) (hc0_1 : l0_1.length ≤ c0_1) (h : impl_WindowOf.f k a0_0 l0_1 a1 = some (r1, r2, r3)) :
    Calls Try.prog 27 #[.agg #[.int .i64 a0_0, .slice A0_1 l0_1.length c0_1], .int .i64 a1] w fun e w' => e = .returned (.tuple #[.agg #[.int .i64 r1, .int .i64 r2], .bool r3]) ∧ Below w.heap.size w w' := by
 have hu47 := Try.underlying47
 have hu52 := Try.underlying52
 have hu28 := Try.underlying28
 have HR0_1 := mK hr0_1
 have HC0_1 := mK hc0_1
 clear hr0_1 hc0_1
 have HB := mK (Below.refl w.heap.size w)
 have H : ((impl_GraphOf.f k a0_0 l0_1).bind fun bt411 => ((impl_CloseGraph.f k bt411.1 bt411.2).bind fun bt415 => (if bt415.2.2 = true then ((impl_SimpleOk.f a0_0 l0_1).bind fun t421 => (if t421 = true then ((impl_WindowBetween.f k bt415.1 bt415.2.1 0 a1).bind fun bt422 => (some (bt422.1, bt422.2.1, bt422.2.2))) else (some (0, 0, false)))) else (some (0, 0, false))))) = some (r1, r2, r3) := h
 clear h
 replace H := Option.bind_eq_some_iff.mp H
 obtain ⟨⟨t411, t412⟩, A30, H⟩ := H
 replace H : ((impl_CloseGraph.f k t411 t412).bind fun bt415 => (if bt415.2.2 = true then ((impl_SimpleOk.f a0_0 l0_1).bind fun t421 => (if t421 = true then ((impl_WindowBetween.f k bt415.1 bt415.2.1 0 a1).bind fun bt422 => (some (bt422.1, bt422.2.1, bt422.2.2))) else (some (0, 0, false)))) else (some (0, 0, false)))) = some (r1, r2, r3) := H
 have A3 := mK A30
 clear A30
 replace H := Option.bind_eq_some_iff.mp H
 obtain ⟨⟨t415, t416, t419⟩, A40, H⟩ := H
 replace H : (if t419 = true then ((impl_SimpleOk.f a0_0 l0_1).bind fun t421 => (if t421 = true then ((impl_WindowBetween.f k t415 t416 0 a1).bind fun bt422 => (some (bt422.1, bt422.2.1, bt422.2.2))) else (some (0, 0, false)))) else (some (0, 0, false))) = some (r1, r2, r3) := H
 have A4 := mK A40
 clear A40
 by_cases c5 : t419 = true
 rotate_left
 {
 replace c5 := Bool.eq_false_iff.mpr c5
 subst c5
 rw [if_neg (show ¬ (false = true) by decide)] at H
 simp only [Option.some.injEq, Prod.mk.injEq] at H
 obtain ⟨rfl, rfl, rfl⟩ := H
 go_enter Try.func27, Try.ntmps27
 go_wp2_with (first | ((with_reducible refine gate_dst (N := 2) rfl ?_); refine bxE 2 #[.int .i64 a0_0, .slice A0_1 l0_1.length c0_1] 47 ?_; intro gb409 hg w41 hbox hb; have BK409 := mK hbox; have GW409 := mK (gX hg HB); have GE409 := mK (gX hg HB); replace HB := bB HB hb; clear hb hbox hg) | ((with_reducible refine gate_dst (N := 4) rfl ?_); refine bxE 4 #[.int .i64 0, .int .i64 0] 52 ?_; intro gb410 hg w42 hbox hb; have BK410 := mK hbox; have GW410 := mK (gX hg HB); have GE410 := mK (gX hg HB); replace HB := bB HB hb; have NB409_410 := mK (lX hg BK409); have NB410_409 := mK (mX hg BK409); replace BK409 := kB BK409 hb; clear hb hbox hg; have hnb43 := NB409_410.out; have hnc43 := NB410_409.out; have hcz44_0 := q0 BK409; have hcz44_1 := q1 BK409; have hfz44_0 := fX BK409 0; have hfz44_1 := fX BK409 1) | ((with_reducible refine gate_callee (f := 67) rfl ?_); refine gsE (some 10) Try.func67 #[.agg #[.int .i64 a0_0, .slice A0_1 l0_1.length c0_1]] ?_; (with_reducible refine (impl_GraphOf.calls k a0_0 _ _ l0_1 t411 t412 _ ?side1 ?side2 A3.out).mono ?_); (case side1 => exact cX HR0_1 HB); (case side2 => exact HC0_1.out); rintro e w45 ⟨v413, rfl, ho0, hb⟩; refine ⟨_, rfl, ?_⟩; have HO414 := mK (Kd.R_lower ho0 (below_size (bX HB))); replace BK409 := kB BK409 hb; replace BK410 := kB BK410 hb; replace HB := bB HB hb; (try clear hb); (try clear hb2); (try clear hk); (try clear hi); (try clear ho0); obtain ⟨Ao46, co46, eo46⟩ := Kd.R_slice HO414.out; subst eo46) | ((with_reducible refine gate_callee (f := 15) rfl ?_); refine gsE (some 11) Try.func15 #[.agg #[.int .i64 t411, .slice Ao46 t412.length co46]] ?_; (with_reducible refine (impl_CloseGraph.calls k t411 _ _ t412 t415 t416 false _ ?side1 ?side2 A4.out).mono ?_); (case side1 => repeat (first | exact (Kd.R_reads' HO414.out).2.2 | (with_reducible refine Kd.C_alloc ?_ _) | (with_reducible refine Kd.C_drewN ?_ _) | (with_reducible refine Kd.C_drew ?_))); (case side2 => exact (Kd.R_reads' HO414.out).2.1); rintro e w47 ⟨v417, rfl, ho0, hb⟩; refine ⟨_, rfl, ?_⟩; replace HO414 := mK (Kd.R_below (rX HO414) hb); have HO418 := mK (Kd.R_lower ho0 (below_size (bX HB))); replace BK409 := kB BK409 hb; replace BK410 := kB BK410 hb; replace HB := bB HB hb; (try clear hb); (try clear hb2); (try clear hk); (try clear hi); (try clear ho0)) | ((with_reducible refine gate_dst (N := 6) rfl ?_); refine bxE 6 #[.int .i64 0, .slice none 0 0] 28 ?_; intro gb420 hg w48 hbox hb; replace HO414 := mK (Kd.R_below (rX HO414) hb); replace HO418 := mK (Kd.R_below (rX HO418) hb); have BK420 := mK hbox; have GW420 := mK (gX hg HB); have GE420 := mK (gX hg HB); replace HB := bB HB hb; have NB409_420 := mK (lX hg BK409); have NB420_409 := mK (mX hg BK409); replace BK409 := kB BK409 hb; have NB410_420 := mK (lX hg BK410); have NB420_410 := mK (mX hg BK410); replace BK410 := kB BK410 hb; clear hb hbox hg; have hnb49 := NB420_409.out; have hnc49 := NB409_420.out; have hnb50 := NB420_410.out; have hnc50 := NB410_420.out; have hcz51_0 := q0 BK420; have hcz51_1 := q1 BK420; have hfz51_0 := fX BK420 0; have hfz51_1 := fX BK420 1; obtain ⟨Ao52, co52, eo52⟩ := Kd.R_slice HO418.out; subst eo52; have hcz53_0 := q0 BK410; have hcz53_1 := q1 BK410; have hfz53_0 := fX BK410 0; have hfz53_1 := fX BK410 1))
 refine bodyPost_ret (results_ct rfl _ _ gb410 52 #[.int .i64 0, .int .i64 0] (0, 0) _ rfl (by (with_reducible repeat first|apply kN|apply kD|apply kA); refine blk_put (cs := #[.int .i64 0, .int .i64 0]) ?_ 1 _ rfl; (with_reducible repeat first|apply kN|apply kD|apply kA); refine blk_put (cs := #[.int .i64 0, .int .i64 0]) ?_ 0 _ rfl; (with_reducible repeat first|apply kN|apply kD|apply kA); refine blk_far ?_ NB410_420.out _; (with_reducible repeat first|apply kN|apply kD|apply kA); refine blk_far ?_ NB410_420.out _; (with_reducible repeat first|apply kN|apply kD|apply kA); exact BK410.out) Try.underlying52 rfl (by kernel_rfl)) rfl ?_
 exact ⟨by first | rfl | (simp [errW_none, errW_some] <;> rfl) | (simp [*, errW_none, errW_some] <;> rfl), bX HB⟩
 }
 subst c5
 rw [if_pos rfl] at H
 replace H := Option.bind_eq_some_iff.mp H
 obtain ⟨t421, A60, H⟩ := H
 replace H : (if t421 = true then ((impl_WindowBetween.f k t415 t416 0 a1).bind fun bt422 => (some (bt422.1, bt422.2.1, bt422.2.2))) else (some (0, 0, false))) = some (r1, r2, r3) := H
 have A6 := mK A60
 clear A60
 by_cases c7 : t421 = true
 rotate_left
 {
 replace c7 := Bool.eq_false_iff.mpr c7
 subst c7
 rw [if_neg (show ¬ (false = true) by decide)] at H
 simp only [Option.some.injEq, Prod.mk.injEq] at H
 obtain ⟨rfl, rfl, rfl⟩ := H
 go_enter Try.func27, Try.ntmps27
 go_wp2_with (first | ((with_reducible refine gate_dst (N := 2) rfl ?_); refine bxE 2 #[.int .i64 a0_0, .slice A0_1 l0_1.length c0_1] 47 ?_; intro gb409 hg w26 hbox hb; have BK409 := mK hbox; have GW409 := mK (gX hg HB); have GE409 := mK (gX hg HB); replace HB := bB HB hb; clear hb hbox hg) | ((with_reducible refine gate_dst (N := 4) rfl ?_); refine bxE 4 #[.int .i64 0, .int .i64 0] 52 ?_; intro gb410 hg w27 hbox hb; have BK410 := mK hbox; have GW410 := mK (gX hg HB); have GE410 := mK (gX hg HB); replace HB := bB HB hb; have NB409_410 := mK (lX hg BK409); have NB410_409 := mK (mX hg BK409); replace BK409 := kB BK409 hb; clear hb hbox hg; have hnb28 := NB409_410.out; have hnc28 := NB410_409.out; have hcz29_0 := q0 BK409; have hcz29_1 := q1 BK409; have hfz29_0 := fX BK409 0; have hfz29_1 := fX BK409 1) | ((with_reducible refine gate_callee (f := 67) rfl ?_); refine gsE (some 10) Try.func67 #[.agg #[.int .i64 a0_0, .slice A0_1 l0_1.length c0_1]] ?_; (with_reducible refine (impl_GraphOf.calls k a0_0 _ _ l0_1 t411 t412 _ ?side1 ?side2 A3.out).mono ?_); (case side1 => exact cX HR0_1 HB); (case side2 => exact HC0_1.out); rintro e w30 ⟨v413, rfl, ho0, hb⟩; refine ⟨_, rfl, ?_⟩; have HO414 := mK (Kd.R_lower ho0 (below_size (bX HB))); replace BK409 := kB BK409 hb; replace BK410 := kB BK410 hb; replace HB := bB HB hb; (try clear hb); (try clear hb2); (try clear hk); (try clear hi); (try clear ho0); obtain ⟨Ao31, co31, eo31⟩ := Kd.R_slice HO414.out; subst eo31) | ((with_reducible refine gate_callee (f := 15) rfl ?_); refine gsE (some 11) Try.func15 #[.agg #[.int .i64 t411, .slice Ao31 t412.length co31]] ?_; (with_reducible refine (impl_CloseGraph.calls k t411 _ _ t412 t415 t416 true _ ?side1 ?side2 A4.out).mono ?_); (case side1 => repeat (first | exact (Kd.R_reads' HO414.out).2.2 | (with_reducible refine Kd.C_alloc ?_ _) | (with_reducible refine Kd.C_drewN ?_ _) | (with_reducible refine Kd.C_drew ?_))); (case side2 => exact (Kd.R_reads' HO414.out).2.1); rintro e w32 ⟨v417, rfl, ho0, hb⟩; refine ⟨_, rfl, ?_⟩; replace HO414 := mK (Kd.R_below (rX HO414) hb); have HO418 := mK (Kd.R_lower ho0 (below_size (bX HB))); replace BK409 := kB BK409 hb; replace BK410 := kB BK410 hb; replace HB := bB HB hb; (try clear hb); (try clear hb2); (try clear hk); (try clear hi); (try clear ho0)) | ((with_reducible refine gate_dst (N := 6) rfl ?_); refine bxE 6 #[.int .i64 0, .slice none 0 0] 28 ?_; intro gb420 hg w33 hbox hb; replace HO414 := mK (Kd.R_below (rX HO414) hb); replace HO418 := mK (Kd.R_below (rX HO418) hb); have BK420 := mK hbox; have GW420 := mK (gX hg HB); have GE420 := mK (gX hg HB); replace HB := bB HB hb; have NB409_420 := mK (lX hg BK409); have NB420_409 := mK (mX hg BK409); replace BK409 := kB BK409 hb; have NB410_420 := mK (lX hg BK410); have NB420_410 := mK (mX hg BK410); replace BK410 := kB BK410 hb; clear hb hbox hg; have hnb34 := NB420_409.out; have hnc34 := NB409_420.out; have hnb35 := NB420_410.out; have hnc35 := NB410_420.out; have hcz36_0 := q0 BK420; have hcz36_1 := q1 BK420; have hfz36_0 := fX BK420 0; have hfz36_1 := fX BK420 1; obtain ⟨Ao37, co37, eo37⟩ := Kd.R_slice HO418.out; subst eo37; have hcz38_0 := q0 BK409; have hcz38_1 := q1 BK409; have hfz38_0 := fX BK409 0; have hfz38_1 := fX BK409 1) | (go_at_call 49; (with_reducible refine (impl_SimpleOk.calls a0_0 _ _ l0_1 false _ ?side1 ?side2 A6.out).mono ?_); (case side1 => exact Kd.C_below HR0_1.out (bX HB)); (case side2 => exact HC0_1.out); rintro e w39 ⟨rfl, hb⟩; have n0_ := mK (Kd.R_below (rF2 HO414 BK420) hb); have n1_ := mK (Kd.R_below (rF2 HO418 BK420) hb); have n2_ := mK (blk_below (g := gb409) (o := .cells #[.int .i64 a0_0, .slice A0_1 l0_1.length c0_1] 47 (0, 0)) (kF BK409 NB409_420) hb); have n3_ := mK (blk_below (g := gb410) (o := .cells #[.int .i64 0, .int .i64 0] 52 (0, 0)) (kF BK410 NB410_420) hb); have n4_ := mK (blk_below (g := gb420) (o := .cells #[.int .i64 t415, .slice Ao37 t416.length co37] 28 (0, 0)) (kP2 BK420) hb); have n5_ := bB HB hb; clear HO414; clear HO418; clear BK409; clear BK410; clear BK420; clear HB; have HO414 := n0_; have HO418 := n1_; have BK409 := n2_; have BK410 := n3_; have BK420 := n4_; have HB := n5_; clear n0_ n1_ n2_ n3_ n4_ n5_; (try clear hb); (try clear hb2); (try clear hk); (try clear hi); have hcz40_0 := q0 BK410; have hcz40_1 := q1 BK410; have hfz40_0 := fX BK410 0; have hfz40_1 := fX BK410 1))
 refine bodyPost_ret (results_ct rfl _ _ gb410 52 #[.int .i64 0, .int .i64 0] (0, 0) _ rfl (kP2 BK410) Try.underlying52 rfl (by kernel_rfl)) rfl ?_
 exact ⟨by first | rfl | (simp [errW_none, errW_some] <;> rfl) | (simp [*, errW_none, errW_some] <;> rfl), bX HB⟩
 }
 subst c7
 rw [if_pos rfl] at H
 replace H := Option.bind_eq_some_iff.mp H
 obtain ⟨⟨t422, t423, t424⟩, A80, H⟩ := H
 replace H : (some (t422, t423, t424)) = some (r1, r2, r3) := H
 have A8 := mK A80
 clear A80
 simp only [Option.some.injEq, Prod.mk.injEq] at H
 obtain ⟨rfl, rfl, rfl⟩ := H
 go_enter Try.func27, Try.ntmps27
 go_wp2_with (first | ((with_reducible refine gate_dst (N := 2) rfl ?_); refine bxE 2 #[.int .i64 a0_0, .slice A0_1 l0_1.length c0_1] 47 ?_; intro gb409 hg w9 hbox hb; have BK409 := mK hbox; have GW409 := mK (gX hg HB); have GE409 := mK (gX hg HB); replace HB := bB HB hb; clear hb hbox hg) | ((with_reducible refine gate_dst (N := 4) rfl ?_); refine bxE 4 #[.int .i64 0, .int .i64 0] 52 ?_; intro gb410 hg w10 hbox hb; have BK410 := mK hbox; have GW410 := mK (gX hg HB); have GE410 := mK (gX hg HB); replace HB := bB HB hb; have NB409_410 := mK (lX hg BK409); have NB410_409 := mK (mX hg BK409); replace BK409 := kB BK409 hb; clear hb hbox hg; have hnb11 := NB409_410.out; have hnc11 := NB410_409.out; have hcz12_0 := q0 BK409; have hcz12_1 := q1 BK409; have hfz12_0 := fX BK409 0; have hfz12_1 := fX BK409 1) | ((with_reducible refine gate_callee (f := 67) rfl ?_); refine gsE (some 10) Try.func67 #[.agg #[.int .i64 a0_0, .slice A0_1 l0_1.length c0_1]] ?_; (with_reducible refine (impl_GraphOf.calls k a0_0 _ _ l0_1 t411 t412 _ ?side1 ?side2 A3.out).mono ?_); (case side1 => exact cX HR0_1 HB); (case side2 => exact HC0_1.out); rintro e w13 ⟨v413, rfl, ho0, hb⟩; refine ⟨_, rfl, ?_⟩; have HO414 := mK (Kd.R_lower ho0 (below_size (bX HB))); replace BK409 := kB BK409 hb; replace BK410 := kB BK410 hb; replace HB := bB HB hb; (try clear hb); (try clear hb2); (try clear hk); (try clear hi); (try clear ho0); obtain ⟨Ao14, co14, eo14⟩ := Kd.R_slice HO414.out; subst eo14) | ((with_reducible refine gate_callee (f := 15) rfl ?_); refine gsE (some 11) Try.func15 #[.agg #[.int .i64 t411, .slice Ao14 t412.length co14]] ?_; (with_reducible refine (impl_CloseGraph.calls k t411 _ _ t412 t415 t416 true _ ?side1 ?side2 A4.out).mono ?_); (case side1 => repeat (first | exact (Kd.R_reads' HO414.out).2.2 | (with_reducible refine Kd.C_alloc ?_ _) | (with_reducible refine Kd.C_drewN ?_ _) | (with_reducible refine Kd.C_drew ?_))); (case side2 => exact (Kd.R_reads' HO414.out).2.1); rintro e w15 ⟨v417, rfl, ho0, hb⟩; refine ⟨_, rfl, ?_⟩; replace HO414 := mK (Kd.R_below (rX HO414) hb); have HO418 := mK (Kd.R_lower ho0 (below_size (bX HB))); replace BK409 := kB BK409 hb; replace BK410 := kB BK410 hb; replace HB := bB HB hb; (try clear hb); (try clear hb2); (try clear hk); (try clear hi); (try clear ho0)) | ((with_reducible refine gate_dst (N := 6) rfl ?_); refine bxE 6 #[.int .i64 0, .slice none 0 0] 28 ?_; intro gb420 hg w16 hbox hb; replace HO414 := mK (Kd.R_below (rX HO414) hb); replace HO418 := mK (Kd.R_below (rX HO418) hb); have BK420 := mK hbox; have GW420 := mK (gX hg HB); have GE420 := mK (gX hg HB); replace HB := bB HB hb; have NB409_420 := mK (lX hg BK409); have NB420_409 := mK (mX hg BK409); replace BK409 := kB BK409 hb; have NB410_420 := mK (lX hg BK410); have NB420_410 := mK (mX hg BK410); replace BK410 := kB BK410 hb; clear hb hbox hg; have hnb17 := NB420_409.out; have hnc17 := NB409_420.out; have hnb18 := NB420_410.out; have hnc18 := NB410_420.out; have hcz19_0 := q0 BK420; have hcz19_1 := q1 BK420; have hfz19_0 := fX BK420 0; have hfz19_1 := fX BK420 1; obtain ⟨Ao20, co20, eo20⟩ := Kd.R_slice HO418.out; subst eo20; have hcz21_0 := q0 BK409; have hcz21_1 := q1 BK409; have hfz21_0 := fX BK409 0; have hfz21_1 := fX BK409 1) | (go_at_call 49; (with_reducible refine (impl_SimpleOk.calls a0_0 _ _ l0_1 true _ ?side1 ?side2 A6.out).mono ?_); (case side1 => exact Kd.C_below HR0_1.out (bX HB)); (case side2 => exact HC0_1.out); rintro e w22 ⟨rfl, hb⟩; have n0_ := mK (Kd.R_below (rF2 HO414 BK420) hb); have n1_ := mK (Kd.R_below (rF2 HO418 BK420) hb); have n2_ := mK (blk_below (g := gb409) (o := .cells #[.int .i64 a0_0, .slice A0_1 l0_1.length c0_1] 47 (0, 0)) (kF BK409 NB409_420) hb); have n3_ := mK (blk_below (g := gb410) (o := .cells #[.int .i64 0, .int .i64 0] 52 (0, 0)) (kF BK410 NB410_420) hb); have n4_ := mK (blk_below (g := gb420) (o := .cells #[.int .i64 t415, .slice Ao20 t416.length co20] 28 (0, 0)) (kP2 BK420) hb); have n5_ := bB HB hb; clear HO414; clear HO418; clear BK409; clear BK410; clear BK420; clear HB; have HO414 := n0_; have HO418 := n1_; have BK409 := n2_; have BK410 := n3_; have BK420 := n4_; have HB := n5_; clear n0_ n1_ n2_ n3_ n4_ n5_; (try clear hb); (try clear hb2); (try clear hk); (try clear hi); have hcz23_0 := q0 BK420; have hcz23_1 := q1 BK420; have hfz23_0 := fX BK420 0; have hfz23_1 := fX BK420 1) | ((with_reducible refine gate_callee (f := 70) rfl ?_); refine gsE (some 24) Try.func70 #[.agg #[.int .i64 t415, .slice Ao20 t416.length co20], .int .i64 0, .int .i64 a1] ?_; (with_reducible refine (impl_WindowBetween.calls k t415 _ _ t416 0 a1 t422 t423 t424 _ ?side1 ?side2 A8.out).mono ?_); (case side1 => repeat (first | exact (Kd.R_reads' HO418.out).2.2 | (with_reducible refine Kd.C_alloc ?_ _) | (with_reducible refine Kd.C_drewN ?_ _) | (with_reducible refine Kd.C_drew ?_))); (case side2 => exact (Kd.R_reads' HO418.out).2.1); rintro e w24 ⟨rfl, hb⟩; refine ⟨_, rfl, ?_⟩; replace HO414 := mK (Kd.R_below (rX HO414) hb); replace HO418 := mK (Kd.R_below (rX HO418) hb); replace BK409 := kB BK409 hb; replace BK410 := kB BK410 hb; replace BK420 := kB BK420 hb; replace HB := bB HB hb; (try clear hb); (try clear hb2); (try clear hk); (try clear hi); have hcz25_0 := q0 BK410; have hcz25_1 := q1 BK410; have hfz25_0 := fX BK410 0; have hfz25_1 := fX BK410 1))
 refine bodyPost_ret (results_ct rfl _ _ gb410 52 #[.int .i64 t422, .int .i64 t423] (0, 0) _ rfl (kP2 BK410) Try.underlying52 rfl (by kernel_rfl)) rfl ?_
 exact ⟨by first | rfl | (simp [errW_none, errW_some] <;> rfl) | (simp [*, errW_none, errW_some] <;> rfl), bX HB⟩

end Go.Proofs.Ytbbblnmngjhadaa.QFnExactWindowOf
