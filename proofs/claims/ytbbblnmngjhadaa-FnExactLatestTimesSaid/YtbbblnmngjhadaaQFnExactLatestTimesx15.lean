-- Written by this session's program wip/tools/mk.py out of the translation; Lean checks it.
import Derived.Test.YtbbblnmngjhadaaQFnExactLatestTimesx0
import Derived.Test.YtbbblnmngjhadaaQFnExactLatestTimesx9
import Derived.Test.YtbbblnmngjhadaaQFnExactLatestTimesx12
import Derived.Test.YtbbblnmngjhadaaQFnExactLatestTimesx14
namespace Go.Proofs.Ytbbblnmngjhadaa.QFnExactLatestTimes
open Go.RowKit Go.Proofs.YtbbblnmngjhadaaW.PrintWords Go.Proofs.YtbbblnmngjhadaaW.PrintLast Go.Proofs.YtbbblnmngjhadaaW.PrintMore
attribute [local go_sem] max2_int min2_int max_two min_two max_three min_three max_four min_four   -- for this text's walks alone
set_option linter.unusedVariables false
set_option linter.unusedSimpArgs false

/-! ### impl_checked: function 106 -/
def impl_checked.f (a0_0 : Int) (a0_1 : Int) (a1 : Bool) : Option (Int × Int × Bool) := if a1 = true then ((impl_IntervalOk.f a0_0 a0_1).bind fun t459 => (if t459 = true then (some (a0_0, a0_1, true)) else (some (0, 0, false)))) else (some (0, 0, false))
set_option maxHeartbeats 8000000 in
set_option maxRecDepth 100000 in
theorem impl_checked.calls (a0_0 : Int) (a0_1 : Int) (a1 : Bool) (r1 : Int) (r2 : Int) (r3 : Bool) (w : World) (h : impl_checked.f a0_0 a0_1 a1 = some (r1, r2, r3)) :
    Calls Try.prog 106 #[.agg #[.int .i64 a0_0, .int .i64 a0_1], .bool a1] w fun e w' => e = .returned (.tuple #[.agg #[.int .i64 r1, .int .i64 r2], .bool r3]) ∧ Below w.heap.size w w' := by
  have hu52 := Try.underlying52
  have HB := mK (Below.refl w.heap.size w)
  have H : (if a1 = true then ((impl_IntervalOk.f a0_0 a0_1).bind fun t459 => (if t459 = true then (some (a0_0, a0_1, true)) else (some (0, 0, false)))) else (some (0, 0, false))) = some (r1, r2, r3) := h
  clear h
  by_cases c3 : a1 = true
  rotate_left
  · replace c3 := Bool.eq_false_iff.mpr c3
    subst c3
    rw [if_neg (show ¬ (false = true) by decide)] at H
    simp only [Option.some.injEq, Prod.mk.injEq] at H
    obtain ⟨rfl, rfl, rfl⟩ := H
    go_enter Try.func106, Try.ntmps106
    go_wp2_with (first | ((with_reducible refine gate_dst (N := 2) rfl ?_); refine bxE 2 #[.int .i64 a0_0, .int .i64 a0_1] 52 ?_; intro gb457 hg w19 hbox hb; have BK457 := mK hbox; have GW457 := mK (gX hg HB); have GE457 := mK (gX hg HB); replace HB := bB HB hb; clear hb hbox hg) | ((with_reducible refine gate_dst (N := 4) rfl ?_); refine bxE 4 #[.int .i64 0, .int .i64 0] 52 ?_; intro gb458 hg w20 hbox hb; have BK458 := mK hbox; have GW458 := mK (gX hg HB); have GE458 := mK (gX hg HB); replace HB := bB HB hb; have NB457_458 := mK (lX hg BK457); have NB458_457 := mK (mX hg BK457); replace BK457 := kB BK457 hb; clear hb hbox hg; have hnb21 := NB458_457.out; have hnc21 := NB457_458.out; have hcz22_0 := q0 BK458; have hcz22_1 := q1 BK458; have hfz22_0 := fX BK458 0; have hfz22_1 := fX BK458 1))
    refine bodyPost_ret (results_ct rfl _ _ gb458 52 #[.int .i64 0, .int .i64 0] (0, 0) _ rfl (kP2 BK458) Try.underlying52 rfl (by kernel_rfl)) rfl ?_
    exact ⟨by first | rfl | (simp [errW_none, errW_some] <;> rfl) | (simp [*, errW_none, errW_some] <;> rfl), bX HB⟩
  subst c3
  rw [if_pos rfl] at H
  replace H := Option.bind_eq_some_iff.mp H
  obtain ⟨t459, A40, H⟩ := H
  replace H : (if t459 = true then (some (a0_0, a0_1, true)) else (some (0, 0, false))) = some (r1, r2, r3) := H
  have A4 := mK A40
  clear A40
  by_cases c5 : t459 = true
  rotate_left
  · replace c5 := Bool.eq_false_iff.mpr c5
    subst c5
    rw [if_neg (show ¬ (false = true) by decide)] at H
    simp only [Option.some.injEq, Prod.mk.injEq] at H
    obtain ⟨rfl, rfl, rfl⟩ := H
    go_enter Try.func106, Try.ntmps106
    go_wp2_with (first | ((with_reducible refine gate_dst (N := 2) rfl ?_); refine bxE 2 #[.int .i64 a0_0, .int .i64 a0_1] 52 ?_; intro gb457 hg w13 hbox hb; have BK457 := mK hbox; have GW457 := mK (gX hg HB); have GE457 := mK (gX hg HB); replace HB := bB HB hb; clear hb hbox hg) | ((with_reducible refine gate_dst (N := 4) rfl ?_); refine bxE 4 #[.int .i64 0, .int .i64 0] 52 ?_; intro gb458 hg w14 hbox hb; have BK458 := mK hbox; have GW458 := mK (gX hg HB); have GE458 := mK (gX hg HB); replace HB := bB HB hb; have NB457_458 := mK (lX hg BK457); have NB458_457 := mK (mX hg BK457); replace BK457 := kB BK457 hb; clear hb hbox hg; have hnb15 := NB457_458.out; have hnc15 := NB458_457.out; have hcz16_0 := q0 BK457; have hcz16_1 := q1 BK457; have hfz16_0 := fX BK457 0; have hfz16_1 := fX BK457 1) | (go_at_call 90; (with_reducible refine (impl_IntervalOk.calls a0_0 a0_1 false _ A4.out).mono ?_); rintro e w17 ⟨rfl, hb⟩; replace BK457 := kB BK457 hb; replace BK458 := kB BK458 hb; replace HB := bB HB hb; (try clear hb); (try clear hb2); (try clear hk); (try clear hi); have hcz18_0 := q0 BK458; have hcz18_1 := q1 BK458; have hfz18_0 := fX BK458 0; have hfz18_1 := fX BK458 1))
    refine bodyPost_ret (results_ct rfl _ _ gb458 52 #[.int .i64 0, .int .i64 0] (0, 0) _ rfl (kP2 BK458) Try.underlying52 rfl (by kernel_rfl)) rfl ?_
    exact ⟨by first | rfl | (simp [errW_none, errW_some] <;> rfl) | (simp [*, errW_none, errW_some] <;> rfl), bX HB⟩
  subst c5
  rw [if_pos rfl] at H
  simp only [Option.some.injEq, Prod.mk.injEq] at H
  obtain ⟨rfl, rfl, rfl⟩ := H
  go_enter Try.func106, Try.ntmps106
  go_wp2_with (first | ((with_reducible refine gate_dst (N := 2) rfl ?_); refine bxE 2 #[.int .i64 a0_0, .int .i64 a0_1] 52 ?_; intro gb457 hg w6 hbox hb; have BK457 := mK hbox; have GW457 := mK (gX hg HB); have GE457 := mK (gX hg HB); replace HB := bB HB hb; clear hb hbox hg) | ((with_reducible refine gate_dst (N := 4) rfl ?_); refine bxE 4 #[.int .i64 0, .int .i64 0] 52 ?_; intro gb458 hg w7 hbox hb; have BK458 := mK hbox; have GW458 := mK (gX hg HB); have GE458 := mK (gX hg HB); replace HB := bB HB hb; have NB457_458 := mK (lX hg BK457); have NB458_457 := mK (mX hg BK457); replace BK457 := kB BK457 hb; clear hb hbox hg; have hnb8 := NB457_458.out; have hnc8 := NB458_457.out; have hcz9_0 := q0 BK457; have hcz9_1 := q1 BK457; have hfz9_0 := fX BK457 0; have hfz9_1 := fX BK457 1) | (go_at_call 90; (with_reducible refine (impl_IntervalOk.calls a0_0 a0_1 true _ A4.out).mono ?_); rintro e w10 ⟨rfl, hb⟩; replace BK457 := kB BK457 hb; replace BK458 := kB BK458 hb; replace HB := bB HB hb; (try clear hb); (try clear hb2); (try clear hk); (try clear hi); have hcz11_0 := q0 BK457; have hcz11_1 := q1 BK457; have hfz11_0 := fX BK457 0; have hfz11_1 := fX BK457 1; have hcz12_0 := q0 BK458; have hcz12_1 := q1 BK458; have hfz12_0 := fX BK458 0; have hfz12_1 := fX BK458 1))
  refine bodyPost_ret (results_ct rfl _ _ gb458 52 #[.int .i64 a0_0, .int .i64 a0_1] (0, 0) _ rfl (kP2 BK458) Try.underlying52 rfl (by kernel_rfl)) rfl ?_
  exact ⟨by first | rfl | (simp [errW_none, errW_some] <;> rfl) | (simp [*, errW_none, errW_some] <;> rfl), bX HB⟩

/-! ### impl_WindowBetween: function 70 -/
def impl_WindowBetween.j0 : Nat → Int → Int → Bool → Int → List Int → Option (Int × Int × Bool)
  | 0, _, _, _, _, _ => none
  | k + 1, x1, x2, x24, x461000, x461001 => if x24 = true then (some (0, 0, false)) else ((impl_Table_cell.f x461000 x461001 x2 x1).bind fun t465 => ((impl_Table_cell.f x461000 x461001 x1 x2).bind fun t466 => ((impl_checked.f (wrap64 (-t465)) t466 true).bind fun bt467 => (some (bt467.1, bt467.2.1, bt467.2.2)))))
def impl_WindowBetween.f (k : Nat) (a0_0 : Int) (l0_1 : List Int) (a1 : Int) (a2 : Int) : Option (Int × Int × Bool) := (impl_TableOk.f k a0_0 l0_1).bind fun t462 => (if t462 = true then ((impl_isNode.f a0_0 a1).bind fun t463 => (if t463 = true then ((impl_isNode.f a0_0 a2).bind fun t464 => (impl_WindowBetween.j0 k a1 a2 (!t464) a0_0 l0_1)) else (impl_WindowBetween.j0 k a1 a2 true a0_0 l0_1))) else (impl_WindowBetween.j0 k a1 a2 true a0_0 l0_1))
theorem impl_WindowBetween.mono_l : ∀ k, (∀ y0 y1 y2 y3 y4, LeO (impl_WindowBetween.j0 k y0 y1 y2 y3 y4) (impl_WindowBetween.j0 (k + 1) y0 y1 y2 y3 y4))
  | 0 => fun _ _ _ _ _ r h => by simp [impl_WindowBetween.j0] at h
  | k + 1 => by
    have ih0 := impl_WindowBetween.mono_l k
    · intro y0 y1 y2 y3 y4
      unfold impl_WindowBetween.j0
      repeat' first|(with_reducible first|exact ih0 _ _ _ _ _|exact impl_TableOk.mono _ _ _|exact lR _|exact lN _|refine lI ?_ ?_|refine lB ?_ (fun _ => ?_))|exact ih0 _ _ _ _ _|exact impl_TableOk.mono _ _ _|exact lN _|refine lI ?_ ?_|refine lB ?_ (fun _ => ?_)
theorem impl_WindowBetween.mono : ∀ a0 a1 a2 a3 k, LeO (impl_WindowBetween.f k a0 a1 a2 a3) (impl_WindowBetween.f (k + 1) a0 a1 a2 a3) := by
  intro a0 a1 a2 a3 k
  have ih0 := impl_WindowBetween.mono_l k
  unfold impl_WindowBetween.f
  repeat' first|(with_reducible first|exact ih0 _ _ _ _ _|exact impl_TableOk.mono _ _ _|exact lR _|exact lN _|refine lI ?_ ?_|refine lB ?_ (fun _ => ?_))|exact ih0 _ _ _ _ _|exact impl_TableOk.mono _ _ _|exact lN _|refine lI ?_ ?_|refine lB ?_ (fun _ => ?_)
def impl_WindowBetween.T3 : Bool × List (List Nat × List Nat) := (true, [([], []), ([], []), ([], []), ([0, 1, 2], [0, 1, 2]), ([3], [3]), ([], []), ([], []), ([], []), ([5, 6, 7, 3], [5, 6, 7]), ([4, 8], [4, 8]), ([9, 8], [9]), ([10], [10]), ([10], [10]), ([11, 10, 0, 1, 2, 3, 4, 5, 6, 7, 8, 9, 10, 11, 12], [11]), ([12, 13, 0, 1, 2, 3, 4, 5, 6, 7, 8, 9, 10, 11, 12, 13], [12])])
def impl_WindowBetween.B3 : List Nat := [0, 0, 0, 7, 15, 0, 0, 0, 239, 511, 1023, 2047, 2047, 8191, 16383]
theorem impl_WindowBetween.tab3 : rtab .any (opsOf Try.f70 3) = impl_WindowBetween.T3 := by kernel_rfl
theorem impl_WindowBetween.bits3 : waitsOk impl_WindowBetween.T3.2 impl_WindowBetween.B3 = true := by kernel_rfl
set_option maxHeartbeats 8000000 in
set_option maxRecDepth 100000 in
theorem impl_WindowBetween.calls (k : Nat) (a0_0 : Int) (A0_1 : Option Addr) (c0_1 : Nat) (l0_1 : List Int) (a1 : Int) (a2 : Int) (r1 : Int) (r2 : Int) (r3 : Bool) (w : World) (hr0_1 : Kd.C (Kd.int .i64) w A0_1 l0_1.length l0_1) (hc0_1 : l0_1.length ≤ c0_1) (h : impl_WindowBetween.f k a0_0 l0_1 a1 a2 = some (r1, r2, r3)) :
    Calls Try.prog 70 #[.agg #[.int .i64 a0_0, .slice A0_1 l0_1.length c0_1], .int .i64 a1, .int .i64 a2] w fun e w' => e = .returned (.tuple #[.agg #[.int .i64 r1, .int .i64 r2], .bool r3]) ∧ Below w.heap.size w w' := by
 have hu28 := Try.underlying28
 have hu52 := Try.underlying52
 have HR0_1 := mK hr0_1
 have HC0_1 := mK hc0_1
 clear hr0_1 hc0_1
 have HB := mK (Below.refl w.heap.size w)
 have H : ((impl_TableOk.f k a0_0 l0_1).bind fun t462 => (if t462 = true then ((impl_isNode.f a0_0 a1).bind fun t463 => (if t463 = true then ((impl_isNode.f a0_0 a2).bind fun t464 => (impl_WindowBetween.j0 k a1 a2 (!t464) a0_0 l0_1)) else (impl_WindowBetween.j0 k a1 a2 true a0_0 l0_1))) else (impl_WindowBetween.j0 k a1 a2 true a0_0 l0_1))) = some (r1, r2, r3) := h
 clear h
 have HC4 := mK H
 clear H
 go_enter Try.func70, Try.ntmps70
 go_upto_region 1 with (first | ((with_reducible refine gate_dst (N := 3) rfl ?_); refine bxE 3 #[.int .i64 a0_0, .slice A0_1 l0_1.length c0_1] 28 ?_; intro gb460 hg w5 hbox hb; have BK460 := mK hbox; have GW460 := mK (gX hg HB); have GE460 := mK (gX hg HB); replace HB := bB HB hb; clear hb hbox hg) | ((with_reducible refine gate_dst (N := 6) rfl ?_); refine bxE 6 #[.int .i64 0, .int .i64 0] 52 ?_; intro gb461 hg w6 hbox hb; have BK461 := mK hbox; have GW461 := mK (gX hg HB); have GE461 := mK (gX hg HB); replace HB := bB HB hb; have NB460_461 := mK (lX hg BK460); have NB461_460 := mK (mX hg BK460); replace BK460 := kB BK460 hb; clear hb hbox hg))
 (try simp only [Act.put, sT, sZ, sU])
 go_cut [24] (fun v24 wc => ∃ (kq : Nat) (x24_3 : Bool), v24 = .bool x24_3 ∧ Aside0 (impl_WindowBetween.j0 kq a1 a2 x24_3 a0_0 l0_1 = some (r1, r2, r3)) ∧ Aside0 (kq ≤ k) ∧ Aside0 (wc.heap[gb460]? = some (.cells #[.int .i64 a0_0, (.slice A0_1 l0_1.length c0_1)] 28 (0, 0))) ∧ Aside0 (wc.heap[gb461]? = some (.cells #[.int .i64 0, .int .i64 0] 52 (0, 0))) ∧ Aside0 (Below w.heap.size w wc))
 case first => (
 have H := HC4.out
 clear HC4
 replace H := Option.bind_eq_some_iff.mp H
 obtain ⟨t462, A70, H⟩ := H
 replace H : (if t462 = true then ((impl_isNode.f a0_0 a1).bind fun t463 => (if t463 = true then ((impl_isNode.f a0_0 a2).bind fun t464 => (impl_WindowBetween.j0 k a1 a2 (!t464) a0_0 l0_1)) else (impl_WindowBetween.j0 k a1 a2 true a0_0 l0_1))) else (impl_WindowBetween.j0 k a1 a2 true a0_0 l0_1)) = some (r1, r2, r3) := H
 have A7 := mK A70
 clear A70
 by_cases c8 : t462 = true
 rotate_left
 {
 replace c8 := Bool.eq_false_iff.mpr c8
 subst c8
 rw [if_neg (show ¬ (false = true) by decide)] at H
 have H' := mK H
 clear H
 have hnb20 := NB460_461.out
 have hnc20 := NB461_460.out
 have hcz21_0 := q0 BK460
 have hcz21_1 := q1 BK460
 have hfz21_0 := fX BK460 0
 have hfz21_1 := fX BK460 1
 go_wp2_with (first | ((with_reducible refine gate_callee (f := 45) rfl ?_); refine gsE (some 9) Try.func45 #[.agg #[.int .i64 a0_0, .slice A0_1 l0_1.length c0_1]] ?_; (with_reducible refine (impl_TableOk.calls k a0_0 _ _ l0_1 false _ ?side1 ?side2 A7.out).mono ?_); (case side1 => exact cX HR0_1 HB); (case side2 => exact HC0_1.out); rintro e w22 ⟨rfl, hb⟩; refine ⟨_, rfl, ?_⟩; replace BK460 := kB BK460 hb; replace BK461 := kB BK461 hb; replace HB := bB HB hb; (try clear hb); (try clear hb2); (try clear hk); (try clear hi)))
 go_meet
 case rel => exact ⟨_, (true), (by first | rfl | (simp; done) | (simp [*]; done)), H', ⟨by first | omega | exact Nat.le_refl _⟩, ⟨kX BK460⟩, ⟨kX BK461⟩, ⟨bX HB⟩⟩
 }
 subst c8
 rw [if_pos rfl] at H
 replace H := Option.bind_eq_some_iff.mp H
 obtain ⟨t463, A90, H⟩ := H
 replace H : (if t463 = true then ((impl_isNode.f a0_0 a2).bind fun t464 => (impl_WindowBetween.j0 k a1 a2 (!t464) a0_0 l0_1)) else (impl_WindowBetween.j0 k a1 a2 true a0_0 l0_1)) = some (r1, r2, r3) := H
 have A9 := mK A90
 clear A90
 by_cases c10 : t463 = true
 rotate_left
 {
 replace c10 := Bool.eq_false_iff.mpr c10
 subst c10
 rw [if_neg (show ¬ (false = true) by decide)] at H
 have H' := mK H
 clear H
 have hnb16 := NB460_461.out
 have hnc16 := NB461_460.out
 have hcz17_0 := q0 BK460
 have hcz17_1 := q1 BK460
 have hfz17_0 := fX BK460 0
 have hfz17_1 := fX BK460 1
 go_wp2_with (first | ((with_reducible refine gate_callee (f := 45) rfl ?_); refine gsE (some 9) Try.func45 #[.agg #[.int .i64 a0_0, .slice A0_1 l0_1.length c0_1]] ?_; (with_reducible refine (impl_TableOk.calls k a0_0 _ _ l0_1 true _ ?side1 ?side2 A7.out).mono ?_); (case side1 => exact cX HR0_1 HB); (case side2 => exact HC0_1.out); rintro e w18 ⟨rfl, hb⟩; refine ⟨_, rfl, ?_⟩; replace BK460 := kB BK460 hb; replace BK461 := kB BK461 hb; replace HB := bB HB hb; (try clear hb); (try clear hb2); (try clear hk); (try clear hi); have hcz19_0 := q0 BK460; have hcz19_1 := q1 BK460; have hfz19_0 := fX BK460 0; have hfz19_1 := fX BK460 1) | (go_at_call 79; (with_reducible refine (impl_isNode.calls a0_0 a1 false _ A9.out).mono ?_); rintro e w' ⟨rfl, ⟨nd, rfl⟩⟩))
 go_meet
 case rel => exact ⟨_, (true), (by first | rfl | (simp; done) | (simp [*]; done)), H', ⟨by first | omega | exact Nat.le_refl _⟩, ⟨kX BK460⟩, ⟨kX BK461⟩, ⟨bX HB⟩⟩
 }
 subst c10
 rw [if_pos rfl] at H
 replace H := Option.bind_eq_some_iff.mp H
 obtain ⟨t464, A110, H⟩ := H
 replace H : (impl_WindowBetween.j0 k a1 a2 (!t464) a0_0 l0_1) = some (r1, r2, r3) := H
 have A11 := mK A110
 clear A110
 have H' := mK H
 clear H
 have hnb12 := NB460_461.out
 have hnc12 := NB461_460.out
 have hcz13_0 := q0 BK460
 have hcz13_1 := q1 BK460
 have hfz13_0 := fX BK460 0
 have hfz13_1 := fX BK460 1
 go_wp2_with (first | ((with_reducible refine gate_callee (f := 45) rfl ?_); refine gsE (some 9) Try.func45 #[.agg #[.int .i64 a0_0, .slice A0_1 l0_1.length c0_1]] ?_; (with_reducible refine (impl_TableOk.calls k a0_0 _ _ l0_1 true _ ?side1 ?side2 A7.out).mono ?_); (case side1 => exact cX HR0_1 HB); (case side2 => exact HC0_1.out); rintro e w14 ⟨rfl, hb⟩; refine ⟨_, rfl, ?_⟩; replace BK460 := kB BK460 hb; replace BK461 := kB BK461 hb; replace HB := bB HB hb; (try clear hb); (try clear hb2); (try clear hk); (try clear hi); have hcz15_0 := q0 BK460; have hcz15_1 := q1 BK460; have hfz15_0 := fX BK460 0; have hfz15_1 := fX BK460 1) | (go_at_call 79; (with_reducible refine (impl_isNode.calls a0_0 a1 true _ A9.out).mono ?_); rintro e w' ⟨rfl, ⟨nd, rfl⟩⟩) | (go_at_call 79; (with_reducible refine (impl_isNode.calls a0_0 a2 t464 _ A11.out).mono ?_); rintro e w' ⟨rfl, ⟨nd, rfl⟩⟩))
 go_meet
 case rel => exact ⟨_, (!t464), (by first | rfl | (simp; done) | (simp [*]; done)), H', ⟨by first | omega | exact Nat.le_refl _⟩, ⟨kX BK460⟩, ⟨kX BK461⟩, ⟨bX HB⟩⟩
 )
 case rest => (
 clear HC4
 try clear c1
 try clear c2
 try clear p2
 try clear c4
 try clear c7
 try clear c8
 try clear c10
 try clear c12
 try clear c16
 try clear c20
 try clear hcz13_0
 try clear hcz13_1
 try clear hcz15_0
 try clear hcz15_1
 try clear hcz17_0
 try clear hcz17_1
 try clear hcz19_0
 try clear hcz19_1
 try clear hcz21_0
 try clear hcz21_1
 try clear hfz13_0
 try clear hfz13_1
 try clear hfz15_0
 try clear hfz15_1
 try clear hfz17_0
 try clear hfz17_1
 try clear hfz19_0
 try clear hfz19_1
 try clear hfz21_0
 try clear hfz21_1
 obtain ⟨kq, x24_3, rfl, HA, HJ3, BK460, BK461, HB⟩ := hcut
 cases kq with
 | zero => exact absurd HA.out (by simp [impl_WindowBetween.j0])
 | succ kj3 => (
 have H := HA.out
 clear HA
 simp only [impl_WindowBetween.j0] at H
 by_cases c23 : x24_3 = true
 {
 subst c23
 rw [if_pos rfl] at H
 simp only [Option.some.injEq, Prod.mk.injEq] at H
 obtain ⟨rfl, rfl, rfl⟩ := H
 have hnb24 := NB461_460.out
 have hnc24 := NB460_461.out
 have hcz25_0 := q0 BK461
 have hcz25_1 := q1 BK461
 have hfz25_0 := fX BK461 0
 have hfz25_1 := fX BK461 1
 go_wp2
 refine bodyPost_ret (results_ct rfl _ _ gb461 52 #[.int .i64 0, .int .i64 0] (0, 0) _ rfl (kP2 BK461) Try.underlying52 rfl (by kernel_rfl)) rfl ?_
 exact ⟨by first | rfl | (simp [errW_none, errW_some] <;> rfl) | (simp [*, errW_none, errW_some] <;> rfl), bX HB⟩
 }
 replace c23 := Bool.eq_false_iff.mpr c23
 subst c23
 rw [if_neg (show ¬ (false = true) by decide)] at H
 replace H := Option.bind_eq_some_iff.mp H
 obtain ⟨t465, A260, H⟩ := H
 replace H : ((impl_Table_cell.f a0_0 l0_1 a1 a2).bind fun t466 => ((impl_checked.f (wrap64 (-t465)) t466 true).bind fun bt467 => (some (bt467.1, bt467.2.1, bt467.2.2)))) = some (r1, r2, r3) := H
 have A26 := mK A260
 clear A260
 replace H := Option.bind_eq_some_iff.mp H
 obtain ⟨t466, A270, H⟩ := H
 replace H : ((impl_checked.f (wrap64 (-t465)) t466 true).bind fun bt467 => (some (bt467.1, bt467.2.1, bt467.2.2))) = some (r1, r2, r3) := H
 have A27 := mK A270
 clear A270
 replace H := Option.bind_eq_some_iff.mp H
 obtain ⟨⟨t467, t468, t469⟩, A280, H⟩ := H
 replace H : (some (t467, t468, t469)) = some (r1, r2, r3) := H
 have A28 := mK A280
 clear A280
 simp only [Option.some.injEq, Prod.mk.injEq] at H
 obtain ⟨rfl, rfl, rfl⟩ := H
 try go_wp2
 have n0_ := mK (blk_drew BK460.out)
 have n1_ := mK (blk_drew BK461.out)
 have n2_ := mK (below_drew1 HB.out)
 clear BK460
 clear BK461
 clear HB
 have BK460 := n0_
 have BK461 := n1_
 have HB := n2_
 clear n0_ n1_ n2_
 refine start_ (n := 15) (S := fun w' => w'.cell? ⟨gb460, 0, none⟩ = some (.int .i64 a0_0) ∧ w'.cell? ⟨gb460, 1, none⟩ = some (.slice A0_1 l0_1.length c0_1)) (ds := []) (bs 0 15) (by kernel_rfl) rfl (by kernel_rfl) ⟨(blk_cell BK460.out 0).trans rfl, (blk_cell BK460.out 1).trans rfl⟩ (fun hHeld => ?_); refine with_tabW impl_WindowBetween.tab3 impl_WindowBetween.bits3 (fun HT_ HW_ => ?_)
 generalize wc.drew = w29 at BK460 BK461 HB hHeld ⊢
 refine pL 1 27 #[false, true, false, false, false, false, false, false, false, false, false, false, false, false, false] HT_ ?_
 refine pL 2 28 #[false, true, true, false, false, false, false, false, false, false, false, false, false, false, false] HT_ ?_
 refine pL 6 32 #[false, true, true, false, false, false, true, false, false, false, false, false, false, false, false] HT_ ?_
 refine pL 7 33 #[false, true, true, false, false, false, true, true, false, false, false, false, false, false, false] HT_ ?_
 refine tL 0 26 #[true, true, true, false, false, false, true, true, false, false, false, false, false, false, false] HT_ HW_ hHeld ?_
 refine tL 5 31 #[true, true, true, false, false, true, true, true, false, false, false, false, false, false, false] HT_ HW_ hHeld ?_
 refine one_ (i := 3) (N := some 29) #[true, true, true, true, false, true, true, true, false, false, false, false, false, false, false] rfl rfl (one_of HT_.out (by kernel_rfl)) (by decide) (fun K hK => ?_)
 refine gsK Try.func83 #[.agg #[.int .i64 a0_0, .slice A0_1 l0_1.length c0_1], .int .i64 a2, .int .i64 a1] ?_
 with_reducible refine (impl_Table_cell.calls a0_0 _ _ l0_1 a2 a1 t465 _ ?side1 ?side2 A26.out).mono ?_
 (case side1 => exact cX HR0_1 HB)
 (case side2 => exact HC0_1.out)
 rintro e w30 ⟨rfl, hb⟩
 refine ⟨_, rfl, ?_⟩
 have n0_ := kB BK460 hb
 have n1_ := kB BK461 hb
 have n2_ := bB HB hb
 clear BK460
 clear BK461
 clear HB
 have BK460 := n0_
 have BK461 := n1_
 have HB := n2_
 clear n0_ n1_ n2_
 (try clear hb)
 (try clear hb2)
 (try clear hk)
 (try clear hi)
 refine hK.out _ _ ⟨(blk_cell BK460.out 0).trans rfl, (blk_cell BK460.out 1).trans rfl⟩ (fun hHeld => ?_)
 clear hK K
 refine norm_ (a' := ?_) ?_ ?_
 rotate_left
 {
 show Act.put _ (some 29) _ = _
 simp only [Act.put, sT, sZ, sU, i64_w, i32_w]
 rfl
 }
 refine pL 4 30 (bs 8 15) HT_ ?_
 refine one_ (i := 8) (N := some 34) (bs 9 15) rfl rfl (one_of HT_.out (by kernel_rfl)) (by decide) (fun K hK => ?_)
 refine gsK Try.func83 #[.agg #[.int .i64 a0_0, .slice A0_1 l0_1.length c0_1], .int .i64 a1, .int .i64 a2] ?_
 with_reducible refine (impl_Table_cell.calls a0_0 _ _ l0_1 a1 a2 t466 _ ?side1 ?side2 A27.out).mono ?_
 (case side1 => exact cX HR0_1 HB)
 (case side2 => exact HC0_1.out)
 rintro e w31 ⟨rfl, hb⟩
 refine ⟨_, rfl, ?_⟩
 have n0_ := kB BK460 hb
 have n1_ := kB BK461 hb
 have n2_ := bB HB hb
 clear BK460
 clear BK461
 clear HB
 have BK460 := n0_
 have BK461 := n1_
 have HB := n2_
 clear n0_ n1_ n2_
 (try clear hb)
 (try clear hb2)
 (try clear hk)
 (try clear hi)
 refine hK.out _ _ ⟨(blk_cell BK460.out 0).trans rfl, (blk_cell BK460.out 1).trans rfl⟩ (fun hHeld => ?_)
 clear hK K
 refine norm_ (a' := ?_) ?_ ?_
 rotate_left
 {
 show Act.put _ (some 34) _ = _
 simp only [Act.put, sT, sZ, sU, i64_w, i32_w]
 rfl
 }
 refine pL 9 35 (bs 10 15) HT_ ?_
 refine one_ (i := 10) (N := some 36) (bs 11 15) rfl rfl (one_of HT_.out (by kernel_rfl)) (by decide) (fun K hK => ?_)
 refine gsK Try.func106 #[.agg #[.int .i64 (wrap64 (-t465)), .int .i64 t466], .bool true] ?_
 with_reducible refine (impl_checked.calls (wrap64 (-t465)) t466 true t467 t468 t469 _ A28.out).mono ?_
 rintro e w32 ⟨rfl, hb⟩
 refine ⟨_, rfl, ?_⟩
 have n0_ := kB BK460 hb
 have n1_ := kB BK461 hb
 have n2_ := bB HB hb
 clear BK460
 clear BK461
 clear HB
 have BK460 := n0_
 have BK461 := n1_
 have HB := n2_
 clear n0_ n1_ n2_
 (try clear hb)
 (try clear hb2)
 (try clear hk)
 (try clear hi)
 refine hK.out _ _ ⟨(blk_cell BK460.out 0).trans rfl, (blk_cell BK460.out 1).trans rfl⟩ (fun hHeld => ?_)
 clear hK K
 refine norm_ (a' := ?_) ?_ ?_
 rotate_left
 {
 show Act.put _ (some 36) _ = _
 simp only [Act.put, sT, sZ, sU, i64_w, i32_w]
 rfl
 }
 refine pL 11 37 (bs 12 15) HT_ ?_
 refine pL 12 38 (bs 13 15) HT_ ?_
 refine one_ (i := 13) (N := none) (bs 14 15) rfl rfl (one_of HT_.out (by kernel_rfl)) (by decide) (fun K hK => ?_)
 have hs33 : w32.cell? ⟨gb461, 0, none⟩ = some (.int .i64 0) := (blk_cell BK461.out 0).trans rfl
 have hfs33 := fX BK461 0
 have hns33_0 := NB460_461.out
 have hms33_0 := NB461_460.out
 have hs34 : w32.cell? ⟨gb461, 1, none⟩ = some (.int .i64 0) := (blk_cell BK461.out 1).trans rfl
 have hfs34 := fX BK461 1
 have hns34_0 := NB460_461.out
 have hms34_0 := NB461_460.out
 refine skip_ (w1 := ?_) (by rfl) rfl ?_ ?_
 rotate_left
 {
 go_simp
 rfl
 }
 refine hK.out _ _ ⟨((cell_far (p := ⟨gb461, _, none⟩) NB460_461.out _).trans (((cell_far (p := ⟨gb461, _, none⟩) NB460_461.out _).trans (hHeld.1)))), ((cell_far (p := ⟨gb461, _, none⟩) NB460_461.out _).trans (((cell_far (p := ⟨gb461, _, none⟩) NB460_461.out _).trans (hHeld.2))))⟩ (fun hHeld => ?_)
 clear hK K
 refine pL 14 7 (bs 15 15) HT_ ?_
 refine done_ (done_of HT_.out (by kernel_rfl)) ?_
 try go_wp2
 refine bodyPost_ret (results_ct rfl _ _ gb461 52 #[.int .i64 t467, .int .i64 t468] (0, 0) _ rfl (kP2 BK461) Try.underlying52 rfl (by kernel_rfl)) rfl ?_
 exact ⟨by first | rfl | (simp [errW_none, errW_some] <;> rfl) | (simp [*, errW_none, errW_some] <;> rfl), bX HB⟩
 )
 )

/-! ### impl_WindowOf: function 27 -/
def impl_WindowOf.f (k : Nat) (a0_0 : Int) (l0_1 : List (S76)) (a1 : Int) : Option (Int × Int × Bool) := (impl_GraphOf.f k a0_0 l0_1).bind fun bt472 => ((impl_CloseGraph.f k bt472.1 bt472.2).bind fun bt476 => (if bt476.2.2 = true then ((impl_SimpleOk.f a0_0 l0_1).bind fun t482 => (if t482 = true then ((impl_WindowBetween.f k bt476.1 bt476.2.1 0 a1).bind fun bt483 => (some (bt483.1, bt483.2.1, bt483.2.2))) else (some (0, 0, false)))) else (some (0, 0, false))))
theorem impl_WindowOf.mono : ∀ a0 a1 a2 k, LeO (impl_WindowOf.f k a0 a1 a2) (impl_WindowOf.f (k + 1) a0 a1 a2) := by
  intro a0 a1 a2 k
  unfold impl_WindowOf.f
  repeat' first|(with_reducible first|exact impl_CloseGraph.mono _ _ _|exact impl_GraphOf.mono _ _ _|exact impl_WindowBetween.mono _ _ _ _ _|exact lR _|exact lN _|refine lI ?_ ?_|refine lB ?_ (fun _ => ?_))|exact impl_CloseGraph.mono _ _ _|exact impl_GraphOf.mono _ _ _|exact impl_WindowBetween.mono _ _ _ _ _|exact lN _|refine lI ?_ ?_|refine lB ?_ (fun _ => ?_)
set_option maxHeartbeats 8000000 in
set_option maxRecDepth 100000 in
theorem impl_WindowOf.calls (k : Nat) (a0_0 : Int) (A0_1 : Option Addr) (c0_1 : Nat) (l0_1 : List (S76)) (a1 : Int) (r1 : Int) (r2 : Int) (r3 : Bool) (w : World) (hr0_1 : Kd.C k76 w A0_1 l0_1.length l0_1) (hc0_1 : l0_1.length ≤ c0_1) (h : impl_WindowOf.f k a0_0 l0_1 a1 = some (r1, r2, r3)) :
    Calls Try.prog 27 #[.agg #[.int .i64 a0_0, .slice A0_1 l0_1.length c0_1], .int .i64 a1] w fun e w' => e = .returned (.tuple #[.agg #[.int .i64 r1, .int .i64 r2], .bool r3]) ∧ Below w.heap.size w w' := by
 have hu47 := Try.underlying47
 have hu52 := Try.underlying52
 have hu28 := Try.underlying28
 have HR0_1 := mK hr0_1
 have HC0_1 := mK hc0_1
 clear hr0_1 hc0_1
 have HB := mK (Below.refl w.heap.size w)
 have H : ((impl_GraphOf.f k a0_0 l0_1).bind fun bt472 => ((impl_CloseGraph.f k bt472.1 bt472.2).bind fun bt476 => (if bt476.2.2 = true then ((impl_SimpleOk.f a0_0 l0_1).bind fun t482 => (if t482 = true then ((impl_WindowBetween.f k bt476.1 bt476.2.1 0 a1).bind fun bt483 => (some (bt483.1, bt483.2.1, bt483.2.2))) else (some (0, 0, false)))) else (some (0, 0, false))))) = some (r1, r2, r3) := h
 clear h
 replace H := Option.bind_eq_some_iff.mp H
 obtain ⟨⟨t472, t473⟩, A30, H⟩ := H
 replace H : ((impl_CloseGraph.f k t472 t473).bind fun bt476 => (if bt476.2.2 = true then ((impl_SimpleOk.f a0_0 l0_1).bind fun t482 => (if t482 = true then ((impl_WindowBetween.f k bt476.1 bt476.2.1 0 a1).bind fun bt483 => (some (bt483.1, bt483.2.1, bt483.2.2))) else (some (0, 0, false)))) else (some (0, 0, false)))) = some (r1, r2, r3) := H
 have A3 := mK A30
 clear A30
 replace H := Option.bind_eq_some_iff.mp H
 obtain ⟨⟨t476, t477, t480⟩, A40, H⟩ := H
 replace H : (if t480 = true then ((impl_SimpleOk.f a0_0 l0_1).bind fun t482 => (if t482 = true then ((impl_WindowBetween.f k t476 t477 0 a1).bind fun bt483 => (some (bt483.1, bt483.2.1, bt483.2.2))) else (some (0, 0, false)))) else (some (0, 0, false))) = some (r1, r2, r3) := H
 have A4 := mK A40
 clear A40
 by_cases c5 : t480 = true
 rotate_left
 {
 replace c5 := Bool.eq_false_iff.mpr c5
 subst c5
 rw [if_neg (show ¬ (false = true) by decide)] at H
 simp only [Option.some.injEq, Prod.mk.injEq] at H
 obtain ⟨rfl, rfl, rfl⟩ := H
 go_enter Try.func27, Try.ntmps27
 go_wp2_with (first | ((with_reducible refine gate_dst (N := 2) rfl ?_); refine bxE 2 #[.int .i64 a0_0, .slice A0_1 l0_1.length c0_1] 47 ?_; intro gb470 hg w41 hbox hb; have BK470 := mK hbox; have GW470 := mK (gX hg HB); have GE470 := mK (gX hg HB); replace HB := bB HB hb; clear hb hbox hg) | ((with_reducible refine gate_dst (N := 4) rfl ?_); refine bxE 4 #[.int .i64 0, .int .i64 0] 52 ?_; intro gb471 hg w42 hbox hb; have BK471 := mK hbox; have GW471 := mK (gX hg HB); have GE471 := mK (gX hg HB); replace HB := bB HB hb; have NB470_471 := mK (lX hg BK470); have NB471_470 := mK (mX hg BK470); replace BK470 := kB BK470 hb; clear hb hbox hg; have hnb43 := NB470_471.out; have hnc43 := NB471_470.out; have hcz44_0 := q0 BK470; have hcz44_1 := q1 BK470; have hfz44_0 := fX BK470 0; have hfz44_1 := fX BK470 1) | ((with_reducible refine gate_callee (f := 67) rfl ?_); refine gsE (some 10) Try.func67 #[.agg #[.int .i64 a0_0, .slice A0_1 l0_1.length c0_1]] ?_; (with_reducible refine (impl_GraphOf.calls k a0_0 _ _ l0_1 t472 t473 _ ?side1 ?side2 A3.out).mono ?_); (case side1 => exact cX HR0_1 HB); (case side2 => exact HC0_1.out); rintro e w45 ⟨v474, rfl, ho0, hb⟩; refine ⟨_, rfl, ?_⟩; have HO475 := mK (Kd.R_lower ho0 (below_size (bX HB))); replace BK470 := kB BK470 hb; replace BK471 := kB BK471 hb; replace HB := bB HB hb; (try clear hb); (try clear hb2); (try clear hk); (try clear hi); (try clear ho0); obtain ⟨Ao46, co46, eo46⟩ := Kd.R_slice HO475.out; subst eo46) | ((with_reducible refine gate_callee (f := 15) rfl ?_); refine gsE (some 11) Try.func15 #[.agg #[.int .i64 t472, .slice Ao46 t473.length co46]] ?_; (with_reducible refine (impl_CloseGraph.calls k t472 _ _ t473 t476 t477 false _ ?side1 ?side2 A4.out).mono ?_); (case side1 => repeat (first | exact (Kd.R_reads' HO475.out).2.2 | (with_reducible refine Kd.C_alloc ?_ _) | (with_reducible refine Kd.C_drewN ?_ _) | (with_reducible refine Kd.C_drew ?_))); (case side2 => exact (Kd.R_reads' HO475.out).2.1); rintro e w47 ⟨v478, rfl, ho0, hb⟩; refine ⟨_, rfl, ?_⟩; replace HO475 := mK (Kd.R_below (rX HO475) hb); have HO479 := mK (Kd.R_lower ho0 (below_size (bX HB))); replace BK470 := kB BK470 hb; replace BK471 := kB BK471 hb; replace HB := bB HB hb; (try clear hb); (try clear hb2); (try clear hk); (try clear hi); (try clear ho0)) | ((with_reducible refine gate_dst (N := 6) rfl ?_); refine bxE 6 #[.int .i64 0, .slice none 0 0] 28 ?_; intro gb481 hg w48 hbox hb; replace HO475 := mK (Kd.R_below (rX HO475) hb); replace HO479 := mK (Kd.R_below (rX HO479) hb); have BK481 := mK hbox; have GW481 := mK (gX hg HB); have GE481 := mK (gX hg HB); replace HB := bB HB hb; have NB470_481 := mK (lX hg BK470); have NB481_470 := mK (mX hg BK470); replace BK470 := kB BK470 hb; have NB471_481 := mK (lX hg BK471); have NB481_471 := mK (mX hg BK471); replace BK471 := kB BK471 hb; clear hb hbox hg; have hnb49 := NB481_470.out; have hnc49 := NB470_481.out; have hnb50 := NB481_471.out; have hnc50 := NB471_481.out; have hcz51_0 := q0 BK481; have hcz51_1 := q1 BK481; have hfz51_0 := fX BK481 0; have hfz51_1 := fX BK481 1; obtain ⟨Ao52, co52, eo52⟩ := Kd.R_slice HO479.out; subst eo52; have hcz53_0 := q0 BK471; have hcz53_1 := q1 BK471; have hfz53_0 := fX BK471 0; have hfz53_1 := fX BK471 1))
 refine bodyPost_ret (results_ct rfl _ _ gb471 52 #[.int .i64 0, .int .i64 0] (0, 0) _ rfl (by (with_reducible repeat first|apply kN|apply kD|apply kA); refine blk_put (cs := #[.int .i64 0, .int .i64 0]) ?_ 1 _ rfl; (with_reducible repeat first|apply kN|apply kD|apply kA); refine blk_put (cs := #[.int .i64 0, .int .i64 0]) ?_ 0 _ rfl; (with_reducible repeat first|apply kN|apply kD|apply kA); refine blk_far ?_ NB471_481.out _; (with_reducible repeat first|apply kN|apply kD|apply kA); refine blk_far ?_ NB471_481.out _; (with_reducible repeat first|apply kN|apply kD|apply kA); exact BK471.out) Try.underlying52 rfl (by kernel_rfl)) rfl ?_
 exact ⟨by first | rfl | (simp [errW_none, errW_some] <;> rfl) | (simp [*, errW_none, errW_some] <;> rfl), bX HB⟩
 }
 subst c5
 rw [if_pos rfl] at H
 replace H := Option.bind_eq_some_iff.mp H
 obtain ⟨t482, A60, H⟩ := H
 replace H : (if t482 = true then ((impl_WindowBetween.f k t476 t477 0 a1).bind fun bt483 => (some (bt483.1, bt483.2.1, bt483.2.2))) else (some (0, 0, false))) = some (r1, r2, r3) := H
 have A6 := mK A60
 clear A60
 by_cases c7 : t482 = true
 rotate_left
 {
 replace c7 := Bool.eq_false_iff.mpr c7
 subst c7
 rw [if_neg (show ¬ (false = true) by decide)] at H
 simp only [Option.some.injEq, Prod.mk.injEq] at H
 obtain ⟨rfl, rfl, rfl⟩ := H
 go_enter Try.func27, Try.ntmps27
 go_wp2_with (first | ((with_reducible refine gate_dst (N := 2) rfl ?_); refine bxE 2 #[.int .i64 a0_0, .slice A0_1 l0_1.length c0_1] 47 ?_; intro gb470 hg w26 hbox hb; have BK470 := mK hbox; have GW470 := mK (gX hg HB); have GE470 := mK (gX hg HB); replace HB := bB HB hb; clear hb hbox hg) | ((with_reducible refine gate_dst (N := 4) rfl ?_); refine bxE 4 #[.int .i64 0, .int .i64 0] 52 ?_; intro gb471 hg w27 hbox hb; have BK471 := mK hbox; have GW471 := mK (gX hg HB); have GE471 := mK (gX hg HB); replace HB := bB HB hb; have NB470_471 := mK (lX hg BK470); have NB471_470 := mK (mX hg BK470); replace BK470 := kB BK470 hb; clear hb hbox hg; have hnb28 := NB470_471.out; have hnc28 := NB471_470.out; have hcz29_0 := q0 BK470; have hcz29_1 := q1 BK470; have hfz29_0 := fX BK470 0; have hfz29_1 := fX BK470 1) | ((with_reducible refine gate_callee (f := 67) rfl ?_); refine gsE (some 10) Try.func67 #[.agg #[.int .i64 a0_0, .slice A0_1 l0_1.length c0_1]] ?_; (with_reducible refine (impl_GraphOf.calls k a0_0 _ _ l0_1 t472 t473 _ ?side1 ?side2 A3.out).mono ?_); (case side1 => exact cX HR0_1 HB); (case side2 => exact HC0_1.out); rintro e w30 ⟨v474, rfl, ho0, hb⟩; refine ⟨_, rfl, ?_⟩; have HO475 := mK (Kd.R_lower ho0 (below_size (bX HB))); replace BK470 := kB BK470 hb; replace BK471 := kB BK471 hb; replace HB := bB HB hb; (try clear hb); (try clear hb2); (try clear hk); (try clear hi); (try clear ho0); obtain ⟨Ao31, co31, eo31⟩ := Kd.R_slice HO475.out; subst eo31) | ((with_reducible refine gate_callee (f := 15) rfl ?_); refine gsE (some 11) Try.func15 #[.agg #[.int .i64 t472, .slice Ao31 t473.length co31]] ?_; (with_reducible refine (impl_CloseGraph.calls k t472 _ _ t473 t476 t477 true _ ?side1 ?side2 A4.out).mono ?_); (case side1 => repeat (first | exact (Kd.R_reads' HO475.out).2.2 | (with_reducible refine Kd.C_alloc ?_ _) | (with_reducible refine Kd.C_drewN ?_ _) | (with_reducible refine Kd.C_drew ?_))); (case side2 => exact (Kd.R_reads' HO475.out).2.1); rintro e w32 ⟨v478, rfl, ho0, hb⟩; refine ⟨_, rfl, ?_⟩; replace HO475 := mK (Kd.R_below (rX HO475) hb); have HO479 := mK (Kd.R_lower ho0 (below_size (bX HB))); replace BK470 := kB BK470 hb; replace BK471 := kB BK471 hb; replace HB := bB HB hb; (try clear hb); (try clear hb2); (try clear hk); (try clear hi); (try clear ho0)) | ((with_reducible refine gate_dst (N := 6) rfl ?_); refine bxE 6 #[.int .i64 0, .slice none 0 0] 28 ?_; intro gb481 hg w33 hbox hb; replace HO475 := mK (Kd.R_below (rX HO475) hb); replace HO479 := mK (Kd.R_below (rX HO479) hb); have BK481 := mK hbox; have GW481 := mK (gX hg HB); have GE481 := mK (gX hg HB); replace HB := bB HB hb; have NB470_481 := mK (lX hg BK470); have NB481_470 := mK (mX hg BK470); replace BK470 := kB BK470 hb; have NB471_481 := mK (lX hg BK471); have NB481_471 := mK (mX hg BK471); replace BK471 := kB BK471 hb; clear hb hbox hg; have hnb34 := NB481_470.out; have hnc34 := NB470_481.out; have hnb35 := NB481_471.out; have hnc35 := NB471_481.out; have hcz36_0 := q0 BK481; have hcz36_1 := q1 BK481; have hfz36_0 := fX BK481 0; have hfz36_1 := fX BK481 1; obtain ⟨Ao37, co37, eo37⟩ := Kd.R_slice HO479.out; subst eo37; have hcz38_0 := q0 BK470; have hcz38_1 := q1 BK470; have hfz38_0 := fX BK470 0; have hfz38_1 := fX BK470 1) | (go_at_call 49; (with_reducible refine (impl_SimpleOk.calls a0_0 _ _ l0_1 false _ ?side1 ?side2 A6.out).mono ?_); (case side1 => exact Kd.C_below HR0_1.out (bX HB)); (case side2 => exact HC0_1.out); rintro e w39 ⟨rfl, hb⟩; have n0_ := mK (Kd.R_below (rF2 HO475 BK481) hb); have n1_ := mK (Kd.R_below (rF2 HO479 BK481) hb); have n2_ := mK (blk_below (g := gb470) (o := .cells #[.int .i64 a0_0, .slice A0_1 l0_1.length c0_1] 47 (0, 0)) (kF BK470 NB470_481) hb); have n3_ := mK (blk_below (g := gb471) (o := .cells #[.int .i64 0, .int .i64 0] 52 (0, 0)) (kF BK471 NB471_481) hb); have n4_ := mK (blk_below (g := gb481) (o := .cells #[.int .i64 t476, .slice Ao37 t477.length co37] 28 (0, 0)) (kP2 BK481) hb); have n5_ := bB HB hb; clear HO475; clear HO479; clear BK470; clear BK471; clear BK481; clear HB; have HO475 := n0_; have HO479 := n1_; have BK470 := n2_; have BK471 := n3_; have BK481 := n4_; have HB := n5_; clear n0_ n1_ n2_ n3_ n4_ n5_; (try clear hb); (try clear hb2); (try clear hk); (try clear hi); have hcz40_0 := q0 BK471; have hcz40_1 := q1 BK471; have hfz40_0 := fX BK471 0; have hfz40_1 := fX BK471 1))
 refine bodyPost_ret (results_ct rfl _ _ gb471 52 #[.int .i64 0, .int .i64 0] (0, 0) _ rfl (kP2 BK471) Try.underlying52 rfl (by kernel_rfl)) rfl ?_
 exact ⟨by first | rfl | (simp [errW_none, errW_some] <;> rfl) | (simp [*, errW_none, errW_some] <;> rfl), bX HB⟩
 }
 subst c7
 rw [if_pos rfl] at H
 replace H := Option.bind_eq_some_iff.mp H
 obtain ⟨⟨t483, t484, t485⟩, A80, H⟩ := H
 replace H : (some (t483, t484, t485)) = some (r1, r2, r3) := H
 have A8 := mK A80
 clear A80
 simp only [Option.some.injEq, Prod.mk.injEq] at H
 obtain ⟨rfl, rfl, rfl⟩ := H
 go_enter Try.func27, Try.ntmps27
 go_wp2_with (first | ((with_reducible refine gate_dst (N := 2) rfl ?_); refine bxE 2 #[.int .i64 a0_0, .slice A0_1 l0_1.length c0_1] 47 ?_; intro gb470 hg w9 hbox hb; have BK470 := mK hbox; have GW470 := mK (gX hg HB); have GE470 := mK (gX hg HB); replace HB := bB HB hb; clear hb hbox hg) | ((with_reducible refine gate_dst (N := 4) rfl ?_); refine bxE 4 #[.int .i64 0, .int .i64 0] 52 ?_; intro gb471 hg w10 hbox hb; have BK471 := mK hbox; have GW471 := mK (gX hg HB); have GE471 := mK (gX hg HB); replace HB := bB HB hb; have NB470_471 := mK (lX hg BK470); have NB471_470 := mK (mX hg BK470); replace BK470 := kB BK470 hb; clear hb hbox hg; have hnb11 := NB470_471.out; have hnc11 := NB471_470.out; have hcz12_0 := q0 BK470; have hcz12_1 := q1 BK470; have hfz12_0 := fX BK470 0; have hfz12_1 := fX BK470 1) | ((with_reducible refine gate_callee (f := 67) rfl ?_); refine gsE (some 10) Try.func67 #[.agg #[.int .i64 a0_0, .slice A0_1 l0_1.length c0_1]] ?_; (with_reducible refine (impl_GraphOf.calls k a0_0 _ _ l0_1 t472 t473 _ ?side1 ?side2 A3.out).mono ?_); (case side1 => exact cX HR0_1 HB); (case side2 => exact HC0_1.out); rintro e w13 ⟨v474, rfl, ho0, hb⟩; refine ⟨_, rfl, ?_⟩; have HO475 := mK (Kd.R_lower ho0 (below_size (bX HB))); replace BK470 := kB BK470 hb; replace BK471 := kB BK471 hb; replace HB := bB HB hb; (try clear hb); (try clear hb2); (try clear hk); (try clear hi); (try clear ho0); obtain ⟨Ao14, co14, eo14⟩ := Kd.R_slice HO475.out; subst eo14) | ((with_reducible refine gate_callee (f := 15) rfl ?_); refine gsE (some 11) Try.func15 #[.agg #[.int .i64 t472, .slice Ao14 t473.length co14]] ?_; (with_reducible refine (impl_CloseGraph.calls k t472 _ _ t473 t476 t477 true _ ?side1 ?side2 A4.out).mono ?_); (case side1 => repeat (first | exact (Kd.R_reads' HO475.out).2.2 | (with_reducible refine Kd.C_alloc ?_ _) | (with_reducible refine Kd.C_drewN ?_ _) | (with_reducible refine Kd.C_drew ?_))); (case side2 => exact (Kd.R_reads' HO475.out).2.1); rintro e w15 ⟨v478, rfl, ho0, hb⟩; refine ⟨_, rfl, ?_⟩; replace HO475 := mK (Kd.R_below (rX HO475) hb); have HO479 := mK (Kd.R_lower ho0 (below_size (bX HB))); replace BK470 := kB BK470 hb; replace BK471 := kB BK471 hb; replace HB := bB HB hb; (try clear hb); (try clear hb2); (try clear hk); (try clear hi); (try clear ho0)) | ((with_reducible refine gate_dst (N := 6) rfl ?_); refine bxE 6 #[.int .i64 0, .slice none 0 0] 28 ?_; intro gb481 hg w16 hbox hb; replace HO475 := mK (Kd.R_below (rX HO475) hb); replace HO479 := mK (Kd.R_below (rX HO479) hb); have BK481 := mK hbox; have GW481 := mK (gX hg HB); have GE481 := mK (gX hg HB); replace HB := bB HB hb; have NB470_481 := mK (lX hg BK470); have NB481_470 := mK (mX hg BK470); replace BK470 := kB BK470 hb; have NB471_481 := mK (lX hg BK471); have NB481_471 := mK (mX hg BK471); replace BK471 := kB BK471 hb; clear hb hbox hg; have hnb17 := NB481_470.out; have hnc17 := NB470_481.out; have hnb18 := NB481_471.out; have hnc18 := NB471_481.out; have hcz19_0 := q0 BK481; have hcz19_1 := q1 BK481; have hfz19_0 := fX BK481 0; have hfz19_1 := fX BK481 1; obtain ⟨Ao20, co20, eo20⟩ := Kd.R_slice HO479.out; subst eo20; have hcz21_0 := q0 BK470; have hcz21_1 := q1 BK470; have hfz21_0 := fX BK470 0; have hfz21_1 := fX BK470 1) | (go_at_call 49; (with_reducible refine (impl_SimpleOk.calls a0_0 _ _ l0_1 true _ ?side1 ?side2 A6.out).mono ?_); (case side1 => exact Kd.C_below HR0_1.out (bX HB)); (case side2 => exact HC0_1.out); rintro e w22 ⟨rfl, hb⟩; have n0_ := mK (Kd.R_below (rF2 HO475 BK481) hb); have n1_ := mK (Kd.R_below (rF2 HO479 BK481) hb); have n2_ := mK (blk_below (g := gb470) (o := .cells #[.int .i64 a0_0, .slice A0_1 l0_1.length c0_1] 47 (0, 0)) (kF BK470 NB470_481) hb); have n3_ := mK (blk_below (g := gb471) (o := .cells #[.int .i64 0, .int .i64 0] 52 (0, 0)) (kF BK471 NB471_481) hb); have n4_ := mK (blk_below (g := gb481) (o := .cells #[.int .i64 t476, .slice Ao20 t477.length co20] 28 (0, 0)) (kP2 BK481) hb); have n5_ := bB HB hb; clear HO475; clear HO479; clear BK470; clear BK471; clear BK481; clear HB; have HO475 := n0_; have HO479 := n1_; have BK470 := n2_; have BK471 := n3_; have BK481 := n4_; have HB := n5_; clear n0_ n1_ n2_ n3_ n4_ n5_; (try clear hb); (try clear hb2); (try clear hk); (try clear hi); have hcz23_0 := q0 BK481; have hcz23_1 := q1 BK481; have hfz23_0 := fX BK481 0; have hfz23_1 := fX BK481 1) | ((with_reducible refine gate_callee (f := 70) rfl ?_); refine gsE (some 24) Try.func70 #[.agg #[.int .i64 t476, .slice Ao20 t477.length co20], .int .i64 0, .int .i64 a1] ?_; (with_reducible refine (impl_WindowBetween.calls k t476 _ _ t477 0 a1 t483 t484 t485 _ ?side1 ?side2 A8.out).mono ?_); (case side1 => repeat (first | exact (Kd.R_reads' HO479.out).2.2 | (with_reducible refine Kd.C_alloc ?_ _) | (with_reducible refine Kd.C_drewN ?_ _) | (with_reducible refine Kd.C_drew ?_))); (case side2 => exact (Kd.R_reads' HO479.out).2.1); rintro e w24 ⟨rfl, hb⟩; refine ⟨_, rfl, ?_⟩; replace HO475 := mK (Kd.R_below (rX HO475) hb); replace HO479 := mK (Kd.R_below (rX HO479) hb); replace BK470 := kB BK470 hb; replace BK471 := kB BK471 hb; replace BK481 := kB BK481 hb; replace HB := bB HB hb; (try clear hb); (try clear hb2); (try clear hk); (try clear hi); have hcz25_0 := q0 BK471; have hcz25_1 := q1 BK471; have hfz25_0 := fX BK471 0; have hfz25_1 := fX BK471 1))
 refine bodyPost_ret (results_ct rfl _ _ gb471 52 #[.int .i64 t483, .int .i64 t484] (0, 0) _ rfl (kP2 BK471) Try.underlying52 rfl (by kernel_rfl)) rfl ?_
 exact ⟨by first | rfl | (simp [errW_none, errW_some] <;> rfl) | (simp [*, errW_none, errW_some] <;> rfl), bX HB⟩

/-! ### impl_bounds: function 71 -/
section
open Go.Shelf Go.Lib
def bndL (p : Int → Int → Int) : Nat → List Int → Int → Int → List (S76) → Option (List Int × Bool)
  | 0, _, _, _, _ => none
  | k + 1, x, i, n, l => if i < n then ((impl_WindowOf.f k n l i).bind fun t => (if t.2.2 = true then (if gWeightB (p t.1 t.2.1) = true then (if x.length < 17592186044416 then (bndL p k (x ++ [p t.1 t.2.1]) (wrap64 (i + 1)) n l) else none) else some ([], false)) else some ([], false))) else some (x, true)
theorem bndL_mono (p : Int → Int → Int) : ∀ k x i n l, LeO (bndL p k x i n l) (bndL p (k + 1) x i n l)
  | 0, _, _, _, _ => fun r h => by simp [bndL] at h
  | k + 1, x, i, n, l => by
    unfold bndL
    exact LeO.ite (LeO.bind (impl_WindowOf.mono _ _ _ _) fun t => LeO.ite (LeO.ite (LeO.ite (bndL_mono p k _ _ _ _) (LeO.refl _)) (LeO.refl _)) (LeO.refl _)) (LeO.refl _)
def bndF (p : Int → Int → Int) (k : Nat) (n : Int) (l : List (S76)) : Option (List Int × Bool) := (impl_IsConsistent.f k n l).bind fun c => if c = true then bndL p k [] 0 n l else some ([], false)
theorem bndF_mono (p : Int → Int → Int) : ∀ n l k, LeO (bndF p k n l) (bndF p (k + 1) n l) := fun n l k => LeO.bind (impl_IsConsistent.mono n l k) fun _ => LeO.ite (bndL_mono p k _ _ _ _) (LeO.refl _)
set_option maxHeartbeats 8000000 in
set_option maxRecDepth 100000 in
theorem bounds_calls (p : Int → Int → Int) (g : Nat) (eg : ∀ args w, (callFunc g args).run Try.prog w = .ok (.enter g args) w)
    (hp : ∀ (W : World) (x y : Int), Calls Try.prog g #[.agg #[.int .i64 x, .int .i64 y]] W fun e w' => e = .returned (.int .i64 (p x y)) ∧ Below W.heap.size W w')
    (k : Nat) (a0_0 : Int) (A0_1 : Option Addr) (c0_1 : Nat) (l0_1 : List (S76)) (r1 : List Int) (r2 : Bool) (w : World) (hr0_1 : Kd.C k76 w A0_1 l0_1.length l0_1) (hc0_1 : l0_1.length ≤ c0_1) (h : bndF p k a0_0 l0_1 = some (r1, r2)) :
    Calls Try.prog 71 #[.agg #[.int .i64 a0_0, .slice A0_1 l0_1.length c0_1], .func (.func g) #[] #[]] w fun e w' => ∃ v0_ : Value, e = .returned (.tuple #[v0_, .bool r2]) ∧ Kd.R (Kd.int .i64) 3 w' w.heap.size (fun _ => True) v0_ r1 ∧ Below w.heap.size w w' := by
  have hu47 := Try.underlying47
  have hu52 := Try.underlying52
  have HR := mK hr0_1
  have HC := mK hc0_1
  clear hr0_1 hc0_1
  have HB := mK (Below.refl w.heap.size w)
  unfold bndF at h
  obtain ⟨t, ht, h⟩ := Option.bind_eq_some_iff.mp h
  have A1 := mK ht
  clear ht
  cases t with
  | false =>
   obtain ⟨rfl, rfl⟩ := Prod.mk.inj (Option.some.inj ((if_neg (by simp)).symm.trans h))
   clear h
   go_enter Try.func71, Try.ntmps71
   go_wp2_with (first | (refine bxE 2 #[.int .i64 a0_0, .slice A0_1 l0_1.length c0_1] 47 ?_; intro gb hg w2 hbox hb; have BK := mK hbox; have GE := mK (gX hg HB); replace HB := bB HB hb; clear hb hbox hg; have hcz0 := q0 BK; have hcz1 := q1 BK; have hfz0 := fX BK 0; have hfz1 := fX BK 1) | (refine gsE (some 11) Try.func24 #[.agg #[.int .i64 a0_0, .slice A0_1 l0_1.length c0_1]] ?_; (with_reducible refine (impl_IsConsistent.calls k a0_0 _ _ l0_1 false _ ?side1 ?side2 A1.out).mono ?_); (case side1 => exact cX HR HB); (case side2 => exact HC.out); rintro e w3 ⟨rfl, hb⟩; refine ⟨_, rfl, ?_⟩; replace BK := kB BK hb; replace HB := bB HB hb; clear hb))
   go_ret2
   exact ⟨_, by first | rfl | simp, Kd.R_nil _ _ _ _ _, bX HB⟩
  | true =>
   have H0 := mK ((if_pos rfl).symm.trans h)
   clear h
   go_enter Try.func71, Try.ntmps71
   go_wp2_with (first | (refine bxE 2 #[.int .i64 a0_0, .slice A0_1 l0_1.length c0_1] 47 ?_; intro gb hg w2 hbox hb; have BK := mK hbox; have GE := mK (gX hg HB); replace HB := bB HB hb; clear hb hbox hg; have hcz0 := q0 BK; have hcz1 := q1 BK; have hfz0 := fX BK 0; have hfz1 := fX BK 1) | (refine gsE (some 11) Try.func24 #[.agg #[.int .i64 a0_0, .slice A0_1 l0_1.length c0_1]] ?_; (with_reducible refine (impl_IsConsistent.calls k a0_0 _ _ l0_1 true _ ?side1 ?side2 A1.out).mono ?_); (case side1 => exact cX HR HB); (case side2 => exact HC.out); rintro e w3 ⟨rfl, hb⟩; refine ⟨_, rfl, ?_⟩; replace BK := kB BK hb; replace HB := bB HB hb; clear hb))
   go_loopg [6, 7] k (fun kq v6 v7 w' => ∃ (x : List Int) (i : Int), v7 = .int .i64 i ∧ Aside0 (bndL p kq x i a0_0 l0_1 = some (r1, r2)) ∧ Aside0 (kq ≤ k) ∧ Aside0 (Kd.R (Kd.int .i64) 3 w' w.heap.size (fun _ => True) v6 x) ∧ Aside0 (w'.heap[gb]? = some (.cells #[.int .i64 a0_0, (.slice A0_1 l0_1.length c0_1)] 47 (0, 0))) ∧ Aside0 (Below w.heap.size w w'))
   case atStart => exact ⟨[], 0, (by first | rfl | simp), H0, ⟨Nat.le_refl _⟩, ⟨Kd.R_nil _ _ _ _ _⟩, ⟨kX BK⟩, ⟨bX HB⟩⟩
   case round =>
    clear H0 hcz0 hcz1 hfz0 hfz1 A1
    obtain ⟨x, i, rfl, HA, HK1, HO, BK, HB⟩ := hrel
    cases gk with
    | zero => exact absurd HA.out (by simp [bndL])
    | succ k1 =>
     have H := HA.out
     clear HA
     simp only [bndL] at H
     have hcz0 := q0 BK
     have hcz1 := q1 BK
     have hfz0 := fX BK 0
     have hfz1 := fX BK 1
     by_cases c : i < a0_0
     rotate_left
     · rw [if_neg c] at H
       have cb : decide (i < a0_0) = false := decide_eq_false c
       clear c
       obtain ⟨rfl, rfl⟩ := Prod.mk.inj (Option.some.inj H)
       clear H
       obtain ⟨Ao, co, eo⟩ := Kd.R_slice HO.out
       subst eo
       go_wp2
       go_ret2
       exact ⟨_, by first | rfl | simp, rX HO, bX HB⟩
     rw [if_pos c] at H
     have cb : decide (i < a0_0) = true := decide_eq_true c
     clear c
     obtain ⟨⟨t1, t2, t3⟩, A20, H⟩ := Option.bind_eq_some_iff.mp H
     have A2 := mK A20
     clear A20
     cases t3 with
     | false =>
      obtain ⟨rfl, rfl⟩ := Prod.mk.inj (Option.some.inj ((if_neg (by simp)).symm.trans H))
      clear H
      go_wp2_with (first | (refine gsE (some 22) Try.func27 #[.agg #[.int .i64 a0_0, .slice A0_1 l0_1.length c0_1], .int .i64 i] ?_; (with_reducible refine (impl_WindowOf.calls k1 a0_0 _ _ l0_1 i t1 t2 false _ ?side1 ?side2 A2.out).mono ?_); (case side1 => exact cX HR HB); (case side2 => exact HC.out); rintro e w4 ⟨rfl, hb⟩; refine ⟨_, rfl, ?_⟩; replace HO := mK (Kd.R_below (rX HO) hb); replace BK := kB BK hb; replace HB := bB HB hb; clear hb) | (refine bxE 8 #[.int .i64 0, .int .i64 0] 52 ?_; intro gc hg w5 hbox hb; replace HO := mK (Kd.R_below (rX HO) hb); have CK := mK hbox; have GC := mK (gX hg HB); have NBC := mK (lX hg BK); have NCB := mK (mX hg BK); replace HB := bB HB hb; replace BK := kB BK hb; clear hb hbox hg; have hnb := NCB.out; have hnc := NBC.out; have hz0 := q0 CK; have hz1 := q1 CK; have hy0 := fX CK 0; have hy1 := fX CK 1))
      go_ret2
      exact ⟨_, by first | rfl | simp, Kd.R_nil _ _ _ _ _, bX HB⟩
     | true =>
      replace H := (if_pos rfl).symm.trans H
      have hf := fun W => hp W t1 t2
      obtain ⟨q, hq⟩ : ∃ q, p t1 t2 = q := ⟨_, rfl⟩
      obtain ⟨b, hw⟩ : ∃ b, gWeightB q = b := ⟨_, rfl⟩
      have hg := gWeightB_calls q
      simp only [hq] at H hf
      rw [hw] at H hg
      have NQ := mK (And.intro hq hw)
      clear hq hw
      cases b with
      | false =>
       obtain ⟨rfl, rfl⟩ := Prod.mk.inj (Option.some.inj ((if_neg (by simp)).symm.trans H))
       clear H
       go_wp2_with (first | (refine gsE (some 22) Try.func27 #[.agg #[.int .i64 a0_0, .slice A0_1 l0_1.length c0_1], .int .i64 i] ?_; (with_reducible refine (impl_WindowOf.calls k1 a0_0 _ _ l0_1 i t1 t2 true _ ?side1 ?side2 A2.out).mono ?_); (case side1 => exact cX HR HB); (case side2 => exact HC.out); rintro e w4 ⟨rfl, hb⟩; refine ⟨_, rfl, ?_⟩; replace HO := mK (Kd.R_below (rX HO) hb); replace BK := kB BK hb; replace HB := bB HB hb; clear hb) | (refine bxE 8 #[.int .i64 0, .int .i64 0] 52 ?_; intro gc hg w5 hbox hb; replace HO := mK (Kd.R_below (rX HO) hb); have CK := mK hbox; have GC := mK (gX hg HB); have NBC := mK (lX hg BK); have NCB := mK (mX hg BK); replace HB := bB HB hb; replace BK := kB BK hb; clear hb hbox hg; have hnb := NCB.out; have hnc := NBC.out; have hz0 := q0 CK; have hz1 := q1 CK; have hy0 := fX CK 0; have hy1 := fX CK 1) | (go_at_fn g; refine (hf _).mono ?_; rintro e w6 ⟨rfl, hb⟩; replace HO := mK (Kd.R_below (rF2 HO CK) hb); replace CK := mK (blk_below (kP2 CK) hb); replace BK := mK (blk_below (kF BK NBC) hb); replace HB := bB HB hb; clear hb; have hz0 := q0 CK; have hz1 := q1 CK; have hy0 := fX CK 0; have hy1 := fX CK 1) | (go_at_call 82; refine (hg _).mono ?_; rintro e w8 ⟨rfl, rfl⟩))
       go_ret2
       exact ⟨_, by first | rfl | simp, Kd.R_nil _ _ _ _ _, bX HB⟩
      | true =>
       replace H := (if_pos rfl).symm.trans H
       by_cases c : x.length < 17592186044416
       rotate_left
       · rw [if_neg c] at H
         exact absurd H (by simp)
       rw [if_pos c] at H
       have LM := mK c
       have H' := mK H
       clear c H
       go_wp2_with (first | (refine gsE (some 22) Try.func27 #[.agg #[.int .i64 a0_0, .slice A0_1 l0_1.length c0_1], .int .i64 i] ?_; (with_reducible refine (impl_WindowOf.calls k1 a0_0 _ _ l0_1 i t1 t2 true _ ?side1 ?side2 A2.out).mono ?_); (case side1 => exact cX HR HB); (case side2 => exact HC.out); rintro e w4 ⟨rfl, hb⟩; refine ⟨_, rfl, ?_⟩; replace HO := mK (Kd.R_below (rX HO) hb); replace BK := kB BK hb; replace HB := bB HB hb; clear hb) | (refine bxE 8 #[.int .i64 0, .int .i64 0] 52 ?_; intro gc hg w5 hbox hb; replace HO := mK (Kd.R_below (rX HO) hb); have CK := mK hbox; have GC := mK (gX hg HB); have NBC := mK (lX hg BK); have NCB := mK (mX hg BK); replace HB := bB HB hb; replace BK := kB BK hb; clear hb hbox hg; have hnb := NCB.out; have hnc := NBC.out; have hz0 := q0 CK; have hz1 := q1 CK; have hy0 := fX CK 0; have hy1 := fX CK 1) | (go_at_fn g; refine (hf _).mono ?_; rintro e w6 ⟨rfl, hb⟩; replace HO := mK (Kd.R_below (rF2 HO CK) hb); replace CK := mK (blk_below (kP2 CK) hb); replace BK := mK (blk_below (kF BK NBC) hb); replace HB := bB HB hb; clear hb; have hz0 := q0 CK; have hz1 := q1 CK; have hy0 := fX CK 0; have hy1 := fX CK 1) | (go_at_fn g; refine (hf _).mono ?_; rintro e w7 ⟨rfl, hb⟩; replace HO := mK (Kd.R_below (rX HO) hb); replace CK := kB CK hb; replace BK := kB BK hb; replace HB := bB HB hb; clear hb; have hz0 := q0 CK; have hz1 := q1 CK; have hy0 := fX CK 0; have hy1 := fX CK 1) | (go_at_call 82; refine (hg _).mono ?_; rintro e w8 ⟨rfl, rfl⟩) | ((with_reducible refine gate_builtin (b := .append) (xs := #[.tmp 34, .tmp 38]) rfl ?_); at_builtin; refine Kd.R_append (Kd.int .i64) (w0 := w) w.heap.size rfl (.tmp 34) (.tmp 38) 26 3 (.int .i64 0) 8 rfl Try.underlying26 info3 rfl (by decide) (by omega) u6 x q [.int .i64 q] (fun _ => True) (fun _ => False) rfl (by go_simp <;> rfl) ?aP (fun _ hk => hk.elim) ?aF ?aO ?aB ?aS ?aL ?_; (case aP => exact rfl); (case aB => exact (bX HB)); (case aF => exact (fun _ _ => trivial)); (case aO => exact (rX HO)); (case aS => exact (below_size (bX HB))); (case aL => have := LM.out; omega); intro v9 w9 ho hb hg hat; have n0_ := mK (blk_grown (kX BK) hg (Kd.R_ne HO.out BK.out (by decide))); have n1_ := mK hb; have n2_ := mK ho; clear BK CK HB HO; have BK := n0_; have HB := n1_; have HO := n2_; clear n0_ n1_ n2_; clear ho hb hg hat))
       go_roundg k1
       case measure => have := HK1.out; omega
       case rel => exact ⟨x ++ [q], (wrap64 (i + 1)), (by first | rfl | (simp; done) | (simp [*]; done)), H', ⟨by have := HK1.out; omega⟩, ⟨rX HO⟩, ⟨kX BK⟩, ⟨bX HB⟩⟩
end

/-! ### impl_LatestTimes: function 36 -/
section
open Go.Shelf Go.Lib
theorem impl_LatestTimes_fn (W : World) (x y : Int) : Calls Try.prog 74 #[.agg #[.int .i64 x, .int .i64 y]] W fun e w' => e = .returned (.int .i64 y) ∧ Below W.heap.size W w' := by
  have hu52 := Try.underlying52
  go_enter Try.func74, Try.ntmps74
  go_wp2
  go_ret
  exact ⟨by simp, (Below.refl _ W).alloc (Nat.le_refl _) _⟩
def impl_LatestTimes.f (k : Nat) (a0_0 : Int) (l0_1 : List (S76)) : Option (List Int × Bool) := bndF (fun x y => y) k a0_0 l0_1
theorem impl_LatestTimes.mono : ∀ a0 a1 k, LeO (impl_LatestTimes.f k a0 a1) (impl_LatestTimes.f (k + 1) a0 a1) := bndF_mono _
set_option maxHeartbeats 4000000 in
theorem impl_LatestTimes.calls (k : Nat) (a0_0 : Int) (A0_1 : Option Addr) (c0_1 : Nat) (l0_1 : List (S76)) (r1 : List Int) (r2 : Bool) (w : World) (hr0_1 : Kd.C k76 w A0_1 l0_1.length l0_1) (hc0_1 : l0_1.length ≤ c0_1) (h : impl_LatestTimes.f k a0_0 l0_1 = some (r1, r2)) :
    Calls Try.prog 36 #[.agg #[.int .i64 a0_0, .slice A0_1 l0_1.length c0_1]] w fun e w' => ∃ v0_ : Value, e = .returned (.tuple #[v0_, .bool r2]) ∧ Kd.R (Kd.int .i64) 3 w' w.heap.size (fun _ => True) v0_ r1 ∧ Below w.heap.size w w' := by
  have hu47 := Try.underlying47
  have eg : ∀ args w, (callFunc 74 args).run Try.prog w = .ok (.enter 74 args) w := enters_of Try.func74 (by kernel_rfl) rfl
  have hcon := fun W (hW : Below w.heap.size w W) => bounds_calls (fun x y => y) 74 eg impl_LatestTimes_fn k a0_0 A0_1 c0_1 l0_1 r1 r2 W (Kd.C_below hr0_1 hW) hc0_1 h
  have HB := mK (Below.refl w.heap.size w)
  clear hr0_1 h
  go_enter Try.func36, Try.ntmps36
  go_wp2_with (first | (refine bxE 1 #[.int .i64 a0_0, .slice A0_1 l0_1.length c0_1] 47 ?_; intro gb hg w2 hbox hb; have BK := mK hbox; replace HB := bB HB hb; clear hb hbox hg; have hcz0 := q0 BK; have hcz1 := q1 BK; have hfz0 := fX BK 0; have hfz1 := fX BK 1) | (go_at_call 71; refine (hcon _ (bX HB)).mono ?_; rintro e w3 ⟨v0, rfl, hR, hb⟩; have HO := mK (Kd.R_lower hR (below_size (bX HB))); replace HB := bB HB hb; clear hb hR))
  go_ret2
  exact ⟨_, by first | rfl | simp, rX HO, bX HB⟩
end

end Go.Proofs.Ytbbblnmngjhadaa.QFnExactLatestTimes
