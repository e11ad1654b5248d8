-- Written by this session's program wip/tools/mk.py out of the translation; Lean checks it.
import Derived.Test.YtbbblnmngjhadaaQFnExactWindowOfx0
import Derived.Test.YtbbblnmngjhadaaQFnExactWindowOfx9
import Derived.Test.YtbbblnmngjhadaaQFnExactWindowOfx10
namespace Go.Proofs.Ytbbblnmngjhadaa.QFnExactWindowOf
open Go.RowKit Go.Proofs.YtbbblnmngjhadaaW.PrintWords Go.Proofs.YtbbblnmngjhadaaW.PrintLast Go.Proofs.YtbbblnmngjhadaaW.PrintMore
attribute [local go_sem] max2_int min2_int max_two min_two max_three min_three max_four min_four   -- for this text's walks alone
set_option linter.unusedVariables false
set_option linter.unusedSimpArgs false

/-! ### impl_ClampBound: function 59 -/
def impl_ClampBound.f (a0 : Int) : Option (Int) := some (mx (-1000000) (mn a0 1000000))
set_option maxHeartbeats 8000000 in
set_option maxRecDepth 100000 in
theorem impl_ClampBound.calls (a0 : Int) (r : Int) (w : World) (h : impl_ClampBound.f a0 = some r) :
    Calls Try.prog 59 #[.int .i64 a0] w fun e w' => e = .returned (.int .i64 r) ∧ Below w.heap.size w w' := by
  have HB := mK (Below.refl w.heap.size w)
  have H : (some (mx (-1000000) (mn a0 1000000))) = some r := h
  clear h
  obtain ⟨ji2, hji2⟩ : ∃ j_ : Int, (mn a0 1000000) = j_ := ⟨_, rfl⟩
  replace H : (some (mx (-1000000) (ji2))) = some r := by first | (rw [hji2] at H; exact H) | (simp only [hji2] at H ⊢; exact H)
  (try (have hji2h : ji2 ≤ 1000000 := by (rw [← hji2]; unfold mn; (repeat' split) <;> omega)))
  (try (have hji2g : ji2 ≤ 64 := by omega))
  have hji2_ : (if 1000000 < a0 then 1000000 else a0) = ji2 := hji2
  obtain ⟨ji3, hji3⟩ : ∃ j_ : Int, (mx (-1000000) (ji2)) = j_ := ⟨_, rfl⟩
  replace H : (some ji3) = some r := by first | (rw [hji3] at H; exact H) | (simp only [hji3] at H ⊢; exact H)
  have hji3_ : (if (-1000000) < (ji2) then (ji2) else (-1000000)) = ji3 := hji3
  obtain rfl := Option.some.inj H
  go_enter Try.func59, Try.ntmps59
  go_wp2
  go_ret
  exact ⟨by first | rfl | (simp [errW_none, errW_some] <;> rfl) | (simp only [← hji2, ← hji3]; first | rfl | (simp [errW_none, errW_some] <;> rfl)) | (simp [*, errW_none, errW_some] <;> rfl), bX HB⟩

/-! ### impl_CloseGraph: function 15 -/
mutual
def impl_CloseGraph.l0 : Nat → Int → Int → List (S70) → Int → List Int → Option (Int × List Int × Bool)
  | 0, _, _, _, _, _ => none
  | k + 1, x5, x345000, x345001, x348000, x348001 => if x5 < x345000 then ((impl_ShortestFrom.f k x345000 x345001 x5).bind fun bt348 => (if bt348.2 = true then (impl_CloseGraph.l1 k x5 bt348.1 (bt348.1.length : Int) 0 x345000 x345001 x348000 x348001) else (some (0, ([] : List Int), false)))) else (some (x348000, x348001, true))
def impl_CloseGraph.l1 : Nat → Int → List Int → Int → Int → Int → List (S70) → Int → List Int → Option (Int × List Int × Bool)
  | 0, _, _, _, _, _, _, _, _ => none
  | k + 1, x5, x32, x33, x34, x345000, x345001, x348000, x348001 => if x34 < x33 then (if 0 ≤ x34 then (if x34 < (x32.length : Int) then ((impl_ClampBound.f (rd x32 x34)).bind fun t353 => (if x348001.length < 17592186044416 then (impl_CloseGraph.l1 k x5 x32 x33 (wrap64 (x34 + 1)) x345000 x345001 x348000 (x348001 ++ [t353])) else (none))) else (none)) else (none)) else (impl_CloseGraph.l0 k (wrap64 (x5 + 1)) x345000 x345001 x348000 x348001)
end
def impl_CloseGraph.f (k : Nat) (a0_0 : Int) (l0_1 : List (S70)) : Option (Int × List Int × Bool) := (impl_GraphOk.f a0_0 l0_1).bind fun t346 => (if t346 = true then (impl_CloseGraph.l0 k 0 a0_0 l0_1 a0_0 ([] : List Int)) else (some (0, ([] : List Int), false)))
theorem impl_CloseGraph.mono_l : ∀ k, (∀ y0 y1 y2 y3 y4, LeO (impl_CloseGraph.l0 k y0 y1 y2 y3 y4) (impl_CloseGraph.l0 (k + 1) y0 y1 y2 y3 y4)) ∧ (∀ y0 y1 y2 y3 y4 y5 y6 y7, LeO (impl_CloseGraph.l1 k y0 y1 y2 y3 y4 y5 y6 y7) (impl_CloseGraph.l1 (k + 1) y0 y1 y2 y3 y4 y5 y6 y7))
  | 0 => ⟨fun _ _ _ _ _ r h => by simp [impl_CloseGraph.l0] at h, fun _ _ _ _ _ _ _ _ r h => by simp [impl_CloseGraph.l1] at h⟩
  | k + 1 => by
    obtain ⟨ih0, ih1⟩ := impl_CloseGraph.mono_l k
    refine ⟨?_, ?_⟩
    · intro y0 y1 y2 y3 y4
      unfold impl_CloseGraph.l0
      repeat' first|(with_reducible first|exact ih0 _ _ _ _ _|exact ih1 _ _ _ _ _ _ _ _|exact impl_ShortestFrom.mono _ _ _ _|exact lR _|exact lN _|refine lI ?_ ?_|refine lB ?_ (fun _ => ?_))|exact ih0 _ _ _ _ _|exact ih1 _ _ _ _ _ _ _ _|exact impl_ShortestFrom.mono _ _ _ _|exact lN _|refine lI ?_ ?_|refine lB ?_ (fun _ => ?_)
    · intro y0 y1 y2 y3 y4 y5 y6 y7
      unfold impl_CloseGraph.l1
      repeat' first|(with_reducible first|exact ih0 _ _ _ _ _|exact ih1 _ _ _ _ _ _ _ _|exact impl_ShortestFrom.mono _ _ _ _|exact lR _|exact lN _|refine lI ?_ ?_|refine lB ?_ (fun _ => ?_))|exact ih0 _ _ _ _ _|exact ih1 _ _ _ _ _ _ _ _|exact impl_ShortestFrom.mono _ _ _ _|exact lN _|refine lI ?_ ?_|refine lB ?_ (fun _ => ?_)
theorem impl_CloseGraph.mono : ∀ a0 a1 k, LeO (impl_CloseGraph.f k a0 a1) (impl_CloseGraph.f (k + 1) a0 a1) := by
  intro a0 a1 k
  obtain ⟨ih0, ih1⟩ := impl_CloseGraph.mono_l k
  unfold impl_CloseGraph.f
  repeat' first|(with_reducible first|exact ih0 _ _ _ _ _|exact ih1 _ _ _ _ _ _ _ _|exact impl_ShortestFrom.mono _ _ _ _|exact lR _|exact lN _|refine lI ?_ ?_|refine lB ?_ (fun _ => ?_))|exact ih0 _ _ _ _ _|exact ih1 _ _ _ _ _ _ _ _|exact impl_ShortestFrom.mono _ _ _ _|exact lN _|refine lI ?_ ?_|refine lB ?_ (fun _ => ?_)
def impl_CloseGraph.T13 : Bool × List (List Nat × List Nat) := (true, [([], []), ([0], [0]), ([], []), ([2], [2]), ([3], [3]), ([1, 4, 3], [1, 4]), ([0, 1, 2, 3, 4, 5], []), ([6, 5, 5, 0, 1, 2, 3, 4, 5], [5, 6])])
def impl_CloseGraph.B13 : List Nat := [0, 1, 0, 4, 12, 31, 63, 127]
theorem impl_CloseGraph.tab13 : rtab .any (opsOf Try.f15 13) = impl_CloseGraph.T13 := by kernel_rfl
theorem impl_CloseGraph.bits13 : waitsOk impl_CloseGraph.T13.2 impl_CloseGraph.B13 = true := by kernel_rfl
set_option maxHeartbeats 8000000 in
set_option maxRecDepth 100000 in
theorem impl_CloseGraph.calls (k : Nat) (a0_0 : Int) (A0_1 : Option Addr) (c0_1 : Nat) (l0_1 : List (S70)) (r1 : Int) (r2 : List Int) (r3 : Bool) (w : World) (hr0_1 : Kd.C k70 w A0_1 l0_1.length l0_1) (hc0_1 : l0_1.length ≤ c0_1) (h : impl_CloseGraph.f k a0_0 l0_1 = some (r1, r2, r3)) :
    Calls Try.prog 15 #[.agg #[.int .i64 a0_0, .slice A0_1 l0_1.length c0_1]] w fun e w' => ∃ v1_ : Value, e = .returned (.tuple #[.agg #[.int .i64 r1, v1_], .bool r3]) ∧ Kd.R (Kd.int .i64) 3 w' w.heap.size (fun _ => True) v1_ r2 ∧ Below w.heap.size w w' := by
 have hu33 := Try.underlying33
 have hu28 := Try.underlying28
 have HR0_1 := mK hr0_1
 have HC0_1 := mK hc0_1
 clear hr0_1 hc0_1
 have HB := mK (Below.refl w.heap.size w)
 have H : ((impl_GraphOk.f a0_0 l0_1).bind fun t346 => (if t346 = true then (impl_CloseGraph.l0 k 0 a0_0 l0_1 a0_0 ([] : List Int)) else (some (0, ([] : List Int), false)))) = some (r1, r2, r3) := h
 clear h
 replace H := Option.bind_eq_some_iff.mp H
 obtain ⟨t346, A20, H⟩ := H
 replace H : (if t346 = true then (impl_CloseGraph.l0 k 0 a0_0 l0_1 a0_0 ([] : List Int)) else (some (0, ([] : List Int), false))) = some (r1, r2, r3) := H
 have A2 := mK A20
 clear A20
 by_cases c3 : t346 = true
 rotate_left
 {
 replace c3 := Bool.eq_false_iff.mpr c3
 subst c3
 rw [if_neg (show ¬ (false = true) by decide)] at H
 simp only [Option.some.injEq, Prod.mk.injEq] at H
 obtain ⟨rfl, rfl, rfl⟩ := H
 go_enter Try.func15, Try.ntmps15
 go_wp2_with (first | ((with_reducible refine gate_dst (N := 1) rfl ?_); refine bxE 1 #[.int .i64 a0_0, .slice A0_1 l0_1.length c0_1] 33 ?_; intro gb344 hg w45 hbox hb; have BK344 := mK hbox; have GW344 := mK (gX hg HB); have GE344 := mK (gX hg HB); replace HB := bB HB hb; clear hb hbox hg) | ((with_reducible refine gate_dst (N := 2) rfl ?_); refine bxE 2 #[.int .i64 0, .slice none 0 0] 28 ?_; intro gb345 hg w46 hbox hb; have BK345 := mK hbox; have GW345 := mK (gX hg HB); have GE345 := mK (gX hg HB); replace HB := bB HB hb; have NB344_345 := mK (lX hg BK344); have NB345_344 := mK (mX hg BK344); replace BK344 := kB BK344 hb; clear hb hbox hg; have hnb47 := NB344_345.out; have hnc47 := NB345_344.out; have hcz48_0 := q0 BK344; have hcz48_1 := q1 BK344; have hfz48_0 := fX BK344 0; have hfz48_1 := fX BK344 1) | ((with_reducible refine gate_callee (f := 41) rfl ?_); refine gsE (some 11) Try.func41 #[.agg #[.int .i64 a0_0, .slice A0_1 l0_1.length c0_1]] ?_; (with_reducible refine (impl_GraphOk.calls a0_0 _ _ l0_1 false _ ?side1 ?side2 A2.out).mono ?_); (case side1 => exact cX HR0_1 HB); (case side2 => exact HC0_1.out); rintro e w49 ⟨rfl, hb⟩; refine ⟨_, rfl, ?_⟩; replace BK344 := kB BK344 hb; replace BK345 := kB BK345 hb; replace HB := bB HB hb; (try clear hb); (try clear hb2); (try clear hk); (try clear hi); have hcz50_0 := q0 BK345; have hcz50_1 := q1 BK345; have hfz50_0 := fX BK345 0; have hfz50_1 := fX BK345 1))
 refine bodyPost_ret (results_ct rfl _ _ gb345 28 #[.int .i64 0, .slice none 0 0] (0, 0) _ rfl (kP2 BK345) Try.underlying28 rfl (by kernel_rfl)) rfl ?_
 exact ⟨_, by first | rfl | (simp [errW_none, errW_some] <;> rfl) | (simp [*, errW_none, errW_some] <;> rfl), by first | exact Kd.R_nil _ _ _ _ _ | exact Kd.N_nil _ _ _ _ _ | exact Kd.V_nil _ _ _ _ _ | exact Kd.Q_nil _ _ _ _ _ | exact Kd.S_nil _ _ _ _ _, bX HB⟩
 }
 subst c3
 rw [if_pos rfl] at H
 have H' := mK H
 clear H
 go_enter Try.func15, Try.ntmps15
 go_wp2_with (first | ((with_reducible refine gate_dst (N := 1) rfl ?_); refine bxE 1 #[.int .i64 a0_0, .slice A0_1 l0_1.length c0_1] 33 ?_; intro gb344 hg w4 hbox hb; have BK344 := mK hbox; have GW344 := mK (gX hg HB); have GE344 := mK (gX hg HB); replace HB := bB HB hb; clear hb hbox hg) | ((with_reducible refine gate_dst (N := 2) rfl ?_); refine bxE 2 #[.int .i64 0, .slice none 0 0] 28 ?_; intro gb345 hg w5 hbox hb; have BK345 := mK hbox; have GW345 := mK (gX hg HB); have GE345 := mK (gX hg HB); replace HB := bB HB hb; have NB344_345 := mK (lX hg BK344); have NB345_344 := mK (mX hg BK344); replace BK344 := kB BK344 hb; clear hb hbox hg; have hnb6 := NB344_345.out; have hnc6 := NB345_344.out; have hcz7_0 := q0 BK344; have hcz7_1 := q1 BK344; have hfz7_0 := fX BK344 0; have hfz7_1 := fX BK344 1) | ((with_reducible refine gate_callee (f := 41) rfl ?_); refine gsE (some 11) Try.func41 #[.agg #[.int .i64 a0_0, .slice A0_1 l0_1.length c0_1]] ?_; (with_reducible refine (impl_GraphOk.calls a0_0 _ _ l0_1 true _ ?side1 ?side2 A2.out).mono ?_); (case side1 => exact cX HR0_1 HB); (case side2 => exact HC0_1.out); rintro e w8 ⟨rfl, hb⟩; refine ⟨_, rfl, ?_⟩; replace BK344 := kB BK344 hb; replace BK345 := kB BK345 hb; replace HB := bB HB hb; (try clear hb); (try clear hb2); (try clear hk); (try clear hi); have hcz9_0 := q0 BK344; have hcz9_1 := q1 BK344; have hfz9_0 := fX BK344 0; have hfz9_1 := fX BK344 1) | ((with_reducible refine gate_dst (N := 4) rfl ?_); refine bxE 4 #[.int .i64 0, .slice none 0 0] 28 ?_; intro gb347 hg w10 hbox hb; have BK347 := mK hbox; have GW347 := mK (gX hg HB); have GE347 := mK (gX hg HB); replace HB := bB HB hb; have NB344_347 := mK (lX hg BK344); have NB347_344 := mK (mX hg BK344); replace BK344 := kB BK344 hb; have NB345_347 := mK (lX hg BK345); have NB347_345 := mK (mX hg BK345); replace BK345 := kB BK345 hb; clear hb hbox hg; have hnb11 := NB347_344.out; have hnc11 := NB344_347.out; have hnb12 := NB347_345.out; have hnc12 := NB345_347.out; have hcz13_0 := q0 BK347; have hcz13_1 := q1 BK347; have hfz13_0 := fX BK347 0; have hfz13_1 := fX BK347 1))
 go_loopg [5] k (fun kq v5 w' => ∃ (x5_1 : Int) (x346000_1 : Int) (x348001_1 : List Int) (u348001 : Value), v5 = .int .i64 x5_1 ∧ Aside0 (impl_CloseGraph.l0 kq x5_1 a0_0 l0_1 a0_0 x348001_1 = some (r1, r2, r3)) ∧ Aside0 (kq ≤ k) ∧ Aside0 (Kd.R (Kd.int .i64) 3 w' w.heap.size (fun _ => True) u348001 x348001_1) ∧ Aside0 (w'.heap[gb344]? = some (.cells #[.int .i64 a0_0, (.slice A0_1 l0_1.length c0_1)] 33 (0, 0))) ∧ Aside0 (w'.heap[gb345]? = some (.cells #[.int .i64 x346000_1, (.slice none 0 0)] 28 (0, 0))) ∧ Aside0 (w'.heap[gb347]? = some (.cells #[.int .i64 a0_0, u348001] 28 (0, 0))) ∧ Aside0 (Below w.heap.size w w'))
 case atStart => exact ⟨(0), (0), (([] : List Int)), (.slice none 0 0), (by first | rfl | (simp; done) | (simp [*]; done)), H', ⟨Nat.le_refl _⟩, ⟨by first | exact Kd.R_nil _ _ _ _ _ | exact Kd.N_nil _ _ _ _ _ | exact Kd.V_nil _ _ _ _ _ | exact Kd.Q_nil _ _ _ _ _ | exact Kd.S_nil _ _ _ _ _⟩, ⟨kF BK344 NB344_347⟩, ⟨kF BK345 NB345_347⟩, ⟨kP2 BK347⟩, ⟨bX HB⟩⟩
 case round => (
 clear H'
 try clear c1
 try clear p2
 try clear c3
 try clear c4
 try clear c6
 try clear c11
 try clear c12
 try clear hcz13_0
 try clear hcz13_1
 try clear hcz7_0
 try clear hcz7_1
 try clear hcz9_0
 try clear hcz9_1
 try clear hfz13_0
 try clear hfz13_1
 try clear hfz7_0
 try clear hfz7_1
 try clear hfz9_0
 try clear hfz9_1
 obtain ⟨x5_1, x346000_1, x348001_1, u348001, rfl, HA, HK1, HO_348001, BK344, BK345, BK347, HB⟩ := hrel
 cases gk with
 | zero => exact absurd HA.out (by simp [impl_CloseGraph.l0])
 | succ k1 => (
 have H := HA.out
 clear HA
 simp only [impl_CloseGraph.l0] at H
 by_cases c14 : x5_1 < a0_0
 rotate_left
 {
 rw [if_neg c14] at H
 have c14b0 : decide (x5_1 < a0_0) = false := decide_eq_false c14
 clear c14
 simp only [Option.some.injEq, Prod.mk.injEq] at H
 obtain ⟨rfl, rfl, rfl⟩ := H
 have hnb38 := NB344_345.out
 have hnc38 := NB345_344.out
 have hnb39 := NB344_347.out
 have hnc39 := NB347_344.out
 have hcz40_0 := q0 BK344
 have hcz40_1 := q1 BK344
 have hfz40_0 := fX BK344 0
 have hfz40_1 := fX BK344 1
 have hnb41 := NB347_345.out
 have hnc41 := NB345_347.out
 have hcz42_0 := q0 BK347
 have hcz42_1 := q1 BK347
 have hfz42_0 := fX BK347 0
 have hfz42_1 := fX BK347 1
 have hcz43_0 := q0 BK345
 have hcz43_1 := q1 BK345
 have hfz43_0 := fX BK345 0
 have hfz43_1 := fX BK345 1
 obtain ⟨Ao44, co44, eo44⟩ := Kd.R_slice HO_348001.out
 subst eo44
 go_wp2
 refine bodyPost_ret (results_ct rfl _ _ gb345 28 #[.int .i64 a0_0, .slice Ao44 x348001_1.length co44] (0, 0) _ rfl (kP2 BK345) Try.underlying28 rfl (by kernel_rfl)) rfl ?_
 exact ⟨_, by first | rfl | (simp [errW_none, errW_some] <;> rfl) | (simp [*, errW_none, errW_some] <;> rfl), rF2 HO_348001 BK345, bX HB⟩
 }
 rw [if_pos c14] at H
 have c14b0 : decide (x5_1 < a0_0) = true := decide_eq_true c14
 clear c14
 replace H := Option.bind_eq_some_iff.mp H
 obtain ⟨⟨t348, t351⟩, A150, H⟩ := H
 replace H : (if t351 = true then (impl_CloseGraph.l1 k1 x5_1 t348 (t348.length : Int) 0 a0_0 l0_1 a0_0 x348001_1) else (some (0, ([] : List Int), false))) = some (r1, r2, r3) := H
 have A15 := mK A150
 clear A150
 by_cases c16 : t351 = true
 rotate_left
 {
 replace c16 := Bool.eq_false_iff.mpr c16
 subst c16
 rw [if_neg (show ¬ (false = true) by decide)] at H
 simp only [Option.some.injEq, Prod.mk.injEq] at H
 obtain ⟨rfl, rfl, rfl⟩ := H
 have hnb32 := NB344_345.out
 have hnc32 := NB345_344.out
 have hnb33 := NB344_347.out
 have hnc33 := NB347_344.out
 have hcz34_0 := q0 BK344
 have hcz34_1 := q1 BK344
 have hfz34_0 := fX BK344 0
 have hfz34_1 := fX BK344 1
 go_wp2_with (first | ((with_reducible refine gate_callee (f := 43) rfl ?_); refine gsE (some 26) Try.func43 #[.agg #[.int .i64 a0_0, .slice A0_1 l0_1.length c0_1], .int .i64 x5_1] ?_; (with_reducible refine (impl_ShortestFrom.calls k1 a0_0 _ _ l0_1 x5_1 t348 false _ ?side1 ?side2 A15.out).mono ?_); (case side1 => exact cX HR0_1 HB); (case side2 => exact HC0_1.out); rintro e w35 ⟨v349, rfl, ho0, hb⟩; refine ⟨_, rfl, ?_⟩; have HO350 := mK (Kd.R_lower (Kd.R_new' ho0 (Kd.R_lt (rX HO_348001))) (below_size (bX HB))); replace HO_348001 := mK (Kd.R_elder' (rX HO_348001) (Kd.R_base ho0) hb); replace BK344 := kB BK344 hb; replace BK345 := kB BK345 hb; replace BK347 := kB BK347 hb; replace HB := bB HB hb; (try clear hb); (try clear hb2); (try clear hk); (try clear hi); (try clear ho0); have hnb36 := NB345_347.out; have hnc36 := NB347_345.out; have hcz37_0 := q0 BK345; have hcz37_1 := q1 BK345; have hfz37_0 := fX BK345 0; have hfz37_1 := fX BK345 1))
 refine bodyPost_ret (results_ct rfl _ _ gb345 28 #[.int .i64 0, .slice none 0 0] (0, 0) _ rfl (kP2 BK345) Try.underlying28 rfl (by kernel_rfl)) rfl ?_
 exact ⟨_, by first | rfl | (simp [errW_none, errW_some] <;> rfl) | (simp [*, errW_none, errW_some] <;> rfl), by first | exact Kd.R_nil _ _ _ _ _ | exact Kd.N_nil _ _ _ _ _ | exact Kd.V_nil _ _ _ _ _ | exact Kd.Q_nil _ _ _ _ _ | exact Kd.S_nil _ _ _ _ _, bX HB⟩
 }
 subst c16
 rw [if_pos rfl] at H
 have H' := mK H
 clear H
 have hnb17 := NB344_345.out
 have hnc17 := NB345_344.out
 have hnb18 := NB344_347.out
 have hnc18 := NB347_344.out
 have hcz19_0 := q0 BK344
 have hcz19_1 := q1 BK344
 have hfz19_0 := fX BK344 0
 have hfz19_1 := fX BK344 1
 go_wp2_with (first | ((with_reducible refine gate_callee (f := 43) rfl ?_); refine gsE (some 26) Try.func43 #[.agg #[.int .i64 a0_0, .slice A0_1 l0_1.length c0_1], .int .i64 x5_1] ?_; (with_reducible refine (impl_ShortestFrom.calls k1 a0_0 _ _ l0_1 x5_1 t348 true _ ?side1 ?side2 A15.out).mono ?_); (case side1 => exact cX HR0_1 HB); (case side2 => exact HC0_1.out); rintro e w20 ⟨v349, rfl, ho0, hb⟩; refine ⟨_, rfl, ?_⟩; have HO350 := mK (Kd.R_lower (Kd.R_new' ho0 (Kd.R_lt (rX HO_348001))) (below_size (bX HB))); replace HO_348001 := mK (Kd.R_elder' (rX HO_348001) (Kd.R_base ho0) hb); replace BK344 := kB BK344 hb; replace BK345 := kB BK345 hb; replace BK347 := kB BK347 hb; replace HB := bB HB hb; (try clear hb); (try clear hb2); (try clear hk); (try clear hi); (try clear ho0); obtain ⟨Ao21, co21, eo21⟩ := Kd.R_slice HO350.out; subst eo21))
 go_loopg [34] k1 (fun kq v34 w' => ∃ (x34_2 : Int) (x348001_2 : List Int) (u348001 : Value), v34 = .int .i64 x34_2 ∧ Aside0 (impl_CloseGraph.l1 kq x5_1 t348 (t348.length : Int) x34_2 a0_0 l0_1 a0_0 x348001_2 = some (r1, r2, r3)) ∧ Aside0 (kq ≤ k1) ∧ Aside0 (Kd.R (Kd.int .i64) 3 w' w.heap.size (fun k_ => some k_ ≠ (u348001 : Value).ownBlock) (.slice Ao21 t348.length co21) t348) ∧ Aside0 (Kd.R (Kd.int .i64) 3 w' w.heap.size (fun k_ => some k_ ≠ ((.slice Ao21 t348.length co21) : Value).ownBlock) u348001 x348001_2) ∧ Aside0 (w'.heap[gb344]? = some (.cells #[.int .i64 a0_0, (.slice A0_1 l0_1.length c0_1)] 33 (0, 0))) ∧ Aside0 (w'.heap[gb345]? = some (.cells #[.int .i64 x346000_1, (.slice none 0 0)] 28 (0, 0))) ∧ Aside0 (w'.heap[gb347]? = some (.cells #[.int .i64 a0_0, u348001] 28 (0, 0))) ∧ Aside0 (Below w.heap.size w w'))
 case atStart => exact ⟨(0), (x348001_1), (u348001), (by first | rfl | (simp; done) | (simp [*]; done)), H', ⟨Nat.le_refl _⟩, ⟨by (with_reducible repeat first|apply rA|apply rN|apply rD); exact Kd.R_mono HO350.out (fun _ hk => hk.2)⟩, ⟨by (with_reducible repeat first|apply rA|apply rN|apply rD); exact Kd.R_mono HO_348001.out (fun _ hk => hk.2)⟩, ⟨kX BK344⟩, ⟨kX BK345⟩, ⟨kX BK347⟩, ⟨bX HB⟩⟩
 case round => (
 clear H'
 try clear c1
 try clear p2
 try clear c3
 try clear c4
 try clear c6
 try clear c11
 try clear c12
 try clear c14
 try clear c14b0
 try clear c15
 try clear c16
 try clear c17
 try clear c18
 try clear hcz13_0
 try clear hcz13_1
 try clear hcz19_0
 try clear hcz19_1
 try clear hcz7_0
 try clear hcz7_1
 try clear hcz9_0
 try clear hcz9_1
 try clear hfz13_0
 try clear hfz13_1
 try clear hfz19_0
 try clear hfz19_1
 try clear hfz7_0
 try clear hfz7_1
 try clear hfz9_0
 try clear hfz9_1
 try clear p2
 obtain ⟨x34_2, x348001_2, u348001, rfl, HA, HK2, HO_32, HO_348001, BK344, BK345, BK347, HB⟩ := hrel
 cases gk with
 | zero => exact absurd HA.out (by simp [impl_CloseGraph.l1])
 | succ k2 => (
 have H := HA.out
 clear HA
 simp only [impl_CloseGraph.l1] at H
 by_cases c22 : x34_2 < (t348.length : Int)
 rotate_left
 {
 rw [if_neg c22] at H
 have c22b0 : decide (x34_2 < (t348.length : Int)) = false := decide_eq_false c22
 clear c22
 have H' := mK H
 clear H
 go_wp2
 go_roundg k2
 case measure => have := HK1.out; have := HK2.out; omega
 case rel => exact ⟨(wrap64 (x5_1 + 1)), (x346000_1), (x348001_2), (u348001), (by first | rfl | (simp; done) | (simp [*]; done)), H', ⟨by have := HK1.out; have := HK2.out; omega⟩, ⟨by (with_reducible repeat first|apply rA|apply rN|apply rD); exact Kd.R_mono HO_348001.out (fun _ hk => trivial)⟩, ⟨kX BK344⟩, ⟨kX BK345⟩, ⟨kX BK347⟩, ⟨bX HB⟩⟩
 }
 rw [if_pos c22] at H
 have c22b0 : decide (x34_2 < (t348.length : Int)) = true := decide_eq_true c22
 clear c22
 by_cases c23 : 0 ≤ x34_2
 rotate_left
 {
 rw [if_neg c23] at H
 exact absurd H (by simp)
 }
 rw [if_pos c23] at H
 have c23b0 : decide (0 ≤ x34_2) = true := decide_eq_true c23
 clear c23
 by_cases c24 : x34_2 < (t348.length : Int)
 rotate_left
 {
 rw [if_neg c24] at H
 exact absurd H (by simp)
 }
 rw [if_pos c24] at H
 have c24b0 : decide (x34_2 < (t348.length : Int)) = true := decide_eq_true c24
 clear c24
 replace H := Option.bind_eq_some_iff.mp H
 obtain ⟨t353, A250, H⟩ := H
 replace H : (if x348001_2.length < 17592186044416 then (impl_CloseGraph.l1 k2 x5_1 t348 (t348.length : Int) (wrap64 (x34_2 + 1)) a0_0 l0_1 a0_0 (x348001_2 ++ [t353])) else (none)) = some (r1, r2, r3) := H
 have A25 := mK A250
 clear A250
 by_cases c26 : x348001_2.length < 17592186044416
 rotate_left
 {
 rw [if_neg c26] at H
 exact absurd H (by simp)
 }
 rw [if_pos c26] at H
 have LMc26 := mK c26
 clear c26
 obtain ⟨y354, hy354⟩ : ∃ y_ : List Int, y_ = (x348001_2 ++ [t353]) := ⟨_, rfl⟩
 replace H : (impl_CloseGraph.l1 k2 x5_1 t348 (t348.length : Int) (wrap64 (x34_2 + 1)) a0_0 l0_1 a0_0 y354) = some (r1, r2, r3) := by first | (rw [hy354]; with_reducible exact H) | (have H2_ := (Option.bind_some _ _).symm.trans H; rw [hy354]; with_reducible exact H2_) | (have H2_ := (Option.bind_some _ _).symm.trans H; with_reducible exact H2_) | with_reducible exact H | (rw [hy354]; exact H) | exact H
 have Ny354 := mK hy354
 clear hy354
 have H' := mK H
 clear H
 have p352 : 0 ≤ (x34_2 : Int) := of_decide_eq_true oX
 have q352 : x34_2 < (t348.length : Int) := of_decide_eq_true oX
 obtain ⟨ad352, e352, hx352_0⟩ := Kd.at_int (Kd.R_reads' HO_32.out).2.2 x34_2 p352 q352
 cases e352
 replace p352 := eq_true p352
 replace q352 := eq_true q352
 try go_wp2
 have n0_ := mK (Kd.R_drew HO_32.out)
 have n1_ := mK (Kd.R_drew HO_348001.out)
 have n2_ := mK (blk_drew BK344.out)
 have n3_ := mK (blk_drew BK345.out)
 have n4_ := mK (blk_drew BK347.out)
 have n5_ := mK (below_drew1 HB.out)
 clear HO_32
 clear HO_348001
 clear BK344
 clear BK345
 clear BK347
 clear HB
 have HO_32 := n0_
 have HO_348001 := n1_
 have BK344 := n2_
 have BK345 := n3_
 have BK347 := n4_
 have HB := n5_
 clear n0_ n1_ n2_ n3_ n4_ n5_
 refine start_ (n := 8) (S := fun w' => w'.cell? ⟨gb347, 0, none⟩ = some (.int .i64 a0_0) ∧ w'.cell? ⟨gb347, 1, none⟩ = some (u348001)) (ds := [7]) (bs 0 8) (by kernel_rfl) rfl (by kernel_rfl) ⟨(blk_cell BK347.out 0).trans rfl, (blk_cell BK347.out 1).trans rfl⟩ (fun hHeld => ?_); refine with_tabW impl_CloseGraph.tab13 impl_CloseGraph.bits13 (fun HT_ HW_ => ?_)
 generalize wr.drew = w27 at HO_32 HO_348001 BK344 BK345 BK347 HB hHeld ⊢
 refine pL 0 38 (bs 1 8) HT_ ?_
 refine pL 2 40 #[true, false, true, false, false, false, false, false] HT_ ?_
 refine tL 1 39 (bs 3 8) HT_ HW_ hHeld ?_
 refine one_ (i := 3) (N := some 41) (bs 4 8) rfl rfl (one_of HT_.out (by kernel_rfl)) (by decide) (fun K hK => ?_)
 refine gsK Try.func59 #[.int .i64 (rd t348 x34_2)] ?_
 with_reducible refine (impl_ClampBound.calls (rd t348 x34_2) t353 _ A25.out).mono ?_
 rintro e w28 ⟨rfl, hb⟩
 refine ⟨_, rfl, ?_⟩
 have n0_ := mK (Kd.R_below (rX HO_32) hb)
 have n1_ := mK (Kd.R_below (rX HO_348001) hb)
 have n2_ := kB BK344 hb
 have n3_ := kB BK345 hb
 have n4_ := kB BK347 hb
 have n5_ := bB HB hb
 clear HO_32
 clear HO_348001
 clear BK344
 clear BK345
 clear BK347
 clear HB
 have HO_32 := n0_
 have HO_348001 := n1_
 have BK344 := n2_
 have BK345 := n3_
 have BK347 := n4_
 have HB := n5_
 clear n0_ n1_ n2_ n3_ n4_ n5_
 (try clear hb)
 (try clear hb2)
 (try clear hk)
 (try clear hi)
 refine hK.out _ _ ⟨(blk_cell BK347.out 0).trans rfl, (blk_cell BK347.out 1).trans rfl⟩ (fun hHeld => ?_)
 clear hK K
 refine norm_ (a' := ?_) ?_ ?_
 rotate_left
 {
 show Act.put _ (some 41) _ = _
 simp only [Act.put, sT, sZ, sU, i64_w, i32_w]
 rfl
 }
 refine one_ (i := 4) (N := some 42) (bs 5 8) rfl rfl (one_of HT_.out (by kernel_rfl)) (by decide) (fun K hK => ?_)
 refine value_ (w1 := ?_) (v := ?_) (by rfl) rfl ?_ ?_
 rotate_left 2
 {
 go_simp
 constructor
 {
 rfl
 }
 {
 rfl
 }
 }
 refine hK.out _ _ ⟨(blk_cell (blk_alloc BK347.out _) 0).trans rfl, (blk_cell (blk_alloc BK347.out _) 1).trans rfl⟩ (fun hHeld => ?_)
 clear hK K
 refine norm_ (a' := ?_) ?_ ?_
 rotate_left
 {
 show Act.put _ (some 42) _ = _
 simp only [Act.put, sT, sZ, sU, i64_w, i32_w]
 rfl
 }
 refine one_ (i := 5) (N := some 43) (bs 6 8) rfl rfl (one_of HT_.out (by kernel_rfl)) (by decide) (fun K hK => ?_)
 refine Kd.R_append_step (Kd.int .i64) (w0 := w) w.heap.size (by rfl) (.tmp 39) (.tmp 42) 26 3 (.int .i64 0) 8 rfl Try.underlying26 info3 rfl (by decide) (by omega) u348001 x348001_2 t353 [.int .i64 t353] (fun k_ => some k_ ≠ (.slice (some ad352) t348.length co21 : Value).ownBlock) (fun _ => False) rfl rfl ?aP (fun _ hk => hk.elim) ?aF ?aO ?aB ?aS ?aL ?_
 (case aP => exact rfl)
 (case aB => exact (bX HB))
 (case aF => exact (fun k_ hk => Kd.fresh' (Kd.R_lt (rX HO_32)) k_ hk))
 (case aO => exact (rX HO_348001))
 (case aS => exact (below_size (bX HB)))
 (case aL => have := LMc26.out; omega)
 intro v355 w29 ho hb hg hat
 rw [← Ny354.out] at ho
 have n0_ := mK (Kd.R_after (ok := (fun _ => True)) (by (with_reducible repeat first|apply rA|apply rN|apply rD); exact Kd.R_mono HO_32.out (fun _ hk => ⟨trivial, hk⟩)) hg hat)
 have n1_ := mK (blk_grown (kX BK344) hg (Kd.R_ne HO_348001.out BK344.out (by decide)))
 have n2_ := mK (blk_grown (kX BK345) hg (Kd.R_ne HO_348001.out BK345.out (by decide)))
 have n3_ := mK (blk_grown (kX BK347) hg (Kd.R_ne HO_348001.out BK347.out (by decide)))
 have n4_ := mK (hb)
 have n5_ := mK (ho)
 clear HO_32
 clear BK344
 clear BK345
 clear BK347
 clear HB
 clear HO_348001
 have HO_32 := n0_
 have BK344 := n1_
 have BK345 := n2_
 have BK347 := n3_
 have HB := n4_
 have HO356 := n5_
 clear n0_ n1_ n2_ n3_ n4_ n5_
 clear ho hb hg hat
 obtain ⟨Ao30, co30, eo30⟩ := Kd.R_slice HO356.out
 (first | subst eo30 | (injection eo30 with f1_ f2_ f3_; have f4_ := f1_.symm; have f5_ := f3_.symm; clear f1_ f2_ f3_; subst f4_; subst f5_))
 refine hK.out _ _ ⟨(blk_cell BK347.out 0).trans rfl, (blk_cell BK347.out 1).trans rfl⟩ (fun hHeld => ?_)
 clear hK K
 refine norm_ (a' := ?_) ?_ ?_
 rotate_left
 {
 show Act.put _ (some 43) _ = _
 simp only [Act.put, sT, sZ, sU, i64_w, i32_w]
 rfl
 }
 refine pL 6 44 (bs 7 8) HT_ ?_
 refine last_ (i := 7) (N := none) (bs 8 8) rfl rfl (one_of HT_.out (by kernel_rfl)) (by decide) (fun K hK => ?_)
 have hs31 : w29.cell? ⟨gb347, 1, none⟩ = some (u348001) := (blk_cell BK347.out 1).trans rfl
 have hfs31 := fX BK347 1
 have hns31_0 := NB344_347.out
 have hns31_1 := NB345_347.out
 have hms31_0 := NB347_344.out
 have hms31_1 := NB347_345.out
 refine skip_ (w1 := ?_) (by rfl) rfl ?_ ?_
 rotate_left
 {
 go_simp
 rfl
 }
 refine hK.out _ _ ?_
 clear hK K
 refine done_ (done_of HT_.out (by kernel_rfl)) ?_
 try go_wp2
 go_roundg k2
 case measure => have := HK1.out; have := HK2.out; omega
 case rel => exact ⟨(wrap64 (x34_2 + 1)), (y354), (.slice Ao30 y354.length co30), (by first | rfl | (simp; done) | (simp [*]; done)), H', ⟨by have := HK1.out; have := HK2.out; omega⟩, ⟨by (with_reducible repeat first|apply rA|apply rN|apply rD); exact Kd.R_mono (Kd.R_far (p := ⟨gb347, 1, none⟩) (Kd.R_types HO_32.out BK347.out (by decide)) (fun _ hk => hk.2) (.slice Ao30 y354.length co30)) (fun _ hk => hk.1.2)⟩, ⟨by (with_reducible repeat first|apply rA|apply rN|apply rD); exact Kd.R_mono (Kd.R_far (p := ⟨gb347, 1, none⟩) (Kd.R_types HO356.out BK347.out (by decide)) (fun _ hk => hk.2) (.slice Ao30 y354.length co30)) (fun _ hk => hk.1)⟩, ⟨kF BK344 NB344_347⟩, ⟨kF BK345 NB345_347⟩, ⟨by (with_reducible repeat first|apply kN|apply kD|apply kA); refine blk_put (cs := #[.int .i64 a0_0, u348001]) ?_ 1 _ rfl; (with_reducible repeat first|apply kN|apply kD|apply kA); exact BK347.out⟩, ⟨bX HB⟩⟩
 )
 )
 )
 )

/-! ### impl_Link_94: function 94 -/
section
open Go.Shelf Go.Lib
instance : Inhabited S76 := ⟨z76⟩
def encLink (x : S76) : List Value := [.int .i64 x.f0, .int .i64 x.f1, .int .i64 x.f2.f0, .int .i64 x.f2.f1]
set_option maxHeartbeats 2000000 in
theorem idxLink_calls (p : S76 → Bool) (g : Nat) (lb : Array Value) (eg : ∀ args w, (callFunc g args).run Try.prog w = .ok (.enter g args) w) (b off n c : Nat) (zs : List S76) (w : World)
    (hp : ∀ (W : World) (x : S76), x ∈ zs → Below w.heap.size w W → Calls Try.prog g (#[(.agg #[.int .i64 x.f0, .int .i64 x.f1, .int .i64 x.f2.f0, .int .i64 x.f2.f1])] ++ lb) W fun e w' => e = .returned (.bool (p x)) ∧ Below w.heap.size w w') (hz : n ≤ zs.length) (hbig : n ≤ 9223372036854775807) (hb : b < w.heap.size)
    (hc : ∀ j, j < zs.length → ∀ i v, (encLink zs[j]!)[i]? = some v → w.cell? ⟨b, off + j * 4 + i, none⟩ = some v) :
    Calls Try.prog 94 #[.slice (some ⟨b, off, none⟩) n c, .func (.func g) #[] lb] w fun e w' => e = .returned (.int .i64 (Lib.idxBy (fun _ y => p y) (zs.take n) default)) ∧ Below w.heap.size w w' := by
  have hrow : ∀ (W : World), Below w.heap.size w W → ∀ j, j < zs.length → W.cell? ⟨b, off + j * 4, none⟩ = some (.int .i64 zs[j]!.f0) ∧ W.cell? ⟨b, off + j * 4 + 1, none⟩ = some (.int .i64 zs[j]!.f1) ∧ W.cell? ⟨b, off + j * 4 + 2, none⟩ = some (.int .i64 zs[j]!.f2.f0) ∧ W.cell? ⟨b, off + j * 4 + 3, none⟩ = some (.int .i64 zs[j]!.f2.f1) := fun W hW j hj =>
   ⟨(hW.cell (p := ⟨b, off + j * 4, none⟩) hb).trans (hc j hj 0 _ rfl), (hW.cell (p := ⟨b, off + j * 4 + 1, none⟩) hb).trans (hc j hj 1 _ rfl), (hW.cell (p := ⟨b, off + j * 4 + 2, none⟩) hb).trans (hc j hj 2 _ rfl), (hW.cell (p := ⟨b, off + j * 4 + 3, none⟩) hb).trans (hc j hj 3 _ rfl)⟩
  clear hc
  go_enter Try.func94, Try.ntmps94
  go_wp2
  go_loopg [5, 8] n (fun gg _ s8 wr => ∃ kk : Nat, kk ≤ n ∧ n - kk ≤ gg ∧ s8 = .int .i64 kk ∧ Aside (Below w.heap.size w wr) ∧ Aside (∀ j, j < kk → p zs[j]! = false))
  case atStart => exact ⟨0, Nat.zero_le _, by omega, rfl, Below.refl _ w, fun j hj => absurd hj (Nat.not_lt_zero _)⟩
  case round =>
   obtain ⟨kk, hkk, hg, rfl, BW, A⟩ := hrel
   by_cases hlt : kk < n
   rotate_left
   · have hltz : ¬ (kk : Int) < (n : Int) := by omega
     have : kk = n := by omega
     subst this
     go_wp2
     go_ret
     refine ⟨?_, BW.out⟩
     rw [Lib.idxBy_miss (fun _ y => p y) zs kk default A.out]
     rfl
   have hltz : (kk : Int) < (n : Int) := by omega
   obtain ⟨l0, l1, l2, l3⟩ := hrow wr BW.out kk (by omega)
   have hcall := hp wr zs[kk]! (by rw [getElem!_pos zs kk (by omega)]; exact List.getElem_mem _) BW.out
   clear hrow hp
   generalize hy : zs[kk]! = y at l0 l1 l2 l3 hcall
   have B : Aside (zs[kk]! = y) := hy
   clear hy
   cases hq : p y with
   | true =>
    rw [hq] at hcall
    go_wp2_with (go_at_fn g; refine hcall.mono ?_; rintro e w' ⟨rfl, hb'⟩)
    go_ret
    refine ⟨?_, hb'⟩
    rw [Lib.idxBy_hit (fun _ y => p y) zs n kk default hlt hz (by show p zs[kk]! = true; rw [B.out]; exact hq) A.out]
    rfl
   | false =>
    rw [hq] at hcall
    go_wp2_with (go_at_fn g; refine hcall.mono ?_; rintro e w' ⟨rfl, hb'⟩)
    go_roundg (n - (kk + 1))
    case measure => omega
    case rel =>
     refine ⟨kk + 1, by omega, by omega, by go_num, hb', (show Aside _ from fun j hj => ?_)⟩
     by_cases e : j = kk
     rotate_left
     · exact A.out j (by omega)
     subst e
     rw [B.out]; exact hq
theorem idxLink_empty (a : Option Addr) (c : Nat) (fv : Value) (w : World) :
    Calls Try.prog 94 #[.slice a 0 c, fv] w fun e w' => e = .returned (.int .i64 (-1)) ∧ w' = w := by
  go_enter Try.func94, Try.ntmps94
  go_wp2
  go_loopg [5, 8] 0 (fun _ _ s8 wr => s8 = .int .i64 0 ∧ wr = w)
  case atStart => exact ⟨rfl, rfl⟩
  case round =>
   obtain ⟨rfl, rfl⟩ := hrel
   go_wp2
   go_ret
   exact ⟨rfl, rfl⟩
theorem addrLink_of {W : World} {a : Addr} {v : Value} (h : W.cell? a = some v) : ∃ b o, a = ⟨b, o, none⟩ ∧ b < W.heap.size := by
  obtain ⟨b, o, s⟩ := a
  have hlt := World.block_lt_of_cell? W _ h
  cases s with
  | none => exact ⟨b, o, rfl, hlt⟩
  | some s =>
   unfold World.cell? at h
   split at h
   · simp at h
   · simp at h
theorem idxLink_at (p : S76 → Bool) (g : Nat) (lb : Array Value) (eg : ∀ args w, (callFunc g args).run Try.prog w = .ok (.enter g args) w) (A : Option Addr) (c : Nat) (l : List S76) (w : World)
    (hp : ∀ (W : World) (x : S76), x ∈ l → Below w.heap.size w W → Calls Try.prog g (#[(.agg #[.int .i64 x.f0, .int .i64 x.f1, .int .i64 x.f2.f0, .int .i64 x.f2.f1])] ++ lb) W fun e w' => e = .returned (.bool (p x)) ∧ Below w.heap.size w w') (hr : Kd.C k76 w A l.length l) :
    Calls Try.prog 94 #[.slice A l.length c, .func (.func g) #[] lb] w fun e w' => e = .returned (.int .i64 (Lib.idxBy (fun _ y => p y) l default)) ∧ Below w.heap.size w w' := by
  cases l with
  | nil => exact (idxLink_empty A c _ w).mono fun e w' ⟨he, hw⟩ => by subst hw; exact ⟨he, Below.refl _ _⟩
  | cons x l' =>
   have hrow : ∀ j, j < (x :: l').length → ∃ ad, A = some ad ∧ ∀ i v, (encLink (x :: l')[j]!)[i]? = some v → w.cell? (ad.add (j * 4 + i)) = some v := by
    intro j hj
    obtain ⟨ad, cs, e, _, hK, hc0⟩ := Kd.C_get hr z76 j (by omega) (by omega)
    have hcs : cs = encLink ((x :: l').getD j z76) := k76_open (by simpa using hK)
    refine ⟨ad, e, fun i v hi => ?_⟩
    have e1 : (x :: l')[j]! = (x :: l').getD j z76 := by rw [List.getD_eq_getElem?_getD, List.getElem!_eq_getElem?_getD]; rfl
    have := hc0 i v (by rw [hcs, ← e1]; exact hi)
    simpa [k76, k52, Kd.iso, Kd.pair, Kd.int, Kd.scalar] using this
   obtain ⟨ad, rfl, h0⟩ := hrow 0 (by simp)
   obtain ⟨b, o, rfl, hb⟩ := addrLink_of (h0 0 _ rfl)
   have hcon := idxLink_calls p g lb eg b o (x :: l').length c (x :: l') w
     hp (Nat.le_refl _) (Kd.C_max hr) hb (fun j hj i v hi => by
       obtain ⟨ad', e, h⟩ := hrow j hj
       obtain rfl := Option.some.inj e
       have := h i v hi
       rw [Addr.add_lit] at this
       rw [← this, Nat.add_assoc])
   rw [List.take_length] at hcon
   exact hcon
end

/-! ### impl_Link_88: function 88 -/
section
open Go.Shelf Go.Lib
theorem anyLink_at (p : S76 → Bool) (g : Nat) (lb : Array Value) (eg : ∀ args w, (callFunc g args).run Try.prog w = .ok (.enter g args) w) (A : Option Addr) (c : Nat) (l : List S76) (w : World)
    (hp : ∀ (W : World) (x : S76), x ∈ l → Below w.heap.size w W → Calls Try.prog g (#[(.agg #[.int .i64 x.f0, .int .i64 x.f1, .int .i64 x.f2.f0, .int .i64 x.f2.f1])] ++ lb) W fun e w' => e = .returned (.bool (p x)) ∧ Below w.heap.size w w') (hr : Kd.C k76 w A l.length l) :
    Calls Try.prog 88 #[.slice A l.length c, .func (.func g) #[] lb] w fun e w' => e = .returned (.bool (l.any p)) ∧ Below w.heap.size w w' := by
  rw [show l.any p = decide (0 ≤ Lib.idxBy (fun _ y => p y) l default) from (Lib.idxBy_nonneg_iff (fun _ y => p y) l default).symm]
  have hcon := idxLink_at p g lb eg A c l w hp hr
  generalize Lib.idxBy (fun _ y => p y) l default = r at hcon ⊢
  go_enter Try.func88, Try.ntmps88
  go_wp2_with (go_at_call 94; refine hcon.mono ?_; rintro e w' ⟨rfl, hb'⟩)
  go_ret
  exact ⟨by simp, hb'⟩
end

/-! ### impl_IntervalOk: function 90 -/
def impl_IntervalOk.f (a0_0 : Int) (a0_1 : Int) : Option (Bool) := if a0_0 ≥ (-1000000) then (if a0_0 ≤ a0_1 then (if a0_1 ≤ 1000000 then (if a0_0 = 1000000 then (some false) else (some (a0_1 != (-1000000)))) else (some false)) else (some false)) else (some false)
set_option maxHeartbeats 8000000 in
set_option maxRecDepth 100000 in
theorem impl_IntervalOk.calls (a0_0 : Int) (a0_1 : Int) (r : Bool) (w : World) (h : impl_IntervalOk.f a0_0 a0_1 = some r) :
    Calls Try.prog 90 #[.agg #[.int .i64 a0_0, .int .i64 a0_1]] w fun e w' => e = .returned (.bool r) ∧ Below w.heap.size w w' := by
  have hu52 := Try.underlying52
  have HB := mK (Below.refl w.heap.size w)
  have H : (if a0_0 ≥ (-1000000) then (if a0_0 ≤ a0_1 then (if a0_1 ≤ 1000000 then (if a0_0 = 1000000 then (some false) else (some (a0_1 != (-1000000)))) else (some false)) else (some false)) else (some false)) = some r := h
  clear h
  by_cases c2 : a0_0 ≥ (-1000000)
  rotate_left
  · rw [if_neg c2] at H
    have c2b0 : decide ((-1000000) ≤ a0_0) = false := decide_eq_false c2
    clear c2
    obtain rfl := Option.some.inj H
    go_enter Try.func90, Try.ntmps90
    go_wp2_with (first | ((with_reducible refine gate_dst (N := 1) rfl ?_); refine bxE 1 #[.int .i64 a0_0, .int .i64 a0_1] 52 ?_; intro gb357 hg w14 hbox hb; have BK357 := mK hbox; have GW357 := mK (gX hg HB); have GE357 := mK (gX hg HB); replace HB := bB HB hb; clear hb hbox hg; have hcz15_0 := q0 BK357; have hcz15_1 := q1 BK357; have hfz15_0 := fX BK357 0; have hfz15_1 := fX BK357 1))
    go_ret
    exact ⟨by first | rfl | (simp [errW_none, errW_some] <;> rfl) | (simp [*, errW_none, errW_some] <;> rfl), bX HB⟩
  rw [if_pos c2] at H
  have c2b0 : decide ((-1000000) ≤ a0_0) = true := decide_eq_true c2
  clear c2
  by_cases c3 : a0_0 ≤ a0_1
  rotate_left
  · rw [if_neg c3] at H
    have c3b0 : decide (a0_0 ≤ a0_1) = false := decide_eq_false c3
    clear c3
    obtain rfl := Option.some.inj H
    go_enter Try.func90, Try.ntmps90
    go_wp2_with (first | ((with_reducible refine gate_dst (N := 1) rfl ?_); refine bxE 1 #[.int .i64 a0_0, .int .i64 a0_1] 52 ?_; intro gb357 hg w12 hbox hb; have BK357 := mK hbox; have GW357 := mK (gX hg HB); have GE357 := mK (gX hg HB); replace HB := bB HB hb; clear hb hbox hg; have hcz13_0 := q0 BK357; have hcz13_1 := q1 BK357; have hfz13_0 := fX BK357 0; have hfz13_1 := fX BK357 1))
    go_ret
    exact ⟨by first | rfl | (simp [errW_none, errW_some] <;> rfl) | (simp [*, errW_none, errW_some] <;> rfl), bX HB⟩
  rw [if_pos c3] at H
  have c3b0 : decide (a0_0 ≤ a0_1) = true := decide_eq_true c3
  clear c3
  by_cases c4 : a0_1 ≤ 1000000
  rotate_left
  · rw [if_neg c4] at H
    have c4b0 : decide (a0_1 ≤ 1000000) = false := decide_eq_false c4
    clear c4
    obtain rfl := Option.some.inj H
    go_enter Try.func90, Try.ntmps90
    go_wp2_with (first | ((with_reducible refine gate_dst (N := 1) rfl ?_); refine bxE 1 #[.int .i64 a0_0, .int .i64 a0_1] 52 ?_; intro gb357 hg w10 hbox hb; have BK357 := mK hbox; have GW357 := mK (gX hg HB); have GE357 := mK (gX hg HB); replace HB := bB HB hb; clear hb hbox hg; have hcz11_0 := q0 BK357; have hcz11_1 := q1 BK357; have hfz11_0 := fX BK357 0; have hfz11_1 := fX BK357 1))
    go_ret
    exact ⟨by first | rfl | (simp [errW_none, errW_some] <;> rfl) | (simp [*, errW_none, errW_some] <;> rfl), bX HB⟩
  rw [if_pos c4] at H
  have c4b0 : decide (a0_1 ≤ 1000000) = true := decide_eq_true c4
  clear c4
  by_cases c5 : a0_0 = 1000000
  rotate_left
  · rw [if_neg c5] at H
    have c5b0 : (a0_0 == 1000000) = false := beq_eq_false_iff_ne.mpr c5
    have c5b1 : (a0_0 != 1000000) = true := bne_iff_ne.mpr c5
    obtain rfl := Option.some.inj H
    go_enter Try.func90, Try.ntmps90
    go_wp2_with (first | ((with_reducible refine gate_dst (N := 1) rfl ?_); refine bxE 1 #[.int .i64 a0_0, .int .i64 a0_1] 52 ?_; intro gb357 hg w8 hbox hb; have BK357 := mK hbox; have GW357 := mK (gX hg HB); have GE357 := mK (gX hg HB); replace HB := bB HB hb; clear hb hbox hg; have hcz9_0 := q0 BK357; have hcz9_1 := q1 BK357; have hfz9_0 := fX BK357 0; have hfz9_1 := fX BK357 1))
    go_ret
    exact ⟨by first | rfl | (simp [errW_none, errW_some] <;> rfl) | (simp [*, errW_none, errW_some] <;> rfl), bX HB⟩
  rw [if_pos c5] at H
  have c5b0 : (a0_0 == 1000000) = true := beq_iff_eq.mpr c5
  have c5b1 : (a0_0 != 1000000) = false := bne_eq_false_iff_eq.mpr c5
  clear c5
  obtain rfl := Option.some.inj H
  go_enter Try.func90, Try.ntmps90
  go_wp2_with (first | ((with_reducible refine gate_dst (N := 1) rfl ?_); refine bxE 1 #[.int .i64 a0_0, .int .i64 a0_1] 52 ?_; intro gb357 hg w6 hbox hb; have BK357 := mK hbox; have GW357 := mK (gX hg HB); have GE357 := mK (gX hg HB); replace HB := bB HB hb; clear hb hbox hg; have hcz7_0 := q0 BK357; have hcz7_1 := q1 BK357; have hfz7_0 := fX BK357 0; have hfz7_1 := fX BK357 1))
  go_ret
  exact ⟨by first | rfl | (simp [errW_none, errW_some] <;> rfl) | (simp [*, errW_none, errW_some] <;> rfl), bX HB⟩

/-! ### impl_SimpleOk: function 49 -/
section
open Go.Shelf Go.Lib
def sNodeB (n x : Int) : Bool := decide (0 ≤ x ∧ x < n)
theorem sNodeB_calls (n x : Int) (w : World) : Calls Try.prog 79 #[.int .i64 n, .int .i64 x] w fun e w' => e = .returned (.bool (sNodeB n x)) ∧ w = w' := by
  by_cases h1 : 0 ≤ x
  rotate_left
  · rw [show sNodeB n x = false from decide_eq_false (fun h => h1 h.1)]
    go_enter Try.func79, Try.ntmps79
    go_wp2
    go_ret
    exact ⟨by simp, rfl⟩
  by_cases h2 : x < n
  · rw [show sNodeB n x = true from decide_eq_true ⟨h1, h2⟩]
    go_enter Try.func79, Try.ntmps79
    go_wp2
    go_ret
    exact ⟨by simp, rfl⟩
  rw [show sNodeB n x = false from decide_eq_false (fun h => h2 h.2)]
  go_enter Try.func79, Try.ntmps79
  go_wp2
  go_ret
  exact ⟨by simp, rfl⟩
def qokB (a b : Int) : Bool := decide (-1000000 ≤ a ∧ a ≤ b ∧ b ≤ 1000000 ∧ a ≠ 1000000 ∧ b ≠ -1000000)
theorem qokB_f (a b : Int) : impl_IntervalOk.f a b = some (qokB a b) := by
  unfold impl_IntervalOk.f qokB
  repeat' split
  all_goals (congr 1; first | (symm; rw [decide_eq_false_iff_not]; omega) | (rw [Bool.eq_iff_iff]; simp only [bne_iff_ne, ne_eq, decide_eq_true_eq]; omega))
def badLink (n : Int) (e : S76) : Bool := !sNodeB n e.f0 || (!sNodeB n e.f1 || !qokB e.f2.f0 e.f2.f1)
theorem badLink_calls (n : Int) (B : Nat) (x : S76) (W : World) (hBW : B < W.heap.size) (hc : W.cell? ⟨B, 0, none⟩ = some (.int .i64 n)) :
    Calls Try.prog 89 #[.agg #[.int .i64 x.f0, .int .i64 x.f1, .int .i64 x.f2.f0, .int .i64 x.f2.f1], .pointer (some ⟨B, 0, none⟩)] W fun e w' => e = .returned (.bool (badLink n x)) ∧ Below W.heap.size W w' := by
  have hne : B ≠ W.heap.size := by omega
  obtain ⟨a, b, c, d⟩ := x
  show Calls Try.prog 89 #[.agg #[.int .i64 a, .int .i64 b, .int .i64 c, .int .i64 d], .pointer (some ⟨B, 0, none⟩)] W _
  obtain ⟨r1, h1⟩ : ∃ r, sNodeB n a = r := ⟨_, rfl⟩
  obtain ⟨r2, h2⟩ : ∃ r, sNodeB n b = r := ⟨_, rfl⟩
  obtain ⟨r3, h3⟩ : ∃ r, qokB c d = r := ⟨_, rfl⟩
  have k1 := sNodeB_calls n a
  have k2 := sNodeB_calls n b
  have k3 := fun w => impl_IntervalOk.calls c d r3 w (by rw [qokB_f, h3])
  rw [show badLink n ⟨a, b, c, d⟩ = (!r1 || (!r2 || !r3)) by simp [badLink, h1, h2, h3]]
  rw [h1] at k1
  rw [h2] at k2
  clear h1 h2 h3
  cases r1 <;> cases r2 <;> cases r3
  all_goals
    go_enter Try.func89, Try.ntmps89
    first
    | (go_wp2_with (first | (go_at_call 79; (with_reducible refine (k1 _).mono ?_); rintro e w' ⟨rfl, rfl⟩) | (go_at_call 79; (with_reducible refine (k2 _).mono ?_); rintro e w' ⟨rfl, rfl⟩))
       go_ret
       exact ⟨by simp, (Below.refl _ W).alloc (Nat.le_refl _) _⟩)
    | (go_wp2_with (first | (go_at_call 79; (with_reducible refine (k1 _).mono ?_); rintro e w' ⟨rfl, rfl⟩) | (go_at_call 79; (with_reducible refine (k2 _).mono ?_); rintro e w' ⟨rfl, rfl⟩) | (go_at_call 90; (with_reducible refine (k3 _).mono ?_); rintro e w' ⟨rfl, hb'⟩))
       go_ret
       exact ⟨by simp, ((Below.refl _ W).alloc (Nat.le_refl _) _).trans (hb'.mono (by simp))⟩)
def impl_SimpleOk.f (a0_0 : Int) (l0_1 : List (S76)) : Option (Bool) := some (if a0_0 < 1 then false else if a0_0 > 8 then false else if (l0_1.length : Int) > 40 then false else !(l0_1.any (badLink a0_0)))
theorem impl_SimpleOk.calls (a0_0 : Int) (A0_1 : Option Addr) (c0_1 : Nat) (l0_1 : List (S76)) (r : Bool) (w : World) (hr0_1 : Kd.C k76 w A0_1 l0_1.length l0_1) (hc0_1 : l0_1.length ≤ c0_1) (h : impl_SimpleOk.f a0_0 l0_1 = some r) :
    Calls Try.prog 49 #[.agg #[.int .i64 a0_0, .slice A0_1 l0_1.length c0_1]] w fun e w' => e = .returned (.bool r) ∧ Below w.heap.size w w' := by
  obtain rfl := Option.some.inj h
  clear h
  by_cases h0 : a0_0 < 1
  · rw [if_pos h0]
    have h0 : decide (a0_0 < 1) = true := decide_eq_true h0
    go_enter Try.func49, Try.ntmps49
    go_wp2
    go_ret
    exact ⟨by simp, (Below.refl _ w).alloc (Nat.le_refl _) _⟩
  rw [if_neg h0]
  replace h0 : decide (a0_0 < 1) = false := decide_eq_false h0
  by_cases h1 : a0_0 > 8
  · rw [if_pos h1]
    have h1 : decide (8 < a0_0) = true := decide_eq_true h1
    go_enter Try.func49, Try.ntmps49
    go_wp2
    go_ret
    exact ⟨by simp, (Below.refl _ w).alloc (Nat.le_refl _) _⟩
  rw [if_neg h1]
  replace h1 : decide (8 < a0_0) = false := decide_eq_false h1
  by_cases h2 : (l0_1.length : Int) > 40
  · rw [if_pos h2]
    have h2 : decide (40 < (l0_1.length : Int)) = true := decide_eq_true h2
    go_enter Try.func49, Try.ntmps49
    go_wp2
    go_ret
    exact ⟨by simp, (Below.refl _ w).alloc (Nat.le_refl _) _⟩
  rw [if_neg h2]
  replace h2 : decide (40 < (l0_1.length : Int)) = false := decide_eq_false h2
  have eg : ∀ args w, (callFunc 89 args).run Try.prog w = .ok (.enter 89 args) w := enters_of Try.func89 (by kernel_rfl) rfl
  have hcon := anyLink_at (badLink a0_0) 89 #[.pointer (some ⟨w.heap.size, 0, none⟩)] eg A0_1 c0_1 l0_1 (w.alloc (.cells #[.int .i64 a0_0, .slice A0_1 l0_1.length c0_1] 47))
    (fun W x _ hb => (badLink_calls a0_0 w.heap.size x W (Nat.lt_of_lt_of_le (by simp) hb.size) ((hb.cell (p := ⟨w.heap.size, 0, none⟩) (by simp)).trans (by simp))).mono fun e w' ⟨he, h⟩ => ⟨he, hb.trans (h.mono hb.size)⟩) (Kd.C_alloc hr0_1 _)
  generalize l0_1.any (badLink a0_0) = r at hcon ⊢
  go_enter Try.func49, Try.ntmps49
  go_wp2_with (go_at_call 88; refine hcon.mono ?_; rintro e w' ⟨rfl, hb'⟩)
  go_ret
  exact ⟨by simp, ((Below.refl _ w).alloc (Nat.le_refl _) _).trans (hb'.mono (by simp))⟩
end

end Go.Proofs.Ytbbblnmngjhadaa.QFnExactWindowOf
