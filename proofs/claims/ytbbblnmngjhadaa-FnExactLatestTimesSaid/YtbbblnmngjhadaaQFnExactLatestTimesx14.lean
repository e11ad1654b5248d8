-- Written by this session's program wip/tools/mk.py out of the translation; Lean checks it.
import Derived.Test.YtbbblnmngjhadaaQFnExactLatestTimesx0
import Derived.Test.YtbbblnmngjhadaaQFnExactLatestTimesx9
import Derived.Test.YtbbblnmngjhadaaQFnExactLatestTimesx13
namespace Go.Proofs.Ytbbblnmngjhadaa.QFnExactLatestTimes
open Go.RowKit Go.Proofs.YtbbblnmngjhadaaW.PrintWords Go.Proofs.YtbbblnmngjhadaaW.PrintLast Go.Proofs.YtbbblnmngjhadaaW.PrintMore
attribute [local go_sem] max2_int min2_int max_two min_two max_three min_three max_four min_four   -- for this text's walks alone
set_option linter.unusedVariables false
set_option linter.unusedSimpArgs false

/-! ### impl_ClampBound: function 59 -/
def impl_ClampBound.f (a0 : Int) : Option (Int) := some (mx (-1000000) (mn a0 1000000))
set_option maxHeartbeats 8000000 in
set_option maxRecDepth 100000 in
theorem impl_ClampBound.calls (a0 : Int) (r : Int) (w : World) (h : impl_ClampBound.f a0 = some r) :
    Calls Try.prog 59 #[.int .i64 a0] w fun e w' => e = .returned (.int .i64 r) ∧ Below w.heap.size w w' := by
  have HB := mK (Below.refl w.heap.size w)
  have H : (some (mx (-1000000) (mn a0 1000000))) = some r := h
  clear h
  obtain ⟨ji2, hji2⟩ : ∃ j_ : Int, (mn a0 1000000) = j_ := ⟨_, rfl⟩
  replace H : (some (mx (-1000000) (ji2))) = some r := by first | (rw [hji2] at H; exact H) | (simp only [hji2] at H ⊢; exact H)
  (try (have hji2h : ji2 ≤ 1000000 := by (rw [← hji2]; unfold mn; (repeat' split) <;> omega)))
  (try (have hji2g : ji2 ≤ 64 := by omega))
  have hji2_ : (if 1000000 < a0 then 1000000 else a0) = ji2 := hji2
  obtain ⟨ji3, hji3⟩ : ∃ j_ : Int, (mx (-1000000) (ji2)) = j_ := ⟨_, rfl⟩
  replace H : (some ji3) = some r := by first | (rw [hji3] at H; exact H) | (simp only [hji3] at H ⊢; exact H)
  have hji3_ : (if (-1000000) < (ji2) then (ji2) else (-1000000)) = ji3 := hji3
  obtain rfl := Option.some.inj H
  go_enter Try.func59, Try.ntmps59
  go_wp2
  go_ret
  exact ⟨by first | rfl | (simp [errW_none, errW_some] <;> rfl) | (simp only [← hji2, ← hji3]; first | rfl | (simp [errW_none, errW_some] <;> rfl)) | (simp [*, errW_none, errW_some] <;> rfl), bX HB⟩

/-! ### impl_CloseGraph: function 15 -/
mutual
def impl_CloseGraph.l0 : Nat → Int → Int → List (S70) → Int → List Int → Option (Int × List Int × Bool)
  | 0, _, _, _, _, _ => none
  | k + 1, x5, x441000, x441001, x444000, x444001 => if x5 < x441000 then ((impl_ShortestFrom.f k x441000 x441001 x5).bind fun bt444 => (if bt444.2 = true then (impl_CloseGraph.l1 k x5 bt444.1 (bt444.1.length : Int) 0 x441000 x441001 x444000 x444001) else (some (0, ([] : List Int), false)))) else (some (x444000, x444001, true))
def impl_CloseGraph.l1 : Nat → Int → List Int → Int → Int → Int → List (S70) → Int → List Int → Option (Int × List Int × Bool)
  | 0, _, _, _, _, _, _, _, _ => none
  | k + 1, x5, x32, x33, x34, x441000, x441001, x444000, x444001 => if x34 < x33 then (if 0 ≤ x34 then (if x34 < (x32.length : Int) then ((impl_ClampBound.f (rd x32 x34)).bind fun t449 => (if x444001.length < 17592186044416 then (impl_CloseGraph.l1 k x5 x32 x33 (wrap64 (x34 + 1)) x441000 x441001 x444000 (x444001 ++ [t449])) else (none))) else (none)) else (none)) else (impl_CloseGraph.l0 k (wrap64 (x5 + 1)) x441000 x441001 x444000 x444001)
end
def impl_CloseGraph.f (k : Nat) (a0_0 : Int) (l0_1 : List (S70)) : Option (Int × List Int × Bool) := (impl_GraphOk.f a0_0 l0_1).bind fun t442 => (if t442 = true then (impl_CloseGraph.l0 k 0 a0_0 l0_1 a0_0 ([] : List Int)) else (some (0, ([] : List Int), false)))
theorem impl_CloseGraph.mono_l : ∀ k, (∀ y0 y1 y2 y3 y4, LeO (impl_CloseGraph.l0 k y0 y1 y2 y3 y4) (impl_CloseGraph.l0 (k + 1) y0 y1 y2 y3 y4)) ∧ (∀ y0 y1 y2 y3 y4 y5 y6 y7, LeO (impl_CloseGraph.l1 k y0 y1 y2 y3 y4 y5 y6 y7) (impl_CloseGraph.l1 (k + 1) y0 y1 y2 y3 y4 y5 y6 y7))
  | 0 => ⟨fun _ _ _ _ _ r h => by simp [impl_CloseGraph.l0] at h, fun _ _ _ _ _ _ _ _ r h => by simp [impl_CloseGraph.l1] at h⟩
  | k + 1 => by
    obtain ⟨ih0, ih1⟩ := impl_CloseGraph.mono_l k
    refine ⟨?_, ?_⟩
    · intro y0 y1 y2 y3 y4
      unfold impl_CloseGraph.l0
      repeat' first|(with_reducible first|exact ih0 _ _ _ _ _|exact ih1 _ _ _ _ _ _ _ _|exact impl_ShortestFrom.mono _ _ _ _|exact lR _|exact lN _|refine lI ?_ ?_|refine lB ?_ (fun _ => ?_))|exact ih0 _ _ _ _ _|exact ih1 _ _ _ _ _ _ _ _|exact impl_ShortestFrom.mono _ _ _ _|exact lN _|refine lI ?_ ?_|refine lB ?_ (fun _ => ?_)
    · intro y0 y1 y2 y3 y4 y5 y6 y7
      unfold impl_CloseGraph.l1
      repeat' first|(with_reducible first|exact ih0 _ _ _ _ _|exact ih1 _ _ _ _ _ _ _ _|exact impl_ShortestFrom.mono _ _ _ _|exact lR _|exact lN _|refine lI ?_ ?_|refine lB ?_ (fun _ => ?_))|exact ih0 _ _ _ _ _|exact ih1 _ _ _ _ _ _ _ _|exact impl_ShortestFrom.mono _ _ _ _|exact lN _|refine lI ?_ ?_|refine lB ?_ (fun _ => ?_)
theorem impl_CloseGraph.mono : ∀ a0 a1 k, LeO (impl_CloseGraph.f k a0 a1) (impl_CloseGraph.f (k + 1) a0 a1) := by
  intro a0 a1 k
  obtain ⟨ih0, ih1⟩ := impl_CloseGraph.mono_l k
  unfold impl_CloseGraph.f
  repeat' first|(with_reducible first|exact ih0 _ _ _ _ _|exact ih1 _ _ _ _ _ _ _ _|exact impl_ShortestFrom.mono _ _ _ _|exact lR _|exact lN _|refine lI ?_ ?_|refine lB ?_ (fun _ => ?_))|exact ih0 _ _ _ _ _|exact ih1 _ _ _ _ _ _ _ _|exact impl_ShortestFrom.mono _ _ _ _|exact lN _|refine lI ?_ ?_|refine lB ?_ (fun _ => ?_)
def impl_CloseGraph.T13 : Bool × List (List Nat × List Nat) := (true, [([], []), ([0], [0]), ([], []), ([2], [2]), ([3], [3]), ([1, 4, 3], [1, 4]), ([0, 1, 2, 3, 4, 5], []), ([6, 5, 5, 0, 1, 2, 3, 4, 5], [5, 6])])
def impl_CloseGraph.B13 : List Nat := [0, 1, 0, 4, 12, 31, 63, 127]
theorem impl_CloseGraph.tab13 : rtab .any (opsOf Try.f15 13) = impl_CloseGraph.T13 := by kernel_rfl
theorem impl_CloseGraph.bits13 : waitsOk impl_CloseGraph.T13.2 impl_CloseGraph.B13 = true := by kernel_rfl
set_option maxHeartbeats 8000000 in
set_option maxRecDepth 100000 in
theorem impl_CloseGraph.calls (k : Nat) (a0_0 : Int) (A0_1 : Option Addr) (c0_1 : Nat) (l0_1 : List (S70)) (r1 : Int) (r2 : List Int) (r3 : Bool) (w : World) (hr0_1 : Kd.C k70 w A0_1 l0_1.length l0_1) (hc0_1 : l0_1.length ≤ c0_1) (h : impl_CloseGraph.f k a0_0 l0_1 = some (r1, r2, r3)) :
    Calls Try.prog 15 #[.agg #[.int .i64 a0_0, .slice A0_1 l0_1.length c0_1]] w fun e w' => ∃ v1_ : Value, e = .returned (.tuple #[.agg #[.int .i64 r1, v1_], .bool r3]) ∧ Kd.R (Kd.int .i64) 3 w' w.heap.size (fun _ => True) v1_ r2 ∧ Below w.heap.size w w' := by
 have hu33 := Try.underlying33
 have hu28 := Try.underlying28
 have HR0_1 := mK hr0_1
 have HC0_1 := mK hc0_1
 clear hr0_1 hc0_1
 have HB := mK (Below.refl w.heap.size w)
 have H : ((impl_GraphOk.f a0_0 l0_1).bind fun t442 => (if t442 = true then (impl_CloseGraph.l0 k 0 a0_0 l0_1 a0_0 ([] : List Int)) else (some (0, ([] : List Int), false)))) = some (r1, r2, r3) := h
 clear h
 replace H := Option.bind_eq_some_iff.mp H
 obtain ⟨t442, A20, H⟩ := H
 replace H : (if t442 = true then (impl_CloseGraph.l0 k 0 a0_0 l0_1 a0_0 ([] : List Int)) else (some (0, ([] : List Int), false))) = some (r1, r2, r3) := H
 have A2 := mK A20
 clear A20
 by_cases c3 : t442 = true
 rotate_left
 {
 replace c3 := Bool.eq_false_iff.mpr c3
 subst c3
 rw [if_neg (show ¬ (false = true) by decide)] at H
 simp only [Option.some.injEq, Prod.mk.injEq] at H
 obtain ⟨rfl, rfl, rfl⟩ := H
 go_enter Try.func15, Try.ntmps15
 go_wp2_with (first | ((with_reducible refine gate_dst (N := 1) rfl ?_); refine bxE 1 #[.int .i64 a0_0, .slice A0_1 l0_1.length c0_1] 33 ?_; intro gb440 hg w45 hbox hb; have BK440 := mK hbox; have GW440 := mK (gX hg HB); have GE440 := mK (gX hg HB); replace HB := bB HB hb; clear hb hbox hg) | ((with_reducible refine gate_dst (N := 2) rfl ?_); refine bxE 2 #[.int .i64 0, .slice none 0 0] 28 ?_; intro gb441 hg w46 hbox hb; have BK441 := mK hbox; have GW441 := mK (gX hg HB); have GE441 := mK (gX hg HB); replace HB := bB HB hb; have NB440_441 := mK (lX hg BK440); have NB441_440 := mK (mX hg BK440); replace BK440 := kB BK440 hb; clear hb hbox hg; have hnb47 := NB440_441.out; have hnc47 := NB441_440.out; have hcz48_0 := q0 BK440; have hcz48_1 := q1 BK440; have hfz48_0 := fX BK440 0; have hfz48_1 := fX BK440 1) | ((with_reducible refine gate_callee (f := 41) rfl ?_); refine gsE (some 11) Try.func41 #[.agg #[.int .i64 a0_0, .slice A0_1 l0_1.length c0_1]] ?_; (with_reducible refine (impl_GraphOk.calls a0_0 _ _ l0_1 false _ ?side1 ?side2 A2.out).mono ?_); (case side1 => exact cX HR0_1 HB); (case side2 => exact HC0_1.out); rintro e w49 ⟨rfl, hb⟩; refine ⟨_, rfl, ?_⟩; replace BK440 := kB BK440 hb; replace BK441 := kB BK441 hb; replace HB := bB HB hb; (try clear hb); (try clear hb2); (try clear hk); (try clear hi); have hcz50_0 := q0 BK441; have hcz50_1 := q1 BK441; have hfz50_0 := fX BK441 0; have hfz50_1 := fX BK441 1))
 refine bodyPost_ret (results_ct rfl _ _ gb441 28 #[.int .i64 0, .slice none 0 0] (0, 0) _ rfl (kP2 BK441) Try.underlying28 rfl (by kernel_rfl)) rfl ?_
 exact ⟨_, by first | rfl | (simp [errW_none, errW_some] <;> rfl) | (simp [*, errW_none, errW_some] <;> rfl), by first | exact Kd.R_nil _ _ _ _ _ | exact Kd.N_nil _ _ _ _ _ | exact Kd.V_nil _ _ _ _ _ | exact Kd.Q_nil _ _ _ _ _ | exact Kd.S_nil _ _ _ _ _, bX HB⟩
 }
 subst c3
 rw [if_pos rfl] at H
 have H' := mK H
 clear H
 go_enter Try.func15, Try.ntmps15
 go_wp2_with (first | ((with_reducible refine gate_dst (N := 1) rfl ?_); refine bxE 1 #[.int .i64 a0_0, .slice A0_1 l0_1.length c0_1] 33 ?_; intro gb440 hg w4 hbox hb; have BK440 := mK hbox; have GW440 := mK (gX hg HB); have GE440 := mK (gX hg HB); replace HB := bB HB hb; clear hb hbox hg) | ((with_reducible refine gate_dst (N := 2) rfl ?_); refine bxE 2 #[.int .i64 0, .slice none 0 0] 28 ?_; intro gb441 hg w5 hbox hb; have BK441 := mK hbox; have GW441 := mK (gX hg HB); have GE441 := mK (gX hg HB); replace HB := bB HB hb; have NB440_441 := mK (lX hg BK440); have NB441_440 := mK (mX hg BK440); replace BK440 := kB BK440 hb; clear hb hbox hg; have hnb6 := NB440_441.out; have hnc6 := NB441_440.out; have hcz7_0 := q0 BK440; have hcz7_1 := q1 BK440; have hfz7_0 := fX BK440 0; have hfz7_1 := fX BK440 1) | ((with_reducible refine gate_callee (f := 41) rfl ?_); refine gsE (some 11) Try.func41 #[.agg #[.int .i64 a0_0, .slice A0_1 l0_1.length c0_1]] ?_; (with_reducible refine (impl_GraphOk.calls a0_0 _ _ l0_1 true _ ?side1 ?side2 A2.out).mono ?_); (case side1 => exact cX HR0_1 HB); (case side2 => exact HC0_1.out); rintro e w8 ⟨rfl, hb⟩; refine ⟨_, rfl, ?_⟩; replace BK440 := kB BK440 hb; replace BK441 := kB BK441 hb; replace HB := bB HB hb; (try clear hb); (try clear hb2); (try clear hk); (try clear hi); have hcz9_0 := q0 BK440; have hcz9_1 := q1 BK440; have hfz9_0 := fX BK440 0; have hfz9_1 := fX BK440 1) | ((with_reducible refine gate_dst (N := 4) rfl ?_); refine bxE 4 #[.int .i64 0, .slice none 0 0] 28 ?_; intro gb443 hg w10 hbox hb; have BK443 := mK hbox; have GW443 := mK (gX hg HB); have GE443 := mK (gX hg HB); replace HB := bB HB hb; have NB440_443 := mK (lX hg BK440); have NB443_440 := mK (mX hg BK440); replace BK440 := kB BK440 hb; have NB441_443 := mK (lX hg BK441); have NB443_441 := mK (mX hg BK441); replace BK441 := kB BK441 hb; clear hb hbox hg; have hnb11 := NB443_440.out; have hnc11 := NB440_443.out; have hnb12 := NB443_441.out; have hnc12 := NB441_443.out; have hcz13_0 := q0 BK443; have hcz13_1 := q1 BK443; have hfz13_0 := fX BK443 0; have hfz13_1 := fX BK443 1))
 go_loopg [5] k (fun kq v5 w' => ∃ (x5_1 : Int) (x442000_1 : Int) (x444001_1 : List Int) (u444001 : Value), v5 = .int .i64 x5_1 ∧ Aside0 (impl_CloseGraph.l0 kq x5_1 a0_0 l0_1 a0_0 x444001_1 = some (r1, r2, r3)) ∧ Aside0 (kq ≤ k) ∧ Aside0 (Kd.R (Kd.int .i64) 3 w' w.heap.size (fun _ => True) u444001 x444001_1) ∧ Aside0 (w'.heap[gb440]? = some (.cells #[.int .i64 a0_0, (.slice A0_1 l0_1.length c0_1)] 33 (0, 0))) ∧ Aside0 (w'.heap[gb441]? = some (.cells #[.int .i64 x442000_1, (.slice none 0 0)] 28 (0, 0))) ∧ Aside0 (w'.heap[gb443]? = some (.cells #[.int .i64 a0_0, u444001] 28 (0, 0))) ∧ Aside0 (Below w.heap.size w w'))
 case atStart => exact ⟨(0), (0), (([] : List Int)), (.slice none 0 0), (by first | rfl | (simp; done) | (simp [*]; done)), H', ⟨Nat.le_refl _⟩, ⟨by first | exact Kd.R_nil _ _ _ _ _ | exact Kd.N_nil _ _ _ _ _ | exact Kd.V_nil _ _ _ _ _ | exact Kd.Q_nil _ _ _ _ _ | exact Kd.S_nil _ _ _ _ _⟩, ⟨kF BK440 NB440_443⟩, ⟨kF BK441 NB441_443⟩, ⟨kP2 BK443⟩, ⟨bX HB⟩⟩
 case round => (
 clear H'
 try clear c1
 try clear p2
 try clear c3
 try clear c4
 try clear c6
 try clear c11
 try clear c12
 try clear hcz13_0
 try clear hcz13_1
 try clear hcz7_0
 try clear hcz7_1
 try clear hcz9_0
 try clear hcz9_1
 try clear hfz13_0
 try clear hfz13_1
 try clear hfz7_0
 try clear hfz7_1
 try clear hfz9_0
 try clear hfz9_1
 obtain ⟨x5_1, x442000_1, x444001_1, u444001, rfl, HA, HK1, HO_444001, BK440, BK441, BK443, HB⟩ := hrel
 cases gk with
 | zero => exact absurd HA.out (by simp [impl_CloseGraph.l0])
 | succ k1 => (
 have H := HA.out
 clear HA
 simp only [impl_CloseGraph.l0] at H
 by_cases c14 : x5_1 < a0_0
 rotate_left
 {
 rw [if_neg c14] at H
 have c14b0 : decide (x5_1 < a0_0) = false := decide_eq_false c14
 clear c14
 simp only [Option.some.injEq, Prod.mk.injEq] at H
 obtain ⟨rfl, rfl, rfl⟩ := H
 have hnb38 := NB440_441.out
 have hnc38 := NB441_440.out
 have hnb39 := NB440_443.out
 have hnc39 := NB443_440.out
 have hcz40_0 := q0 BK440
 have hcz40_1 := q1 BK440
 have hfz40_0 := fX BK440 0
 have hfz40_1 := fX BK440 1
 have hnb41 := NB443_441.out
 have hnc41 := NB441_443.out
 have hcz42_0 := q0 BK443
 have hcz42_1 := q1 BK443
 have hfz42_0 := fX BK443 0
 have hfz42_1 := fX BK443 1
 have hcz43_0 := q0 BK441
 have hcz43_1 := q1 BK441
 have hfz43_0 := fX BK441 0
 have hfz43_1 := fX BK441 1
 obtain ⟨Ao44, co44, eo44⟩ := Kd.R_slice HO_444001.out
 subst eo44
 go_wp2
 refine bodyPost_ret (results_ct rfl _ _ gb441 28 #[.int .i64 a0_0, .slice Ao44 x444001_1.length co44] (0, 0) _ rfl (kP2 BK441) Try.underlying28 rfl (by kernel_rfl)) rfl ?_
 exact ⟨_, by first | rfl | (simp [errW_none, errW_some] <;> rfl) | (simp [*, errW_none, errW_some] <;> rfl), rF2 HO_444001 BK441, bX HB⟩
 }
 rw [if_pos c14] at H
 have c14b0 : decide (x5_1 < a0_0) = true := decide_eq_true c14
 clear c14
 replace H := Option.bind_eq_some_iff.mp H
 obtain ⟨⟨t444, t447⟩, A150, H⟩ := H
 replace H : (if t447 = true then (impl_CloseGraph.l1 k1 x5_1 t444 (t444.length : Int) 0 a0_0 l0_1 a0_0 x444001_1) else (some (0, ([] : List Int), false))) = some (r1, r2, r3) := H
 have A15 := mK A150
 clear A150
 by_cases c16 : t447 = true
 rotate_left
 {
 replace c16 := Bool.eq_false_iff.mpr c16
 subst c16
 rw [if_neg (show ¬ (false = true) by decide)] at H
 simp only [Option.some.injEq, Prod.mk.injEq] at H
 obtain ⟨rfl, rfl, rfl⟩ := H
 have hnb32 := NB440_441.out
 have hnc32 := NB441_440.out
 have hnb33 := NB440_443.out
 have hnc33 := NB443_440.out
 have hcz34_0 := q0 BK440
 have hcz34_1 := q1 BK440
 have hfz34_0 := fX BK440 0
 have hfz34_1 := fX BK440 1
 go_wp2_with (first | ((with_reducible refine gate_callee (f := 43) rfl ?_); refine gsE (some 26) Try.func43 #[.agg #[.int .i64 a0_0, .slice A0_1 l0_1.length c0_1], .int .i64 x5_1] ?_; (with_reducible refine (impl_ShortestFrom.calls k1 a0_0 _ _ l0_1 x5_1 t444 false _ ?side1 ?side2 A15.out).mono ?_); (case side1 => exact cX HR0_1 HB); (case side2 => exact HC0_1.out); rintro e w35 ⟨v445, rfl, ho0, hb⟩; refine ⟨_, rfl, ?_⟩; have HO446 := mK (Kd.R_lower (Kd.R_new' ho0 (Kd.R_lt (rX HO_444001))) (below_size (bX HB))); replace HO_444001 := mK (Kd.R_elder' (rX HO_444001) (Kd.R_base ho0) hb); replace BK440 := kB BK440 hb; replace BK441 := kB BK441 hb; replace BK443 := kB BK443 hb; replace HB := bB HB hb; (try clear hb); (try clear hb2); (try clear hk); (try clear hi); (try clear ho0); have hnb36 := NB441_443.out; have hnc36 := NB443_441.out; have hcz37_0 := q0 BK441; have hcz37_1 := q1 BK441; have hfz37_0 := fX BK441 0; have hfz37_1 := fX BK441 1))
 refine bodyPost_ret (results_ct rfl _ _ gb441 28 #[.int .i64 0, .slice none 0 0] (0, 0) _ rfl (kP2 BK441) Try.underlying28 rfl (by kernel_rfl)) rfl ?_
 exact ⟨_, by first | rfl | (simp [errW_none, errW_some] <;> rfl) | (simp [*, errW_none, errW_some] <;> rfl), by first | exact Kd.R_nil _ _ _ _ _ | exact Kd.N_nil _ _ _ _ _ | exact Kd.V_nil _ _ _ _ _ | exact Kd.Q_nil _ _ _ _ _ | exact Kd.S_nil _ _ _ _ _, bX HB⟩
 }
 subst c16
 rw [if_pos rfl] at H
 have H' := mK H
 clear H
 have hnb17 := NB440_441.out
 have hnc17 := NB441_440.out
 have hnb18 := NB440_443.out
 have hnc18 := NB443_440.out
 have hcz19_0 := q0 BK440
 have hcz19_1 := q1 BK440
 have hfz19_0 := fX BK440 0
 have hfz19_1 := fX BK440 1
 go_wp2_with (first | ((with_reducible refine gate_callee (f := 43) rfl ?_); refine gsE (some 26) Try.func43 #[.agg #[.int .i64 a0_0, .slice A0_1 l0_1.length c0_1], .int .i64 x5_1] ?_; (with_reducible refine (impl_ShortestFrom.calls k1 a0_0 _ _ l0_1 x5_1 t444 true _ ?side1 ?side2 A15.out).mono ?_); (case side1 => exact cX HR0_1 HB); (case side2 => exact HC0_1.out); rintro e w20 ⟨v445, rfl, ho0, hb⟩; refine ⟨_, rfl, ?_⟩; have HO446 := mK (Kd.R_lower (Kd.R_new' ho0 (Kd.R_lt (rX HO_444001))) (below_size (bX HB))); replace HO_444001 := mK (Kd.R_elder' (rX HO_444001) (Kd.R_base ho0) hb); replace BK440 := kB BK440 hb; replace BK441 := kB BK441 hb; replace BK443 := kB BK443 hb; replace HB := bB HB hb; (try clear hb); (try clear hb2); (try clear hk); (try clear hi); (try clear ho0); obtain ⟨Ao21, co21, eo21⟩ := Kd.R_slice HO446.out; subst eo21))
 go_loopg [34] k1 (fun kq v34 w' => ∃ (x34_2 : Int) (x444001_2 : List Int) (u444001 : Value), v34 = .int .i64 x34_2 ∧ Aside0 (impl_CloseGraph.l1 kq x5_1 t444 (t444.length : Int) x34_2 a0_0 l0_1 a0_0 x444001_2 = some (r1, r2, r3)) ∧ Aside0 (kq ≤ k1) ∧ Aside0 (Kd.R (Kd.int .i64) 3 w' w.heap.size (fun k_ => some k_ ≠ (u444001 : Value).ownBlock) (.slice Ao21 t444.length co21) t444) ∧ Aside0 (Kd.R (Kd.int .i64) 3 w' w.heap.size (fun k_ => some k_ ≠ ((.slice Ao21 t444.length co21) : Value).ownBlock) u444001 x444001_2) ∧ Aside0 (w'.heap[gb440]? = some (.cells #[.int .i64 a0_0, (.slice A0_1 l0_1.length c0_1)] 33 (0, 0))) ∧ Aside0 (w'.heap[gb441]? = some (.cells #[.int .i64 x442000_1, (.slice none 0 0)] 28 (0, 0))) ∧ Aside0 (w'.heap[gb443]? = some (.cells #[.int .i64 a0_0, u444001] 28 (0, 0))) ∧ Aside0 (Below w.heap.size w w'))
 case atStart => exact ⟨(0), (x444001_1), (u444001), (by first | rfl | (simp; done) | (simp [*]; done)), H', ⟨Nat.le_refl _⟩, ⟨by (with_reducible repeat first|apply rA|apply rN|apply rD); exact Kd.R_mono HO446.out (fun _ hk => hk.2)⟩, ⟨by (with_reducible repeat first|apply rA|apply rN|apply rD); exact Kd.R_mono HO_444001.out (fun _ hk => hk.2)⟩, ⟨kX BK440⟩, ⟨kX BK441⟩, ⟨kX BK443⟩, ⟨bX HB⟩⟩
 case round => (
 clear H'
 try clear c1
 try clear p2
 try clear c3
 try clear c4
 try clear c6
 try clear c11
 try clear c12
 try clear c14
 try clear c14b0
 try clear c15
 try clear c16
 try clear c17
 try clear c18
 try clear hcz13_0
 try clear hcz13_1
 try clear hcz19_0
 try clear hcz19_1
 try clear hcz7_0
 try clear hcz7_1
 try clear hcz9_0
 try clear hcz9_1
 try clear hfz13_0
 try clear hfz13_1
 try clear hfz19_0
 try clear hfz19_1
 try clear hfz7_0
 try clear hfz7_1
 try clear hfz9_0
 try clear hfz9_1
 try clear p2
 obtain ⟨x34_2, x444001_2, u444001, rfl, HA, HK2, HO_32, HO_444001, BK440, BK441, BK443, HB⟩ := hrel
 cases gk with
 | zero => exact absurd HA.out (by simp [impl_CloseGraph.l1])
 | succ k2 => (
 have H := HA.out
 clear HA
 simp only [impl_CloseGraph.l1] at H
 by_cases c22 : x34_2 < (t444.length : Int)
 rotate_left
 {
 rw [if_neg c22] at H
 have c22b0 : decide (x34_2 < (t444.length : Int)) = false := decide_eq_false c22
 clear c22
 have H' := mK H
 clear H
 go_wp2
 go_roundg k2
 case measure => have := HK1.out; have := HK2.out; omega
 case rel => exact ⟨(wrap64 (x5_1 + 1)), (x442000_1), (x444001_2), (u444001), (by first | rfl | (simp; done) | (simp [*]; done)), H', ⟨by have := HK1.out; have := HK2.out; omega⟩, ⟨by (with_reducible repeat first|apply rA|apply rN|apply rD); exact Kd.R_mono HO_444001.out (fun _ hk => trivial)⟩, ⟨kX BK440⟩, ⟨kX BK441⟩, ⟨kX BK443⟩, ⟨bX HB⟩⟩
 }
 rw [if_pos c22] at H
 have c22b0 : decide (x34_2 < (t444.length : Int)) = true := decide_eq_true c22
 clear c22
 by_cases c23 : 0 ≤ x34_2
 rotate_left
 {
 rw [if_neg c23] at H
 exact absurd H (by simp)
 }
 rw [if_pos c23] at H
 have c23b0 : decide (0 ≤ x34_2) = true := decide_eq_true c23
 clear c23
 by_cases c24 : x34_2 < (t444.length : Int)
 rotate_left
 {
 rw [if_neg c24] at H
 exact absurd H (by simp)
 }
 rw [if_pos c24] at H
 have c24b0 : decide (x34_2 < (t444.length : Int)) = true := decide_eq_true c24
 clear c24
 replace H := Option.bind_eq_some_iff.mp H
 obtain ⟨t449, A250, H⟩ := H
 replace H : (if x444001_2.length < 17592186044416 then (impl_CloseGraph.l1 k2 x5_1 t444 (t444.length : Int) (wrap64 (x34_2 + 1)) a0_0 l0_1 a0_0 (x444001_2 ++ [t449])) else (none)) = some (r1, r2, r3) := H
 have A25 := mK A250
 clear A250
 by_cases c26 : x444001_2.length < 17592186044416
 rotate_left
 {
 rw [if_neg c26] at H
 exact absurd H (by simp)
 }
 rw [if_pos c26] at H
 have LMc26 := mK c26
 clear c26
 obtain ⟨y450, hy450⟩ : ∃ y_ : List Int, y_ = (x444001_2 ++ [t449]) := ⟨_, rfl⟩
 replace H : (impl_CloseGraph.l1 k2 x5_1 t444 (t444.length : Int) (wrap64 (x34_2 + 1)) a0_0 l0_1 a0_0 y450) = some (r1, r2, r3) := by first | (rw [hy450]; with_reducible exact H) | (have H2_ := (Option.bind_some _ _).symm.trans H; rw [hy450]; with_reducible exact H2_) | (have H2_ := (Option.bind_some _ _).symm.trans H; with_reducible exact H2_) | with_reducible exact H | (rw [hy450]; exact H) | exact H
 have Ny450 := mK hy450
 clear hy450
 have H' := mK H
 clear H
 have p448 : 0 ≤ (x34_2 : Int) := of_decide_eq_true oX
 have q448 : x34_2 < (t444.length : Int) := of_decide_eq_true oX
 obtain ⟨ad448, e448, hx448_0⟩ := Kd.at_int (Kd.R_reads' HO_32.out).2.2 x34_2 p448 q448
 cases e448
 replace p448 := eq_true p448
 replace q448 := eq_true q448
 try go_wp2
 have n0_ := mK (Kd.R_drew HO_32.out)
 have n1_ := mK (Kd.R_drew HO_444001.out)
 have n2_ := mK (blk_drew BK440.out)
 have n3_ := mK (blk_drew BK441.out)
 have n4_ := mK (blk_drew BK443.out)
 have n5_ := mK (below_drew1 HB.out)
 clear HO_32
 clear HO_444001
 clear BK440
 clear BK441
 clear BK443
 clear HB
 have HO_32 := n0_
 have HO_444001 := n1_
 have BK440 := n2_
 have BK441 := n3_
 have BK443 := n4_
 have HB := n5_
 clear n0_ n1_ n2_ n3_ n4_ n5_
 refine start_ (n := 8) (S := fun w' => w'.cell? ⟨gb443, 0, none⟩ = some (.int .i64 a0_0) ∧ w'.cell? ⟨gb443, 1, none⟩ = some (u444001)) (ds := [7]) (bs 0 8) (by kernel_rfl) rfl (by kernel_rfl) ⟨(blk_cell BK443.out 0).trans rfl, (blk_cell BK443.out 1).trans rfl⟩ (fun hHeld => ?_); refine with_tabW impl_CloseGraph.tab13 impl_CloseGraph.bits13 (fun HT_ HW_ => ?_)
 generalize wr.drew = w27 at HO_32 HO_444001 BK440 BK441 BK443 HB hHeld ⊢
 refine pL 0 38 (bs 1 8) HT_ ?_
 refine pL 2 40 #[true, false, true, false, false, false, false, false] HT_ ?_
 refine tL 1 39 (bs 3 8) HT_ HW_ hHeld ?_
 refine one_ (i := 3) (N := some 41) (bs 4 8) rfl rfl (one_of HT_.out (by kernel_rfl)) (by decide) (fun K hK => ?_)
 refine gsK Try.func59 #[.int .i64 (rd t444 x34_2)] ?_
 with_reducible refine (impl_ClampBound.calls (rd t444 x34_2) t449 _ A25.out).mono ?_
 rintro e w28 ⟨rfl, hb⟩
 refine ⟨_, rfl, ?_⟩
 have n0_ := mK (Kd.R_below (rX HO_32) hb)
 have n1_ := mK (Kd.R_below (rX HO_444001) hb)
 have n2_ := kB BK440 hb
 have n3_ := kB BK441 hb
 have n4_ := kB BK443 hb
 have n5_ := bB HB hb
 clear HO_32
 clear HO_444001
 clear BK440
 clear BK441
 clear BK443
 clear HB
 have HO_32 := n0_
 have HO_444001 := n1_
 have BK440 := n2_
 have BK441 := n3_
 have BK443 := n4_
 have HB := n5_
 clear n0_ n1_ n2_ n3_ n4_ n5_
 (try clear hb)
 (try clear hb2)
 (try clear hk)
 (try clear hi)
 refine hK.out _ _ ⟨(blk_cell BK443.out 0).trans rfl, (blk_cell BK443.out 1).trans rfl⟩ (fun hHeld => ?_)
 clear hK K
 refine norm_ (a' := ?_) ?_ ?_
 rotate_left
 {
 show Act.put _ (some 41) _ = _
 simp only [Act.put, sT, sZ, sU, i64_w, i32_w]
 rfl
 }
 refine one_ (i := 4) (N := some 42) (bs 5 8) rfl rfl (one_of HT_.out (by kernel_rfl)) (by decide) (fun K hK => ?_)
 refine value_ (w1 := ?_) (v := ?_) (by rfl) rfl ?_ ?_
 rotate_left 2
 {
 go_simp
 constructor
 {
 rfl
 }
 {
 rfl
 }
 }
 refine hK.out _ _ ⟨(blk_cell (blk_alloc BK443.out _) 0).trans rfl, (blk_cell (blk_alloc BK443.out _) 1).trans rfl⟩ (fun hHeld => ?_)
 clear hK K
 refine norm_ (a' := ?_) ?_ ?_
 rotate_left
 {
 show Act.put _ (some 42) _ = _
 simp only [Act.put, sT, sZ, sU, i64_w, i32_w]
 rfl
 }
 refine one_ (i := 5) (N := some 43) (bs 6 8) rfl rfl (one_of HT_.out (by kernel_rfl)) (by decide) (fun K hK => ?_)
 refine Kd.R_append_step (Kd.int .i64) (w0 := w) w.heap.size (by rfl) (.tmp 39) (.tmp 42) 26 3 (.int .i64 0) 8 rfl Try.underlying26 info3 rfl (by decide) (by omega) u444001 x444001_2 t449 [.int .i64 t449] (fun k_ => some k_ ≠ (.slice (some ad448) t444.length co21 : Value).ownBlock) (fun _ => False) rfl rfl ?aP (fun _ hk => hk.elim) ?aF ?aO ?aB ?aS ?aL ?_
 (case aP => exact rfl)
 (case aB => exact (bX HB))
 (case aF => exact (fun k_ hk => Kd.fresh' (Kd.R_lt (rX HO_32)) k_ hk))
 (case aO => exact (rX HO_444001))
 (case aS => exact (below_size (bX HB)))
 (case aL => have := LMc26.out; omega)
 intro v451 w29 ho hb hg hat
 rw [← Ny450.out] at ho
 have n0_ := mK (Kd.R_after (ok := (fun _ => True)) (by (with_reducible repeat first|apply rA|apply rN|apply rD); exact Kd.R_mono HO_32.out (fun _ hk => ⟨trivial, hk⟩)) hg hat)
 have n1_ := mK (blk_grown (kX BK440) hg (Kd.R_ne HO_444001.out BK440.out (by decide)))
 have n2_ := mK (blk_grown (kX BK441) hg (Kd.R_ne HO_444001.out BK441.out (by decide)))
 have n3_ := mK (blk_grown (kX BK443) hg (Kd.R_ne HO_444001.out BK443.out (by decide)))
 have n4_ := mK (hb)
 have n5_ := mK (ho)
 clear HO_32
 clear BK440
 clear BK441
 clear BK443
 clear HB
 clear HO_444001
 have HO_32 := n0_
 have BK440 := n1_
 have BK441 := n2_
 have BK443 := n3_
 have HB := n4_
 have HO452 := n5_
 clear n0_ n1_ n2_ n3_ n4_ n5_
 clear ho hb hg hat
 obtain ⟨Ao30, co30, eo30⟩ := Kd.R_slice HO452.out
 (first | subst eo30 | (injection eo30 with f1_ f2_ f3_; have f4_ := f1_.symm; have f5_ := f3_.symm; clear f1_ f2_ f3_; subst f4_; subst f5_))
 refine hK.out _ _ ⟨(blk_cell BK443.out 0).trans rfl, (blk_cell BK443.out 1).trans rfl⟩ (fun hHeld => ?_)
 clear hK K
 refine norm_ (a' := ?_) ?_ ?_
 rotate_left
 {
 show Act.put _ (some 43) _ = _
 simp only [Act.put, sT, sZ, sU, i64_w, i32_w]
 rfl
 }
 refine pL 6 44 (bs 7 8) HT_ ?_
 refine last_ (i := 7) (N := none) (bs 8 8) rfl rfl (one_of HT_.out (by kernel_rfl)) (by decide) (fun K hK => ?_)
 have hs31 : w29.cell? ⟨gb443, 1, none⟩ = some (u444001) := (blk_cell BK443.out 1).trans rfl
 have hfs31 := fX BK443 1
 have hns31_0 := NB440_443.out
 have hns31_1 := NB441_443.out
 have hms31_0 := NB443_440.out
 have hms31_1 := NB443_441.out
 refine skip_ (w1 := ?_) (by rfl) rfl ?_ ?_
 rotate_left
 {
 go_simp
 rfl
 }
 refine hK.out _ _ ?_
 clear hK K
 refine done_ (done_of HT_.out (by kernel_rfl)) ?_
 try go_wp2
 go_roundg k2
 case measure => have := HK1.out; have := HK2.out; omega
 case rel => exact ⟨(wrap64 (x34_2 + 1)), (y450), (.slice Ao30 y450.length co30), (by first | rfl | (simp; done) | (simp [*]; done)), H', ⟨by have := HK1.out; have := HK2.out; omega⟩, ⟨by (with_reducible repeat first|apply rA|apply rN|apply rD); exact Kd.R_mono (Kd.R_far (p := ⟨gb443, 1, none⟩) (Kd.R_types HO_32.out BK443.out (by decide)) (fun _ hk => hk.2) (.slice Ao30 y450.length co30)) (fun _ hk => hk.1.2)⟩, ⟨by (with_reducible repeat first|apply rA|apply rN|apply rD); exact Kd.R_mono (Kd.R_far (p := ⟨gb443, 1, none⟩) (Kd.R_types HO452.out BK443.out (by decide)) (fun _ hk => hk.2) (.slice Ao30 y450.length co30)) (fun _ hk => hk.1)⟩, ⟨kF BK440 NB440_443⟩, ⟨kF BK441 NB441_443⟩, ⟨by (with_reducible repeat first|apply kN|apply kD|apply kA); refine blk_put (cs := #[.int .i64 a0_0, u444001]) ?_ 1 _ rfl; (with_reducible repeat first|apply kN|apply kD|apply kA); exact BK443.out⟩, ⟨bX HB⟩⟩
 )
 )
 )
 )

/-! ### impl_TableOk: function 45 -/
mutual
def impl_TableOk.j0 : Nat → Bool → Int → List Int → Option (Bool)
  | 0, _, _, _ => none
  | k + 1, x23, x454000, x454001 => if x23 = true then (some false) else (impl_TableOk.l0 k x454001 (x454001.length : Int) 0 x454000 x454001)
def impl_TableOk.l0 : Nat → List Int → Int → Int → Int → List Int → Option (Bool)
  | 0, _, _, _, _, _ => none
  | k + 1, x25, x26, x27, x454000, x454001 => if x27 < x26 then (if 0 ≤ x27 then (if x27 < (x25.length : Int) then (if (rd x25 x27) < (-1000000) then (some false) else (if (rd x25 x27) > 1000000 then (some false) else (if x454000 = 0 then (none) else (if (wrap64 (Int.tdiv x27 x454000)) = (Int.tmod x27 x454000) then (if (rd x25 x27) = 0 then (impl_TableOk.l0 k x25 x26 (wrap64 (x27 + 1)) x454000 x454001) else (some false)) else (impl_TableOk.l0 k x25 x26 (wrap64 (x27 + 1)) x454000 x454001))))) else (none)) else (none)) else (some true)
end
def impl_TableOk.f (k : Nat) (a0_0 : Int) (l0_1 : List Int) : Option (Bool) := if a0_0 < 0 then (impl_TableOk.j0 k true a0_0 l0_1) else (if a0_0 > 8 then (impl_TableOk.j0 k true a0_0 l0_1) else (impl_TableOk.j0 k ((l0_1.length : Int) != (wrap64 (a0_0 * a0_0))) a0_0 l0_1))
theorem impl_TableOk.mono_l : ∀ k, (∀ y0 y1 y2, LeO (impl_TableOk.j0 k y0 y1 y2) (impl_TableOk.j0 (k + 1) y0 y1 y2)) ∧ (∀ y0 y1 y2 y3 y4, LeO (impl_TableOk.l0 k y0 y1 y2 y3 y4) (impl_TableOk.l0 (k + 1) y0 y1 y2 y3 y4))
  | 0 => ⟨fun _ _ _ r h => by simp [impl_TableOk.j0] at h, fun _ _ _ _ _ r h => by simp [impl_TableOk.l0] at h⟩
  | k + 1 => by
    obtain ⟨ih0, ih1⟩ := impl_TableOk.mono_l k
    refine ⟨?_, ?_⟩
    · intro y0 y1 y2
      unfold impl_TableOk.j0
      repeat' first|(with_reducible first|exact ih0 _ _ _|exact ih1 _ _ _ _ _|exact lR _|exact lN _|refine lI ?_ ?_|refine lB ?_ (fun _ => ?_))|exact ih0 _ _ _|exact ih1 _ _ _ _ _|exact lN _|refine lI ?_ ?_|refine lB ?_ (fun _ => ?_)
    · intro y0 y1 y2 y3 y4
      unfold impl_TableOk.l0
      repeat' first|(with_reducible first|exact ih0 _ _ _|exact ih1 _ _ _ _ _|exact lR _|exact lN _|refine lI ?_ ?_|refine lB ?_ (fun _ => ?_))|exact ih0 _ _ _|exact ih1 _ _ _ _ _|exact lN _|refine lI ?_ ?_|refine lB ?_ (fun _ => ?_)
theorem impl_TableOk.mono : ∀ a0 a1 k, LeO (impl_TableOk.f k a0 a1) (impl_TableOk.f (k + 1) a0 a1) := by
  intro a0 a1 k
  obtain ⟨ih0, ih1⟩ := impl_TableOk.mono_l k
  unfold impl_TableOk.f
  repeat' first|(with_reducible first|exact ih0 _ _ _|exact ih1 _ _ _ _ _|exact lR _|exact lN _|refine lI ?_ ?_|refine lB ?_ (fun _ => ?_))|exact ih0 _ _ _|exact ih1 _ _ _ _ _|exact lN _|refine lI ?_ ?_|refine lB ?_ (fun _ => ?_)
set_option maxHeartbeats 8000000 in
set_option maxRecDepth 100000 in
theorem impl_TableOk.calls (k : Nat) (a0_0 : Int) (A0_1 : Option Addr) (c0_1 : Nat) (l0_1 : List Int) (r : Bool) (w : World) (hr0_1 : Kd.C (Kd.int .i64) w A0_1 l0_1.length l0_1) (hc0_1 : l0_1.length ≤ c0_1) (h : impl_TableOk.f k a0_0 l0_1 = some r) :
    Calls Try.prog 45 #[.agg #[.int .i64 a0_0, .slice A0_1 l0_1.length c0_1]] w fun e w' => e = .returned (.bool r) ∧ Below w.heap.size w w' := by
  have hu28 := Try.underlying28
  have HR0_1 := mK hr0_1
  have HC0_1 := mK hc0_1
  clear hr0_1 hc0_1
  have HB := mK (Below.refl w.heap.size w)
  have H : (if a0_0 < 0 then (impl_TableOk.j0 k true a0_0 l0_1) else (if a0_0 > 8 then (impl_TableOk.j0 k true a0_0 l0_1) else (impl_TableOk.j0 k ((l0_1.length : Int) != (wrap64 (a0_0 * a0_0))) a0_0 l0_1))) = some r := h
  clear h
  have HC2 := mK H
  clear H
  go_enter Try.func45, Try.ntmps45
  go_upto_region 1 with (first | ((with_reducible refine gate_dst (N := 1) rfl ?_); (try (refine gate_guard (by rfl) ?_; dsimp only)); refine box_event ?hg (N := 1) ?hd (cs := #[.int .i64 a0_0, .slice A0_1 l0_1.length c0_1]) (t := 28) ?hr ?_; (case hd => rfl); (case hg => rfl); (case hr => go_simp <;> rfl); intro gb453 hg w3 hbox hb; have BK453 := mK hbox; have GW453 := mK (gX hg HB); have GE453 := mK (gX hg HB); replace HB := bB HB hb; clear hb hbox hg))
  repeat (go_quiet (first | ((with_reducible refine gate_dst (N := 1) rfl ?_); (try (refine gate_guard (by rfl) ?_; dsimp only)); refine box_event ?hg (N := 1) ?hd (cs := #[.int .i64 a0_0, .slice A0_1 l0_1.length c0_1]) (t := 28) ?hr ?_; (case hd => rfl); (case hg => rfl); (case hr => go_simp <;> rfl); intro gb453 hg w3 hbox hb; have BK453 := mK hbox; have GW453 := mK (gX hg HB); have GE453 := mK (gX hg HB); replace HB := bB HB hb; clear hb hbox hg)); go_upto_region 1 with (first | ((with_reducible refine gate_dst (N := 1) rfl ?_); (try (refine gate_guard (by rfl) ?_; dsimp only)); refine box_event ?hg (N := 1) ?hd (cs := #[.int .i64 a0_0, .slice A0_1 l0_1.length c0_1]) (t := 28) ?hr ?_; (case hd => rfl); (case hg => rfl); (case hr => go_simp <;> rfl); intro gb453 hg w3 hbox hb; have BK453 := mK hbox; have GW453 := mK (gX hg HB); have GE453 := mK (gX hg HB); replace HB := bB HB hb; clear hb hbox hg)))
  (try simp only [Act.put, sT, sZ, sU])
  go_cut [23] (fun v23 wc => ∃ (kq : Nat) (x23_1 : Bool), v23 = .bool x23_1 ∧ Aside0 (impl_TableOk.j0 kq x23_1 a0_0 l0_1 = some r) ∧ Aside0 (kq ≤ k) ∧ Aside0 (wc.heap[gb453]? = some (.cells #[.int .i64 a0_0, (.slice A0_1 l0_1.length c0_1)] 28 (0, 0))) ∧ Aside0 (Below w.heap.size w wc))
  case first =>
   have H := HC2.out
   clear HC2
   by_cases c4 : a0_0 < 0
   · rw [if_pos c4] at H
     have c4b0 : decide (a0_0 < 0) = true := decide_eq_true c4
     clear c4
     (first | rw [c4b0] | (simp only [i64_w, i32_w]; rw [c4b0]) | skip)
     have H' := mK H
     clear H
     have hcz5_0 := q0 BK453
     have hcz5_1 := q1 BK453
     have hfz5_0 := fX BK453 0
     have hfz5_1 := fX BK453 1
     go_wp2
     repeat (go_quiet (fail); try go_wp2)
     go_meet
     case rel => exact ⟨_, (true), (by first | rfl | (simp; done) | (simp [*]; done)), H', ⟨by first | omega | exact Nat.le_refl _⟩, ⟨kX BK453⟩, ⟨bX HB⟩⟩
   rw [if_neg c4] at H
   have c4b0 : decide (a0_0 < 0) = false := decide_eq_false c4
   clear c4
   (first | rw [c4b0] | (simp only [i64_w, i32_w]; rw [c4b0]) | skip)
   by_cases c6 : a0_0 > 8
   · rw [if_pos c6] at H
     have c6b0 : decide (8 < a0_0) = true := decide_eq_true c6
     clear c6
     have H' := mK H
     clear H
     have hcz7_0 := q0 BK453
     have hcz7_1 := q1 BK453
     have hfz7_0 := fX BK453 0
     have hfz7_1 := fX BK453 1
     go_wp2
     repeat (go_quiet (fail); try go_wp2)
     go_meet
     case rel => exact ⟨_, (true), (by first | rfl | (simp; done) | (simp [*]; done)), H', ⟨by first | omega | exact Nat.le_refl _⟩, ⟨kX BK453⟩, ⟨bX HB⟩⟩
   rw [if_neg c6] at H
   have c6b0 : decide (8 < a0_0) = false := decide_eq_false c6
   clear c6
   have H' := mK H
   clear H
   have hcz8_0 := q0 BK453
   have hcz8_1 := q1 BK453
   have hfz8_0 := fX BK453 0
   have hfz8_1 := fX BK453 1
   go_wp2
   repeat (go_quiet (fail); try go_wp2)
   go_meet
   case rel => exact ⟨_, (((l0_1.length : Int) != (wrap64 (a0_0 * a0_0)))), (by first | rfl | (simp; done) | (simp [*]; done)), H', ⟨by first | omega | exact Nat.le_refl _⟩, ⟨kX BK453⟩, ⟨bX HB⟩⟩
  case rest =>
   clear HC2
   try clear p2
   try clear c4
   try clear c4b0
   try clear c6
   try clear c6b0
   try clear p6
   try clear hcz5_0
   try clear hcz5_1
   try clear hcz7_0
   try clear hcz7_1
   try clear hcz8_0
   try clear hcz8_1
   try clear hfz5_0
   try clear hfz5_1
   try clear hfz7_0
   try clear hfz7_1
   try clear hfz8_0
   try clear hfz8_1
   obtain ⟨kq, x23_1, rfl, HA, HJ1, BK453, HB⟩ := hcut
   cases kq with
   | zero => exact absurd HA.out (by simp [impl_TableOk.j0])
   | succ kj1 =>
    have H := HA.out
    clear HA
    simp only [impl_TableOk.j0] at H
    by_cases c9 : x23_1 = true
    · subst c9
      rw [if_pos rfl] at H
      obtain rfl := Option.some.inj H
      go_wp2
      repeat (go_quiet (fail); try go_wp2)
      go_ret
      exact ⟨by first | rfl | (simp [errW_none, errW_some] <;> rfl) | (simp [*, errW_none, errW_some] <;> rfl), bX HB⟩
    replace c9 := Bool.eq_false_iff.mpr c9
    subst c9
    rw [if_neg (show ¬ (false = true) by decide)] at H
    have H' := mK H
    clear H
    have hcz10_0 := q0 BK453
    have hcz10_1 := q1 BK453
    have hfz10_0 := fX BK453 0
    have hfz10_1 := fX BK453 1
    go_wp2
    repeat (go_quiet (fail); try go_wp2)
    go_loopg [27] kj1 (fun kq v27 w' => ∃ (x27_2 : Int), v27 = .int .i64 x27_2 ∧ Aside0 (impl_TableOk.l0 kq l0_1 (l0_1.length : Int) x27_2 a0_0 l0_1 = some r) ∧ Aside0 (kq ≤ kj1) ∧ Aside0 (w'.heap[gb453]? = some (.cells #[.int .i64 a0_0, (.slice A0_1 l0_1.length c0_1)] 28 (0, 0))) ∧ Aside0 (Below w.heap.size w w'))
    case atStart => exact ⟨(0), (by first | rfl | (simp; done) | (simp [*]; done)), H', ⟨Nat.le_refl _⟩, ⟨kX BK453⟩, ⟨bX HB⟩⟩
    case round =>
     clear H'
     try clear p2
     try clear c4
     try clear c4b0
     try clear c6
     try clear c6b0
     try clear p6
     try clear c9
     try clear hcz10_0
     try clear hcz10_1
     try clear hcz5_0
     try clear hcz5_1
     try clear hcz7_0
     try clear hcz7_1
     try clear hcz8_0
     try clear hcz8_1
     try clear hfz10_0
     try clear hfz10_1
     try clear hfz5_0
     try clear hfz5_1
     try clear hfz7_0
     try clear hfz7_1
     try clear hfz8_0
     try clear hfz8_1
     try clear p2
     try clear p6
     obtain ⟨x27_2, rfl, HA, HK2, BK453, HB⟩ := hrel
     cases gk with
     | zero => exact absurd HA.out (by simp [impl_TableOk.l0])
     | succ k2 =>
      have H := HA.out
      clear HA
      simp only [impl_TableOk.l0] at H
      by_cases c11 : x27_2 < (l0_1.length : Int)
      rotate_left
      · rw [if_neg c11] at H
        have c11b0 : decide (x27_2 < (l0_1.length : Int)) = false := decide_eq_false c11
        clear c11
        obtain rfl := Option.some.inj H
        go_wp2
        repeat (go_quiet (fail); try go_wp2)
        go_ret
        exact ⟨by first | rfl | (simp [errW_none, errW_some] <;> rfl) | (simp [*, errW_none, errW_some] <;> rfl), bX HB⟩
      rw [if_pos c11] at H
      have c11b0 : decide (x27_2 < (l0_1.length : Int)) = true := decide_eq_true c11
      clear c11
      by_cases c12 : 0 ≤ x27_2
      rotate_left
      · rw [if_neg c12] at H
        exact absurd H (by simp)
      rw [if_pos c12] at H
      have c12b0 : decide (0 ≤ x27_2) = true := decide_eq_true c12
      clear c12
      by_cases c13 : x27_2 < (l0_1.length : Int)
      rotate_left
      · rw [if_neg c13] at H
        exact absurd H (by simp)
      rw [if_pos c13] at H
      have c13b0 : decide (x27_2 < (l0_1.length : Int)) = true := decide_eq_true c13
      clear c13
      by_cases c14 : (rd l0_1 x27_2) < (-1000000)
      · rw [if_pos c14] at H
        have c14b0 : decide ((rd l0_1 x27_2) < (-1000000)) = true := decide_eq_true c14
        clear c14
        obtain rfl := Option.some.inj H
        have p454 : 0 ≤ (x27_2 : Int) := of_decide_eq_true oX
        have q454 : x27_2 < (l0_1.length : Int) := of_decide_eq_true oX
        obtain ⟨ad454, e454, hx454_0⟩ := Kd.at_int HR0_1.out x27_2 p454 q454
        cases e454
        replace hx454_0 := (HB.out.cell (World.block_lt_of_cell? w _ hx454_0)).trans hx454_0
        replace p454 := eq_true p454
        replace q454 := eq_true q454
        go_wp2
        repeat (go_quiet (fail); try go_wp2)
        go_ret
        exact ⟨by first | rfl | (simp [errW_none, errW_some] <;> rfl) | (simp [*, errW_none, errW_some] <;> rfl), bX HB⟩
      rw [if_neg c14] at H
      have c14b0 : decide ((rd l0_1 x27_2) < (-1000000)) = false := decide_eq_false c14
      clear c14
      by_cases c15 : (rd l0_1 x27_2) > 1000000
      · rw [if_pos c15] at H
        have c15b0 : decide (1000000 < (rd l0_1 x27_2)) = true := decide_eq_true c15
        clear c15
        obtain rfl := Option.some.inj H
        have p454 : 0 ≤ (x27_2 : Int) := of_decide_eq_true oX
        have q454 : x27_2 < (l0_1.length : Int) := of_decide_eq_true oX
        obtain ⟨ad454, e454, hx454_0⟩ := Kd.at_int HR0_1.out x27_2 p454 q454
        cases e454
        replace hx454_0 := (HB.out.cell (World.block_lt_of_cell? w _ hx454_0)).trans hx454_0
        replace p454 := eq_true p454
        replace q454 := eq_true q454
        go_wp2
        repeat (go_quiet (fail); try go_wp2)
        go_ret
        exact ⟨by first | rfl | (simp [errW_none, errW_some] <;> rfl) | (simp [*, errW_none, errW_some] <;> rfl), bX HB⟩
      rw [if_neg c15] at H
      have c15b0 : decide (1000000 < (rd l0_1 x27_2)) = false := decide_eq_false c15
      clear c15
      by_cases c16 : a0_0 = 0
      · rw [if_pos c16] at H
        exact absurd H (by simp)
      rw [if_neg c16] at H
      have c16b0 : (a0_0 == 0) = false := beq_eq_false_iff_ne.mpr c16
      have c16b1 : (a0_0 != 0) = true := bne_iff_ne.mpr c16
      by_cases c17 : (wrap64 (Int.tdiv x27_2 a0_0)) = (Int.tmod x27_2 a0_0)
      rotate_left
      · rw [if_neg c17] at H
        have c17b0 : ((wrap64 (Int.tdiv x27_2 a0_0)) == (Int.tmod x27_2 a0_0)) = false := beq_eq_false_iff_ne.mpr c17
        have c17b1 : ((wrap64 (Int.tdiv x27_2 a0_0)) != (Int.tmod x27_2 a0_0)) = true := bne_iff_ne.mpr c17
        have H' := mK H
        clear H
        have p454 : 0 ≤ (x27_2 : Int) := of_decide_eq_true oX
        have q454 : x27_2 < (l0_1.length : Int) := of_decide_eq_true oX
        obtain ⟨ad454, e454, hx454_0⟩ := Kd.at_int HR0_1.out x27_2 p454 q454
        cases e454
        replace hx454_0 := (HB.out.cell (World.block_lt_of_cell? w _ hx454_0)).trans hx454_0
        replace p454 := eq_true p454
        replace q454 := eq_true q454
        have hcz21_0 := q0 BK453
        have hcz21_1 := q1 BK453
        have hfz21_0 := fX BK453 0
        have hfz21_1 := fX BK453 1
        go_wp2
        repeat (go_quiet (fail); try go_wp2)
        go_roundg k2
        case measure => have := HJ1.out; have := HK2.out; omega
        case rel => exact ⟨(wrap64 (x27_2 + 1)), (by first | rfl | (simp; done) | (simp [*]; done)), H', ⟨by have := HJ1.out; have := HK2.out; omega⟩, ⟨kX BK453⟩, ⟨bX HB⟩⟩
      rw [if_pos c17] at H
      have c17b0 : ((wrap64 (Int.tdiv x27_2 a0_0)) == (Int.tmod x27_2 a0_0)) = true := beq_iff_eq.mpr c17
      have c17b1 : ((wrap64 (Int.tdiv x27_2 a0_0)) != (Int.tmod x27_2 a0_0)) = false := bne_eq_false_iff_eq.mpr c17
      clear c17
      by_cases c18 : (rd l0_1 x27_2) = 0
      rotate_left
      · rw [if_neg c18] at H
        have c18b0 : ((rd l0_1 x27_2) == 0) = false := beq_eq_false_iff_ne.mpr c18
        have c18b1 : ((rd l0_1 x27_2) != 0) = true := bne_iff_ne.mpr c18
        obtain rfl := Option.some.inj H
        have p454 : 0 ≤ (x27_2 : Int) := of_decide_eq_true oX
        have q454 : x27_2 < (l0_1.length : Int) := of_decide_eq_true oX
        obtain ⟨ad454, e454, hx454_0⟩ := Kd.at_int HR0_1.out x27_2 p454 q454
        cases e454
        replace hx454_0 := (HB.out.cell (World.block_lt_of_cell? w _ hx454_0)).trans hx454_0
        replace p454 := eq_true p454
        replace q454 := eq_true q454
        have hcz20_0 := q0 BK453
        have hcz20_1 := q1 BK453
        have hfz20_0 := fX BK453 0
        have hfz20_1 := fX BK453 1
        go_wp2
        repeat (go_quiet (fail); try go_wp2)
        go_ret
        exact ⟨by first | rfl | (simp [errW_none, errW_some] <;> rfl) | (simp [*, errW_none, errW_some] <;> rfl), bX HB⟩
      rw [if_pos c18] at H
      have c18b0 : ((rd l0_1 x27_2) == 0) = true := beq_iff_eq.mpr c18
      have c18b1 : ((rd l0_1 x27_2) != 0) = false := bne_eq_false_iff_eq.mpr c18
      clear c18
      have H' := mK H
      clear H
      have p454 : 0 ≤ (x27_2 : Int) := of_decide_eq_true oX
      have q454 : x27_2 < (l0_1.length : Int) := of_decide_eq_true oX
      obtain ⟨ad454, e454, hx454_0⟩ := Kd.at_int HR0_1.out x27_2 p454 q454
      cases e454
      replace hx454_0 := (HB.out.cell (World.block_lt_of_cell? w _ hx454_0)).trans hx454_0
      replace p454 := eq_true p454
      replace q454 := eq_true q454
      have hcz19_0 := q0 BK453
      have hcz19_1 := q1 BK453
      have hfz19_0 := fX BK453 0
      have hfz19_1 := fX BK453 1
      go_wp2
      repeat (go_quiet (fail); try go_wp2)
      go_roundg k2
      case measure => have := HJ1.out; have := HK2.out; omega
      case rel => exact ⟨(wrap64 (x27_2 + 1)), (by first | rfl | (simp; done) | (simp [*]; done)), H', ⟨by have := HJ1.out; have := HK2.out; omega⟩, ⟨kX BK453⟩, ⟨bX HB⟩⟩

/-! ### impl_Table_cell: function 83 -/
def impl_Table_cell.f (a0_0 : Int) (l0_1 : List Int) (a1 : Int) (a2 : Int) : Option (Int) := if 0 ≤ (wrap64 ((wrap64 (a1 * a0_0)) + a2)) then (if (wrap64 ((wrap64 (a1 * a0_0)) + a2)) < (l0_1.length : Int) then (some (rd l0_1 (wrap64 ((wrap64 (a1 * a0_0)) + a2)))) else (none)) else (none)
set_option maxHeartbeats 8000000 in
set_option maxRecDepth 100000 in
theorem impl_Table_cell.calls (a0_0 : Int) (A0_1 : Option Addr) (c0_1 : Nat) (l0_1 : List Int) (a1 : Int) (a2 : Int) (r : Int) (w : World) (hr0_1 : Kd.C (Kd.int .i64) w A0_1 l0_1.length l0_1) (hc0_1 : l0_1.length ≤ c0_1) (h : impl_Table_cell.f a0_0 l0_1 a1 a2 = some r) :
    Calls Try.prog 83 #[.agg #[.int .i64 a0_0, .slice A0_1 l0_1.length c0_1], .int .i64 a1, .int .i64 a2] w fun e w' => e = .returned (.int .i64 r) ∧ Below w.heap.size w w' := by
  have hu28 := Try.underlying28
  have HR0_1 := mK hr0_1
  have HC0_1 := mK hc0_1
  clear hr0_1 hc0_1
  have HB := mK (Below.refl w.heap.size w)
  have H : (if 0 ≤ (wrap64 ((wrap64 (a1 * a0_0)) + a2)) then (if (wrap64 ((wrap64 (a1 * a0_0)) + a2)) < (l0_1.length : Int) then (some (rd l0_1 (wrap64 ((wrap64 (a1 * a0_0)) + a2)))) else (none)) else (none)) = some r := h
  clear h
  obtain ⟨ji4, hji4⟩ : ∃ j_ : Int, (wrap64 ((wrap64 (a1 * a0_0)) + a2)) = j_ := ⟨_, rfl⟩
  replace H : (if 0 ≤ (ji4) then (if (ji4) < (l0_1.length : Int) then (some (rd l0_1 (ji4))) else (none)) else (none)) = some r := by first | (rw [hji4] at H; exact H) | (simp only [hji4] at H ⊢; exact H)
  have hji4w : (IntKind.i64.wrap ((wrap64 (a1 * a0_0)) + a2)) = ji4 := (i64_w _).trans hji4
  by_cases c5 : 0 ≤ (ji4)
  rotate_left
  · rw [if_neg c5] at H
    exact absurd H (by simp)
  rw [if_pos c5] at H
  have c5b0 : decide (0 ≤ (ji4)) = true := decide_eq_true c5
  clear c5
  by_cases c6 : (ji4) < (l0_1.length : Int)
  rotate_left
  · rw [if_neg c6] at H
    exact absurd H (by simp)
  rw [if_pos c6] at H
  have c6b0 : decide ((ji4) < (l0_1.length : Int)) = true := decide_eq_true c6
  clear c6
  obtain rfl := Option.some.inj H
  go_enter Try.func83, Try.ntmps83
  go_wp2_with (first | ((with_reducible refine gate_dst (N := 3) rfl ?_); refine bxE 3 #[.int .i64 a0_0, .slice A0_1 l0_1.length c0_1] 28 ?_; intro gb455 hg w7 hbox hb; have BK455 := mK hbox; have GW455 := mK (gX hg HB); have GE455 := mK (gX hg HB); replace HB := bB HB hb; clear hb hbox hg; have hcz8_0 := q0 BK455; have hcz8_1 := q1 BK455; have hfz8_0 := fX BK455 0; have hfz8_1 := fX BK455 1; have p456 : 0 ≤ ((ji4) : Int) := of_decide_eq_true oX; have q456 : (ji4) < (l0_1.length : Int) := of_decide_eq_true oX; obtain ⟨ad456, e456, hx456_0⟩ := Kd.at_int HR0_1.out (ji4) p456 q456; cases e456; replace hx456_0 := (HB.out.cell (World.block_lt_of_cell? w _ hx456_0)).trans hx456_0; replace p456 := eq_true p456; replace q456 := eq_true q456))
  go_ret
  exact ⟨by first | rfl | (simp [errW_none, errW_some] <;> rfl) | (simp only [← hji4]; first | rfl | (simp [errW_none, errW_some] <;> rfl)) | (simp [*, errW_none, errW_some] <;> rfl), bX HB⟩

end Go.Proofs.Ytbbblnmngjhadaa.QFnExactLatestTimes
