-- Written by this session's program wip/tools/mk.py out of the translation; Lean checks it.
import Derived.Test.YtbbblnmngjhadaaQFnExactLatestTimesx0
import Derived.Test.YtbbblnmngjhadaaQFnExactLatestTimesx2
import Derived.Test.YtbbblnmngjhadaaQFnExactLatestTimesx4
namespace Go.Proofs.Ytbbblnmngjhadaa.QFnExactLatestTimes
open Go.RowKit Go.Proofs.YtbbblnmngjhadaaW.PrintWords Go.Proofs.YtbbblnmngjhadaaW.PrintLast Go.Proofs.YtbbblnmngjhadaaW.PrintMore
attribute [local go_sem] max2_int min2_int max_two min_two max_three min_three max_four min_four   -- for this text's walks alone
set_option linter.unusedVariables false
set_option linter.unusedSimpArgs false

/-! ### spec_CloseGraph: function 13 -/
mutual
def spec_CloseGraph.l0 : Nat → Int → Int → List (S70) → Int → List Int → Option (Int × List Int × Bool)
  | 0, _, _, _, _, _ => none
  | k + 1, x5, x192000, x192001, x195000, x195001 => if x5 < x192000 then ((spec_ShortestFrom.f k x192000 x192001 x5).bind fun bt195 => (if bt195.2 = true then (spec_CloseGraph.l1 k x5 bt195.1 (bt195.1.length : Int) 0 x192000 x192001 x195000 x195001) else (some (0, ([] : List Int), false)))) else (some (x195000, x195001, true))
def spec_CloseGraph.l1 : Nat → Int → List Int → Int → Int → Int → List (S70) → Int → List Int → Option (Int × List Int × Bool)
  | 0, _, _, _, _, _, _, _, _ => none
  | k + 1, x5, x32, x33, x34, x192000, x192001, x195000, x195001 => if x34 < x33 then (if 0 ≤ x34 then (if x34 < (x32.length : Int) then ((spec_ClampBound.f (rd x32 x34)).bind fun t200 => (if x195001.length < 17592186044416 then (spec_CloseGraph.l1 k x5 x32 x33 (wrap64 (x34 + 1)) x192000 x192001 x195000 (x195001 ++ [t200])) else (none))) else (none)) else (none)) else (spec_CloseGraph.l0 k (wrap64 (x5 + 1)) x192000 x192001 x195000 x195001)
end
def spec_CloseGraph.f (k : Nat) (a0_0 : Int) (l0_1 : List (S70)) : Option (Int × List Int × Bool) := (spec_GraphOk.f k a0_0 l0_1).bind fun t193 => (if t193 = true then (spec_CloseGraph.l0 k 0 a0_0 l0_1 a0_0 ([] : List Int)) else (some (0, ([] : List Int), false)))
theorem spec_CloseGraph.mono_l : ∀ k, (∀ y0 y1 y2 y3 y4, LeO (spec_CloseGraph.l0 k y0 y1 y2 y3 y4) (spec_CloseGraph.l0 (k + 1) y0 y1 y2 y3 y4)) ∧ (∀ y0 y1 y2 y3 y4 y5 y6 y7, LeO (spec_CloseGraph.l1 k y0 y1 y2 y3 y4 y5 y6 y7) (spec_CloseGraph.l1 (k + 1) y0 y1 y2 y3 y4 y5 y6 y7))
  | 0 => ⟨fun _ _ _ _ _ r h => by simp [spec_CloseGraph.l0] at h, fun _ _ _ _ _ _ _ _ r h => by simp [spec_CloseGraph.l1] at h⟩
  | k + 1 => by
    obtain ⟨ih0, ih1⟩ := spec_CloseGraph.mono_l k
    refine ⟨?_, ?_⟩
    · intro y0 y1 y2 y3 y4
      unfold spec_CloseGraph.l0
      repeat' first|(with_reducible first|exact ih0 _ _ _ _ _|exact ih1 _ _ _ _ _ _ _ _|exact spec_GraphOk.mono _ _ _|exact spec_ShortestFrom.mono _ _ _ _|exact lR _|exact lN _|refine lI ?_ ?_|refine lB ?_ (fun _ => ?_))|exact ih0 _ _ _ _ _|exact ih1 _ _ _ _ _ _ _ _|exact spec_GraphOk.mono _ _ _|exact spec_ShortestFrom.mono _ _ _ _|exact lN _|refine lI ?_ ?_|refine lB ?_ (fun _ => ?_)
    · intro y0 y1 y2 y3 y4 y5 y6 y7
      unfold spec_CloseGraph.l1
      repeat' first|(with_reducible first|exact ih0 _ _ _ _ _|exact ih1 _ _ _ _ _ _ _ _|exact spec_GraphOk.mono _ _ _|exact spec_ShortestFrom.mono _ _ _ _|exact lR _|exact lN _|refine lI ?_ ?_|refine lB ?_ (fun _ => ?_))|exact ih0 _ _ _ _ _|exact ih1 _ _ _ _ _ _ _ _|exact spec_GraphOk.mono _ _ _|exact spec_ShortestFrom.mono _ _ _ _|exact lN _|refine lI ?_ ?_|refine lB ?_ (fun _ => ?_)
theorem spec_CloseGraph.mono : ∀ a0 a1 k, LeO (spec_CloseGraph.f k a0 a1) (spec_CloseGraph.f (k + 1) a0 a1) := by
  intro a0 a1 k
  obtain ⟨ih0, ih1⟩ := spec_CloseGraph.mono_l k
  unfold spec_CloseGraph.f
  repeat' first|(with_reducible first|exact ih0 _ _ _ _ _|exact ih1 _ _ _ _ _ _ _ _|exact spec_GraphOk.mono _ _ _|exact spec_ShortestFrom.mono _ _ _ _|exact lR _|exact lN _|refine lI ?_ ?_|refine lB ?_ (fun _ => ?_))|exact ih0 _ _ _ _ _|exact ih1 _ _ _ _ _ _ _ _|exact spec_GraphOk.mono _ _ _|exact spec_ShortestFrom.mono _ _ _ _|exact lN _|refine lI ?_ ?_|refine lB ?_ (fun _ => ?_)
def spec_CloseGraph.T13 : Bool × List (List Nat × List Nat) := (true, [([], []), ([0], [0]), ([], []), ([2], [2]), ([3], [3]), ([1, 4, 3], [1, 4]), ([0, 1, 2, 3, 4, 5], []), ([6, 5, 5, 0, 1, 2, 3, 4, 5], [5, 6])])
def spec_CloseGraph.B13 : List Nat := [0, 1, 0, 4, 12, 31, 63, 127]
theorem spec_CloseGraph.tab13 : rtab .any (opsOf Try.f13 13) = spec_CloseGraph.T13 := by kernel_rfl
theorem spec_CloseGraph.bits13 : waitsOk spec_CloseGraph.T13.2 spec_CloseGraph.B13 = true := by kernel_rfl
set_option maxHeartbeats 8000000 in
set_option maxRecDepth 100000 in
theorem spec_CloseGraph.calls (k : Nat) (a0_0 : Int) (A0_1 : Option Addr) (c0_1 : Nat) (l0_1 : List (S70)) (r1 : Int) (r2 : List Int) (r3 : Bool) (w : World) (hr0_1 : Kd.C k70 w A0_1 l0_1.length l0_1) (hc0_1 : l0_1.length ≤ c0_1) (h : spec_CloseGraph.f k a0_0 l0_1 = some (r1, r2, r3)) :
    Calls Try.prog 13 #[.agg #[.int .i64 a0_0, .slice A0_1 l0_1.length c0_1]] w fun e w' => ∃ v1_ : Value, e = .returned (.tuple #[.agg #[.int .i64 r1, v1_], .bool r3]) ∧ Kd.R (Kd.int .i64) 3 w' w.heap.size (fun _ => True) v1_ r2 ∧ Below w.heap.size w w' := by
 have hu33 := Try.underlying33
 have hu28 := Try.underlying28
 have HR0_1 := mK hr0_1
 have HC0_1 := mK hc0_1
 clear hr0_1 hc0_1
 have HB := mK (Below.refl w.heap.size w)
 have H : ((spec_GraphOk.f k a0_0 l0_1).bind fun t193 => (if t193 = true then (spec_CloseGraph.l0 k 0 a0_0 l0_1 a0_0 ([] : List Int)) else (some (0, ([] : List Int), false)))) = some (r1, r2, r3) := h
 clear h
 replace H := Option.bind_eq_some_iff.mp H
 obtain ⟨t193, A20, H⟩ := H
 replace H : (if t193 = true then (spec_CloseGraph.l0 k 0 a0_0 l0_1 a0_0 ([] : List Int)) else (some (0, ([] : List Int), false))) = some (r1, r2, r3) := H
 have A2 := mK A20
 clear A20
 by_cases c3 : t193 = true
 rotate_left
 {
 replace c3 := Bool.eq_false_iff.mpr c3
 subst c3
 rw [if_neg (show ¬ (false = true) by decide)] at H
 simp only [Option.some.injEq, Prod.mk.injEq] at H
 obtain ⟨rfl, rfl, rfl⟩ := H
 go_enter Try.func13, Try.ntmps13
 go_wp2_with (first | ((with_reducible refine gate_dst (N := 1) rfl ?_); refine bxE 1 #[.int .i64 a0_0, .slice A0_1 l0_1.length c0_1] 33 ?_; intro gb191 hg w44 hbox hb; have BK191 := mK hbox; have GW191 := mK (gX hg HB); have GE191 := mK (gX hg HB); replace HB := bB HB hb; clear hb hbox hg) | ((with_reducible refine gate_dst (N := 2) rfl ?_); refine bxE 2 #[.int .i64 0, .slice none 0 0] 28 ?_; intro gb192 hg w45 hbox hb; have BK192 := mK hbox; have GW192 := mK (gX hg HB); have GE192 := mK (gX hg HB); replace HB := bB HB hb; have NB191_192 := mK (lX hg BK191); have NB192_191 := mK (mX hg BK191); replace BK191 := kB BK191 hb; clear hb hbox hg; have hnb46 := NB191_192.out; have hnc46 := NB192_191.out; have hcz47_0 := q0 BK191; have hcz47_1 := q1 BK191; have hfz47_0 := fX BK191 0; have hfz47_1 := fX BK191 1) | ((with_reducible refine gate_callee (f := 55) rfl ?_); refine gsE (some 11) Try.func55 #[.agg #[.int .i64 a0_0, .slice A0_1 l0_1.length c0_1]] ?_; (with_reducible refine (spec_GraphOk.calls k a0_0 _ _ l0_1 false _ ?side1 ?side2 A2.out).mono ?_); (case side1 => exact cX HR0_1 HB); (case side2 => exact HC0_1.out); rintro e w48 ⟨rfl, hb⟩; refine ⟨_, rfl, ?_⟩; replace BK191 := kB BK191 hb; replace BK192 := kB BK192 hb; replace HB := bB HB hb; (try clear hb); (try clear hb2); (try clear hk); (try clear hi); have hcz49_0 := q0 BK192; have hcz49_1 := q1 BK192; have hfz49_0 := fX BK192 0; have hfz49_1 := fX BK192 1))
 refine bodyPost_ret (results_ct rfl _ _ gb192 28 #[.int .i64 0, .slice none 0 0] (0, 0) _ rfl (kP2 BK192) Try.underlying28 rfl (by kernel_rfl)) rfl ?_
 exact ⟨_, by first | rfl | (simp [errW_none, errW_some] <;> rfl) | (simp [*, errW_none, errW_some] <;> rfl), by first | exact Kd.R_nil _ _ _ _ _ | exact Kd.N_nil _ _ _ _ _ | exact Kd.V_nil _ _ _ _ _ | exact Kd.Q_nil _ _ _ _ _ | exact Kd.S_nil _ _ _ _ _, bX HB⟩
 }
 subst c3
 rw [if_pos rfl] at H
 have H' := mK H
 clear H
 go_enter Try.func13, Try.ntmps13
 go_wp2_with (first | ((with_reducible refine gate_dst (N := 1) rfl ?_); refine bxE 1 #[.int .i64 a0_0, .slice A0_1 l0_1.length c0_1] 33 ?_; intro gb191 hg w4 hbox hb; have BK191 := mK hbox; have GW191 := mK (gX hg HB); have GE191 := mK (gX hg HB); replace HB := bB HB hb; clear hb hbox hg) | ((with_reducible refine gate_dst (N := 2) rfl ?_); refine bxE 2 #[.int .i64 0, .slice none 0 0] 28 ?_; intro gb192 hg w5 hbox hb; have BK192 := mK hbox; have GW192 := mK (gX hg HB); have GE192 := mK (gX hg HB); replace HB := bB HB hb; have NB191_192 := mK (lX hg BK191); have NB192_191 := mK (mX hg BK191); replace BK191 := kB BK191 hb; clear hb hbox hg; have hnb6 := NB191_192.out; have hnc6 := NB192_191.out; have hcz7_0 := q0 BK191; have hcz7_1 := q1 BK191; have hfz7_0 := fX BK191 0; have hfz7_1 := fX BK191 1) | ((with_reducible refine gate_callee (f := 55) rfl ?_); refine gsE (some 11) Try.func55 #[.agg #[.int .i64 a0_0, .slice A0_1 l0_1.length c0_1]] ?_; (with_reducible refine (spec_GraphOk.calls k a0_0 _ _ l0_1 true _ ?side1 ?side2 A2.out).mono ?_); (case side1 => exact cX HR0_1 HB); (case side2 => exact HC0_1.out); rintro e w8 ⟨rfl, hb⟩; refine ⟨_, rfl, ?_⟩; replace BK191 := kB BK191 hb; replace BK192 := kB BK192 hb; replace HB := bB HB hb; (try clear hb); (try clear hb2); (try clear hk); (try clear hi); have hcz9_0 := q0 BK191; have hcz9_1 := q1 BK191; have hfz9_0 := fX BK191 0; have hfz9_1 := fX BK191 1) | ((with_reducible refine gate_dst (N := 4) rfl ?_); refine bxE 4 #[.int .i64 0, .slice none 0 0] 28 ?_; intro gb194 hg w10 hbox hb; have BK194 := mK hbox; have GW194 := mK (gX hg HB); have GE194 := mK (gX hg HB); replace HB := bB HB hb; have NB191_194 := mK (lX hg BK191); have NB194_191 := mK (mX hg BK191); replace BK191 := kB BK191 hb; have NB192_194 := mK (lX hg BK192); have NB194_192 := mK (mX hg BK192); replace BK192 := kB BK192 hb; clear hb hbox hg; have hnb11 := NB194_191.out; have hnc11 := NB191_194.out; have hnb12 := NB194_192.out; have hnc12 := NB192_194.out; have hcz13_0 := q0 BK194; have hcz13_1 := q1 BK194; have hfz13_0 := fX BK194 0; have hfz13_1 := fX BK194 1))
 go_loopg [5] k (fun kq v5 w' => ∃ (x5_1 : Int) (x193000_1 : Int) (x195001_1 : List Int) (u195001 : Value), v5 = .int .i64 x5_1 ∧ Aside0 (spec_CloseGraph.l0 kq x5_1 a0_0 l0_1 a0_0 x195001_1 = some (r1, r2, r3)) ∧ Aside0 (kq ≤ k) ∧ Aside0 (Kd.R (Kd.int .i64) 3 w' w.heap.size (fun _ => True) u195001 x195001_1) ∧ Aside0 (w'.heap[gb191]? = some (.cells #[.int .i64 a0_0, (.slice A0_1 l0_1.length c0_1)] 33 (0, 0))) ∧ Aside0 (w'.heap[gb192]? = some (.cells #[.int .i64 x193000_1, (.slice none 0 0)] 28 (0, 0))) ∧ Aside0 (w'.heap[gb194]? = some (.cells #[.int .i64 a0_0, u195001] 28 (0, 0))) ∧ Aside0 (Below w.heap.size w w'))
 case atStart => exact ⟨(0), (0), (([] : List Int)), (.slice none 0 0), (by first | rfl | (simp; done) | (simp [*]; done)), H', ⟨Nat.le_refl _⟩, ⟨by first | exact Kd.R_nil _ _ _ _ _ | exact Kd.N_nil _ _ _ _ _ | exact Kd.V_nil _ _ _ _ _ | exact Kd.Q_nil _ _ _ _ _ | exact Kd.S_nil _ _ _ _ _⟩, ⟨kF BK191 NB191_194⟩, ⟨kF BK192 NB192_194⟩, ⟨kP2 BK194⟩, ⟨bX HB⟩⟩
 case round => (
 clear H'
 try clear c1
 try clear p2
 try clear c3
 try clear c5
 try clear c6
 try clear c11
 try clear c12
 try clear c13
 try clear hcz13_0
 try clear hcz13_1
 try clear hcz7_0
 try clear hcz7_1
 try clear hcz9_0
 try clear hcz9_1
 try clear hfz13_0
 try clear hfz13_1
 try clear hfz7_0
 try clear hfz7_1
 try clear hfz9_0
 try clear hfz9_1
 obtain ⟨x5_1, x193000_1, x195001_1, u195001, rfl, HA, HK1, HO_195001, BK191, BK192, BK194, HB⟩ := hrel
 cases gk with
 | zero => exact absurd HA.out (by simp [spec_CloseGraph.l0])
 | succ k1 => (
 have H := HA.out
 clear HA
 simp only [spec_CloseGraph.l0] at H
 by_cases c14 : x5_1 < a0_0
 rotate_left
 {
 rw [if_neg c14] at H
 have c14b0 : decide (x5_1 < a0_0) = false := decide_eq_false c14
 clear c14
 simp only [Option.some.injEq, Prod.mk.injEq] at H
 obtain ⟨rfl, rfl, rfl⟩ := H
 have hnb37 := NB191_192.out
 have hnc37 := NB192_191.out
 have hnb38 := NB191_194.out
 have hnc38 := NB194_191.out
 have hcz39_0 := q0 BK191
 have hcz39_1 := q1 BK191
 have hfz39_0 := fX BK191 0
 have hfz39_1 := fX BK191 1
 have hnb40 := NB194_192.out
 have hnc40 := NB192_194.out
 have hcz41_0 := q0 BK194
 have hcz41_1 := q1 BK194
 have hfz41_0 := fX BK194 0
 have hfz41_1 := fX BK194 1
 have hcz42_0 := q0 BK192
 have hcz42_1 := q1 BK192
 have hfz42_0 := fX BK192 0
 have hfz42_1 := fX BK192 1
 obtain ⟨Ao43, co43, eo43⟩ := Kd.R_slice HO_195001.out
 subst eo43
 go_wp2
 refine bodyPost_ret (results_ct rfl _ _ gb192 28 #[.int .i64 a0_0, .slice Ao43 x195001_1.length co43] (0, 0) _ rfl (kP2 BK192) Try.underlying28 rfl (by kernel_rfl)) rfl ?_
 exact ⟨_, by first | rfl | (simp [errW_none, errW_some] <;> rfl) | (simp [*, errW_none, errW_some] <;> rfl), rF2 HO_195001 BK192, bX HB⟩
 }
 rw [if_pos c14] at H
 have c14b0 : decide (x5_1 < a0_0) = true := decide_eq_true c14
 clear c14
 replace H := Option.bind_eq_some_iff.mp H
 obtain ⟨⟨t195, t198⟩, A150, H⟩ := H
 replace H : (if t198 = true then (spec_CloseGraph.l1 k1 x5_1 t195 (t195.length : Int) 0 a0_0 l0_1 a0_0 x195001_1) else (some (0, ([] : List Int), false))) = some (r1, r2, r3) := H
 have A15 := mK A150
 clear A150
 by_cases c16 : t198 = true
 rotate_left
 {
 replace c16 := Bool.eq_false_iff.mpr c16
 subst c16
 rw [if_neg (show ¬ (false = true) by decide)] at H
 simp only [Option.some.injEq, Prod.mk.injEq] at H
 obtain ⟨rfl, rfl, rfl⟩ := H
 have hnb31 := NB191_192.out
 have hnc31 := NB192_191.out
 have hnb32 := NB191_194.out
 have hnc32 := NB194_191.out
 have hcz33_0 := q0 BK191
 have hcz33_1 := q1 BK191
 have hfz33_0 := fX BK191 0
 have hfz33_1 := fX BK191 1
 go_wp2_with (first | ((with_reducible refine gate_callee (f := 56) rfl ?_); refine gsE (some 26) Try.func56 #[.agg #[.int .i64 a0_0, .slice A0_1 l0_1.length c0_1], .int .i64 x5_1] ?_; (with_reducible refine (spec_ShortestFrom.calls k1 a0_0 _ _ l0_1 x5_1 t195 false _ ?side1 ?side2 A15.out).mono ?_); (case side1 => exact cX HR0_1 HB); (case side2 => exact HC0_1.out); rintro e w34 ⟨v196, rfl, ho0, hb⟩; refine ⟨_, rfl, ?_⟩; have HO197 := mK (Kd.R_lower (Kd.R_new' ho0 (Kd.R_lt (rX HO_195001))) (below_size (bX HB))); replace HO_195001 := mK (Kd.R_elder' (rX HO_195001) (Kd.R_base ho0) hb); replace BK191 := kB BK191 hb; replace BK192 := kB BK192 hb; replace BK194 := kB BK194 hb; replace HB := bB HB hb; (try clear hb); (try clear hb2); (try clear hk); (try clear hi); (try clear ho0); have hnb35 := NB192_194.out; have hnc35 := NB194_192.out; have hcz36_0 := q0 BK192; have hcz36_1 := q1 BK192; have hfz36_0 := fX BK192 0; have hfz36_1 := fX BK192 1))
 refine bodyPost_ret (results_ct rfl _ _ gb192 28 #[.int .i64 0, .slice none 0 0] (0, 0) _ rfl (kP2 BK192) Try.underlying28 rfl (by kernel_rfl)) rfl ?_
 exact ⟨_, by first | rfl | (simp [errW_none, errW_some] <;> rfl) | (simp [*, errW_none, errW_some] <;> rfl), by first | exact Kd.R_nil _ _ _ _ _ | exact Kd.N_nil _ _ _ _ _ | exact Kd.V_nil _ _ _ _ _ | exact Kd.Q_nil _ _ _ _ _ | exact Kd.S_nil _ _ _ _ _, bX HB⟩
 }
 subst c16
 rw [if_pos rfl] at H
 have H' := mK H
 clear H
 have hnb17 := NB191_192.out
 have hnc17 := NB192_191.out
 have hnb18 := NB191_194.out
 have hnc18 := NB194_191.out
 have hcz19_0 := q0 BK191
 have hcz19_1 := q1 BK191
 have hfz19_0 := fX BK191 0
 have hfz19_1 := fX BK191 1
 go_wp2_with (first | ((with_reducible refine gate_callee (f := 56) rfl ?_); refine gsE (some 26) Try.func56 #[.agg #[.int .i64 a0_0, .slice A0_1 l0_1.length c0_1], .int .i64 x5_1] ?_; (with_reducible refine (spec_ShortestFrom.calls k1 a0_0 _ _ l0_1 x5_1 t195 true _ ?side1 ?side2 A15.out).mono ?_); (case side1 => exact cX HR0_1 HB); (case side2 => exact HC0_1.out); rintro e w20 ⟨v196, rfl, ho0, hb⟩; refine ⟨_, rfl, ?_⟩; have HO197 := mK (Kd.R_lower (Kd.R_new' ho0 (Kd.R_lt (rX HO_195001))) (below_size (bX HB))); replace HO_195001 := mK (Kd.R_elder' (rX HO_195001) (Kd.R_base ho0) hb); replace BK191 := kB BK191 hb; replace BK192 := kB BK192 hb; replace BK194 := kB BK194 hb; replace HB := bB HB hb; (try clear hb); (try clear hb2); (try clear hk); (try clear hi); (try clear ho0); obtain ⟨Ao21, co21, eo21⟩ := Kd.R_slice HO197.out; subst eo21))
 go_loopg [34] k1 (fun kq v34 w' => ∃ (x34_2 : Int) (x195001_2 : List Int) (u195001 : Value), v34 = .int .i64 x34_2 ∧ Aside0 (spec_CloseGraph.l1 kq x5_1 t195 (t195.length : Int) x34_2 a0_0 l0_1 a0_0 x195001_2 = some (r1, r2, r3)) ∧ Aside0 (kq ≤ k1) ∧ Aside0 (Kd.R (Kd.int .i64) 3 w' w.heap.size (fun k_ => some k_ ≠ (u195001 : Value).ownBlock) (.slice Ao21 t195.length co21) t195) ∧ Aside0 (Kd.R (Kd.int .i64) 3 w' w.heap.size (fun k_ => some k_ ≠ ((.slice Ao21 t195.length co21) : Value).ownBlock) u195001 x195001_2) ∧ Aside0 (w'.heap[gb191]? = some (.cells #[.int .i64 a0_0, (.slice A0_1 l0_1.length c0_1)] 33 (0, 0))) ∧ Aside0 (w'.heap[gb192]? = some (.cells #[.int .i64 x193000_1, (.slice none 0 0)] 28 (0, 0))) ∧ Aside0 (w'.heap[gb194]? = some (.cells #[.int .i64 a0_0, u195001] 28 (0, 0))) ∧ Aside0 (Below w.heap.size w w'))
 case atStart => exact ⟨(0), (x195001_1), (u195001), (by first | rfl | (simp; done) | (simp [*]; done)), H', ⟨Nat.le_refl _⟩, ⟨by (with_reducible repeat first|apply rA|apply rN|apply rD); exact Kd.R_mono HO197.out (fun _ hk => hk.2)⟩, ⟨by (with_reducible repeat first|apply rA|apply rN|apply rD); exact Kd.R_mono HO_195001.out (fun _ hk => hk.2)⟩, ⟨kX BK191⟩, ⟨kX BK192⟩, ⟨kX BK194⟩, ⟨bX HB⟩⟩
 case round => (
 clear H'
 try clear c1
 try clear p2
 try clear c3
 try clear c5
 try clear c6
 try clear c11
 try clear c12
 try clear c13
 try clear c14
 try clear c14b0
 try clear c16
 try clear c17
 try clear c18
 try clear hcz13_0
 try clear hcz13_1
 try clear hcz19_0
 try clear hcz19_1
 try clear hcz7_0
 try clear hcz7_1
 try clear hcz9_0
 try clear hcz9_1
 try clear hfz13_0
 try clear hfz13_1
 try clear hfz19_0
 try clear hfz19_1
 try clear hfz7_0
 try clear hfz7_1
 try clear hfz9_0
 try clear hfz9_1
 try clear p2
 obtain ⟨x34_2, x195001_2, u195001, rfl, HA, HK2, HO_32, HO_195001, BK191, BK192, BK194, HB⟩ := hrel
 cases gk with
 | zero => exact absurd HA.out (by simp [spec_CloseGraph.l1])
 | succ k2 => (
 have H := HA.out
 clear HA
 simp only [spec_CloseGraph.l1] at H
 by_cases c22 : x34_2 < (t195.length : Int)
 rotate_left
 {
 rw [if_neg c22] at H
 have c22b0 : decide (x34_2 < (t195.length : Int)) = false := decide_eq_false c22
 clear c22
 have H' := mK H
 clear H
 go_wp2
 go_roundg k2
 case measure => have := HK1.out; have := HK2.out; omega
 case rel => exact ⟨(wrap64 (x5_1 + 1)), (x193000_1), (x195001_2), (u195001), (by first | rfl | (simp; done) | (simp [*]; done)), H', ⟨by have := HK1.out; have := HK2.out; omega⟩, ⟨by (with_reducible repeat first|apply rA|apply rN|apply rD); exact Kd.R_mono HO_195001.out (fun _ hk => trivial)⟩, ⟨kX BK191⟩, ⟨kX BK192⟩, ⟨kX BK194⟩, ⟨bX HB⟩⟩
 }
 rw [if_pos c22] at H
 have c22b0 : decide (x34_2 < (t195.length : Int)) = true := decide_eq_true c22
 clear c22
 by_cases c23 : 0 ≤ x34_2
 rotate_left
 {
 rw [if_neg c23] at H
 exact absurd H (by simp)
 }
 rw [if_pos c23] at H
 have c23b0 : decide (0 ≤ x34_2) = true := decide_eq_true c23
 clear c23
 by_cases c24 : x34_2 < (t195.length : Int)
 rotate_left
 {
 rw [if_neg c24] at H
 exact absurd H (by simp)
 }
 rw [if_pos c24] at H
 have c24b0 : decide (x34_2 < (t195.length : Int)) = true := decide_eq_true c24
 clear c24
 replace H := Option.bind_eq_some_iff.mp H
 obtain ⟨t200, A250, H⟩ := H
 replace H : (if x195001_2.length < 17592186044416 then (spec_CloseGraph.l1 k2 x5_1 t195 (t195.length : Int) (wrap64 (x34_2 + 1)) a0_0 l0_1 a0_0 (x195001_2 ++ [t200])) else (none)) = some (r1, r2, r3) := H
 have A25 := mK A250
 clear A250
 by_cases c26 : x195001_2.length < 17592186044416
 rotate_left
 {
 rw [if_neg c26] at H
 exact absurd H (by simp)
 }
 rw [if_pos c26] at H
 have LMc26 := mK c26
 clear c26
 obtain ⟨y201, hy201⟩ : ∃ y_ : List Int, y_ = (x195001_2 ++ [t200]) := ⟨_, rfl⟩
 replace H : (spec_CloseGraph.l1 k2 x5_1 t195 (t195.length : Int) (wrap64 (x34_2 + 1)) a0_0 l0_1 a0_0 y201) = some (r1, r2, r3) := by first | (rw [hy201]; with_reducible exact H) | (have H2_ := (Option.bind_some _ _).symm.trans H; rw [hy201]; with_reducible exact H2_) | (have H2_ := (Option.bind_some _ _).symm.trans H; with_reducible exact H2_) | with_reducible exact H | (rw [hy201]; exact H) | exact H
 have Ny201 := mK hy201
 clear hy201
 have H' := mK H
 clear H
 have p199 : 0 ≤ (x34_2 : Int) := of_decide_eq_true oX
 have q199 : x34_2 < (t195.length : Int) := of_decide_eq_true oX
 obtain ⟨ad199, e199, hx199_0⟩ := Kd.at_int (Kd.R_reads' HO_32.out).2.2 x34_2 p199 q199
 cases e199
 replace p199 := eq_true p199
 replace q199 := eq_true q199
 try go_wp2
 have n0_ := mK (Kd.R_drew HO_32.out)
 have n1_ := mK (Kd.R_drew HO_195001.out)
 have n2_ := mK (blk_drew BK191.out)
 have n3_ := mK (blk_drew BK192.out)
 have n4_ := mK (blk_drew BK194.out)
 have n5_ := mK (below_drew1 HB.out)
 clear HO_32
 clear HO_195001
 clear BK191
 clear BK192
 clear BK194
 clear HB
 have HO_32 := n0_
 have HO_195001 := n1_
 have BK191 := n2_
 have BK192 := n3_
 have BK194 := n4_
 have HB := n5_
 clear n0_ n1_ n2_ n3_ n4_ n5_
 refine start_ (n := 8) (S := fun w' => w'.cell? ⟨gb194, 0, none⟩ = some (.int .i64 a0_0) ∧ w'.cell? ⟨gb194, 1, none⟩ = some (u195001)) (ds := [7]) (bs 0 8) (by kernel_rfl) rfl (by kernel_rfl) ⟨(blk_cell BK194.out 0).trans rfl, (blk_cell BK194.out 1).trans rfl⟩ (fun hHeld => ?_); refine with_tabW spec_CloseGraph.tab13 spec_CloseGraph.bits13 (fun HT_ HW_ => ?_)
 generalize wr.drew = w27 at HO_32 HO_195001 BK191 BK192 BK194 HB hHeld ⊢
 refine pL 0 38 (bs 1 8) HT_ ?_
 refine pL 2 40 #[true, false, true, false, false, false, false, false] HT_ ?_
 refine tL 1 39 (bs 3 8) HT_ HW_ hHeld ?_
 refine one_ (i := 3) (N := some 41) (bs 4 8) rfl rfl (one_of HT_.out (by kernel_rfl)) (by decide) (fun K hK => ?_)
 refine gsK Try.func57 #[.int .i64 (rd t195 x34_2)] ?_
 with_reducible refine (spec_ClampBound.calls (rd t195 x34_2) t200 _ A25.out).mono ?_
 rintro e w' ⟨rfl, ⟨nd, rfl⟩⟩
 refine ⟨_, rfl, ?_⟩
 refine hK.out _ _ ⟨(blk_cell BK194.out 0).trans rfl, (blk_cell BK194.out 1).trans rfl⟩ (fun hHeld => ?_)
 clear hK K
 refine norm_ (a' := ?_) ?_ ?_
 rotate_left
 {
 show Act.put _ (some 41) _ = _
 simp only [Act.put, sT, sZ, sU, i64_w, i32_w]
 rfl
 }
 refine one_ (i := 4) (N := some 42) (bs 5 8) rfl rfl (one_of HT_.out (by kernel_rfl)) (by decide) (fun K hK => ?_)
 refine value_ (w1 := ?_) (v := ?_) (by rfl) rfl ?_ ?_
 rotate_left 2
 {
 go_simp
 constructor
 {
 rfl
 }
 {
 rfl
 }
 }
 refine hK.out _ _ ⟨(blk_cell (blk_alloc BK194.out _) 0).trans rfl, (blk_cell (blk_alloc BK194.out _) 1).trans rfl⟩ (fun hHeld => ?_)
 clear hK K
 refine norm_ (a' := ?_) ?_ ?_
 rotate_left
 {
 show Act.put _ (some 42) _ = _
 simp only [Act.put, sT, sZ, sU, i64_w, i32_w]
 rfl
 }
 refine one_ (i := 5) (N := some 43) (bs 6 8) rfl rfl (one_of HT_.out (by kernel_rfl)) (by decide) (fun K hK => ?_)
 refine Kd.R_append_step (Kd.int .i64) (w0 := w) w.heap.size (by rfl) (.tmp 39) (.tmp 42) 26 3 (.int .i64 0) 8 rfl Try.underlying26 info3 rfl (by decide) (by omega) u195001 x195001_2 t200 [.int .i64 t200] (fun k_ => some k_ ≠ (.slice (some ad199) t195.length co21 : Value).ownBlock) (fun _ => False) rfl rfl ?aP (fun _ hk => hk.elim) ?aF ?aO ?aB ?aS ?aL ?_
 (case aP => exact rfl)
 (case aB => exact (bX HB))
 (case aF => exact (fun k_ hk => Kd.fresh' (Kd.R_lt (rX HO_32)) k_ hk))
 (case aO => exact (rX HO_195001))
 (case aS => exact (below_size (bX HB)))
 (case aL => have := LMc26.out; omega)
 intro v202 w28 ho hb hg hat
 rw [← Ny201.out] at ho
 have n0_ := mK (Kd.R_after (ok := (fun _ => True)) (by (with_reducible repeat first|apply rA|apply rN|apply rD); exact Kd.R_mono HO_32.out (fun _ hk => ⟨trivial, hk⟩)) hg hat)
 have n1_ := mK (blk_grown (kX BK191) hg (Kd.R_ne HO_195001.out BK191.out (by decide)))
 have n2_ := mK (blk_grown (kX BK192) hg (Kd.R_ne HO_195001.out BK192.out (by decide)))
 have n3_ := mK (blk_grown (kX BK194) hg (Kd.R_ne HO_195001.out BK194.out (by decide)))
 have n4_ := mK (hb)
 have n5_ := mK (ho)
 clear HO_32
 clear BK191
 clear BK192
 clear BK194
 clear HB
 clear HO_195001
 have HO_32 := n0_
 have BK191 := n1_
 have BK192 := n2_
 have BK194 := n3_
 have HB := n4_
 have HO203 := n5_
 clear n0_ n1_ n2_ n3_ n4_ n5_
 clear ho hb hg hat
 obtain ⟨Ao29, co29, eo29⟩ := Kd.R_slice HO203.out
 (first | subst eo29 | (injection eo29 with f1_ f2_ f3_; have f4_ := f1_.symm; have f5_ := f3_.symm; clear f1_ f2_ f3_; subst f4_; subst f5_))
 refine hK.out _ _ ⟨(blk_cell BK194.out 0).trans rfl, (blk_cell BK194.out 1).trans rfl⟩ (fun hHeld => ?_)
 clear hK K
 refine norm_ (a' := ?_) ?_ ?_
 rotate_left
 {
 show Act.put _ (some 43) _ = _
 simp only [Act.put, sT, sZ, sU, i64_w, i32_w]
 rfl
 }
 refine pL 6 44 (bs 7 8) HT_ ?_
 refine last_ (i := 7) (N := none) (bs 8 8) rfl rfl (one_of HT_.out (by kernel_rfl)) (by decide) (fun K hK => ?_)
 have hs30 : w28.cell? ⟨gb194, 1, none⟩ = some (u195001) := (blk_cell BK194.out 1).trans rfl
 have hfs30 := fX BK194 1
 have hns30_0 := NB191_194.out
 have hns30_1 := NB192_194.out
 have hms30_0 := NB194_191.out
 have hms30_1 := NB194_192.out
 refine skip_ (w1 := ?_) (by rfl) rfl ?_ ?_
 rotate_left
 {
 go_simp
 rfl
 }
 refine hK.out _ _ ?_
 clear hK K
 refine done_ (done_of HT_.out (by kernel_rfl)) ?_
 try go_wp2
 go_roundg k2
 case measure => have := HK1.out; have := HK2.out; omega
 case rel => exact ⟨(wrap64 (x34_2 + 1)), (y201), (.slice Ao29 y201.length co29), (by first | rfl | (simp; done) | (simp [*]; done)), H', ⟨by have := HK1.out; have := HK2.out; omega⟩, ⟨by (with_reducible repeat first|apply rA|apply rN|apply rD); exact Kd.R_mono (Kd.R_far (p := ⟨gb194, 1, none⟩) (Kd.R_types HO_32.out BK194.out (by decide)) (fun _ hk => hk.2) (.slice Ao29 y201.length co29)) (fun _ hk => hk.1.2)⟩, ⟨by (with_reducible repeat first|apply rA|apply rN|apply rD); exact Kd.R_mono (Kd.R_far (p := ⟨gb194, 1, none⟩) (Kd.R_types HO203.out BK194.out (by decide)) (fun _ hk => hk.2) (.slice Ao29 y201.length co29)) (fun _ hk => hk.1)⟩, ⟨kF BK191 NB191_194⟩, ⟨kF BK192 NB192_194⟩, ⟨by (with_reducible repeat first|apply kN|apply kD|apply kA); refine blk_put (cs := #[.int .i64 a0_0, u195001]) ?_ 1 _ rfl; (with_reducible repeat first|apply kN|apply kD|apply kA); exact BK194.out⟩, ⟨bX HB⟩⟩
 )
 )
 )
 )

/-! ### spec_IntervalOk: function 100 -/
def spec_IntervalOk.f (a0_0 : Int) (a0_1 : Int) : Option (Bool) := if a0_0 ≥ (-1000000) then (if a0_0 ≤ a0_1 then (if a0_1 ≤ 1000000 then (if a0_0 = 1000000 then (some false) else (some (a0_1 != (-1000000)))) else (some false)) else (some false)) else (some false)
set_option maxHeartbeats 8000000 in
set_option maxRecDepth 100000 in
theorem spec_IntervalOk.calls (a0_0 : Int) (a0_1 : Int) (r : Bool) (w : World) (h : spec_IntervalOk.f a0_0 a0_1 = some r) :
    Calls Try.prog 100 #[.agg #[.int .i64 a0_0, .int .i64 a0_1]] w fun e w' => e = .returned (.bool r) ∧ Below w.heap.size w w' := by
  have hu52 := Try.underlying52
  have HB := mK (Below.refl w.heap.size w)
  have H : (if a0_0 ≥ (-1000000) then (if a0_0 ≤ a0_1 then (if a0_1 ≤ 1000000 then (if a0_0 = 1000000 then (some false) else (some (a0_1 != (-1000000)))) else (some false)) else (some false)) else (some false)) = some r := h
  clear h
  by_cases c2 : a0_0 ≥ (-1000000)
  rotate_left
  · rw [if_neg c2] at H
    have c2b0 : decide ((-1000000) ≤ a0_0) = false := decide_eq_false c2
    clear c2
    obtain rfl := Option.some.inj H
    go_enter Try.func100, Try.ntmps100
    go_wp2_with (first | ((with_reducible refine gate_dst (N := 1) rfl ?_); refine bxE 1 #[.int .i64 a0_0, .int .i64 a0_1] 52 ?_; intro gb204 hg w14 hbox hb; have BK204 := mK hbox; have GW204 := mK (gX hg HB); have GE204 := mK (gX hg HB); replace HB := bB HB hb; clear hb hbox hg; have hcz15_0 := q0 BK204; have hcz15_1 := q1 BK204; have hfz15_0 := fX BK204 0; have hfz15_1 := fX BK204 1))
    go_ret
    exact ⟨by first | rfl | (simp [errW_none, errW_some] <;> rfl) | (simp [*, errW_none, errW_some] <;> rfl), bX HB⟩
  rw [if_pos c2] at H
  have c2b0 : decide ((-1000000) ≤ a0_0) = true := decide_eq_true c2
  clear c2
  by_cases c3 : a0_0 ≤ a0_1
  rotate_left
  · rw [if_neg c3] at H
    have c3b0 : decide (a0_0 ≤ a0_1) = false := decide_eq_false c3
    clear c3
    obtain rfl := Option.some.inj H
    go_enter Try.func100, Try.ntmps100
    go_wp2_with (first | ((with_reducible refine gate_dst (N := 1) rfl ?_); refine bxE 1 #[.int .i64 a0_0, .int .i64 a0_1] 52 ?_; intro gb204 hg w12 hbox hb; have BK204 := mK hbox; have GW204 := mK (gX hg HB); have GE204 := mK (gX hg HB); replace HB := bB HB hb; clear hb hbox hg; have hcz13_0 := q0 BK204; have hcz13_1 := q1 BK204; have hfz13_0 := fX BK204 0; have hfz13_1 := fX BK204 1))
    go_ret
    exact ⟨by first | rfl | (simp [errW_none, errW_some] <;> rfl) | (simp [*, errW_none, errW_some] <;> rfl), bX HB⟩
  rw [if_pos c3] at H
  have c3b0 : decide (a0_0 ≤ a0_1) = true := decide_eq_true c3
  clear c3
  by_cases c4 : a0_1 ≤ 1000000
  rotate_left
  · rw [if_neg c4] at H
    have c4b0 : decide (a0_1 ≤ 1000000) = false := decide_eq_false c4
    clear c4
    obtain rfl := Option.some.inj H
    go_enter Try.func100, Try.ntmps100
    go_wp2_with (first | ((with_reducible refine gate_dst (N := 1) rfl ?_); refine bxE 1 #[.int .i64 a0_0, .int .i64 a0_1] 52 ?_; intro gb204 hg w10 hbox hb; have BK204 := mK hbox; have GW204 := mK (gX hg HB); have GE204 := mK (gX hg HB); replace HB := bB HB hb; clear hb hbox hg; have hcz11_0 := q0 BK204; have hcz11_1 := q1 BK204; have hfz11_0 := fX BK204 0; have hfz11_1 := fX BK204 1))
    go_ret
    exact ⟨by first | rfl | (simp [errW_none, errW_some] <;> rfl) | (simp [*, errW_none, errW_some] <;> rfl), bX HB⟩
  rw [if_pos c4] at H
  have c4b0 : decide (a0_1 ≤ 1000000) = true := decide_eq_true c4
  clear c4
  by_cases c5 : a0_0 = 1000000
  rotate_left
  · rw [if_neg c5] at H
    have c5b0 : (a0_0 == 1000000) = false := beq_eq_false_iff_ne.mpr c5
    have c5b1 : (a0_0 != 1000000) = true := bne_iff_ne.mpr c5
    obtain rfl := Option.some.inj H
    go_enter Try.func100, Try.ntmps100
    go_wp2_with (first | ((with_reducible refine gate_dst (N := 1) rfl ?_); refine bxE 1 #[.int .i64 a0_0, .int .i64 a0_1] 52 ?_; intro gb204 hg w8 hbox hb; have BK204 := mK hbox; have GW204 := mK (gX hg HB); have GE204 := mK (gX hg HB); replace HB := bB HB hb; clear hb hbox hg; have hcz9_0 := q0 BK204; have hcz9_1 := q1 BK204; have hfz9_0 := fX BK204 0; have hfz9_1 := fX BK204 1))
    go_ret
    exact ⟨by first | rfl | (simp [errW_none, errW_some] <;> rfl) | (simp [*, errW_none, errW_some] <;> rfl), bX HB⟩
  rw [if_pos c5] at H
  have c5b0 : (a0_0 == 1000000) = true := beq_iff_eq.mpr c5
  have c5b1 : (a0_0 != 1000000) = false := bne_eq_false_iff_eq.mpr c5
  clear c5
  obtain rfl := Option.some.inj H
  go_enter Try.func100, Try.ntmps100
  go_wp2_with (first | ((with_reducible refine gate_dst (N := 1) rfl ?_); refine bxE 1 #[.int .i64 a0_0, .int .i64 a0_1] 52 ?_; intro gb204 hg w6 hbox hb; have BK204 := mK hbox; have GW204 := mK (gX hg HB); have GE204 := mK (gX hg HB); replace HB := bB HB hb; clear hb hbox hg; have hcz7_0 := q0 BK204; have hcz7_1 := q1 BK204; have hfz7_0 := fX BK204 0; have hfz7_1 := fX BK204 1))
  go_ret
  exact ⟨by first | rfl | (simp [errW_none, errW_some] <;> rfl) | (simp [*, errW_none, errW_some] <;> rfl), bX HB⟩

/-! ### spec_SimpleOk: function 63 -/
mutual
def spec_SimpleOk.j0 : Nat → Bool → Int → List (S76) → Option (Bool)
  | 0, _, _, _ => none
  | k + 1, x14, x206000, x206001 => if x14 = true then (some false) else (spec_SimpleOk.l0 k x206001 (x206001.length : Int) 0 x206000 x206001)
def spec_SimpleOk.l0 : Nat → List (S76) → Int → Int → Int → List (S76) → Option (Bool)
  | 0, _, _, _, _, _ => none
  | k + 1, x16, x17, x18, x206000, x206001 => if x18 < x17 then (if 0 ≤ x18 then (if x18 < (x16.length : Int) then ((spec_l01In.f ((rd_T76 x16 x18).f0) 0 (wrap64 (x206000 - 1))).bind fun t209 => (if t209 = true then ((spec_l01In.f ((rd_T76 x16 x18).f1) 0 (wrap64 (x206000 - 1))).bind fun t210 => (if t210 = true then ((spec_IntervalOk.f ((rd_T76 x16 x18).f2.f0) ((rd_T76 x16 x18).f2.f1)).bind fun t211 => (if t211 = true then (spec_SimpleOk.l0 k x16 x17 (wrap64 (x18 + 1)) x206000 x206001) else (some false))) else (some false))) else (some false))) else (none)) else (none)) else (some true)
end
def spec_SimpleOk.f (k : Nat) (a0_0 : Int) (l0_1 : List (S76)) : Option (Bool) := (spec_l01In.f a0_0 1 8).bind fun t206 => (if t206 = true then (spec_SimpleOk.j0 k (decide ((l0_1.length : Int) > 40)) a0_0 l0_1) else (spec_SimpleOk.j0 k true a0_0 l0_1))
theorem spec_SimpleOk.mono_l : ∀ k, (∀ y0 y1 y2, LeO (spec_SimpleOk.j0 k y0 y1 y2) (spec_SimpleOk.j0 (k + 1) y0 y1 y2)) ∧ (∀ y0 y1 y2 y3 y4, LeO (spec_SimpleOk.l0 k y0 y1 y2 y3 y4) (spec_SimpleOk.l0 (k + 1) y0 y1 y2 y3 y4))
  | 0 => ⟨fun _ _ _ r h => by simp [spec_SimpleOk.j0] at h, fun _ _ _ _ _ r h => by simp [spec_SimpleOk.l0] at h⟩
  | k + 1 => by
    obtain ⟨ih0, ih1⟩ := spec_SimpleOk.mono_l k
    refine ⟨?_, ?_⟩
    · intro y0 y1 y2
      unfold spec_SimpleOk.j0
      repeat' first|(with_reducible first|exact ih0 _ _ _|exact ih1 _ _ _ _ _|exact lR _|exact lN _|refine lI ?_ ?_|refine lB ?_ (fun _ => ?_))|exact ih0 _ _ _|exact ih1 _ _ _ _ _|exact lN _|refine lI ?_ ?_|refine lB ?_ (fun _ => ?_)
    · intro y0 y1 y2 y3 y4
      unfold spec_SimpleOk.l0
      repeat' first|(with_reducible first|exact ih0 _ _ _|exact ih1 _ _ _ _ _|exact lR _|exact lN _|refine lI ?_ ?_|refine lB ?_ (fun _ => ?_))|exact ih0 _ _ _|exact ih1 _ _ _ _ _|exact lN _|refine lI ?_ ?_|refine lB ?_ (fun _ => ?_)
theorem spec_SimpleOk.mono : ∀ a0 a1 k, LeO (spec_SimpleOk.f k a0 a1) (spec_SimpleOk.f (k + 1) a0 a1) := by
  intro a0 a1 k
  obtain ⟨ih0, ih1⟩ := spec_SimpleOk.mono_l k
  unfold spec_SimpleOk.f
  repeat' first|(with_reducible first|exact ih0 _ _ _|exact ih1 _ _ _ _ _|exact lR _|exact lN _|refine lI ?_ ?_|refine lB ?_ (fun _ => ?_))|exact ih0 _ _ _|exact ih1 _ _ _ _ _|exact lN _|refine lI ?_ ?_|refine lB ?_ (fun _ => ?_)
set_option maxHeartbeats 8000000 in
set_option maxRecDepth 100000 in
theorem spec_SimpleOk.calls (k : Nat) (a0_0 : Int) (A0_1 : Option Addr) (c0_1 : Nat) (l0_1 : List (S76)) (r : Bool) (w : World) (hr0_1 : Kd.C k76 w A0_1 l0_1.length l0_1) (hc0_1 : l0_1.length ≤ c0_1) (h : spec_SimpleOk.f k a0_0 l0_1 = some r) :
    Calls Try.prog 63 #[.agg #[.int .i64 a0_0, .slice A0_1 l0_1.length c0_1]] w fun e w' => e = .returned (.bool r) ∧ Below w.heap.size w w' := by
 have hu47 := Try.underlying47
 have hu76 := Try.underlying76
 have hu52 := Try.underlying52
 have HR0_1 := mK hr0_1
 have HC0_1 := mK hc0_1
 clear hr0_1 hc0_1
 have HB := mK (Below.refl w.heap.size w)
 have H : ((spec_l01In.f a0_0 1 8).bind fun t206 => (if t206 = true then (spec_SimpleOk.j0 k (decide ((l0_1.length : Int) > 40)) a0_0 l0_1) else (spec_SimpleOk.j0 k true a0_0 l0_1))) = some r := h
 clear h
 have HC2 := mK H
 clear H
 go_enter Try.func63, Try.ntmps63
 go_upto_region 1 with (first | ((with_reducible refine gate_dst (N := 1) rfl ?_); (try (refine gate_guard (by rfl) ?_; dsimp only)); refine box_event ?hg (N := 1) ?hd (cs := #[.int .i64 a0_0, .slice A0_1 l0_1.length c0_1]) (t := 47) ?hr ?_; (case hd => rfl); (case hg => rfl); (case hr => go_simp <;> rfl); intro gb205 hg w3 hbox hb; have BK205 := mK hbox; have GW205 := mK (gX hg HB); have GE205 := mK (gX hg HB); replace HB := bB HB hb; clear hb hbox hg))
 (try simp only [Act.put, sT, sZ, sU])
 go_cut [14] (fun v14 wc => ∃ (kq : Nat) (x14_1 : Bool), v14 = .bool x14_1 ∧ Aside0 (spec_SimpleOk.j0 kq x14_1 a0_0 l0_1 = some r) ∧ Aside0 (kq ≤ k) ∧ Aside0 (wc.heap[gb205]? = some (.cells #[.int .i64 a0_0, (.slice A0_1 l0_1.length c0_1)] 47 (0, 0))) ∧ Aside0 (Below w.heap.size w wc))
 case first => (
 have H := HC2.out
 clear HC2
 replace H := Option.bind_eq_some_iff.mp H
 obtain ⟨t206, A40, H⟩ := H
 replace H : (if t206 = true then (spec_SimpleOk.j0 k (decide ((l0_1.length : Int) > 40)) a0_0 l0_1) else (spec_SimpleOk.j0 k true a0_0 l0_1)) = some r := H
 have A4 := mK A40
 clear A40
 by_cases c5 : t206 = true
 {
 subst c5
 rw [if_pos rfl] at H
 have H' := mK H
 clear H
 have hcz6_0 := q0 BK205
 have hcz6_1 := q1 BK205
 have hfz6_0 := fX BK205 0
 have hfz6_1 := fX BK205 1
 go_wp2_with (first | ((with_reducible refine gate_callee (f := 96) rfl ?_); refine gsE (some 7) Try.func96 #[.int .i64 a0_0, .int .i64 1, .int .i64 8] ?_; (with_reducible refine (spec_l01In.calls a0_0 1 8 true _ A4.out).mono ?_); rintro e w' ⟨rfl, ⟨nd, rfl⟩⟩; refine ⟨_, rfl, ?_⟩))
 go_meet
 case rel => exact ⟨_, (decide ((l0_1.length : Int) > 40)), (by first | rfl | (simp; done) | (simp [*]; done)), H', ⟨by first | omega | exact Nat.le_refl _⟩, ⟨kX BK205⟩, ⟨bX HB⟩⟩
 }
 replace c5 := Bool.eq_false_iff.mpr c5
 subst c5
 rw [if_neg (show ¬ (false = true) by decide)] at H
 have H' := mK H
 clear H
 have hcz7_0 := q0 BK205
 have hcz7_1 := q1 BK205
 have hfz7_0 := fX BK205 0
 have hfz7_1 := fX BK205 1
 go_wp2_with (first | ((with_reducible refine gate_callee (f := 96) rfl ?_); refine gsE (some 7) Try.func96 #[.int .i64 a0_0, .int .i64 1, .int .i64 8] ?_; (with_reducible refine (spec_l01In.calls a0_0 1 8 false _ A4.out).mono ?_); rintro e w' ⟨rfl, ⟨nd, rfl⟩⟩; refine ⟨_, rfl, ?_⟩))
 go_meet
 case rel => exact ⟨_, (true), (by first | rfl | (simp; done) | (simp [*]; done)), H', ⟨by first | omega | exact Nat.le_refl _⟩, ⟨kX BK205⟩, ⟨bX HB⟩⟩
 )
 case rest => (
 clear HC2
 try clear p2
 try clear c5
 try clear c6
 try clear hcz6_0
 try clear hcz6_1
 try clear hcz7_0
 try clear hcz7_1
 try clear hfz6_0
 try clear hfz6_1
 try clear hfz7_0
 try clear hfz7_1
 obtain ⟨kq, x14_1, rfl, HA, HJ1, BK205, HB⟩ := hcut
 cases kq with
 | zero => exact absurd HA.out (by simp [spec_SimpleOk.j0])
 | succ kj1 => (
 have H := HA.out
 clear HA
 simp only [spec_SimpleOk.j0] at H
 by_cases c8 : x14_1 = true
 {
 subst c8
 rw [if_pos rfl] at H
 obtain rfl := Option.some.inj H
 go_wp2
 go_ret
 exact ⟨by first | rfl | (simp [errW_none, errW_some] <;> rfl) | (simp [*, errW_none, errW_some] <;> rfl), bX HB⟩
 }
 replace c8 := Bool.eq_false_iff.mpr c8
 subst c8
 rw [if_neg (show ¬ (false = true) by decide)] at H
 have H' := mK H
 clear H
 have hcz9_0 := q0 BK205
 have hcz9_1 := q1 BK205
 have hfz9_0 := fX BK205 0
 have hfz9_1 := fX BK205 1
 go_wp2
 go_loopg [18] kj1 (fun kq v18 w' => ∃ (x18_2 : Int), v18 = .int .i64 x18_2 ∧ Aside0 (spec_SimpleOk.l0 kq l0_1 (l0_1.length : Int) x18_2 a0_0 l0_1 = some r) ∧ Aside0 (kq ≤ kj1) ∧ Aside0 (w'.heap[gb205]? = some (.cells #[.int .i64 a0_0, (.slice A0_1 l0_1.length c0_1)] 47 (0, 0))) ∧ Aside0 (Below w.heap.size w w'))
 case atStart => exact ⟨(0), (by first | rfl | (simp; done) | (simp [*]; done)), H', ⟨Nat.le_refl _⟩, ⟨kX BK205⟩, ⟨bX HB⟩⟩
 case round => (
 clear H'
 try clear p2
 try clear c5
 try clear c6
 try clear c8
 try clear c9
 try clear hcz6_0
 try clear hcz6_1
 try clear hcz7_0
 try clear hcz7_1
 try clear hcz9_0
 try clear hcz9_1
 try clear hfz6_0
 try clear hfz6_1
 try clear hfz7_0
 try clear hfz7_1
 try clear hfz9_0
 try clear hfz9_1
 try clear p2
 obtain ⟨x18_2, rfl, HA, HK2, BK205, HB⟩ := hrel
 cases gk with
 | zero => exact absurd HA.out (by simp [spec_SimpleOk.l0])
 | succ k2 => (
 have H := HA.out
 clear HA
 simp only [spec_SimpleOk.l0] at H
 by_cases c10 : x18_2 < (l0_1.length : Int)
 rotate_left
 {
 rw [if_neg c10] at H
 have c10b0 : decide (x18_2 < (l0_1.length : Int)) = false := decide_eq_false c10
 clear c10
 obtain rfl := Option.some.inj H
 go_wp2
 go_ret
 exact ⟨by first | rfl | (simp [errW_none, errW_some] <;> rfl) | (simp [*, errW_none, errW_some] <;> rfl), bX HB⟩
 }
 rw [if_pos c10] at H
 have c10b0 : decide (x18_2 < (l0_1.length : Int)) = true := decide_eq_true c10
 clear c10
 by_cases c11 : 0 ≤ x18_2
 rotate_left
 {
 rw [if_neg c11] at H
 exact absurd H (by simp)
 }
 rw [if_pos c11] at H
 have c11b0 : decide (0 ≤ x18_2) = true := decide_eq_true c11
 clear c11
 by_cases c12 : x18_2 < (l0_1.length : Int)
 rotate_left
 {
 rw [if_neg c12] at H
 exact absurd H (by simp)
 }
 rw [if_pos c12] at H
 have c12b0 : decide (x18_2 < (l0_1.length : Int)) = true := decide_eq_true c12
 clear c12
 replace H := Option.bind_eq_some_iff.mp H
 obtain ⟨t209, A130, H⟩ := H
 replace H : (if t209 = true then ((spec_l01In.f ((rd_T76 l0_1 x18_2).f1) 0 (wrap64 (a0_0 - 1))).bind fun t210 => (if t210 = true then ((spec_IntervalOk.f ((rd_T76 l0_1 x18_2).f2.f0) ((rd_T76 l0_1 x18_2).f2.f1)).bind fun t211 => (if t211 = true then (spec_SimpleOk.l0 k2 l0_1 (l0_1.length : Int) (wrap64 (x18_2 + 1)) a0_0 l0_1) else (some false))) else (some false))) else (some false)) = some r := H
 have A13 := mK A130
 clear A130
 by_cases c14 : t209 = true
 rotate_left
 {
 replace c14 := Bool.eq_false_iff.mpr c14
 subst c14
 rw [if_neg (show ¬ (false = true) by decide)] at H
 obtain rfl := Option.some.inj H
 have p207 : 0 ≤ (x18_2 : Int) := of_decide_eq_true oX
 have q207 : x18_2 < (l0_1.length : Int) := of_decide_eq_true oX
 obtain ⟨ad207, e207, hx207_0, hx207_1, hx207_2, hx207_3⟩ := at_T76 HR0_1.out x18_2 p207 q207
 cases e207
 replace hx207_0 := (HB.out.cell (World.block_lt_of_cell? w _ hx207_0)).trans hx207_0
 replace hx207_1 := (HB.out.cell (World.block_lt_of_cell? w _ hx207_1)).trans hx207_1
 replace hx207_2 := (HB.out.cell (World.block_lt_of_cell? w _ hx207_2)).trans hx207_2
 replace hx207_3 := (HB.out.cell (World.block_lt_of_cell? w _ hx207_3)).trans hx207_3
 replace p207 := eq_true p207
 replace q207 := eq_true q207
 go_wp2_with (first | ((with_reducible refine gate_dst (N := 4) rfl ?_); (try (refine gate_guard (by rfl) ?_; dsimp only)); refine box_event ?hg (N := 4) ?hd (cs := #[.int .i64 0, .int .i64 0, .int .i64 0, .int .i64 0]) (t := 76) ?hr ?_; (case hd => rfl); (case hg => rfl); (case hr => go_simp <;> rfl); intro gb208 hg w33 hbox hb; have BK208 := mK hbox; have GW208 := mK (gX hg HB); have GE208 := mK (gX hg HB); replace HB := bB HB hb; have NB205_208 := mK (lX hg BK205); have NB208_205 := mK (mX hg BK205); replace BK205 := kB BK205 hb; clear hb hbox hg; have hnb34 := NB208_205.out; have hnc34 := NB205_208.out; have hcz35_0 := q0 BK208; have hcz35_1 := q1 BK208; have hcz35_2 := q2 BK208; have hcz35_3 := q3 BK208; have hfz35_0 := fX BK208 0; have hfz35_1 := fX BK208 1; have hfz35_2 := fX BK208 2; have hfz35_3 := fX BK208 3; have hcz36_0 := q0 BK205; have hcz36_1 := q1 BK205; have hfz36_0 := fX BK205 0; have hfz36_1 := fX BK205 1) | ((with_reducible refine gate_callee (f := 96) rfl ?_); refine gsE (some 27) Try.func96 #[.int .i64 ((rd_T76 l0_1 x18_2).f0), .int .i64 0, .int .i64 (wrap64 (a0_0 - 1))] ?_; (with_reducible refine (spec_l01In.calls ((rd_T76 l0_1 x18_2).f0) 0 (wrap64 (a0_0 - 1)) false _ A13.out).mono ?_); rintro e w' ⟨rfl, ⟨nd, rfl⟩⟩; refine ⟨_, rfl, ?_⟩))
 go_ret
 exact ⟨by first | rfl | (simp [errW_none, errW_some] <;> rfl) | (simp [*, errW_none, errW_some] <;> rfl), bX HB⟩
 }
 subst c14
 rw [if_pos rfl] at H
 replace H := Option.bind_eq_some_iff.mp H
 obtain ⟨t210, A150, H⟩ := H
 replace H : (if t210 = true then ((spec_IntervalOk.f ((rd_T76 l0_1 x18_2).f2.f0) ((rd_T76 l0_1 x18_2).f2.f1)).bind fun t211 => (if t211 = true then (spec_SimpleOk.l0 k2 l0_1 (l0_1.length : Int) (wrap64 (x18_2 + 1)) a0_0 l0_1) else (some false))) else (some false)) = some r := H
 have A15 := mK A150
 clear A150
 by_cases c16 : t210 = true
 rotate_left
 {
 replace c16 := Bool.eq_false_iff.mpr c16
 subst c16
 rw [if_neg (show ¬ (false = true) by decide)] at H
 obtain rfl := Option.some.inj H
 have p207 : 0 ≤ (x18_2 : Int) := of_decide_eq_true oX
 have q207 : x18_2 < (l0_1.length : Int) := of_decide_eq_true oX
 obtain ⟨ad207, e207, hx207_0, hx207_1, hx207_2, hx207_3⟩ := at_T76 HR0_1.out x18_2 p207 q207
 cases e207
 replace hx207_0 := (HB.out.cell (World.block_lt_of_cell? w _ hx207_0)).trans hx207_0
 replace hx207_1 := (HB.out.cell (World.block_lt_of_cell? w _ hx207_1)).trans hx207_1
 replace hx207_2 := (HB.out.cell (World.block_lt_of_cell? w _ hx207_2)).trans hx207_2
 replace hx207_3 := (HB.out.cell (World.block_lt_of_cell? w _ hx207_3)).trans hx207_3
 replace p207 := eq_true p207
 replace q207 := eq_true q207
 go_wp2_with (first | ((with_reducible refine gate_dst (N := 4) rfl ?_); (try (refine gate_guard (by rfl) ?_; dsimp only)); refine box_event ?hg (N := 4) ?hd (cs := #[.int .i64 0, .int .i64 0, .int .i64 0, .int .i64 0]) (t := 76) ?hr ?_; (case hd => rfl); (case hg => rfl); (case hr => go_simp <;> rfl); intro gb208 hg w29 hbox hb; have BK208 := mK hbox; have GW208 := mK (gX hg HB); have GE208 := mK (gX hg HB); replace HB := bB HB hb; have NB205_208 := mK (lX hg BK205); have NB208_205 := mK (mX hg BK205); replace BK205 := kB BK205 hb; clear hb hbox hg; have hnb30 := NB208_205.out; have hnc30 := NB205_208.out; have hcz31_0 := q0 BK208; have hcz31_1 := q1 BK208; have hcz31_2 := q2 BK208; have hcz31_3 := q3 BK208; have hfz31_0 := fX BK208 0; have hfz31_1 := fX BK208 1; have hfz31_2 := fX BK208 2; have hfz31_3 := fX BK208 3; have hcz32_0 := q0 BK205; have hcz32_1 := q1 BK205; have hfz32_0 := fX BK205 0; have hfz32_1 := fX BK205 1) | ((with_reducible refine gate_callee (f := 96) rfl ?_); refine gsE (some 27) Try.func96 #[.int .i64 ((rd_T76 l0_1 x18_2).f0), .int .i64 0, .int .i64 (wrap64 (a0_0 - 1))] ?_; (with_reducible refine (spec_l01In.calls ((rd_T76 l0_1 x18_2).f0) 0 (wrap64 (a0_0 - 1)) true _ A13.out).mono ?_); rintro e w' ⟨rfl, ⟨nd, rfl⟩⟩; refine ⟨_, rfl, ?_⟩) | (go_at_call 96; (with_reducible refine (spec_l01In.calls ((rd_T76 l0_1 x18_2).f1) 0 (wrap64 (a0_0 - 1)) false _ A15.out).mono ?_); rintro e w' ⟨rfl, ⟨nd, rfl⟩⟩))
 go_ret
 exact ⟨by first | rfl | (simp [errW_none, errW_some] <;> rfl) | (simp [*, errW_none, errW_some] <;> rfl), bX HB⟩
 }
 subst c16
 rw [if_pos rfl] at H
 replace H := Option.bind_eq_some_iff.mp H
 obtain ⟨t211, A170, H⟩ := H
 replace H : (if t211 = true then (spec_SimpleOk.l0 k2 l0_1 (l0_1.length : Int) (wrap64 (x18_2 + 1)) a0_0 l0_1) else (some false)) = some r := H
 have A17 := mK A170
 clear A170
 by_cases c18 : t211 = true
 rotate_left
 {
 replace c18 := Bool.eq_false_iff.mpr c18
 subst c18
 rw [if_neg (show ¬ (false = true) by decide)] at H
 obtain rfl := Option.some.inj H
 have p207 : 0 ≤ (x18_2 : Int) := of_decide_eq_true oX
 have q207 : x18_2 < (l0_1.length : Int) := of_decide_eq_true oX
 obtain ⟨ad207, e207, hx207_0, hx207_1, hx207_2, hx207_3⟩ := at_T76 HR0_1.out x18_2 p207 q207
 cases e207
 replace hx207_0 := (HB.out.cell (World.block_lt_of_cell? w _ hx207_0)).trans hx207_0
 replace hx207_1 := (HB.out.cell (World.block_lt_of_cell? w _ hx207_1)).trans hx207_1
 replace hx207_2 := (HB.out.cell (World.block_lt_of_cell? w _ hx207_2)).trans hx207_2
 replace hx207_3 := (HB.out.cell (World.block_lt_of_cell? w _ hx207_3)).trans hx207_3
 replace p207 := eq_true p207
 replace q207 := eq_true q207
 go_wp2_with (first | ((with_reducible refine gate_dst (N := 4) rfl ?_); (try (refine gate_guard (by rfl) ?_; dsimp only)); refine box_event ?hg (N := 4) ?hd (cs := #[.int .i64 0, .int .i64 0, .int .i64 0, .int .i64 0]) (t := 76) ?hr ?_; (case hd => rfl); (case hg => rfl); (case hr => go_simp <;> rfl); intro gb208 hg w24 hbox hb; have BK208 := mK hbox; have GW208 := mK (gX hg HB); have GE208 := mK (gX hg HB); replace HB := bB HB hb; have NB205_208 := mK (lX hg BK205); have NB208_205 := mK (mX hg BK205); replace BK205 := kB BK205 hb; clear hb hbox hg; have hnb25 := NB208_205.out; have hnc25 := NB205_208.out; have hcz26_0 := q0 BK208; have hcz26_1 := q1 BK208; have hcz26_2 := q2 BK208; have hcz26_3 := q3 BK208; have hfz26_0 := fX BK208 0; have hfz26_1 := fX BK208 1; have hfz26_2 := fX BK208 2; have hfz26_3 := fX BK208 3; have hcz27_0 := q0 BK205; have hcz27_1 := q1 BK205; have hfz27_0 := fX BK205 0; have hfz27_1 := fX BK205 1) | ((with_reducible refine gate_callee (f := 96) rfl ?_); refine gsE (some 27) Try.func96 #[.int .i64 ((rd_T76 l0_1 x18_2).f0), .int .i64 0, .int .i64 (wrap64 (a0_0 - 1))] ?_; (with_reducible refine (spec_l01In.calls ((rd_T76 l0_1 x18_2).f0) 0 (wrap64 (a0_0 - 1)) true _ A13.out).mono ?_); rintro e w' ⟨rfl, ⟨nd, rfl⟩⟩; refine ⟨_, rfl, ?_⟩) | (go_at_call 96; (with_reducible refine (spec_l01In.calls ((rd_T76 l0_1 x18_2).f1) 0 (wrap64 (a0_0 - 1)) true _ A15.out).mono ?_); rintro e w' ⟨rfl, ⟨nd, rfl⟩⟩) | (go_at_call 100; (with_reducible refine (spec_IntervalOk.calls ((rd_T76 l0_1 x18_2).f2.f0) ((rd_T76 l0_1 x18_2).f2.f1) false _ A17.out).mono ?_); rintro e w28 ⟨rfl, hb⟩; have n0_ := mK (blk_below (g := gb205) (o := .cells #[.int .i64 a0_0, .slice (some ad207) l0_1.length c0_1] 47 (0, 0)) (kF BK205 NB205_208) hb); have n1_ := mK (blk_below (g := gb208) (o := .cells #[.int .i64 ((rd_T76 l0_1 x18_2).f0), .int .i64 ((rd_T76 l0_1 x18_2).f1), .int .i64 ((rd_T76 l0_1 x18_2).f2.f0), .int .i64 ((rd_T76 l0_1 x18_2).f2.f1)] 76 (0, 0)) (kP4 BK208) hb); have n2_ := bB HB hb; clear BK205; clear BK208; clear HB; have BK205 := n0_; have BK208 := n1_; have HB := n2_; clear n0_ n1_ n2_; (try clear hb); (try clear hb2); (try clear hk); (try clear hi)))
 go_ret
 exact ⟨by first | rfl | (simp [errW_none, errW_some] <;> rfl) | (simp [*, errW_none, errW_some] <;> rfl), bX HB⟩
 }
 subst c18
 rw [if_pos rfl] at H
 have H' := mK H
 clear H
 have p207 : 0 ≤ (x18_2 : Int) := of_decide_eq_true oX
 have q207 : x18_2 < (l0_1.length : Int) := of_decide_eq_true oX
 obtain ⟨ad207, e207, hx207_0, hx207_1, hx207_2, hx207_3⟩ := at_T76 HR0_1.out x18_2 p207 q207
 cases e207
 replace hx207_0 := (HB.out.cell (World.block_lt_of_cell? w _ hx207_0)).trans hx207_0
 replace hx207_1 := (HB.out.cell (World.block_lt_of_cell? w _ hx207_1)).trans hx207_1
 replace hx207_2 := (HB.out.cell (World.block_lt_of_cell? w _ hx207_2)).trans hx207_2
 replace hx207_3 := (HB.out.cell (World.block_lt_of_cell? w _ hx207_3)).trans hx207_3
 replace p207 := eq_true p207
 replace q207 := eq_true q207
 go_wp2_with (first | ((with_reducible refine gate_dst (N := 4) rfl ?_); (try (refine gate_guard (by rfl) ?_; dsimp only)); refine box_event ?hg (N := 4) ?hd (cs := #[.int .i64 0, .int .i64 0, .int .i64 0, .int .i64 0]) (t := 76) ?hr ?_; (case hd => rfl); (case hg => rfl); (case hr => go_simp <;> rfl); intro gb208 hg w19 hbox hb; have BK208 := mK hbox; have GW208 := mK (gX hg HB); have GE208 := mK (gX hg HB); replace HB := bB HB hb; have NB205_208 := mK (lX hg BK205); have NB208_205 := mK (mX hg BK205); replace BK205 := kB BK205 hb; clear hb hbox hg; have hnb20 := NB208_205.out; have hnc20 := NB205_208.out; have hcz21_0 := q0 BK208; have hcz21_1 := q1 BK208; have hcz21_2 := q2 BK208; have hcz21_3 := q3 BK208; have hfz21_0 := fX BK208 0; have hfz21_1 := fX BK208 1; have hfz21_2 := fX BK208 2; have hfz21_3 := fX BK208 3; have hcz22_0 := q0 BK205; have hcz22_1 := q1 BK205; have hfz22_0 := fX BK205 0; have hfz22_1 := fX BK205 1) | ((with_reducible refine gate_callee (f := 96) rfl ?_); refine gsE (some 27) Try.func96 #[.int .i64 ((rd_T76 l0_1 x18_2).f0), .int .i64 0, .int .i64 (wrap64 (a0_0 - 1))] ?_; (with_reducible refine (spec_l01In.calls ((rd_T76 l0_1 x18_2).f0) 0 (wrap64 (a0_0 - 1)) true _ A13.out).mono ?_); rintro e w' ⟨rfl, ⟨nd, rfl⟩⟩; refine ⟨_, rfl, ?_⟩) | (go_at_call 96; (with_reducible refine (spec_l01In.calls ((rd_T76 l0_1 x18_2).f1) 0 (wrap64 (a0_0 - 1)) true _ A15.out).mono ?_); rintro e w' ⟨rfl, ⟨nd, rfl⟩⟩) | (go_at_call 100; (with_reducible refine (spec_IntervalOk.calls ((rd_T76 l0_1 x18_2).f2.f0) ((rd_T76 l0_1 x18_2).f2.f1) true _ A17.out).mono ?_); rintro e w23 ⟨rfl, hb⟩; have n0_ := mK (blk_below (g := gb205) (o := .cells #[.int .i64 a0_0, .slice (some ad207) l0_1.length c0_1] 47 (0, 0)) (kF BK205 NB205_208) hb); have n1_ := mK (blk_below (g := gb208) (o := .cells #[.int .i64 ((rd_T76 l0_1 x18_2).f0), .int .i64 ((rd_T76 l0_1 x18_2).f1), .int .i64 ((rd_T76 l0_1 x18_2).f2.f0), .int .i64 ((rd_T76 l0_1 x18_2).f2.f1)] 76 (0, 0)) (kP4 BK208) hb); have n2_ := bB HB hb; clear BK205; clear BK208; clear HB; have BK205 := n0_; have BK208 := n1_; have HB := n2_; clear n0_ n1_ n2_; (try clear hb); (try clear hb2); (try clear hk); (try clear hi)))
 go_roundg k2
 case measure => have := HJ1.out; have := HK2.out; omega
 case rel => exact ⟨(wrap64 (x18_2 + 1)), (by first | rfl | (simp; done) | (simp [*]; done)), H', ⟨by have := HJ1.out; have := HK2.out; omega⟩, ⟨kX BK205⟩, ⟨bX HB⟩⟩
 )
 )
 )
 )

end Go.Proofs.Ytbbblnmngjhadaa.QFnExactLatestTimes
