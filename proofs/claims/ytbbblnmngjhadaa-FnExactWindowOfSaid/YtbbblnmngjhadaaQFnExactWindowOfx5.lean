-- Written by this session's program wip/tools/mk.py out of the translation; Lean checks it.
import Derived.Test.YtbbblnmngjhadaaQFnExactWindowOfx0
import Derived.Test.YtbbblnmngjhadaaQFnExactWindowOfx1
import Derived.Test.YtbbblnmngjhadaaQFnExactWindowOfx2
import Derived.Test.YtbbblnmngjhadaaQFnExactWindowOfx4
namespace Go.Proofs.Ytbbblnmngjhadaa.QFnExactWindowOf
open Go.RowKit Go.Proofs.YtbbblnmngjhadaaW.PrintWords Go.Proofs.YtbbblnmngjhadaaW.PrintLast Go.Proofs.YtbbblnmngjhadaaW.PrintMore
attribute [local go_sem] max2_int min2_int max_two min_two max_three min_three max_four min_four   -- for this text's walks alone
set_option linter.unusedVariables false
set_option linter.unusedSimpArgs false

/-! ### spec_CloseGraph: function 13 -/
mutual
def spec_CloseGraph.l0 : Nat → Int → Int → List (S70) → Int → List Int → Option (Int × List Int × Bool)
  | 0, _, _, _, _, _ => none
  | k + 1, x5, x181000, x181001, x184000, x184001 => if x5 < x181000 then ((spec_ShortestFrom.f k x181000 x181001 x5).bind fun bt184 => (if bt184.2 = true then (spec_CloseGraph.l1 k x5 bt184.1 (bt184.1.length : Int) 0 x181000 x181001 x184000 x184001) else (some (0, ([] : List Int), false)))) else (some (x184000, x184001, true))
def spec_CloseGraph.l1 : Nat → Int → List Int → Int → Int → Int → List (S70) → Int → List Int → Option (Int × List Int × Bool)
  | 0, _, _, _, _, _, _, _, _ => none
  | k + 1, x5, x32, x33, x34, x181000, x181001, x184000, x184001 => if x34 < x33 then (if 0 ≤ x34 then (if x34 < (x32.length : Int) then ((spec_ClampBound.f (rd x32 x34)).bind fun t189 => (if x184001.length < 17592186044416 then (spec_CloseGraph.l1 k x5 x32 x33 (wrap64 (x34 + 1)) x181000 x181001 x184000 (x184001 ++ [t189])) else (none))) else (none)) else (none)) else (spec_CloseGraph.l0 k (wrap64 (x5 + 1)) x181000 x181001 x184000 x184001)
end
def spec_CloseGraph.f (k : Nat) (a0_0 : Int) (l0_1 : List (S70)) : Option (Int × List Int × Bool) := (spec_GraphOk.f k a0_0 l0_1).bind fun t182 => (if t182 = true then (spec_CloseGraph.l0 k 0 a0_0 l0_1 a0_0 ([] : List Int)) else (some (0, ([] : List Int), false)))
theorem spec_CloseGraph.mono_l : ∀ k, (∀ y0 y1 y2 y3 y4, LeO (spec_CloseGraph.l0 k y0 y1 y2 y3 y4) (spec_CloseGraph.l0 (k + 1) y0 y1 y2 y3 y4)) ∧ (∀ y0 y1 y2 y3 y4 y5 y6 y7, LeO (spec_CloseGraph.l1 k y0 y1 y2 y3 y4 y5 y6 y7) (spec_CloseGraph.l1 (k + 1) y0 y1 y2 y3 y4 y5 y6 y7))
  | 0 => ⟨fun _ _ _ _ _ r h => by simp [spec_CloseGraph.l0] at h, fun _ _ _ _ _ _ _ _ r h => by simp [spec_CloseGraph.l1] at h⟩
  | k + 1 => by
    obtain ⟨ih0, ih1⟩ := spec_CloseGraph.mono_l k
    refine ⟨?_, ?_⟩
    · intro y0 y1 y2 y3 y4
      unfold spec_CloseGraph.l0
      repeat' first|(with_reducible first|exact ih0 _ _ _ _ _|exact ih1 _ _ _ _ _ _ _ _|exact spec_GraphOk.mono _ _ _|exact spec_ShortestFrom.mono _ _ _ _|exact lR _|exact lN _|refine lI ?_ ?_|refine lB ?_ (fun _ => ?_))|exact ih0 _ _ _ _ _|exact ih1 _ _ _ _ _ _ _ _|exact spec_GraphOk.mono _ _ _|exact spec_ShortestFrom.mono _ _ _ _|exact lN _|refine lI ?_ ?_|refine lB ?_ (fun _ => ?_)
    · intro y0 y1 y2 y3 y4 y5 y6 y7
      unfold spec_CloseGraph.l1
      repeat' first|(with_reducible first|exact ih0 _ _ _ _ _|exact ih1 _ _ _ _ _ _ _ _|exact spec_GraphOk.mono _ _ _|exact spec_ShortestFrom.mono _ _ _ _|exact lR _|exact lN _|refine lI ?_ ?_|refine lB ?_ (fun _ => ?_))|exact ih0 _ _ _ _ _|exact ih1 _ _ _ _ _ _ _ _|exact spec_GraphOk.mono _ _ _|exact spec_ShortestFrom.mono _ _ _ _|exact lN _|refine lI ?_ ?_|refine lB ?_ (fun _ => ?_)
theorem spec_CloseGraph.mono : ∀ a0 a1 k, LeO (spec_CloseGraph.f k a0 a1) (spec_CloseGraph.f (k + 1) a0 a1) := by
  intro a0 a1 k
  obtain ⟨ih0, ih1⟩ := spec_CloseGraph.mono_l k
  unfold spec_CloseGraph.f
  repeat' first|(with_reducible first|exact ih0 _ _ _ _ _|exact ih1 _ _ _ _ _ _ _ _|exact spec_GraphOk.mono _ _ _|exact spec_ShortestFrom.mono _ _ _ _|exact lR _|exact lN _|refine lI ?_ ?_|refine lB ?_ (fun _ => ?_))|exact ih0 _ _ _ _ _|exact ih1 _ _ _ _ _ _ _ _|exact spec_GraphOk.mono _ _ _|exact spec_ShortestFrom.mono _ _ _ _|exact lN _|refine lI ?_ ?_|refine lB ?_ (fun _ => ?_)
def spec_CloseGraph.T13 : Bool × List (List Nat × List Nat) := (true, [([], []), ([0], [0]), ([], []), ([2], [2]), ([3], [3]), ([1, 4, 3], [1, 4]), ([0, 1, 2, 3, 4, 5], []), ([6, 5, 5, 0, 1, 2, 3, 4, 5], [5, 6])])
def spec_CloseGraph.B13 : List Nat := [0, 1, 0, 4, 12, 31, 63, 127]
theorem spec_CloseGraph.tab13 : rtab .any (opsOf Try.f13 13) = spec_CloseGraph.T13 := by kernel_rfl
theorem spec_CloseGraph.bits13 : waitsOk spec_CloseGraph.T13.2 spec_CloseGraph.B13 = true := by kernel_rfl
set_option maxHeartbeats 8000000 in
set_option maxRecDepth 100000 in
theorem spec_CloseGraph.calls (k : Nat) (a0_0 : Int) (A0_1 : Option Addr) (c0_1 : Nat) (l0_1 : List (S70)) (r1 : Int) (r2 : List Int) (r3 : Bool) (w : World) (hr0_1 : Kd.C k70 w A0_1 l0_1.length l0_1) (hc0_1 : l0_1.length ≤ c0_1) (h : spec_CloseGraph.f k a0_0 l0_1 = some (r1, r2, r3)) :
    Calls Try.prog 13 #[.agg #[.int .i64 a0_0, .slice A0_1 l0_1.length c0_1]] w fun e w' => ∃ v1_ : Value, e = .returned (.tuple #[.agg #[.int .i64 r1, v1_], .bool r3]) ∧ Kd.R (Kd.int .i64) 3 w' w.heap.size (fun _ => True) v1_ r2 ∧ Below w.heap.size w w' := by
 have hu33 := Try.underlying33
 have hu28 := Try.underlying28
 have HR0_1 := mK hr0_1
 have HC0_1 := mK hc0_1
 clear hr0_1 hc0_1
 have HB := mK (Below.refl w.heap.size w)
 have H : ((spec_GraphOk.f k a0_0 l0_1).bind fun t182 => (if t182 = true then (spec_CloseGraph.l0 k 0 a0_0 l0_1 a0_0 ([] : List Int)) else (some (0, ([] : List Int), false)))) = some (r1, r2, r3) := h
 clear h
 replace H := Option.bind_eq_some_iff.mp H
 obtain ⟨t182, A20, H⟩ := H
 replace H : (if t182 = true then (spec_CloseGraph.l0 k 0 a0_0 l0_1 a0_0 ([] : List Int)) else (some (0, ([] : List Int), false))) = some (r1, r2, r3) := H
 have A2 := mK A20
 clear A20
 by_cases c3 : t182 = true
 rotate_left
 {
 replace c3 := Bool.eq_false_iff.mpr c3
 subst c3
 rw [if_neg (show ¬ (false = true) by decide)] at H
 simp only [Option.some.injEq, Prod.mk.injEq] at H
 obtain ⟨rfl, rfl, rfl⟩ := H
 go_enter Try.func13, Try.ntmps13
 go_wp2_with (first | ((with_reducible refine gate_dst (N := 1) rfl ?_); refine bxE 1 #[.int .i64 a0_0, .slice A0_1 l0_1.length c0_1] 33 ?_; intro gb180 hg w44 hbox hb; have BK180 := mK hbox; have GW180 := mK (gX hg HB); have GE180 := mK (gX hg HB); replace HB := bB HB hb; clear hb hbox hg) | ((with_reducible refine gate_dst (N := 2) rfl ?_); refine bxE 2 #[.int .i64 0, .slice none 0 0] 28 ?_; intro gb181 hg w45 hbox hb; have BK181 := mK hbox; have GW181 := mK (gX hg HB); have GE181 := mK (gX hg HB); replace HB := bB HB hb; have NB180_181 := mK (lX hg BK180); have NB181_180 := mK (mX hg BK180); replace BK180 := kB BK180 hb; clear hb hbox hg; have hnb46 := NB180_181.out; have hnc46 := NB181_180.out; have hcz47_0 := q0 BK180; have hcz47_1 := q1 BK180; have hfz47_0 := fX BK180 0; have hfz47_1 := fX BK180 1) | ((with_reducible refine gate_callee (f := 55) rfl ?_); refine gsE (some 11) Try.func55 #[.agg #[.int .i64 a0_0, .slice A0_1 l0_1.length c0_1]] ?_; (with_reducible refine (spec_GraphOk.calls k a0_0 _ _ l0_1 false _ ?side1 ?side2 A2.out).mono ?_); (case side1 => exact cX HR0_1 HB); (case side2 => exact HC0_1.out); rintro e w48 ⟨rfl, hb⟩; refine ⟨_, rfl, ?_⟩; replace BK180 := kB BK180 hb; replace BK181 := kB BK181 hb; replace HB := bB HB hb; (try clear hb); (try clear hb2); (try clear hk); (try clear hi); have hcz49_0 := q0 BK181; have hcz49_1 := q1 BK181; have hfz49_0 := fX BK181 0; have hfz49_1 := fX BK181 1))
 refine bodyPost_ret (results_ct rfl _ _ gb181 28 #[.int .i64 0, .slice none 0 0] (0, 0) _ rfl (kP2 BK181) Try.underlying28 rfl (by kernel_rfl)) rfl ?_
 exact ⟨_, by first | rfl | (simp [errW_none, errW_some] <;> rfl) | (simp [*, errW_none, errW_some] <;> rfl), by first | exact Kd.R_nil _ _ _ _ _ | exact Kd.N_nil _ _ _ _ _ | exact Kd.V_nil _ _ _ _ _ | exact Kd.Q_nil _ _ _ _ _ | exact Kd.S_nil _ _ _ _ _, bX HB⟩
 }
 subst c3
 rw [if_pos rfl] at H
 have H' := mK H
 clear H
 go_enter Try.func13, Try.ntmps13
 go_wp2_with (first | ((with_reducible refine gate_dst (N := 1) rfl ?_); refine bxE 1 #[.int .i64 a0_0, .slice A0_1 l0_1.length c0_1] 33 ?_; intro gb180 hg w4 hbox hb; have BK180 := mK hbox; have GW180 := mK (gX hg HB); have GE180 := mK (gX hg HB); replace HB := bB HB hb; clear hb hbox hg) | ((with_reducible refine gate_dst (N := 2) rfl ?_); refine bxE 2 #[.int .i64 0, .slice none 0 0] 28 ?_; intro gb181 hg w5 hbox hb; have BK181 := mK hbox; have GW181 := mK (gX hg HB); have GE181 := mK (gX hg HB); replace HB := bB HB hb; have NB180_181 := mK (lX hg BK180); have NB181_180 := mK (mX hg BK180); replace BK180 := kB BK180 hb; clear hb hbox hg; have hnb6 := NB180_181.out; have hnc6 := NB181_180.out; have hcz7_0 := q0 BK180; have hcz7_1 := q1 BK180; have hfz7_0 := fX BK180 0; have hfz7_1 := fX BK180 1) | ((with_reducible refine gate_callee (f := 55) rfl ?_); refine gsE (some 11) Try.func55 #[.agg #[.int .i64 a0_0, .slice A0_1 l0_1.length c0_1]] ?_; (with_reducible refine (spec_GraphOk.calls k a0_0 _ _ l0_1 true _ ?side1 ?side2 A2.out).mono ?_); (case side1 => exact cX HR0_1 HB); (case side2 => exact HC0_1.out); rintro e w8 ⟨rfl, hb⟩; refine ⟨_, rfl, ?_⟩; replace BK180 := kB BK180 hb; replace BK181 := kB BK181 hb; replace HB := bB HB hb; (try clear hb); (try clear hb2); (try clear hk); (try clear hi); have hcz9_0 := q0 BK180; have hcz9_1 := q1 BK180; have hfz9_0 := fX BK180 0; have hfz9_1 := fX BK180 1) | ((with_reducible refine gate_dst (N := 4) rfl ?_); refine bxE 4 #[.int .i64 0, .slice none 0 0] 28 ?_; intro gb183 hg w10 hbox hb; have BK183 := mK hbox; have GW183 := mK (gX hg HB); have GE183 := mK (gX hg HB); replace HB := bB HB hb; have NB180_183 := mK (lX hg BK180); have NB183_180 := mK (mX hg BK180); replace BK180 := kB BK180 hb; have NB181_183 := mK (lX hg BK181); have NB183_181 := mK (mX hg BK181); replace BK181 := kB BK181 hb; clear hb hbox hg; have hnb11 := NB183_180.out; have hnc11 := NB180_183.out; have hnb12 := NB183_181.out; have hnc12 := NB181_183.out; have hcz13_0 := q0 BK183; have hcz13_1 := q1 BK183; have hfz13_0 := fX BK183 0; have hfz13_1 := fX BK183 1))
 go_loopg [5] k (fun kq v5 w' => ∃ (x5_1 : Int) (x182000_1 : Int) (x184001_1 : List Int) (u184001 : Value), v5 = .int .i64 x5_1 ∧ Aside0 (spec_CloseGraph.l0 kq x5_1 a0_0 l0_1 a0_0 x184001_1 = some (r1, r2, r3)) ∧ Aside0 (kq ≤ k) ∧ Aside0 (Kd.R (Kd.int .i64) 3 w' w.heap.size (fun _ => True) u184001 x184001_1) ∧ Aside0 (w'.heap[gb180]? = some (.cells #[.int .i64 a0_0, (.slice A0_1 l0_1.length c0_1)] 33 (0, 0))) ∧ Aside0 (w'.heap[gb181]? = some (.cells #[.int .i64 x182000_1, (.slice none 0 0)] 28 (0, 0))) ∧ Aside0 (w'.heap[gb183]? = some (.cells #[.int .i64 a0_0, u184001] 28 (0, 0))) ∧ Aside0 (Below w.heap.size w w'))
 case atStart => exact ⟨(0), (0), (([] : List Int)), (.slice none 0 0), (by first | rfl | (simp; done) | (simp [*]; done)), H', ⟨Nat.le_refl _⟩, ⟨by first | exact Kd.R_nil _ _ _ _ _ | exact Kd.N_nil _ _ _ _ _ | exact Kd.V_nil _ _ _ _ _ | exact Kd.Q_nil _ _ _ _ _ | exact Kd.S_nil _ _ _ _ _⟩, ⟨kF BK180 NB180_183⟩, ⟨kF BK181 NB181_183⟩, ⟨kP2 BK183⟩, ⟨bX HB⟩⟩
 case round => (
 clear H'
 try clear c1
 try clear p2
 try clear c3
 try clear c5
 try clear c6
 try clear c11
 try clear c12
 try clear c13
 try clear hcz13_0
 try clear hcz13_1
 try clear hcz7_0
 try clear hcz7_1
 try clear hcz9_0
 try clear hcz9_1
 try clear hfz13_0
 try clear hfz13_1
 try clear hfz7_0
 try clear hfz7_1
 try clear hfz9_0
 try clear hfz9_1
 obtain ⟨x5_1, x182000_1, x184001_1, u184001, rfl, HA, HK1, HO_184001, BK180, BK181, BK183, HB⟩ := hrel
 cases gk with
 | zero => exact absurd HA.out (by simp [spec_CloseGraph.l0])
 | succ k1 => (
 have H := HA.out
 clear HA
 simp only [spec_CloseGraph.l0] at H
 by_cases c14 : x5_1 < a0_0
 rotate_left
 {
 rw [if_neg c14] at H
 have c14b0 : decide (x5_1 < a0_0) = false := decide_eq_false c14
 clear c14
 simp only [Option.some.injEq, Prod.mk.injEq] at H
 obtain ⟨rfl, rfl, rfl⟩ := H
 have hnb37 := NB180_181.out
 have hnc37 := NB181_180.out
 have hnb38 := NB180_183.out
 have hnc38 := NB183_180.out
 have hcz39_0 := q0 BK180
 have hcz39_1 := q1 BK180
 have hfz39_0 := fX BK180 0
 have hfz39_1 := fX BK180 1
 have hnb40 := NB183_181.out
 have hnc40 := NB181_183.out
 have hcz41_0 := q0 BK183
 have hcz41_1 := q1 BK183
 have hfz41_0 := fX BK183 0
 have hfz41_1 := fX BK183 1
 have hcz42_0 := q0 BK181
 have hcz42_1 := q1 BK181
 have hfz42_0 := fX BK181 0
 have hfz42_1 := fX BK181 1
 obtain ⟨Ao43, co43, eo43⟩ := Kd.R_slice HO_184001.out
 subst eo43
 go_wp2
 refine bodyPost_ret (results_ct rfl _ _ gb181 28 #[.int .i64 a0_0, .slice Ao43 x184001_1.length co43] (0, 0) _ rfl (kP2 BK181) Try.underlying28 rfl (by kernel_rfl)) rfl ?_
 exact ⟨_, by first | rfl | (simp [errW_none, errW_some] <;> rfl) | (simp [*, errW_none, errW_some] <;> rfl), rF2 HO_184001 BK181, bX HB⟩
 }
 rw [if_pos c14] at H
 have c14b0 : decide (x5_1 < a0_0) = true := decide_eq_true c14
 clear c14
 replace H := Option.bind_eq_some_iff.mp H
 obtain ⟨⟨t184, t187⟩, A150, H⟩ := H
 replace H : (if t187 = true then (spec_CloseGraph.l1 k1 x5_1 t184 (t184.length : Int) 0 a0_0 l0_1 a0_0 x184001_1) else (some (0, ([] : List Int), false))) = some (r1, r2, r3) := H
 have A15 := mK A150
 clear A150
 by_cases c16 : t187 = true
 rotate_left
 {
 replace c16 := Bool.eq_false_iff.mpr c16
 subst c16
 rw [if_neg (show ¬ (false = true) by decide)] at H
 simp only [Option.some.injEq, Prod.mk.injEq] at H
 obtain ⟨rfl, rfl, rfl⟩ := H
 have hnb31 := NB180_181.out
 have hnc31 := NB181_180.out
 have hnb32 := NB180_183.out
 have hnc32 := NB183_180.out
 have hcz33_0 := q0 BK180
 have hcz33_1 := q1 BK180
 have hfz33_0 := fX BK180 0
 have hfz33_1 := fX BK180 1
 go_wp2_with (first | ((with_reducible refine gate_callee (f := 56) rfl ?_); refine gsE (some 26) Try.func56 #[.agg #[.int .i64 a0_0, .slice A0_1 l0_1.length c0_1], .int .i64 x5_1] ?_; (with_reducible refine (spec_ShortestFrom.calls k1 a0_0 _ _ l0_1 x5_1 t184 false _ ?side1 ?side2 A15.out).mono ?_); (case side1 => exact cX HR0_1 HB); (case side2 => exact HC0_1.out); rintro e w34 ⟨v185, rfl, ho0, hb⟩; refine ⟨_, rfl, ?_⟩; have HO186 := mK (Kd.R_lower (Kd.R_new' ho0 (Kd.R_lt (rX HO_184001))) (below_size (bX HB))); replace HO_184001 := mK (Kd.R_elder' (rX HO_184001) (Kd.R_base ho0) hb); replace BK180 := kB BK180 hb; replace BK181 := kB BK181 hb; replace BK183 := kB BK183 hb; replace HB := bB HB hb; (try clear hb); (try clear hb2); (try clear hk); (try clear hi); (try clear ho0); have hnb35 := NB181_183.out; have hnc35 := NB183_181.out; have hcz36_0 := q0 BK181; have hcz36_1 := q1 BK181; have hfz36_0 := fX BK181 0; have hfz36_1 := fX BK181 1))
 refine bodyPost_ret (results_ct rfl _ _ gb181 28 #[.int .i64 0, .slice none 0 0] (0, 0) _ rfl (kP2 BK181) Try.underlying28 rfl (by kernel_rfl)) rfl ?_
 exact ⟨_, by first | rfl | (simp [errW_none, errW_some] <;> rfl) | (simp [*, errW_none, errW_some] <;> rfl), by first | exact Kd.R_nil _ _ _ _ _ | exact Kd.N_nil _ _ _ _ _ | exact Kd.V_nil _ _ _ _ _ | exact Kd.Q_nil _ _ _ _ _ | exact Kd.S_nil _ _ _ _ _, bX HB⟩
 }
 subst c16
 rw [if_pos rfl] at H
 have H' := mK H
 clear H
 have hnb17 := NB180_181.out
 have hnc17 := NB181_180.out
 have hnb18 := NB180_183.out
 have hnc18 := NB183_180.out
 have hcz19_0 := q0 BK180
 have hcz19_1 := q1 BK180
 have hfz19_0 := fX BK180 0
 have hfz19_1 := fX BK180 1
 go_wp2_with (first | ((with_reducible refine gate_callee (f := 56) rfl ?_); refine gsE (some 26) Try.func56 #[.agg #[.int .i64 a0_0, .slice A0_1 l0_1.length c0_1], .int .i64 x5_1] ?_; (with_reducible refine (spec_ShortestFrom.calls k1 a0_0 _ _ l0_1 x5_1 t184 true _ ?side1 ?side2 A15.out).mono ?_); (case side1 => exact cX HR0_1 HB); (case side2 => exact HC0_1.out); rintro e w20 ⟨v185, rfl, ho0, hb⟩; refine ⟨_, rfl, ?_⟩; have HO186 := mK (Kd.R_lower (Kd.R_new' ho0 (Kd.R_lt (rX HO_184001))) (below_size (bX HB))); replace HO_184001 := mK (Kd.R_elder' (rX HO_184001) (Kd.R_base ho0) hb); replace BK180 := kB BK180 hb; replace BK181 := kB BK181 hb; replace BK183 := kB BK183 hb; replace HB := bB HB hb; (try clear hb); (try clear hb2); (try clear hk); (try clear hi); (try clear ho0); obtain ⟨Ao21, co21, eo21⟩ := Kd.R_slice HO186.out; subst eo21))
 go_loopg [34] k1 (fun kq v34 w' => ∃ (x34_2 : Int) (x184001_2 : List Int) (u184001 : Value), v34 = .int .i64 x34_2 ∧ Aside0 (spec_CloseGraph.l1 kq x5_1 t184 (t184.length : Int) x34_2 a0_0 l0_1 a0_0 x184001_2 = some (r1, r2, r3)) ∧ Aside0 (kq ≤ k1) ∧ Aside0 (Kd.R (Kd.int .i64) 3 w' w.heap.size (fun k_ => some k_ ≠ (u184001 : Value).ownBlock) (.slice Ao21 t184.length co21) t184) ∧ Aside0 (Kd.R (Kd.int .i64) 3 w' w.heap.size (fun k_ => some k_ ≠ ((.slice Ao21 t184.length co21) : Value).ownBlock) u184001 x184001_2) ∧ Aside0 (w'.heap[gb180]? = some (.cells #[.int .i64 a0_0, (.slice A0_1 l0_1.length c0_1)] 33 (0, 0))) ∧ Aside0 (w'.heap[gb181]? = some (.cells #[.int .i64 x182000_1, (.slice none 0 0)] 28 (0, 0))) ∧ Aside0 (w'.heap[gb183]? = some (.cells #[.int .i64 a0_0, u184001] 28 (0, 0))) ∧ Aside0 (Below w.heap.size w w'))
 case atStart => exact ⟨(0), (x184001_1), (u184001), (by first | rfl | (simp; done) | (simp [*]; done)), H', ⟨Nat.le_refl _⟩, ⟨by (with_reducible repeat first|apply rA|apply rN|apply rD); exact Kd.R_mono HO186.out (fun _ hk => hk.2)⟩, ⟨by (with_reducible repeat first|apply rA|apply rN|apply rD); exact Kd.R_mono HO_184001.out (fun _ hk => hk.2)⟩, ⟨kX BK180⟩, ⟨kX BK181⟩, ⟨kX BK183⟩, ⟨bX HB⟩⟩
 case round => (
 clear H'
 try clear c1
 try clear p2
 try clear c3
 try clear c5
 try clear c6
 try clear c11
 try clear c12
 try clear c13
 try clear c14
 try clear c14b0
 try clear c16
 try clear c17
 try clear c18
 try clear hcz13_0
 try clear hcz13_1
 try clear hcz19_0
 try clear hcz19_1
 try clear hcz7_0
 try clear hcz7_1
 try clear hcz9_0
 try clear hcz9_1
 try clear hfz13_0
 try clear hfz13_1
 try clear hfz19_0
 try clear hfz19_1
 try clear hfz7_0
 try clear hfz7_1
 try clear hfz9_0
 try clear hfz9_1
 try clear p2
 obtain ⟨x34_2, x184001_2, u184001, rfl, HA, HK2, HO_32, HO_184001, BK180, BK181, BK183, HB⟩ := hrel
 cases gk with
 | zero => exact absurd HA.out (by simp [spec_CloseGraph.l1])
 | succ k2 => (
 have H := HA.out
 clear HA
 simp only [spec_CloseGraph.l1] at H
 by_cases c22 : x34_2 < (t184.length : Int)
 rotate_left
 {
 rw [if_neg c22] at H
 have c22b0 : decide (x34_2 < (t184.length : Int)) = false := decide_eq_false c22
 clear c22
 have H' := mK H
 clear H
 go_wp2
 go_roundg k2
 case measure => have := HK1.out; have := HK2.out; omega
 case rel => exact ⟨(wrap64 (x5_1 + 1)), (x182000_1), (x184001_2), (u184001), (by first | rfl | (simp; done) | (simp [*]; done)), H', ⟨by have := HK1.out; have := HK2.out; omega⟩, ⟨by (with_reducible repeat first|apply rA|apply rN|apply rD); exact Kd.R_mono HO_184001.out (fun _ hk => trivial)⟩, ⟨kX BK180⟩, ⟨kX BK181⟩, ⟨kX BK183⟩, ⟨bX HB⟩⟩
 }
 rw [if_pos c22] at H
 have c22b0 : decide (x34_2 < (t184.length : Int)) = true := decide_eq_true c22
 clear c22
 by_cases c23 : 0 ≤ x34_2
 rotate_left
 {
 rw [if_neg c23] at H
 exact absurd H (by simp)
 }
 rw [if_pos c23] at H
 have c23b0 : decide (0 ≤ x34_2) = true := decide_eq_true c23
 clear c23
 by_cases c24 : x34_2 < (t184.length : Int)
 rotate_left
 {
 rw [if_neg c24] at H
 exact absurd H (by simp)
 }
 rw [if_pos c24] at H
 have c24b0 : decide (x34_2 < (t184.length : Int)) = true := decide_eq_true c24
 clear c24
 replace H := Option.bind_eq_some_iff.mp H
 obtain ⟨t189, A250, H⟩ := H
 replace H : (if x184001_2.length < 17592186044416 then (spec_CloseGraph.l1 k2 x5_1 t184 (t184.length : Int) (wrap64 (x34_2 + 1)) a0_0 l0_1 a0_0 (x184001_2 ++ [t189])) else (none)) = some (r1, r2, r3) := H
 have A25 := mK A250
 clear A250
 by_cases c26 : x184001_2.length < 17592186044416
 rotate_left
 {
 rw [if_neg c26] at H
 exact absurd H (by simp)
 }
 rw [if_pos c26] at H
 have LMc26 := mK c26
 clear c26
 obtain ⟨y190, hy190⟩ : ∃ y_ : List Int, y_ = (x184001_2 ++ [t189]) := ⟨_, rfl⟩
 replace H : (spec_CloseGraph.l1 k2 x5_1 t184 (t184.length : Int) (wrap64 (x34_2 + 1)) a0_0 l0_1 a0_0 y190) = some (r1, r2, r3) := by first | (rw [hy190]; with_reducible exact H) | (have H2_ := (Option.bind_some _ _).symm.trans H; rw [hy190]; with_reducible exact H2_) | (have H2_ := (Option.bind_some _ _).symm.trans H; with_reducible exact H2_) | with_reducible exact H | (rw [hy190]; exact H) | exact H
 have Ny190 := mK hy190
 clear hy190
 have H' := mK H
 clear H
 have p188 : 0 ≤ (x34_2 : Int) := of_decide_eq_true oX
 have q188 : x34_2 < (t184.length : Int) := of_decide_eq_true oX
 obtain ⟨ad188, e188, hx188_0⟩ := Kd.at_int (Kd.R_reads' HO_32.out).2.2 x34_2 p188 q188
 cases e188
 replace p188 := eq_true p188
 replace q188 := eq_true q188
 try go_wp2
 have n0_ := mK (Kd.R_drew HO_32.out)
 have n1_ := mK (Kd.R_drew HO_184001.out)
 have n2_ := mK (blk_drew BK180.out)
 have n3_ := mK (blk_drew BK181.out)
 have n4_ := mK (blk_drew BK183.out)
 have n5_ := mK (below_drew1 HB.out)
 clear HO_32
 clear HO_184001
 clear BK180
 clear BK181
 clear BK183
 clear HB
 have HO_32 := n0_
 have HO_184001 := n1_
 have BK180 := n2_
 have BK181 := n3_
 have BK183 := n4_
 have HB := n5_
 clear n0_ n1_ n2_ n3_ n4_ n5_
 refine start_ (n := 8) (S := fun w' => w'.cell? ⟨gb183, 0, none⟩ = some (.int .i64 a0_0) ∧ w'.cell? ⟨gb183, 1, none⟩ = some (u184001)) (ds := [7]) (bs 0 8) (by kernel_rfl) rfl (by kernel_rfl) ⟨(blk_cell BK183.out 0).trans rfl, (blk_cell BK183.out 1).trans rfl⟩ (fun hHeld => ?_); refine with_tabW spec_CloseGraph.tab13 spec_CloseGraph.bits13 (fun HT_ HW_ => ?_)
 generalize wr.drew = w27 at HO_32 HO_184001 BK180 BK181 BK183 HB hHeld ⊢
 refine pL 0 38 (bs 1 8) HT_ ?_
 refine pL 2 40 #[true, false, true, false, false, false, false, false] HT_ ?_
 refine tL 1 39 (bs 3 8) HT_ HW_ hHeld ?_
 refine one_ (i := 3) (N := some 41) (bs 4 8) rfl rfl (one_of HT_.out (by kernel_rfl)) (by decide) (fun K hK => ?_)
 refine gsK Try.func57 #[.int .i64 (rd t184 x34_2)] ?_
 with_reducible refine (spec_ClampBound.calls (rd t184 x34_2) t189 _ A25.out).mono ?_
 rintro e w' ⟨rfl, ⟨nd, rfl⟩⟩
 refine ⟨_, rfl, ?_⟩
 refine hK.out _ _ ⟨(blk_cell BK183.out 0).trans rfl, (blk_cell BK183.out 1).trans rfl⟩ (fun hHeld => ?_)
 clear hK K
 refine norm_ (a' := ?_) ?_ ?_
 rotate_left
 {
 show Act.put _ (some 41) _ = _
 simp only [Act.put, sT, sZ, sU, i64_w, i32_w]
 rfl
 }
 refine one_ (i := 4) (N := some 42) (bs 5 8) rfl rfl (one_of HT_.out (by kernel_rfl)) (by decide) (fun K hK => ?_)
 refine value_ (w1 := ?_) (v := ?_) (by rfl) rfl ?_ ?_
 rotate_left 2
 {
 go_simp
 constructor
 {
 rfl
 }
 {
 rfl
 }
 }
 refine hK.out _ _ ⟨(blk_cell (blk_alloc BK183.out _) 0).trans rfl, (blk_cell (blk_alloc BK183.out _) 1).trans rfl⟩ (fun hHeld => ?_)
 clear hK K
 refine norm_ (a' := ?_) ?_ ?_
 rotate_left
 {
 show Act.put _ (some 42) _ = _
 simp only [Act.put, sT, sZ, sU, i64_w, i32_w]
 rfl
 }
 refine one_ (i := 5) (N := some 43) (bs 6 8) rfl rfl (one_of HT_.out (by kernel_rfl)) (by decide) (fun K hK => ?_)
 refine Kd.R_append_step (Kd.int .i64) (w0 := w) w.heap.size (by rfl) (.tmp 39) (.tmp 42) 26 3 (.int .i64 0) 8 rfl Try.underlying26 info3 rfl (by decide) (by omega) u184001 x184001_2 t189 [.int .i64 t189] (fun k_ => some k_ ≠ (.slice (some ad188) t184.length co21 : Value).ownBlock) (fun _ => False) rfl rfl ?aP (fun _ hk => hk.elim) ?aF ?aO ?aB ?aS ?aL ?_
 (case aP => exact rfl)
 (case aB => exact (bX HB))
 (case aF => exact (fun k_ hk => Kd.fresh' (Kd.R_lt (rX HO_32)) k_ hk))
 (case aO => exact (rX HO_184001))
 (case aS => exact (below_size (bX HB)))
 (case aL => have := LMc26.out; omega)
 intro v191 w28 ho hb hg hat
 rw [← Ny190.out] at ho
 have n0_ := mK (Kd.R_after (ok := (fun _ => True)) (by (with_reducible repeat first|apply rA|apply rN|apply rD); exact Kd.R_mono HO_32.out (fun _ hk => ⟨trivial, hk⟩)) hg hat)
 have n1_ := mK (blk_grown (kX BK180) hg (Kd.R_ne HO_184001.out BK180.out (by decide)))
 have n2_ := mK (blk_grown (kX BK181) hg (Kd.R_ne HO_184001.out BK181.out (by decide)))
 have n3_ := mK (blk_grown (kX BK183) hg (Kd.R_ne HO_184001.out BK183.out (by decide)))
 have n4_ := mK (hb)
 have n5_ := mK (ho)
 clear HO_32
 clear BK180
 clear BK181
 clear BK183
 clear HB
 clear HO_184001
 have HO_32 := n0_
 have BK180 := n1_
 have BK181 := n2_
 have BK183 := n3_
 have HB := n4_
 have HO192 := n5_
 clear n0_ n1_ n2_ n3_ n4_ n5_
 clear ho hb hg hat
 obtain ⟨Ao29, co29, eo29⟩ := Kd.R_slice HO192.out
 (first | subst eo29 | (injection eo29 with f1_ f2_ f3_; have f4_ := f1_.symm; have f5_ := f3_.symm; clear f1_ f2_ f3_; subst f4_; subst f5_))
 refine hK.out _ _ ⟨(blk_cell BK183.out 0).trans rfl, (blk_cell BK183.out 1).trans rfl⟩ (fun hHeld => ?_)
 clear hK K
 refine norm_ (a' := ?_) ?_ ?_
 rotate_left
 {
 show Act.put _ (some 43) _ = _
 simp only [Act.put, sT, sZ, sU, i64_w, i32_w]
 rfl
 }
 refine pL 6 44 (bs 7 8) HT_ ?_
 refine last_ (i := 7) (N := none) (bs 8 8) rfl rfl (one_of HT_.out (by kernel_rfl)) (by decide) (fun K hK => ?_)
 have hs30 : w28.cell? ⟨gb183, 1, none⟩ = some (u184001) := (blk_cell BK183.out 1).trans rfl
 have hfs30 := fX BK183 1
 have hns30_0 := NB180_183.out
 have hns30_1 := NB181_183.out
 have hms30_0 := NB183_180.out
 have hms30_1 := NB183_181.out
 refine skip_ (w1 := ?_) (by rfl) rfl ?_ ?_
 rotate_left
 {
 go_simp
 rfl
 }
 refine hK.out _ _ ?_
 clear hK K
 refine done_ (done_of HT_.out (by kernel_rfl)) ?_
 try go_wp2
 go_roundg k2
 case measure => have := HK1.out; have := HK2.out; omega
 case rel => exact ⟨(wrap64 (x34_2 + 1)), (y190), (.slice Ao29 y190.length co29), (by first | rfl | (simp; done) | (simp [*]; done)), H', ⟨by have := HK1.out; have := HK2.out; omega⟩, ⟨by (with_reducible repeat first|apply rA|apply rN|apply rD); exact Kd.R_mono (Kd.R_far (p := ⟨gb183, 1, none⟩) (Kd.R_types HO_32.out BK183.out (by decide)) (fun _ hk => hk.2) (.slice Ao29 y190.length co29)) (fun _ hk => hk.1.2)⟩, ⟨by (with_reducible repeat first|apply rA|apply rN|apply rD); exact Kd.R_mono (Kd.R_far (p := ⟨gb183, 1, none⟩) (Kd.R_types HO192.out BK183.out (by decide)) (fun _ hk => hk.2) (.slice Ao29 y190.length co29)) (fun _ hk => hk.1)⟩, ⟨kF BK180 NB180_183⟩, ⟨kF BK181 NB181_183⟩, ⟨by (with_reducible repeat first|apply kN|apply kD|apply kA); refine blk_put (cs := #[.int .i64 a0_0, u184001]) ?_ 1 _ rfl; (with_reducible repeat first|apply kN|apply kD|apply kA); exact BK183.out⟩, ⟨bX HB⟩⟩
 )
 )
 )
 )

/-! ### spec_IntervalOk: function 100 -/
def spec_IntervalOk.f (a0_0 : Int) (a0_1 : Int) : Option (Bool) := if a0_0 ≥ (-1000000) then (if a0_0 ≤ a0_1 then (if a0_1 ≤ 1000000 then (if a0_0 = 1000000 then (some false) else (some (a0_1 != (-1000000)))) else (some false)) else (some false)) else (some false)
set_option maxHeartbeats 8000000 in
set_option maxRecDepth 100000 in
theorem spec_IntervalOk.calls (a0_0 : Int) (a0_1 : Int) (r : Bool) (w : World) (h : spec_IntervalOk.f a0_0 a0_1 = some r) :
    Calls Try.prog 100 #[.agg #[.int .i64 a0_0, .int .i64 a0_1]] w fun e w' => e = .returned (.bool r) ∧ Below w.heap.size w w' := by
  have hu52 := Try.underlying52
  have HB := mK (Below.refl w.heap.size w)
  have H : (if a0_0 ≥ (-1000000) then (if a0_0 ≤ a0_1 then (if a0_1 ≤ 1000000 then (if a0_0 = 1000000 then (some false) else (some (a0_1 != (-1000000)))) else (some false)) else (some false)) else (some false)) = some r := h
  clear h
  by_cases c2 : a0_0 ≥ (-1000000)
  rotate_left
  · rw [if_neg c2] at H
    have c2b0 : decide ((-1000000) ≤ a0_0) = false := decide_eq_false c2
    clear c2
    obtain rfl := Option.some.inj H
    go_enter Try.func100, Try.ntmps100
    go_wp2_with (first | ((with_reducible refine gate_dst (N := 1) rfl ?_); refine bxE 1 #[.int .i64 a0_0, .int .i64 a0_1] 52 ?_; intro gb193 hg w14 hbox hb; have BK193 := mK hbox; have GW193 := mK (gX hg HB); have GE193 := mK (gX hg HB); replace HB := bB HB hb; clear hb hbox hg; have hcz15_0 := q0 BK193; have hcz15_1 := q1 BK193; have hfz15_0 := fX BK193 0; have hfz15_1 := fX BK193 1))
    go_ret
    exact ⟨by first | rfl | (simp [errW_none, errW_some] <;> rfl) | (simp [*, errW_none, errW_some] <;> rfl), bX HB⟩
  rw [if_pos c2] at H
  have c2b0 : decide ((-1000000) ≤ a0_0) = true := decide_eq_true c2
  clear c2
  by_cases c3 : a0_0 ≤ a0_1
  rotate_left
  · rw [if_neg c3] at H
    have c3b0 : decide (a0_0 ≤ a0_1) = false := decide_eq_false c3
    clear c3
    obtain rfl := Option.some.inj H
    go_enter Try.func100, Try.ntmps100
    go_wp2_with (first | ((with_reducible refine gate_dst (N := 1) rfl ?_); refine bxE 1 #[.int .i64 a0_0, .int .i64 a0_1] 52 ?_; intro gb193 hg w12 hbox hb; have BK193 := mK hbox; have GW193 := mK (gX hg HB); have GE193 := mK (gX hg HB); replace HB := bB HB hb; clear hb hbox hg; have hcz13_0 := q0 BK193; have hcz13_1 := q1 BK193; have hfz13_0 := fX BK193 0; have hfz13_1 := fX BK193 1))
    go_ret
    exact ⟨by first | rfl | (simp [errW_none, errW_some] <;> rfl) | (simp [*, errW_none, errW_some] <;> rfl), bX HB⟩
  rw [if_pos c3] at H
  have c3b0 : decide (a0_0 ≤ a0_1) = true := decide_eq_true c3
  clear c3
  by_cases c4 : a0_1 ≤ 1000000
  rotate_left
  · rw [if_neg c4] at H
    have c4b0 : decide (a0_1 ≤ 1000000) = false := decide_eq_false c4
    clear c4
    obtain rfl := Option.some.inj H
    go_enter Try.func100, Try.ntmps100
    go_wp2_with (first | ((with_reducible refine gate_dst (N := 1) rfl ?_); refine bxE 1 #[.int .i64 a0_0, .int .i64 a0_1] 52 ?_; intro gb193 hg w10 hbox hb; have BK193 := mK hbox; have GW193 := mK (gX hg HB); have GE193 := mK (gX hg HB); replace HB := bB HB hb; clear hb hbox hg; have hcz11_0 := q0 BK193; have hcz11_1 := q1 BK193; have hfz11_0 := fX BK193 0; have hfz11_1 := fX BK193 1))
    go_ret
    exact ⟨by first | rfl | (simp [errW_none, errW_some] <;> rfl) | (simp [*, errW_none, errW_some] <;> rfl), bX HB⟩
  rw [if_pos c4] at H
  have c4b0 : decide (a0_1 ≤ 1000000) = true := decide_eq_true c4
  clear c4
  by_cases c5 : a0_0 = 1000000
  rotate_left
  · rw [if_neg c5] at H
    have c5b0 : (a0_0 == 1000000) = false := beq_eq_false_iff_ne.mpr c5
    have c5b1 : (a0_0 != 1000000) = true := bne_iff_ne.mpr c5
    obtain rfl := Option.some.inj H
    go_enter Try.func100, Try.ntmps100
    go_wp2_with (first | ((with_reducible refine gate_dst (N := 1) rfl ?_); refine bxE 1 #[.int .i64 a0_0, .int .i64 a0_1] 52 ?_; intro gb193 hg w8 hbox hb; have BK193 := mK hbox; have GW193 := mK (gX hg HB); have GE193 := mK (gX hg HB); replace HB := bB HB hb; clear hb hbox hg; have hcz9_0 := q0 BK193; have hcz9_1 := q1 BK193; have hfz9_0 := fX BK193 0; have hfz9_1 := fX BK193 1))
    go_ret
    exact ⟨by first | rfl | (simp [errW_none, errW_some] <;> rfl) | (simp [*, errW_none, errW_some] <;> rfl), bX HB⟩
  rw [if_pos c5] at H
  have c5b0 : (a0_0 == 1000000) = true := beq_iff_eq.mpr c5
  have c5b1 : (a0_0 != 1000000) = false := bne_eq_false_iff_eq.mpr c5
  clear c5
  obtain rfl := Option.some.inj H
  go_enter Try.func100, Try.ntmps100
  go_wp2_with (first | ((with_reducible refine gate_dst (N := 1) rfl ?_); refine bxE 1 #[.int .i64 a0_0, .int .i64 a0_1] 52 ?_; intro gb193 hg w6 hbox hb; have BK193 := mK hbox; have GW193 := mK (gX hg HB); have GE193 := mK (gX hg HB); replace HB := bB HB hb; clear hb hbox hg; have hcz7_0 := q0 BK193; have hcz7_1 := q1 BK193; have hfz7_0 := fX BK193 0; have hfz7_1 := fX BK193 1))
  go_ret
  exact ⟨by first | rfl | (simp [errW_none, errW_some] <;> rfl) | (simp [*, errW_none, errW_some] <;> rfl), bX HB⟩

/-! ### spec_SimpleOk: function 63 -/
mutual
def spec_SimpleOk.j0 : Nat → Bool → Int → List (S76) → Option (Bool)
  | 0, _, _, _ => none
  | k + 1, x14, x195000, x195001 => if x14 = true then (some false) else (spec_SimpleOk.l0 k x195001 (x195001.length : Int) 0 x195000 x195001)
def spec_SimpleOk.l0 : Nat → List (S76) → Int → Int → Int → List (S76) → Option (Bool)
  | 0, _, _, _, _, _ => none
  | k + 1, x16, x17, x18, x195000, x195001 => if x18 < x17 then (if 0 ≤ x18 then (if x18 < (x16.length : Int) then ((spec_l01In.f ((rd_T76 x16 x18).f0) 0 (wrap64 (x195000 - 1))).bind fun t198 => (if t198 = true then ((spec_l01In.f ((rd_T76 x16 x18).f1) 0 (wrap64 (x195000 - 1))).bind fun t199 => (if t199 = true then ((spec_IntervalOk.f ((rd_T76 x16 x18).f2.f0) ((rd_T76 x16 x18).f2.f1)).bind fun t200 => (if t200 = true then (spec_SimpleOk.l0 k x16 x17 (wrap64 (x18 + 1)) x195000 x195001) else (some false))) else (some false))) else (some false))) else (none)) else (none)) else (some true)
end
def spec_SimpleOk.f (k : Nat) (a0_0 : Int) (l0_1 : List (S76)) : Option (Bool) := (spec_l01In.f a0_0 1 8).bind fun t195 => (if t195 = true then (spec_SimpleOk.j0 k (decide ((l0_1.length : Int) > 40)) a0_0 l0_1) else (spec_SimpleOk.j0 k true a0_0 l0_1))
theorem spec_SimpleOk.mono_l : ∀ k, (∀ y0 y1 y2, LeO (spec_SimpleOk.j0 k y0 y1 y2) (spec_SimpleOk.j0 (k + 1) y0 y1 y2)) ∧ (∀ y0 y1 y2 y3 y4, LeO (spec_SimpleOk.l0 k y0 y1 y2 y3 y4) (spec_SimpleOk.l0 (k + 1) y0 y1 y2 y3 y4))
  | 0 => ⟨fun _ _ _ r h => by simp [spec_SimpleOk.j0] at h, fun _ _ _ _ _ r h => by simp [spec_SimpleOk.l0] at h⟩
  | k + 1 => by
    obtain ⟨ih0, ih1⟩ := spec_SimpleOk.mono_l k
    refine ⟨?_, ?_⟩
    · intro y0 y1 y2
      unfold spec_SimpleOk.j0
      repeat' first|(with_reducible first|exact ih0 _ _ _|exact ih1 _ _ _ _ _|exact lR _|exact lN _|refine lI ?_ ?_|refine lB ?_ (fun _ => ?_))|exact ih0 _ _ _|exact ih1 _ _ _ _ _|exact lN _|refine lI ?_ ?_|refine lB ?_ (fun _ => ?_)
    · intro y0 y1 y2 y3 y4
      unfold spec_SimpleOk.l0
      repeat' first|(with_reducible first|exact ih0 _ _ _|exact ih1 _ _ _ _ _|exact lR _|exact lN _|refine lI ?_ ?_|refine lB ?_ (fun _ => ?_))|exact ih0 _ _ _|exact ih1 _ _ _ _ _|exact lN _|refine lI ?_ ?_|refine lB ?_ (fun _ => ?_)
theorem spec_SimpleOk.mono : ∀ a0 a1 k, LeO (spec_SimpleOk.f k a0 a1) (spec_SimpleOk.f (k + 1) a0 a1) := by
  intro a0 a1 k
  obtain ⟨ih0, ih1⟩ := spec_SimpleOk.mono_l k
  unfold spec_SimpleOk.f
  repeat' first|(with_reducible first|exact ih0 _ _ _|exact ih1 _ _ _ _ _|exact lR _|exact lN _|refine lI ?_ ?_|refine lB ?_ (fun _ => ?_))|exact ih0 _ _ _|exact ih1 _ _ _ _ _|exact lN _|refine lI ?_ ?_|refine lB ?_ (fun _ => ?_)
set_option maxHeartbeats 8000000 in
set_option maxRecDepth 100000 in
theorem spec_SimpleOk.calls (k : Nat) (a0_0 : Int) (A0_1 : Option Addr) (c0_1 : Nat) (l0_1 : List (S76)) (r : Bool) (w : World) (hr0_1 : Kd.C k76 w A0_1 l0_1.length l0_1) (hc0_1 : l0_1.length ≤ c0_1) (h : spec_SimpleOk.f k a0_0 l0_1 = some r) :
    Calls Try.prog 63 #[.agg #[.int .i64 a0_0, .slice A0_1 l0_1.length c0_1]] w fun e w' => e = .returned (.bool r) ∧ Below w.heap.size w w' := by
 have hu47 := Try.underlying47
 have hu76 := Try.underlying76
 have hu52 := Try.underlying52
 have HR0_1 := mK hr0_1
 have HC0_1 := mK hc0_1
 clear hr0_1 hc0_1
 have HB := mK (Below.refl w.heap.size w)
 have H : ((spec_l01In.f a0_0 1 8).bind fun t195 => (if t195 = true then (spec_SimpleOk.j0 k (decide ((l0_1.length : Int) > 40)) a0_0 l0_1) else (spec_SimpleOk.j0 k true a0_0 l0_1))) = some r := h
 clear h
 have HC2 := mK H
 clear H
 go_enter Try.func63, Try.ntmps63
 go_upto_region 1 with (first | ((with_reducible refine gate_dst (N := 1) rfl ?_); (try (refine gate_guard (by rfl) ?_; dsimp only)); refine box_event ?hg (N := 1) ?hd (cs := #[.int .i64 a0_0, .slice A0_1 l0_1.length c0_1]) (t := 47) ?hr ?_; (case hd => rfl); (case hg => rfl); (case hr => go_simp <;> rfl); intro gb194 hg w3 hbox hb; have BK194 := mK hbox; have GW194 := mK (gX hg HB); have GE194 := mK (gX hg HB); replace HB := bB HB hb; clear hb hbox hg))
 (try simp only [Act.put, sT, sZ, sU])
 go_cut [14] (fun v14 wc => ∃ (kq : Nat) (x14_1 : Bool), v14 = .bool x14_1 ∧ Aside0 (spec_SimpleOk.j0 kq x14_1 a0_0 l0_1 = some r) ∧ Aside0 (kq ≤ k) ∧ Aside0 (wc.heap[gb194]? = some (.cells #[.int .i64 a0_0, (.slice A0_1 l0_1.length c0_1)] 47 (0, 0))) ∧ Aside0 (Below w.heap.size w wc))
 case first => (
 have H := HC2.out
 clear HC2
 replace H := Option.bind_eq_some_iff.mp H
 obtain ⟨t195, A40, H⟩ := H
 replace H : (if t195 = true then (spec_SimpleOk.j0 k (decide ((l0_1.length : Int) > 40)) a0_0 l0_1) else (spec_SimpleOk.j0 k true a0_0 l0_1)) = some r := H
 have A4 := mK A40
 clear A40
 by_cases c5 : t195 = true
 {
 subst c5
 rw [if_pos rfl] at H
 have H' := mK H
 clear H
 have hcz6_0 := q0 BK194
 have hcz6_1 := q1 BK194
 have hfz6_0 := fX BK194 0
 have hfz6_1 := fX BK194 1
 go_wp2_with (first | ((with_reducible refine gate_callee (f := 96) rfl ?_); refine gsE (some 7) Try.func96 #[.int .i64 a0_0, .int .i64 1, .int .i64 8] ?_; (with_reducible refine (spec_l01In.calls a0_0 1 8 true _ A4.out).mono ?_); rintro e w' ⟨rfl, ⟨nd, rfl⟩⟩; refine ⟨_, rfl, ?_⟩))
 go_meet
 case rel => exact ⟨_, (decide ((l0_1.length : Int) > 40)), (by first | rfl | (simp; done) | (simp [*]; done)), H', ⟨by first | omega | exact Nat.le_refl _⟩, ⟨kX BK194⟩, ⟨bX HB⟩⟩
 }
 replace c5 := Bool.eq_false_iff.mpr c5
 subst c5
 rw [if_neg (show ¬ (false = true) by decide)] at H
 have H' := mK H
 clear H
 have hcz7_0 := q0 BK194
 have hcz7_1 := q1 BK194
 have hfz7_0 := fX BK194 0
 have hfz7_1 := fX BK194 1
 go_wp2_with (first | ((with_reducible refine gate_callee (f := 96) rfl ?_); refine gsE (some 7) Try.func96 #[.int .i64 a0_0, .int .i64 1, .int .i64 8] ?_; (with_reducible refine (spec_l01In.calls a0_0 1 8 false _ A4.out).mono ?_); rintro e w' ⟨rfl, ⟨nd, rfl⟩⟩; refine ⟨_, rfl, ?_⟩))
 go_meet
 case rel => exact ⟨_, (true), (by first | rfl | (simp; done) | (simp [*]; done)), H', ⟨by first | omega | exact Nat.le_refl _⟩, ⟨kX BK194⟩, ⟨bX HB⟩⟩
 )
 case rest => (
 clear HC2
 try clear p2
 try clear c5
 try clear c6
 try clear hcz6_0
 try clear hcz6_1
 try clear hcz7_0
 try clear hcz7_1
 try clear hfz6_0
 try clear hfz6_1
 try clear hfz7_0
 try clear hfz7_1
 obtain ⟨kq, x14_1, rfl, HA, HJ1, BK194, HB⟩ := hcut
 cases kq with
 | zero => exact absurd HA.out (by simp [spec_SimpleOk.j0])
 | succ kj1 => (
 have H := HA.out
 clear HA
 simp only [spec_SimpleOk.j0] at H
 by_cases c8 : x14_1 = true
 {
 subst c8
 rw [if_pos rfl] at H
 obtain rfl := Option.some.inj H
 go_wp2
 go_ret
 exact ⟨by first | rfl | (simp [errW_none, errW_some] <;> rfl) | (simp [*, errW_none, errW_some] <;> rfl), bX HB⟩
 }
 replace c8 := Bool.eq_false_iff.mpr c8
 subst c8
 rw [if_neg (show ¬ (false = true) by decide)] at H
 have H' := mK H
 clear H
 have hcz9_0 := q0 BK194
 have hcz9_1 := q1 BK194
 have hfz9_0 := fX BK194 0
 have hfz9_1 := fX BK194 1
 go_wp2
 go_loopg [18] kj1 (fun kq v18 w' => ∃ (x18_2 : Int), v18 = .int .i64 x18_2 ∧ Aside0 (spec_SimpleOk.l0 kq l0_1 (l0_1.length : Int) x18_2 a0_0 l0_1 = some r) ∧ Aside0 (kq ≤ kj1) ∧ Aside0 (w'.heap[gb194]? = some (.cells #[.int .i64 a0_0, (.slice A0_1 l0_1.length c0_1)] 47 (0, 0))) ∧ Aside0 (Below w.heap.size w w'))
 case atStart => exact ⟨(0), (by first | rfl | (simp; done) | (simp [*]; done)), H', ⟨Nat.le_refl _⟩, ⟨kX BK194⟩, ⟨bX HB⟩⟩
 case round => (
 clear H'
 try clear p2
 try clear c5
 try clear c6
 try clear c8
 try clear c9
 try clear hcz6_0
 try clear hcz6_1
 try clear hcz7_0
 try clear hcz7_1
 try clear hcz9_0
 try clear hcz9_1
 try clear hfz6_0
 try clear hfz6_1
 try clear hfz7_0
 try clear hfz7_1
 try clear hfz9_0
 try clear hfz9_1
 try clear p2
 obtain ⟨x18_2, rfl, HA, HK2, BK194, HB⟩ := hrel
 cases gk with
 | zero => exact absurd HA.out (by simp [spec_SimpleOk.l0])
 | succ k2 => (
 have H := HA.out
 clear HA
 simp only [spec_SimpleOk.l0] at H
 by_cases c10 : x18_2 < (l0_1.length : Int)
 rotate_left
 {
 rw [if_neg c10] at H
 have c10b0 : decide (x18_2 < (l0_1.length : Int)) = false := decide_eq_false c10
 clear c10
 obtain rfl := Option.some.inj H
 go_wp2
 go_ret
 exact ⟨by first | rfl | (simp [errW_none, errW_some] <;> rfl) | (simp [*, errW_none, errW_some] <;> rfl), bX HB⟩
 }
 rw [if_pos c10] at H
 have c10b0 : decide (x18_2 < (l0_1.length : Int)) = true := decide_eq_true c10
 clear c10
 by_cases c11 : 0 ≤ x18_2
 rotate_left
 {
 rw [if_neg c11] at H
 exact absurd H (by simp)
 }
 rw [if_pos c11] at H
 have c11b0 : decide (0 ≤ x18_2) = true := decide_eq_true c11
 clear c11
 by_cases c12 : x18_2 < (l0_1.length : Int)
 rotate_left
 {
 rw [if_neg c12] at H
 exact absurd H (by simp)
 }
 rw [if_pos c12] at H
 have c12b0 : decide (x18_2 < (l0_1.length : Int)) = true := decide_eq_true c12
 clear c12
 replace H := Option.bind_eq_some_iff.mp H
 obtain ⟨t198, A130, H⟩ := H
 replace H : (if t198 = true then ((spec_l01In.f ((rd_T76 l0_1 x18_2).f1) 0 (wrap64 (a0_0 - 1))).bind fun t199 => (if t199 = true then ((spec_IntervalOk.f ((rd_T76 l0_1 x18_2).f2.f0) ((rd_T76 l0_1 x18_2).f2.f1)).bind fun t200 => (if t200 = true then (spec_SimpleOk.l0 k2 l0_1 (l0_1.length : Int) (wrap64 (x18_2 + 1)) a0_0 l0_1) else (some false))) else (some false))) else (some false)) = some r := H
 have A13 := mK A130
 clear A130
 by_cases c14 : t198 = true
 rotate_left
 {
 replace c14 := Bool.eq_false_iff.mpr c14
 subst c14
 rw [if_neg (show ¬ (false = true) by decide)] at H
 obtain rfl := Option.some.inj H
 have p196 : 0 ≤ (x18_2 : Int) := of_decide_eq_true oX
 have q196 : x18_2 < (l0_1.length : Int) := of_decide_eq_true oX
 obtain ⟨ad196, e196, hx196_0, hx196_1, hx196_2, hx196_3⟩ := at_T76 HR0_1.out x18_2 p196 q196
 cases e196
 replace hx196_0 := (HB.out.cell (World.block_lt_of_cell? w _ hx196_0)).trans hx196_0
 replace hx196_1 := (HB.out.cell (World.block_lt_of_cell? w _ hx196_1)).trans hx196_1
 replace hx196_2 := (HB.out.cell (World.block_lt_of_cell? w _ hx196_2)).trans hx196_2
 replace hx196_3 := (HB.out.cell (World.block_lt_of_cell? w _ hx196_3)).trans hx196_3
 replace p196 := eq_true p196
 replace q196 := eq_true q196
 go_wp2_with (first | ((with_reducible refine gate_dst (N := 4) rfl ?_); (try (refine gate_guard (by rfl) ?_; dsimp only)); refine box_event ?hg (N := 4) ?hd (cs := #[.int .i64 0, .int .i64 0, .int .i64 0, .int .i64 0]) (t := 76) ?hr ?_; (case hd => rfl); (case hg => rfl); (case hr => go_simp <;> rfl); intro gb197 hg w33 hbox hb; have BK197 := mK hbox; have GW197 := mK (gX hg HB); have GE197 := mK (gX hg HB); replace HB := bB HB hb; have NB194_197 := mK (lX hg BK194); have NB197_194 := mK (mX hg BK194); replace BK194 := kB BK194 hb; clear hb hbox hg; have hnb34 := NB197_194.out; have hnc34 := NB194_197.out; have hcz35_0 := q0 BK197; have hcz35_1 := q1 BK197; have hcz35_2 := q2 BK197; have hcz35_3 := q3 BK197; have hfz35_0 := fX BK197 0; have hfz35_1 := fX BK197 1; have hfz35_2 := fX BK197 2; have hfz35_3 := fX BK197 3; have hcz36_0 := q0 BK194; have hcz36_1 := q1 BK194; have hfz36_0 := fX BK194 0; have hfz36_1 := fX BK194 1) | ((with_reducible refine gate_callee (f := 96) rfl ?_); refine gsE (some 27) Try.func96 #[.int .i64 ((rd_T76 l0_1 x18_2).f0), .int .i64 0, .int .i64 (wrap64 (a0_0 - 1))] ?_; (with_reducible refine (spec_l01In.calls ((rd_T76 l0_1 x18_2).f0) 0 (wrap64 (a0_0 - 1)) false _ A13.out).mono ?_); rintro e w' ⟨rfl, ⟨nd, rfl⟩⟩; refine ⟨_, rfl, ?_⟩))
 go_ret
 exact ⟨by first | rfl | (simp [errW_none, errW_some] <;> rfl) | (simp [*, errW_none, errW_some] <;> rfl), bX HB⟩
 }
 subst c14
 rw [if_pos rfl] at H
 replace H := Option.bind_eq_some_iff.mp H
 obtain ⟨t199, A150, H⟩ := H
 replace H : (if t199 = true then ((spec_IntervalOk.f ((rd_T76 l0_1 x18_2).f2.f0) ((rd_T76 l0_1 x18_2).f2.f1)).bind fun t200 => (if t200 = true then (spec_SimpleOk.l0 k2 l0_1 (l0_1.length : Int) (wrap64 (x18_2 + 1)) a0_0 l0_1) else (some false))) else (some false)) = some r := H
 have A15 := mK A150
 clear A150
 by_cases c16 : t199 = true
 rotate_left
 {
 replace c16 := Bool.eq_false_iff.mpr c16
 subst c16
 rw [if_neg (show ¬ (false = true) by decide)] at H
 obtain rfl := Option.some.inj H
 have p196 : 0 ≤ (x18_2 : Int) := of_decide_eq_true oX
 have q196 : x18_2 < (l0_1.length : Int) := of_decide_eq_true oX
 obtain ⟨ad196, e196, hx196_0, hx196_1, hx196_2, hx196_3⟩ := at_T76 HR0_1.out x18_2 p196 q196
 cases e196
 replace hx196_0 := (HB.out.cell (World.block_lt_of_cell? w _ hx196_0)).trans hx196_0
 replace hx196_1 := (HB.out.cell (World.block_lt_of_cell? w _ hx196_1)).trans hx196_1
 replace hx196_2 := (HB.out.cell (World.block_lt_of_cell? w _ hx196_2)).trans hx196_2
 replace hx196_3 := (HB.out.cell (World.block_lt_of_cell? w _ hx196_3)).trans hx196_3
 replace p196 := eq_true p196
 replace q196 := eq_true q196
 go_wp2_with (first | ((with_reducible refine gate_dst (N := 4) rfl ?_); (try (refine gate_guard (by rfl) ?_; dsimp only)); refine box_event ?hg (N := 4) ?hd (cs := #[.int .i64 0, .int .i64 0, .int .i64 0, .int .i64 0]) (t := 76) ?hr ?_; (case hd => rfl); (case hg => rfl); (case hr => go_simp <;> rfl); intro gb197 hg w29 hbox hb; have BK197 := mK hbox; have GW197 := mK (gX hg HB); have GE197 := mK (gX hg HB); replace HB := bB HB hb; have NB194_197 := mK (lX hg BK194); have NB197_194 := mK (mX hg BK194); replace BK194 := kB BK194 hb; clear hb hbox hg; have hnb30 := NB197_194.out; have hnc30 := NB194_197.out; have hcz31_0 := q0 BK197; have hcz31_1 := q1 BK197; have hcz31_2 := q2 BK197; have hcz31_3 := q3 BK197; have hfz31_0 := fX BK197 0; have hfz31_1 := fX BK197 1; have hfz31_2 := fX BK197 2; have hfz31_3 := fX BK197 3; have hcz32_0 := q0 BK194; have hcz32_1 := q1 BK194; have hfz32_0 := fX BK194 0; have hfz32_1 := fX BK194 1) | ((with_reducible refine gate_callee (f := 96) rfl ?_); refine gsE (some 27) Try.func96 #[.int .i64 ((rd_T76 l0_1 x18_2).f0), .int .i64 0, .int .i64 (wrap64 (a0_0 - 1))] ?_; (with_reducible refine (spec_l01In.calls ((rd_T76 l0_1 x18_2).f0) 0 (wrap64 (a0_0 - 1)) true _ A13.out).mono ?_); rintro e w' ⟨rfl, ⟨nd, rfl⟩⟩; refine ⟨_, rfl, ?_⟩) | (go_at_call 96; (with_reducible refine (spec_l01In.calls ((rd_T76 l0_1 x18_2).f1) 0 (wrap64 (a0_0 - 1)) false _ A15.out).mono ?_); rintro e w' ⟨rfl, ⟨nd, rfl⟩⟩))
 go_ret
 exact ⟨by first | rfl | (simp [errW_none, errW_some] <;> rfl) | (simp [*, errW_none, errW_some] <;> rfl), bX HB⟩
 }
 subst c16
 rw [if_pos rfl] at H
 replace H := Option.bind_eq_some_iff.mp H
 obtain ⟨t200, A170, H⟩ := H
 replace H : (if t200 = true then (spec_SimpleOk.l0 k2 l0_1 (l0_1.length : Int) (wrap64 (x18_2 + 1)) a0_0 l0_1) else (some false)) = some r := H
 have A17 := mK A170
 clear A170
 by_cases c18 : t200 = true
 rotate_left
 {
 replace c18 := Bool.eq_false_iff.mpr c18
 subst c18
 rw [if_neg (show ¬ (false = true) by decide)] at H
 obtain rfl := Option.some.inj H
 have p196 : 0 ≤ (x18_2 : Int) := of_decide_eq_true oX
 have q196 : x18_2 < (l0_1.length : Int) := of_decide_eq_true oX
 obtain ⟨ad196, e196, hx196_0, hx196_1, hx196_2, hx196_3⟩ := at_T76 HR0_1.out x18_2 p196 q196
 cases e196
 replace hx196_0 := (HB.out.cell (World.block_lt_of_cell? w _ hx196_0)).trans hx196_0
 replace hx196_1 := (HB.out.cell (World.block_lt_of_cell? w _ hx196_1)).trans hx196_1
 replace hx196_2 := (HB.out.cell (World.block_lt_of_cell? w _ hx196_2)).trans hx196_2
 replace hx196_3 := (HB.out.cell (World.block_lt_of_cell? w _ hx196_3)).trans hx196_3
 replace p196 := eq_true p196
 replace q196 := eq_true q196
 go_wp2_with (first | ((with_reducible refine gate_dst (N := 4) rfl ?_); (try (refine gate_guard (by rfl) ?_; dsimp only)); refine box_event ?hg (N := 4) ?hd (cs := #[.int .i64 0, .int .i64 0, .int .i64 0, .int .i64 0]) (t := 76) ?hr ?_; (case hd => rfl); (case hg => rfl); (case hr => go_simp <;> rfl); intro gb197 hg w24 hbox hb; have BK197 := mK hbox; have GW197 := mK (gX hg HB); have GE197 := mK (gX hg HB); replace HB := bB HB hb; have NB194_197 := mK (lX hg BK194); have NB197_194 := mK (mX hg BK194); replace BK194 := kB BK194 hb; clear hb hbox hg; have hnb25 := NB197_194.out; have hnc25 := NB194_197.out; have hcz26_0 := q0 BK197; have hcz26_1 := q1 BK197; have hcz26_2 := q2 BK197; have hcz26_3 := q3 BK197; have hfz26_0 := fX BK197 0; have hfz26_1 := fX BK197 1; have hfz26_2 := fX BK197 2; have hfz26_3 := fX BK197 3; have hcz27_0 := q0 BK194; have hcz27_1 := q1 BK194; have hfz27_0 := fX BK194 0; have hfz27_1 := fX BK194 1) | ((with_reducible refine gate_callee (f := 96) rfl ?_); refine gsE (some 27) Try.func96 #[.int .i64 ((rd_T76 l0_1 x18_2).f0), .int .i64 0, .int .i64 (wrap64 (a0_0 - 1))] ?_; (with_reducible refine (spec_l01In.calls ((rd_T76 l0_1 x18_2).f0) 0 (wrap64 (a0_0 - 1)) true _ A13.out).mono ?_); rintro e w' ⟨rfl, ⟨nd, rfl⟩⟩; refine ⟨_, rfl, ?_⟩) | (go_at_call 96; (with_reducible refine (spec_l01In.calls ((rd_T76 l0_1 x18_2).f1) 0 (wrap64 (a0_0 - 1)) true _ A15.out).mono ?_); rintro e w' ⟨rfl, ⟨nd, rfl⟩⟩) | (go_at_call 100; (with_reducible refine (spec_IntervalOk.calls ((rd_T76 l0_1 x18_2).f2.f0) ((rd_T76 l0_1 x18_2).f2.f1) false _ A17.out).mono ?_); rintro e w28 ⟨rfl, hb⟩; have n0_ := mK (blk_below (g := gb194) (o := .cells #[.int .i64 a0_0, .slice (some ad196) l0_1.length c0_1] 47 (0, 0)) (kF BK194 NB194_197) hb); have n1_ := mK (blk_below (g := gb197) (o := .cells #[.int .i64 ((rd_T76 l0_1 x18_2).f0), .int .i64 ((rd_T76 l0_1 x18_2).f1), .int .i64 ((rd_T76 l0_1 x18_2).f2.f0), .int .i64 ((rd_T76 l0_1 x18_2).f2.f1)] 76 (0, 0)) (kP4 BK197) hb); have n2_ := bB HB hb; clear BK194; clear BK197; clear HB; have BK194 := n0_; have BK197 := n1_; have HB := n2_; clear n0_ n1_ n2_; (try clear hb); (try clear hb2); (try clear hk); (try clear hi)))
 go_ret
 exact ⟨by first | rfl | (simp [errW_none, errW_some] <;> rfl) | (simp [*, errW_none, errW_some] <;> rfl), bX HB⟩
 }
 subst c18
 rw [if_pos rfl] at H
 have H' := mK H
 clear H
 have p196 : 0 ≤ (x18_2 : Int) := of_decide_eq_true oX
 have q196 : x18_2 < (l0_1.length : Int) := of_decide_eq_true oX
 obtain ⟨ad196, e196, hx196_0, hx196_1, hx196_2, hx196_3⟩ := at_T76 HR0_1.out x18_2 p196 q196
 cases e196
 replace hx196_0 := (HB.out.cell (World.block_lt_of_cell? w _ hx196_0)).trans hx196_0
 replace hx196_1 := (HB.out.cell (World.block_lt_of_cell? w _ hx196_1)).trans hx196_1
 replace hx196_2 := (HB.out.cell (World.block_lt_of_cell? w _ hx196_2)).trans hx196_2
 replace hx196_3 := (HB.out.cell (World.block_lt_of_cell? w _ hx196_3)).trans hx196_3
 replace p196 := eq_true p196
 replace q196 := eq_true q196
 go_wp2_with (first | ((with_reducible refine gate_dst (N := 4) rfl ?_); (try (refine gate_guard (by rfl) ?_; dsimp only)); refine box_event ?hg (N := 4) ?hd (cs := #[.int .i64 0, .int .i64 0, .int .i64 0, .int .i64 0]) (t := 76) ?hr ?_; (case hd => rfl); (case hg => rfl); (case hr => go_simp <;> rfl); intro gb197 hg w19 hbox hb; have BK197 := mK hbox; have GW197 := mK (gX hg HB); have GE197 := mK (gX hg HB); replace HB := bB HB hb; have NB194_197 := mK (lX hg BK194); have NB197_194 := mK (mX hg BK194); replace BK194 := kB BK194 hb; clear hb hbox hg; have hnb20 := NB197_194.out; have hnc20 := NB194_197.out; have hcz21_0 := q0 BK197; have hcz21_1 := q1 BK197; have hcz21_2 := q2 BK197; have hcz21_3 := q3 BK197; have hfz21_0 := fX BK197 0; have hfz21_1 := fX BK197 1; have hfz21_2 := fX BK197 2; have hfz21_3 := fX BK197 3; have hcz22_0 := q0 BK194; have hcz22_1 := q1 BK194; have hfz22_0 := fX BK194 0; have hfz22_1 := fX BK194 1) | ((with_reducible refine gate_callee (f := 96) rfl ?_); refine gsE (some 27) Try.func96 #[.int .i64 ((rd_T76 l0_1 x18_2).f0), .int .i64 0, .int .i64 (wrap64 (a0_0 - 1))] ?_; (with_reducible refine (spec_l01In.calls ((rd_T76 l0_1 x18_2).f0) 0 (wrap64 (a0_0 - 1)) true _ A13.out).mono ?_); rintro e w' ⟨rfl, ⟨nd, rfl⟩⟩; refine ⟨_, rfl, ?_⟩) | (go_at_call 96; (with_reducible refine (spec_l01In.calls ((rd_T76 l0_1 x18_2).f1) 0 (wrap64 (a0_0 - 1)) true _ A15.out).mono ?_); rintro e w' ⟨rfl, ⟨nd, rfl⟩⟩) | (go_at_call 100; (with_reducible refine (spec_IntervalOk.calls ((rd_T76 l0_1 x18_2).f2.f0) ((rd_T76 l0_1 x18_2).f2.f1) true _ A17.out).mono ?_); rintro e w23 ⟨rfl, hb⟩; have n0_ := mK (blk_below (g := gb194) (o := .cells #[.int .i64 a0_0, .slice (some ad196) l0_1.length c0_1] 47 (0, 0)) (kF BK194 NB194_197) hb); have n1_ := mK (blk_below (g := gb197) (o := .cells #[.int .i64 ((rd_T76 l0_1 x18_2).f0), .int .i64 ((rd_T76 l0_1 x18_2).f1), .int .i64 ((rd_T76 l0_1 x18_2).f2.f0), .int .i64 ((rd_T76 l0_1 x18_2).f2.f1)] 76 (0, 0)) (kP4 BK197) hb); have n2_ := bB HB hb; clear BK194; clear BK197; clear HB; have BK194 := n0_; have BK197 := n1_; have HB := n2_; clear n0_ n1_ n2_; (try clear hb); (try clear hb2); (try clear hk); (try clear hi)))
 go_roundg k2
 case measure => have := HJ1.out; have := HK2.out; omega
 case rel => exact ⟨(wrap64 (x18_2 + 1)), (by first | rfl | (simp; done) | (simp [*]; done)), H', ⟨by have := HJ1.out; have := HK2.out; omega⟩, ⟨kX BK194⟩, ⟨bX HB⟩⟩
 )
 )
 )
 )

end Go.Proofs.Ytbbblnmngjhadaa.QFnExactWindowOf
