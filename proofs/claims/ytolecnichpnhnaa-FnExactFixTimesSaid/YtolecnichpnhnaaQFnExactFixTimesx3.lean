-- Written by this session's program wip/tools/mk.py out of the translation; Lean checks it.
import Derived.Test.YtolecnichpnhnaaQFnExactFixTimesx0
import Derived.Test.YtolecnichpnhnaaQFnExactFixTimesx2
namespace Go.Proofs.Ytolecnichpnhnaa.QFnExactFixTimes
open Go.RowKit Go.Proofs.YtolecnichpnhnaaW.PrintWords Go.Proofs.YtolecnichpnhnaaW.PrintLast Go.Proofs.YtolecnichpnhnaaW.PrintMore
attribute [local go_sem] max2_int min2_int max_two min_two max_three min_three max_four min_four   -- for this text's walks alone
set_option linter.unusedVariables false
set_option linter.unusedSimpArgs false

/-! ### spec_SimpleOk: function 12 -/
mutual
def spec_SimpleOk.j0 : Nat → Bool → Int → List (S47) → Option (Bool)
  | 0, _, _, _ => none
  | k + 1, x14, x159000, x159001 => if x14 = true then (some false) else (spec_SimpleOk.l0 k x159001 (x159001.length : Int) 0 x159000 x159001)
def spec_SimpleOk.l0 : Nat → List (S47) → Int → Int → Int → List (S47) → Option (Bool)
  | 0, _, _, _, _, _ => none
  | k + 1, x16, x17, x18, x159000, x159001 => if x18 < x17 then (if 0 ≤ x18 then (if x18 < (x16.length : Int) then ((spec_l01In.f ((rd_T47 x16 x18).f0) 0 (wrap64 (x159000 - 1))).bind fun t162 => (if t162 = true then ((spec_l01In.f ((rd_T47 x16 x18).f1) 0 (wrap64 (x159000 - 1))).bind fun t163 => (if t163 = true then ((spec_IntervalOk.f ((rd_T47 x16 x18).f2.f0) ((rd_T47 x16 x18).f2.f1)).bind fun t164 => (if t164 = true then (spec_SimpleOk.l0 k x16 x17 (wrap64 (x18 + 1)) x159000 x159001) else (some false))) else (some false))) else (some false))) else (none)) else (none)) else (some true)
end
def spec_SimpleOk.f (k : Nat) (a0_0 : Int) (l0_1 : List (S47)) : Option (Bool) := (spec_l01In.f a0_0 1 8).bind fun t159 => (if t159 = true then (spec_SimpleOk.j0 k (decide ((l0_1.length : Int) > 40)) a0_0 l0_1) else (spec_SimpleOk.j0 k true a0_0 l0_1))
theorem spec_SimpleOk.mono_l : ∀ k, (∀ y0 y1 y2, LeO (spec_SimpleOk.j0 k y0 y1 y2) (spec_SimpleOk.j0 (k + 1) y0 y1 y2)) ∧ (∀ y0 y1 y2 y3 y4, LeO (spec_SimpleOk.l0 k y0 y1 y2 y3 y4) (spec_SimpleOk.l0 (k + 1) y0 y1 y2 y3 y4))
  | 0 => ⟨fun _ _ _ r h => by simp [spec_SimpleOk.j0] at h, fun _ _ _ _ _ r h => by simp [spec_SimpleOk.l0] at h⟩
  | k + 1 => by
    obtain ⟨ih0, ih1⟩ := spec_SimpleOk.mono_l k
    refine ⟨?_, ?_⟩
    · intro y0 y1 y2
      unfold spec_SimpleOk.j0
      repeat' first|(with_reducible first|exact ih0 _ _ _|exact ih1 _ _ _ _ _|exact lR _|exact lN _|refine lI ?_ ?_|refine lB ?_ (fun _ => ?_))|exact ih0 _ _ _|exact ih1 _ _ _ _ _|exact lN _|refine lI ?_ ?_|refine lB ?_ (fun _ => ?_)
    · intro y0 y1 y2 y3 y4
      unfold spec_SimpleOk.l0
      repeat' first|(with_reducible first|exact ih0 _ _ _|exact ih1 _ _ _ _ _|exact lR _|exact lN _|refine lI ?_ ?_|refine lB ?_ (fun _ => ?_))|exact ih0 _ _ _|exact ih1 _ _ _ _ _|exact lN _|refine lI ?_ ?_|refine lB ?_ (fun _ => ?_)
theorem spec_SimpleOk.mono : ∀ a0 a1 k, LeO (spec_SimpleOk.f k a0 a1) (spec_SimpleOk.f (k + 1) a0 a1) := by
  intro a0 a1 k
  obtain ⟨ih0, ih1⟩ := spec_SimpleOk.mono_l k
  unfold spec_SimpleOk.f
  repeat' first|(with_reducible first|exact ih0 _ _ _|exact ih1 _ _ _ _ _|exact lR _|exact lN _|refine lI ?_ ?_|refine lB ?_ (fun _ => ?_))|exact ih0 _ _ _|exact ih1 _ _ _ _ _|exact lN _|refine lI ?_ ?_|refine lB ?_ (fun _ => ?_)
set_option maxHeartbeats 8000000 in
set_option maxRecDepth 100000 in
theorem spec_SimpleOk.calls (k : Nat) (a0_0 : Int) (A0_1 : Option Addr) (c0_1 : Nat) (l0_1 : List (S47)) (r : Bool) (w : World) (hr0_1 : Kd.C k47 w A0_1 l0_1.length l0_1) (hc0_1 : l0_1.length ≤ c0_1) (h : spec_SimpleOk.f k a0_0 l0_1 = some r) :
    Calls Try.prog 12 #[.agg #[.int .i64 a0_0, .slice A0_1 l0_1.length c0_1]] w fun e w' => e = .returned (.bool r) ∧ Below w.heap.size w w' := by
 have hu29 := Try.underlying29
 have hu47 := Try.underlying47
 have hu45 := Try.underlying45
 have HR0_1 := mK hr0_1
 have HC0_1 := mK hc0_1
 clear hr0_1 hc0_1
 have HB := mK (Below.refl w.heap.size w)
 have H : ((spec_l01In.f a0_0 1 8).bind fun t159 => (if t159 = true then (spec_SimpleOk.j0 k (decide ((l0_1.length : Int) > 40)) a0_0 l0_1) else (spec_SimpleOk.j0 k true a0_0 l0_1))) = some r := h
 clear h
 have HC2 := mK H
 clear H
 go_enter Try.func12, Try.ntmps12
 go_upto_region 1 with (first | ((with_reducible refine gate_dst (N := 1) rfl ?_); (try (refine gate_guard (by rfl) ?_; dsimp only)); refine box_event ?hg (N := 1) ?hd (cs := #[.int .i64 a0_0, .slice A0_1 l0_1.length c0_1]) (t := 29) ?hr ?_; (case hd => rfl); (case hg => rfl); (case hr => go_simp <;> rfl); intro gb158 hg w3 hbox hb; have BK158 := mK hbox; have GW158 := mK (gX hg HB); have GE158 := mK (gX hg HB); replace HB := bB HB hb; clear hb hbox hg))
 (try simp only [Act.put, sT, sZ, sU])
 go_cut [14] (fun v14 wc => ∃ (kq : Nat) (x14_1 : Bool), v14 = .bool x14_1 ∧ Aside0 (spec_SimpleOk.j0 kq x14_1 a0_0 l0_1 = some r) ∧ Aside0 (kq ≤ k) ∧ Aside0 (wc.heap[gb158]? = some (.cells #[.int .i64 a0_0, (.slice A0_1 l0_1.length c0_1)] 29 (0, 0))) ∧ Aside0 (Below w.heap.size w wc))
 case first => (
 have H := HC2.out
 clear HC2
 replace H := Option.bind_eq_some_iff.mp H
 obtain ⟨t159, A40, H⟩ := H
 replace H : (if t159 = true then (spec_SimpleOk.j0 k (decide ((l0_1.length : Int) > 40)) a0_0 l0_1) else (spec_SimpleOk.j0 k true a0_0 l0_1)) = some r := H
 have A4 := mK A40
 clear A40
 by_cases c5 : t159 = true
 {
 subst c5
 rw [if_pos rfl] at H
 have H' := mK H
 clear H
 have hcz6_0 := q0 BK158
 have hcz6_1 := q1 BK158
 have hfz6_0 := fX BK158 0
 have hfz6_1 := fX BK158 1
 go_wp2_with (first | ((with_reducible refine gate_callee (f := 41) rfl ?_); refine gsE (some 7) Try.func41 #[.int .i64 a0_0, .int .i64 1, .int .i64 8] ?_; (with_reducible refine (spec_l01In.calls a0_0 1 8 true _ A4.out).mono ?_); rintro e w' ⟨rfl, ⟨nd, rfl⟩⟩; refine ⟨_, rfl, ?_⟩))
 go_meet
 case rel => exact ⟨_, (decide ((l0_1.length : Int) > 40)), (by first | rfl | (simp; done) | (simp [*]; done)), H', ⟨by first | omega | exact Nat.le_refl _⟩, ⟨kX BK158⟩, ⟨bX HB⟩⟩
 }
 replace c5 := Bool.eq_false_iff.mpr c5
 subst c5
 rw [if_neg (show ¬ (false = true) by decide)] at H
 have H' := mK H
 clear H
 have hcz7_0 := q0 BK158
 have hcz7_1 := q1 BK158
 have hfz7_0 := fX BK158 0
 have hfz7_1 := fX BK158 1
 go_wp2_with (first | ((with_reducible refine gate_callee (f := 41) rfl ?_); refine gsE (some 7) Try.func41 #[.int .i64 a0_0, .int .i64 1, .int .i64 8] ?_; (with_reducible refine (spec_l01In.calls a0_0 1 8 false _ A4.out).mono ?_); rintro e w' ⟨rfl, ⟨nd, rfl⟩⟩; refine ⟨_, rfl, ?_⟩))
 go_meet
 case rel => exact ⟨_, (true), (by first | rfl | (simp; done) | (simp [*]; done)), H', ⟨by first | omega | exact Nat.le_refl _⟩, ⟨kX BK158⟩, ⟨bX HB⟩⟩
 )
 case rest => (
 clear HC2
 try clear c1
 try clear p2
 try clear c4
 try clear c5
 try clear hcz6_0
 try clear hcz6_1
 try clear hcz7_0
 try clear hcz7_1
 try clear hfz6_0
 try clear hfz6_1
 try clear hfz7_0
 try clear hfz7_1
 obtain ⟨kq, x14_1, rfl, HA, HJ1, BK158, HB⟩ := hcut
 cases kq with
 | zero => exact absurd HA.out (by simp [spec_SimpleOk.j0])
 | succ kj1 => (
 have H := HA.out
 clear HA
 simp only [spec_SimpleOk.j0] at H
 by_cases c8 : x14_1 = true
 {
 subst c8
 rw [if_pos rfl] at H
 obtain rfl := Option.some.inj H
 go_wp2
 go_ret
 exact ⟨by first | rfl | (simp [errW_none, errW_some] <;> rfl) | (simp [*, errW_none, errW_some] <;> rfl), bX HB⟩
 }
 replace c8 := Bool.eq_false_iff.mpr c8
 subst c8
 rw [if_neg (show ¬ (false = true) by decide)] at H
 have H' := mK H
 clear H
 have hcz9_0 := q0 BK158
 have hcz9_1 := q1 BK158
 have hfz9_0 := fX BK158 0
 have hfz9_1 := fX BK158 1
 go_wp2
 go_loopg [18] kj1 (fun kq v18 w' => ∃ (x18_2 : Int), v18 = .int .i64 x18_2 ∧ Aside0 (spec_SimpleOk.l0 kq l0_1 (l0_1.length : Int) x18_2 a0_0 l0_1 = some r) ∧ Aside0 (kq ≤ kj1) ∧ Aside0 (w'.heap[gb158]? = some (.cells #[.int .i64 a0_0, (.slice A0_1 l0_1.length c0_1)] 29 (0, 0))) ∧ Aside0 (Below w.heap.size w w'))
 case atStart => exact ⟨(0), (by first | rfl | (simp; done) | (simp [*]; done)), H', ⟨Nat.le_refl _⟩, ⟨kX BK158⟩, ⟨bX HB⟩⟩
 case round => (
 clear H'
 try clear c1
 try clear p2
 try clear c4
 try clear c5
 try clear c8
 try clear hcz6_0
 try clear hcz6_1
 try clear hcz7_0
 try clear hcz7_1
 try clear hcz9_0
 try clear hcz9_1
 try clear hfz6_0
 try clear hfz6_1
 try clear hfz7_0
 try clear hfz7_1
 try clear hfz9_0
 try clear hfz9_1
 try clear p2
 obtain ⟨x18_2, rfl, HA, HK2, BK158, HB⟩ := hrel
 cases gk with
 | zero => exact absurd HA.out (by simp [spec_SimpleOk.l0])
 | succ k2 => (
 have H := HA.out
 clear HA
 simp only [spec_SimpleOk.l0] at H
 by_cases c10 : x18_2 < (l0_1.length : Int)
 rotate_left
 {
 rw [if_neg c10] at H
 have c10b0 : decide (x18_2 < (l0_1.length : Int)) = false := decide_eq_false c10
 clear c10
 obtain rfl := Option.some.inj H
 go_wp2
 go_ret
 exact ⟨by first | rfl | (simp [errW_none, errW_some] <;> rfl) | (simp [*, errW_none, errW_some] <;> rfl), bX HB⟩
 }
 rw [if_pos c10] at H
 have c10b0 : decide (x18_2 < (l0_1.length : Int)) = true := decide_eq_true c10
 clear c10
 by_cases c11 : 0 ≤ x18_2
 rotate_left
 {
 rw [if_neg c11] at H
 exact absurd H (by simp)
 }
 rw [if_pos c11] at H
 have c11b0 : decide (0 ≤ x18_2) = true := decide_eq_true c11
 clear c11
 by_cases c12 : x18_2 < (l0_1.length : Int)
 rotate_left
 {
 rw [if_neg c12] at H
 exact absurd H (by simp)
 }
 rw [if_pos c12] at H
 have c12b0 : decide (x18_2 < (l0_1.length : Int)) = true := decide_eq_true c12
 clear c12
 replace H := Option.bind_eq_some_iff.mp H
 obtain ⟨t162, A130, H⟩ := H
 replace H : (if t162 = true then ((spec_l01In.f ((rd_T47 l0_1 x18_2).f1) 0 (wrap64 (a0_0 - 1))).bind fun t163 => (if t163 = true then ((spec_IntervalOk.f ((rd_T47 l0_1 x18_2).f2.f0) ((rd_T47 l0_1 x18_2).f2.f1)).bind fun t164 => (if t164 = true then (spec_SimpleOk.l0 k2 l0_1 (l0_1.length : Int) (wrap64 (x18_2 + 1)) a0_0 l0_1) else (some false))) else (some false))) else (some false)) = some r := H
 have A13 := mK A130
 clear A130
 by_cases c14 : t162 = true
 rotate_left
 {
 replace c14 := Bool.eq_false_iff.mpr c14
 subst c14
 rw [if_neg (show ¬ (false = true) by decide)] at H
 obtain rfl := Option.some.inj H
 have p160 : 0 ≤ (x18_2 : Int) := of_decide_eq_true oX
 have q160 : x18_2 < (l0_1.length : Int) := of_decide_eq_true oX
 obtain ⟨ad160, e160, hx160_0, hx160_1, hx160_2, hx160_3⟩ := at_T47 HR0_1.out x18_2 p160 q160
 cases e160
 replace hx160_0 := (HB.out.cell (World.block_lt_of_cell? w _ hx160_0)).trans hx160_0
 replace hx160_1 := (HB.out.cell (World.block_lt_of_cell? w _ hx160_1)).trans hx160_1
 replace hx160_2 := (HB.out.cell (World.block_lt_of_cell? w _ hx160_2)).trans hx160_2
 replace hx160_3 := (HB.out.cell (World.block_lt_of_cell? w _ hx160_3)).trans hx160_3
 replace p160 := eq_true p160
 replace q160 := eq_true q160
 go_wp2_with (first | ((with_reducible refine gate_dst (N := 4) rfl ?_); (try (refine gate_guard (by rfl) ?_; dsimp only)); refine box_event ?hg (N := 4) ?hd (cs := #[.int .i64 0, .int .i64 0, .int .i64 0, .int .i64 0]) (t := 47) ?hr ?_; (case hd => rfl); (case hg => rfl); (case hr => go_simp <;> rfl); intro gb161 hg w33 hbox hb; have BK161 := mK hbox; have GW161 := mK (gX hg HB); have GE161 := mK (gX hg HB); replace HB := bB HB hb; have NB158_161 := mK (lX hg BK158); have NB161_158 := mK (mX hg BK158); replace BK158 := kB BK158 hb; clear hb hbox hg; have hnb34 := NB161_158.out; have hnc34 := NB158_161.out; have hcz35_0 := q0 BK161; have hcz35_1 := q1 BK161; have hcz35_2 := q2 BK161; have hcz35_3 := q3 BK161; have hfz35_0 := fX BK161 0; have hfz35_1 := fX BK161 1; have hfz35_2 := fX BK161 2; have hfz35_3 := fX BK161 3; have hcz36_0 := q0 BK158; have hcz36_1 := q1 BK158; have hfz36_0 := fX BK158 0; have hfz36_1 := fX BK158 1) | ((with_reducible refine gate_callee (f := 41) rfl ?_); refine gsE (some 27) Try.func41 #[.int .i64 ((rd_T47 l0_1 x18_2).f0), .int .i64 0, .int .i64 (wrap64 (a0_0 - 1))] ?_; (with_reducible refine (spec_l01In.calls ((rd_T47 l0_1 x18_2).f0) 0 (wrap64 (a0_0 - 1)) false _ A13.out).mono ?_); rintro e w' ⟨rfl, ⟨nd, rfl⟩⟩; refine ⟨_, rfl, ?_⟩))
 go_ret
 exact ⟨by first | rfl | (simp [errW_none, errW_some] <;> rfl) | (simp [*, errW_none, errW_some] <;> rfl), bX HB⟩
 }
 subst c14
 rw [if_pos rfl] at H
 replace H := Option.bind_eq_some_iff.mp H
 obtain ⟨t163, A150, H⟩ := H
 replace H : (if t163 = true then ((spec_IntervalOk.f ((rd_T47 l0_1 x18_2).f2.f0) ((rd_T47 l0_1 x18_2).f2.f1)).bind fun t164 => (if t164 = true then (spec_SimpleOk.l0 k2 l0_1 (l0_1.length : Int) (wrap64 (x18_2 + 1)) a0_0 l0_1) else (some false))) else (some false)) = some r := H
 have A15 := mK A150
 clear A150
 by_cases c16 : t163 = true
 rotate_left
 {
 replace c16 := Bool.eq_false_iff.mpr c16
 subst c16
 rw [if_neg (show ¬ (false = true) by decide)] at H
 obtain rfl := Option.some.inj H
 have p160 : 0 ≤ (x18_2 : Int) := of_decide_eq_true oX
 have q160 : x18_2 < (l0_1.length : Int) := of_decide_eq_true oX
 obtain ⟨ad160, e160, hx160_0, hx160_1, hx160_2, hx160_3⟩ := at_T47 HR0_1.out x18_2 p160 q160
 cases e160
 replace hx160_0 := (HB.out.cell (World.block_lt_of_cell? w _ hx160_0)).trans hx160_0
 replace hx160_1 := (HB.out.cell (World.block_lt_of_cell? w _ hx160_1)).trans hx160_1
 replace hx160_2 := (HB.out.cell (World.block_lt_of_cell? w _ hx160_2)).trans hx160_2
 replace hx160_3 := (HB.out.cell (World.block_lt_of_cell? w _ hx160_3)).trans hx160_3
 replace p160 := eq_true p160
 replace q160 := eq_true q160
 go_wp2_with (first | ((with_reducible refine gate_dst (N := 4) rfl ?_); (try (refine gate_guard (by rfl) ?_; dsimp only)); refine box_event ?hg (N := 4) ?hd (cs := #[.int .i64 0, .int .i64 0, .int .i64 0, .int .i64 0]) (t := 47) ?hr ?_; (case hd => rfl); (case hg => rfl); (case hr => go_simp <;> rfl); intro gb161 hg w29 hbox hb; have BK161 := mK hbox; have GW161 := mK (gX hg HB); have GE161 := mK (gX hg HB); replace HB := bB HB hb; have NB158_161 := mK (lX hg BK158); have NB161_158 := mK (mX hg BK158); replace BK158 := kB BK158 hb; clear hb hbox hg; have hnb30 := NB161_158.out; have hnc30 := NB158_161.out; have hcz31_0 := q0 BK161; have hcz31_1 := q1 BK161; have hcz31_2 := q2 BK161; have hcz31_3 := q3 BK161; have hfz31_0 := fX BK161 0; have hfz31_1 := fX BK161 1; have hfz31_2 := fX BK161 2; have hfz31_3 := fX BK161 3; have hcz32_0 := q0 BK158; have hcz32_1 := q1 BK158; have hfz32_0 := fX BK158 0; have hfz32_1 := fX BK158 1) | ((with_reducible refine gate_callee (f := 41) rfl ?_); refine gsE (some 27) Try.func41 #[.int .i64 ((rd_T47 l0_1 x18_2).f0), .int .i64 0, .int .i64 (wrap64 (a0_0 - 1))] ?_; (with_reducible refine (spec_l01In.calls ((rd_T47 l0_1 x18_2).f0) 0 (wrap64 (a0_0 - 1)) true _ A13.out).mono ?_); rintro e w' ⟨rfl, ⟨nd, rfl⟩⟩; refine ⟨_, rfl, ?_⟩) | (go_at_call 41; (with_reducible refine (spec_l01In.calls ((rd_T47 l0_1 x18_2).f1) 0 (wrap64 (a0_0 - 1)) false _ A15.out).mono ?_); rintro e w' ⟨rfl, ⟨nd, rfl⟩⟩))
 go_ret
 exact ⟨by first | rfl | (simp [errW_none, errW_some] <;> rfl) | (simp [*, errW_none, errW_some] <;> rfl), bX HB⟩
 }
 subst c16
 rw [if_pos rfl] at H
 replace H := Option.bind_eq_some_iff.mp H
 obtain ⟨t164, A170, H⟩ := H
 replace H : (if t164 = true then (spec_SimpleOk.l0 k2 l0_1 (l0_1.length : Int) (wrap64 (x18_2 + 1)) a0_0 l0_1) else (some false)) = some r := H
 have A17 := mK A170
 clear A170
 by_cases c18 : t164 = true
 rotate_left
 {
 replace c18 := Bool.eq_false_iff.mpr c18
 subst c18
 rw [if_neg (show ¬ (false = true) by decide)] at H
 obtain rfl := Option.some.inj H
 have p160 : 0 ≤ (x18_2 : Int) := of_decide_eq_true oX
 have q160 : x18_2 < (l0_1.length : Int) := of_decide_eq_true oX
 obtain ⟨ad160, e160, hx160_0, hx160_1, hx160_2, hx160_3⟩ := at_T47 HR0_1.out x18_2 p160 q160
 cases e160
 replace hx160_0 := (HB.out.cell (World.block_lt_of_cell? w _ hx160_0)).trans hx160_0
 replace hx160_1 := (HB.out.cell (World.block_lt_of_cell? w _ hx160_1)).trans hx160_1
 replace hx160_2 := (HB.out.cell (World.block_lt_of_cell? w _ hx160_2)).trans hx160_2
 replace hx160_3 := (HB.out.cell (World.block_lt_of_cell? w _ hx160_3)).trans hx160_3
 replace p160 := eq_true p160
 replace q160 := eq_true q160
 go_wp2_with (first | ((with_reducible refine gate_dst (N := 4) rfl ?_); (try (refine gate_guard (by rfl) ?_; dsimp only)); refine box_event ?hg (N := 4) ?hd (cs := #[.int .i64 0, .int .i64 0, .int .i64 0, .int .i64 0]) (t := 47) ?hr ?_; (case hd => rfl); (case hg => rfl); (case hr => go_simp <;> rfl); intro gb161 hg w24 hbox hb; have BK161 := mK hbox; have GW161 := mK (gX hg HB); have GE161 := mK (gX hg HB); replace HB := bB HB hb; have NB158_161 := mK (lX hg BK158); have NB161_158 := mK (mX hg BK158); replace BK158 := kB BK158 hb; clear hb hbox hg; have hnb25 := NB161_158.out; have hnc25 := NB158_161.out; have hcz26_0 := q0 BK161; have hcz26_1 := q1 BK161; have hcz26_2 := q2 BK161; have hcz26_3 := q3 BK161; have hfz26_0 := fX BK161 0; have hfz26_1 := fX BK161 1; have hfz26_2 := fX BK161 2; have hfz26_3 := fX BK161 3; have hcz27_0 := q0 BK158; have hcz27_1 := q1 BK158; have hfz27_0 := fX BK158 0; have hfz27_1 := fX BK158 1) | ((with_reducible refine gate_callee (f := 41) rfl ?_); refine gsE (some 27) Try.func41 #[.int .i64 ((rd_T47 l0_1 x18_2).f0), .int .i64 0, .int .i64 (wrap64 (a0_0 - 1))] ?_; (with_reducible refine (spec_l01In.calls ((rd_T47 l0_1 x18_2).f0) 0 (wrap64 (a0_0 - 1)) true _ A13.out).mono ?_); rintro e w' ⟨rfl, ⟨nd, rfl⟩⟩; refine ⟨_, rfl, ?_⟩) | (go_at_call 41; (with_reducible refine (spec_l01In.calls ((rd_T47 l0_1 x18_2).f1) 0 (wrap64 (a0_0 - 1)) true _ A15.out).mono ?_); rintro e w' ⟨rfl, ⟨nd, rfl⟩⟩) | (go_at_call 42; (with_reducible refine (spec_IntervalOk.calls ((rd_T47 l0_1 x18_2).f2.f0) ((rd_T47 l0_1 x18_2).f2.f1) false _ A17.out).mono ?_); rintro e w28 ⟨rfl, hb⟩; have n0_ := mK (blk_below (g := gb158) (o := .cells #[.int .i64 a0_0, .slice (some ad160) l0_1.length c0_1] 29 (0, 0)) (kF BK158 NB158_161) hb); have n1_ := mK (blk_below (g := gb161) (o := .cells #[.int .i64 ((rd_T47 l0_1 x18_2).f0), .int .i64 ((rd_T47 l0_1 x18_2).f1), .int .i64 ((rd_T47 l0_1 x18_2).f2.f0), .int .i64 ((rd_T47 l0_1 x18_2).f2.f1)] 47 (0, 0)) (kP4 BK161) hb); have n2_ := bB HB hb; clear BK158; clear BK161; clear HB; have BK158 := n0_; have BK161 := n1_; have HB := n2_; clear n0_ n1_ n2_; (try clear hb); (try clear hb2); (try clear hk); (try clear hi)))
 go_ret
 exact ⟨by first | rfl | (simp [errW_none, errW_some] <;> rfl) | (simp [*, errW_none, errW_some] <;> rfl), bX HB⟩
 }
 subst c18
 rw [if_pos rfl] at H
 have H' := mK H
 clear H
 have p160 : 0 ≤ (x18_2 : Int) := of_decide_eq_true oX
 have q160 : x18_2 < (l0_1.length : Int) := of_decide_eq_true oX
 obtain ⟨ad160, e160, hx160_0, hx160_1, hx160_2, hx160_3⟩ := at_T47 HR0_1.out x18_2 p160 q160
 cases e160
 replace hx160_0 := (HB.out.cell (World.block_lt_of_cell? w _ hx160_0)).trans hx160_0
 replace hx160_1 := (HB.out.cell (World.block_lt_of_cell? w _ hx160_1)).trans hx160_1
 replace hx160_2 := (HB.out.cell (World.block_lt_of_cell? w _ hx160_2)).trans hx160_2
 replace hx160_3 := (HB.out.cell (World.block_lt_of_cell? w _ hx160_3)).trans hx160_3
 replace p160 := eq_true p160
 replace q160 := eq_true q160
 go_wp2_with (first | ((with_reducible refine gate_dst (N := 4) rfl ?_); (try (refine gate_guard (by rfl) ?_; dsimp only)); refine box_event ?hg (N := 4) ?hd (cs := #[.int .i64 0, .int .i64 0, .int .i64 0, .int .i64 0]) (t := 47) ?hr ?_; (case hd => rfl); (case hg => rfl); (case hr => go_simp <;> rfl); intro gb161 hg w19 hbox hb; have BK161 := mK hbox; have GW161 := mK (gX hg HB); have GE161 := mK (gX hg HB); replace HB := bB HB hb; have NB158_161 := mK (lX hg BK158); have NB161_158 := mK (mX hg BK158); replace BK158 := kB BK158 hb; clear hb hbox hg; have hnb20 := NB161_158.out; have hnc20 := NB158_161.out; have hcz21_0 := q0 BK161; have hcz21_1 := q1 BK161; have hcz21_2 := q2 BK161; have hcz21_3 := q3 BK161; have hfz21_0 := fX BK161 0; have hfz21_1 := fX BK161 1; have hfz21_2 := fX BK161 2; have hfz21_3 := fX BK161 3; have hcz22_0 := q0 BK158; have hcz22_1 := q1 BK158; have hfz22_0 := fX BK158 0; have hfz22_1 := fX BK158 1) | ((with_reducible refine gate_callee (f := 41) rfl ?_); refine gsE (some 27) Try.func41 #[.int .i64 ((rd_T47 l0_1 x18_2).f0), .int .i64 0, .int .i64 (wrap64 (a0_0 - 1))] ?_; (with_reducible refine (spec_l01In.calls ((rd_T47 l0_1 x18_2).f0) 0 (wrap64 (a0_0 - 1)) true _ A13.out).mono ?_); rintro e w' ⟨rfl, ⟨nd, rfl⟩⟩; refine ⟨_, rfl, ?_⟩) | (go_at_call 41; (with_reducible refine (spec_l01In.calls ((rd_T47 l0_1 x18_2).f1) 0 (wrap64 (a0_0 - 1)) true _ A15.out).mono ?_); rintro e w' ⟨rfl, ⟨nd, rfl⟩⟩) | (go_at_call 42; (with_reducible refine (spec_IntervalOk.calls ((rd_T47 l0_1 x18_2).f2.f0) ((rd_T47 l0_1 x18_2).f2.f1) true _ A17.out).mono ?_); rintro e w23 ⟨rfl, hb⟩; have n0_ := mK (blk_below (g := gb158) (o := .cells #[.int .i64 a0_0, .slice (some ad160) l0_1.length c0_1] 29 (0, 0)) (kF BK158 NB158_161) hb); have n1_ := mK (blk_below (g := gb161) (o := .cells #[.int .i64 ((rd_T47 l0_1 x18_2).f0), .int .i64 ((rd_T47 l0_1 x18_2).f1), .int .i64 ((rd_T47 l0_1 x18_2).f2.f0), .int .i64 ((rd_T47 l0_1 x18_2).f2.f1)] 47 (0, 0)) (kP4 BK161) hb); have n2_ := bB HB hb; clear BK158; clear BK161; clear HB; have BK158 := n0_; have BK161 := n1_; have HB := n2_; clear n0_ n1_ n2_; (try clear hb); (try clear hb2); (try clear hk); (try clear hi)))
 go_roundg k2
 case measure => have := HJ1.out; have := HK2.out; omega
 case rel => exact ⟨(wrap64 (x18_2 + 1)), (by first | rfl | (simp; done) | (simp [*]; done)), H', ⟨by have := HJ1.out; have := HK2.out; omega⟩, ⟨kX BK158⟩, ⟨bX HB⟩⟩
 )
 )
 )
 )

/-! ### spec_PartialOk: function 16 -/
mutual
def spec_PartialOk.j0 : Nat → List Int → Bool → Option (Bool)
  | 0, _, _ => none
  | k + 1, x1, x22 => if x22 = true then (some false) else (spec_PartialOk.l0 k x1 (x1.length : Int) 0)
def spec_PartialOk.l0 : Nat → List Int → Int → Int → Option (Bool)
  | 0, _, _, _ => none
  | k + 1, x23, x24, x25 => if x25 < x24 then (if 0 ≤ x25 then (if x25 < (x23.length : Int) then ((spec_l01In.f (rd x23 x25) (-1) 999999).bind fun t169 => (if t169 = true then (spec_PartialOk.l0 k x23 x24 (wrap64 (x25 + 1))) else (some false))) else (none)) else (none)) else (some true)
end
def spec_PartialOk.f (k : Nat) (a0_0 : Int) (l0_1 : List (S47)) (l1 : List Int) : Option (Bool) := (spec_SimpleOk.f k a0_0 l0_1).bind fun t166 => (if t166 = true then (if (l1.length : Int) = a0_0 then (if 0 < (l1.length : Int) then (spec_PartialOk.j0 k l1 ((rd l1 0) != 0)) else (none)) else (spec_PartialOk.j0 k l1 true)) else (spec_PartialOk.j0 k l1 true))
theorem spec_PartialOk.mono_l : ∀ k, (∀ y0 y1, LeO (spec_PartialOk.j0 k y0 y1) (spec_PartialOk.j0 (k + 1) y0 y1)) ∧ (∀ y0 y1 y2, LeO (spec_PartialOk.l0 k y0 y1 y2) (spec_PartialOk.l0 (k + 1) y0 y1 y2))
  | 0 => ⟨fun _ _ r h => by simp [spec_PartialOk.j0] at h, fun _ _ _ r h => by simp [spec_PartialOk.l0] at h⟩
  | k + 1 => by
    obtain ⟨ih0, ih1⟩ := spec_PartialOk.mono_l k
    refine ⟨?_, ?_⟩
    · intro y0 y1
      unfold spec_PartialOk.j0
      repeat' first|(with_reducible first|exact ih0 _ _|exact ih1 _ _ _|exact spec_SimpleOk.mono _ _ _|exact lR _|exact lN _|refine lI ?_ ?_|refine lB ?_ (fun _ => ?_))|exact ih0 _ _|exact ih1 _ _ _|exact spec_SimpleOk.mono _ _ _|exact lN _|refine lI ?_ ?_|refine lB ?_ (fun _ => ?_)
    · intro y0 y1 y2
      unfold spec_PartialOk.l0
      repeat' first|(with_reducible first|exact ih0 _ _|exact ih1 _ _ _|exact spec_SimpleOk.mono _ _ _|exact lR _|exact lN _|refine lI ?_ ?_|refine lB ?_ (fun _ => ?_))|exact ih0 _ _|exact ih1 _ _ _|exact spec_SimpleOk.mono _ _ _|exact lN _|refine lI ?_ ?_|refine lB ?_ (fun _ => ?_)
theorem spec_PartialOk.mono : ∀ a0 a1 a2 k, LeO (spec_PartialOk.f k a0 a1 a2) (spec_PartialOk.f (k + 1) a0 a1 a2) := by
  intro a0 a1 a2 k
  obtain ⟨ih0, ih1⟩ := spec_PartialOk.mono_l k
  unfold spec_PartialOk.f
  repeat' first|(with_reducible first|exact ih0 _ _|exact ih1 _ _ _|exact spec_SimpleOk.mono _ _ _|exact lR _|exact lN _|refine lI ?_ ?_|refine lB ?_ (fun _ => ?_))|exact ih0 _ _|exact ih1 _ _ _|exact spec_SimpleOk.mono _ _ _|exact lN _|refine lI ?_ ?_|refine lB ?_ (fun _ => ?_)
set_option maxHeartbeats 8000000 in
set_option maxRecDepth 100000 in
theorem spec_PartialOk.calls (k : Nat) (a0_0 : Int) (A0_1 : Option Addr) (c0_1 : Nat) (l0_1 : List (S47)) (A1 : Option Addr) (c1 : Nat) (l1 : List Int) (r : Bool) (w : World) (hr0_1 : Kd.C k47 w A0_1 l0_1.length l0_1) (hc0_1 : l0_1.length ≤ c0_1) (hr1 : Kd.C (Kd.int .i64) w A1 l1.length l1) (hc1 : l1.length ≤ c1) (h : spec_PartialOk.f k a0_0 l0_1 l1 = some r) :
    Calls Try.prog 16 #[.agg #[.int .i64 a0_0, .slice A0_1 l0_1.length c0_1], .slice A1 l1.length c1] w fun e w' => e = .returned (.bool r) ∧ Below w.heap.size w w' := by
  have hu29 := Try.underlying29
  have HR0_1 := mK hr0_1
  have HC0_1 := mK hc0_1
  clear hr0_1 hc0_1
  have HR1 := mK hr1
  have HC1 := mK hc1
  clear hr1 hc1
  have HB := mK (Below.refl w.heap.size w)
  have H : ((spec_SimpleOk.f k a0_0 l0_1).bind fun t166 => (if t166 = true then (if (l1.length : Int) = a0_0 then (if 0 < (l1.length : Int) then (spec_PartialOk.j0 k l1 ((rd l1 0) != 0)) else (none)) else (spec_PartialOk.j0 k l1 true)) else (spec_PartialOk.j0 k l1 true))) = some r := h
  clear h
  have HC3 := mK H
  clear H
  go_enter Try.func16, Try.ntmps16
  go_upto_region 1 with (first | ((with_reducible refine gate_dst (N := 2) rfl ?_); (try (refine gate_guard (by rfl) ?_; dsimp only)); refine box_event ?hg (N := 2) ?hd (cs := #[.int .i64 a0_0, .slice A0_1 l0_1.length c0_1]) (t := 29) ?hr ?_; (case hd => rfl); (case hg => rfl); (case hr => go_simp <;> rfl); intro gb165 hg w4 hbox hb; have BK165 := mK hbox; have GW165 := mK (gX hg HB); have GE165 := mK (gX hg HB); replace HB := bB HB hb; clear hb hbox hg))
  (try simp only [Act.put, sT, sZ, sU])
  go_cut [22] (fun v22 wc => ∃ (kq : Nat) (x22_2 : Bool), v22 = .bool x22_2 ∧ Aside0 (spec_PartialOk.j0 kq l1 x22_2 = some r) ∧ Aside0 (kq ≤ k) ∧ Aside0 (wc.heap[gb165]? = some (.cells #[.int .i64 a0_0, (.slice A0_1 l0_1.length c0_1)] 29 (0, 0))) ∧ Aside0 (Below w.heap.size w wc))
  case first =>
   have H := HC3.out
   clear HC3
   replace H := Option.bind_eq_some_iff.mp H
   obtain ⟨t166, A50, H⟩ := H
   replace H : (if t166 = true then (if (l1.length : Int) = a0_0 then (if 0 < (l1.length : Int) then (spec_PartialOk.j0 k l1 ((rd l1 0) != 0)) else (none)) else (spec_PartialOk.j0 k l1 true)) else (spec_PartialOk.j0 k l1 true)) = some r := H
   have A5 := mK A50
   clear A50
   by_cases c6 : t166 = true
   rotate_left
   · replace c6 := Bool.eq_false_iff.mpr c6
     subst c6
     rw [if_neg (show ¬ (false = true) by decide)] at H
     have H' := mK H
     clear H
     have hcz15_0 := q0 BK165
     have hcz15_1 := q1 BK165
     have hfz15_0 := fX BK165 0
     have hfz15_1 := fX BK165 1
     go_wp2_with (first | ((with_reducible refine gate_callee (f := 12) rfl ?_); refine gsE (some 8) Try.func12 #[.agg #[.int .i64 a0_0, .slice A0_1 l0_1.length c0_1]] ?_; (with_reducible refine (spec_SimpleOk.calls k a0_0 _ _ l0_1 false _ ?side1 ?side2 A5.out).mono ?_); (case side1 => exact cX HR0_1 HB); (case side2 => exact HC0_1.out); rintro e w16 ⟨rfl, hb⟩; refine ⟨_, rfl, ?_⟩; replace BK165 := kB BK165 hb; replace HB := bB HB hb; (try clear hb); (try clear hb2); (try clear hk); (try clear hi)))
     go_meet
     case rel => exact ⟨_, (true), (by first | rfl | (simp; done) | (simp [*]; done)), H', ⟨by first | omega | exact Nat.le_refl _⟩, ⟨kX BK165⟩, ⟨bX HB⟩⟩
   subst c6
   rw [if_pos rfl] at H
   by_cases c7 : (l1.length : Int) = a0_0
   rotate_left
   · rw [if_neg c7] at H
     have c7b0 : ((l1.length : Int) == a0_0) = false := beq_eq_false_iff_ne.mpr c7
     have c7b1 : ((l1.length : Int) != a0_0) = true := bne_iff_ne.mpr c7
     (first | rw [c7b0] | (simp only [i64_w, i32_w]; rw [c7b0]) | skip)
     have H' := mK H
     clear H
     have hcz12_0 := q0 BK165
     have hcz12_1 := q1 BK165
     have hfz12_0 := fX BK165 0
     have hfz12_1 := fX BK165 1
     go_wp2_with (first | ((with_reducible refine gate_callee (f := 12) rfl ?_); refine gsE (some 8) Try.func12 #[.agg #[.int .i64 a0_0, .slice A0_1 l0_1.length c0_1]] ?_; (with_reducible refine (spec_SimpleOk.calls k a0_0 _ _ l0_1 true _ ?side1 ?side2 A5.out).mono ?_); (case side1 => exact cX HR0_1 HB); (case side2 => exact HC0_1.out); rintro e w13 ⟨rfl, hb⟩; refine ⟨_, rfl, ?_⟩; replace BK165 := kB BK165 hb; replace HB := bB HB hb; (try clear hb); (try clear hb2); (try clear hk); (try clear hi); have hcz14_0 := q0 BK165; have hcz14_1 := q1 BK165; have hfz14_0 := fX BK165 0; have hfz14_1 := fX BK165 1))
     go_meet
     case rel => exact ⟨_, (true), (by first | rfl | (simp; done) | (simp [*]; done)), H', ⟨by first | omega | exact Nat.le_refl _⟩, ⟨kX BK165⟩, ⟨bX HB⟩⟩
   rw [if_pos c7] at H
   have c7b0 : ((l1.length : Int) == a0_0) = true := beq_iff_eq.mpr c7
   have c7b1 : ((l1.length : Int) != a0_0) = false := bne_eq_false_iff_eq.mpr c7
   clear c7
   (first | rw [c7b0] | (simp only [i64_w, i32_w]; rw [c7b0]) | skip)
   by_cases c8 : 0 < (l1.length : Int)
   rotate_left
   · rw [if_neg c8] at H
     exact absurd H (by simp)
   rw [if_pos c8] at H
   have c8b0 : decide (0 < (l1.length : Int)) = true := decide_eq_true c8
   have c8b1 : decide (0 < l1.length) = true := decide_eq_true (by omega)
   clear c8
   have H' := mK H
   clear H
   have hcz9_0 := q0 BK165
   have hcz9_1 := q1 BK165
   have hfz9_0 := fX BK165 0
   have hfz9_1 := fX BK165 1
   go_wp2_with (first | ((with_reducible refine gate_callee (f := 12) rfl ?_); refine gsE (some 8) Try.func12 #[.agg #[.int .i64 a0_0, .slice A0_1 l0_1.length c0_1]] ?_; (with_reducible refine (spec_SimpleOk.calls k a0_0 _ _ l0_1 true _ ?side1 ?side2 A5.out).mono ?_); (case side1 => exact cX HR0_1 HB); (case side2 => exact HC0_1.out); rintro e w10 ⟨rfl, hb⟩; refine ⟨_, rfl, ?_⟩; replace BK165 := kB BK165 hb; replace HB := bB HB hb; (try clear hb); (try clear hb2); (try clear hk); (try clear hi); have hcz11_0 := q0 BK165; have hcz11_1 := q1 BK165; have hfz11_0 := fX BK165 0; have hfz11_1 := fX BK165 1; have p167 : 0 ≤ (0 : Int) := (by omega); have q167 : 0 < (l1.length : Int) := of_decide_eq_true oX; obtain ⟨ad167, e167, hx167_0⟩ := Kd.at_int HR1.out 0 p167 q167; cases e167; have qi167 : (0 < l1.length) = True := eq_true (by omega); (try rw [show ((0 : Int)).toNat = 0 from rfl] at hx167_0); (try rw [Addr.add_zero'] at hx167_0); replace hx167_0 := (HB.out.cell (World.block_lt_of_cell? w _ hx167_0)).trans hx167_0; replace p167 := eq_true p167; replace q167 := eq_true q167))
   go_meet
   case rel => exact ⟨_, (((rd l1 0) != 0)), (by first | rfl | (simp; done) | (simp [*]; done)), H', ⟨by first | omega | exact Nat.le_refl _⟩, ⟨kX BK165⟩, ⟨bX HB⟩⟩
  case rest =>
   clear HC3
   try clear c1
   try clear p1
   try clear q1
   try clear hx1
   try clear qi1
   try clear p2
   try clear c6
   try clear c7
   try clear c7b0
   try clear c7b1
   try clear c8
   try clear c8b0
   try clear c8b1
   try clear c12
   try clear c16
   try clear p16
   try clear q16
   try clear hx16
   try clear qi16
   try clear hcz11_0
   try clear hcz11_1
   try clear hcz12_0
   try clear hcz12_1
   try clear hcz14_0
   try clear hcz14_1
   try clear hcz15_0
   try clear hcz15_1
   try clear hcz9_0
   try clear hcz9_1
   try clear hfz11_0
   try clear hfz11_1
   try clear hfz12_0
   try clear hfz12_1
   try clear hfz14_0
   try clear hfz14_1
   try clear hfz15_0
   try clear hfz15_1
   try clear hfz9_0
   try clear hfz9_1
   try clear hx167_0
   try clear p167
   try clear q167
   obtain ⟨kq, x22_2, rfl, HA, HJ2, BK165, HB⟩ := hcut
   cases kq with
   | zero => exact absurd HA.out (by simp [spec_PartialOk.j0])
   | succ kj2 =>
    have H := HA.out
    clear HA
    simp only [spec_PartialOk.j0] at H
    by_cases c17 : x22_2 = true
    · subst c17
      rw [if_pos rfl] at H
      obtain rfl := Option.some.inj H
      go_wp2
      go_ret
      exact ⟨by first | rfl | (simp [errW_none, errW_some] <;> rfl) | (simp [*, errW_none, errW_some] <;> rfl), bX HB⟩
    replace c17 := Bool.eq_false_iff.mpr c17
    subst c17
    rw [if_neg (show ¬ (false = true) by decide)] at H
    have H' := mK H
    clear H
    go_wp2
    go_loopg [25] kj2 (fun kq v25 w' => ∃ (x25_2 : Int), v25 = .int .i64 x25_2 ∧ Aside0 (spec_PartialOk.l0 kq l1 (l1.length : Int) x25_2 = some r) ∧ Aside0 (kq ≤ kj2) ∧ Aside0 (w'.heap[gb165]? = some (.cells #[.int .i64 a0_0, (.slice A0_1 l0_1.length c0_1)] 29 (0, 0))) ∧ Aside0 (Below w.heap.size w w'))
    case atStart => exact ⟨(0), (by first | rfl | (simp; done) | (simp [*]; done)), H', ⟨Nat.le_refl _⟩, ⟨kX BK165⟩, ⟨bX HB⟩⟩
    case round =>
     clear H'
     try clear c1
     try clear p1
     try clear q1
     try clear hx1
     try clear qi1
     try clear p2
     try clear c6
     try clear c7
     try clear c7b0
     try clear c7b1
     try clear c8
     try clear c8b0
     try clear c8b1
     try clear c12
     try clear c16
     try clear p16
     try clear q16
     try clear hx16
     try clear qi16
     try clear c17
     try clear hcz11_0
     try clear hcz11_1
     try clear hcz12_0
     try clear hcz12_1
     try clear hcz14_0
     try clear hcz14_1
     try clear hcz15_0
     try clear hcz15_1
     try clear hcz9_0
     try clear hcz9_1
     try clear hfz11_0
     try clear hfz11_1
     try clear hfz12_0
     try clear hfz12_1
     try clear hfz14_0
     try clear hfz14_1
     try clear hfz15_0
     try clear hfz15_1
     try clear hfz9_0
     try clear hfz9_1
     try clear hx167_0
     try clear p1
     try clear p16
     try clear p167
     try clear p2
     try clear q1
     try clear q16
     try clear q167
     obtain ⟨x25_2, rfl, HA, HK2, BK165, HB⟩ := hrel
     cases gk with
     | zero => exact absurd HA.out (by simp [spec_PartialOk.l0])
     | succ k2 =>
      have H := HA.out
      clear HA
      simp only [spec_PartialOk.l0] at H
      by_cases c18 : x25_2 < (l1.length : Int)
      rotate_left
      · rw [if_neg c18] at H
        have c18b0 : decide (x25_2 < (l1.length : Int)) = false := decide_eq_false c18
        clear c18
        obtain rfl := Option.some.inj H
        go_wp2
        go_ret
        exact ⟨by first | rfl | (simp [errW_none, errW_some] <;> rfl) | (simp [*, errW_none, errW_some] <;> rfl), bX HB⟩
      rw [if_pos c18] at H
      have c18b0 : decide (x25_2 < (l1.length : Int)) = true := decide_eq_true c18
      clear c18
      by_cases c19 : 0 ≤ x25_2
      rotate_left
      · rw [if_neg c19] at H
        exact absurd H (by simp)
      rw [if_pos c19] at H
      have c19b0 : decide (0 ≤ x25_2) = true := decide_eq_true c19
      clear c19
      by_cases c20 : x25_2 < (l1.length : Int)
      rotate_left
      · rw [if_neg c20] at H
        exact absurd H (by simp)
      rw [if_pos c20] at H
      have c20b0 : decide (x25_2 < (l1.length : Int)) = true := decide_eq_true c20
      clear c20
      replace H := Option.bind_eq_some_iff.mp H
      obtain ⟨t169, A210, H⟩ := H
      replace H : (if t169 = true then (spec_PartialOk.l0 k2 l1 (l1.length : Int) (wrap64 (x25_2 + 1))) else (some false)) = some r := H
      have A21 := mK A210
      clear A210
      by_cases c22 : t169 = true
      rotate_left
      · replace c22 := Bool.eq_false_iff.mpr c22
        subst c22
        rw [if_neg (show ¬ (false = true) by decide)] at H
        obtain rfl := Option.some.inj H
        have p168 : 0 ≤ (x25_2 : Int) := of_decide_eq_true oX
        have q168 : x25_2 < (l1.length : Int) := of_decide_eq_true oX
        obtain ⟨ad168, e168, hx168_0⟩ := Kd.at_int HR1.out x25_2 p168 q168
        cases e168
        replace hx168_0 := (HB.out.cell (World.block_lt_of_cell? w _ hx168_0)).trans hx168_0
        replace p168 := eq_true p168
        replace q168 := eq_true q168
        go_wp2_with (first | ((with_reducible refine gate_callee (f := 41) rfl ?_); refine gsE (some 30) Try.func41 #[.int .i64 (rd l1 x25_2), .int .i64 (-1), .int .i64 999999] ?_; (with_reducible refine (spec_l01In.calls (rd l1 x25_2) (-1) 999999 false _ A21.out).mono ?_); rintro e w' ⟨rfl, ⟨nd, rfl⟩⟩; refine ⟨_, rfl, ?_⟩))
        go_ret
        exact ⟨by first | rfl | (simp [errW_none, errW_some] <;> rfl) | (simp [*, errW_none, errW_some] <;> rfl), bX HB⟩
      subst c22
      rw [if_pos rfl] at H
      have H' := mK H
      clear H
      have p168 : 0 ≤ (x25_2 : Int) := of_decide_eq_true oX
      have q168 : x25_2 < (l1.length : Int) := of_decide_eq_true oX
      obtain ⟨ad168, e168, hx168_0⟩ := Kd.at_int HR1.out x25_2 p168 q168
      cases e168
      replace hx168_0 := (HB.out.cell (World.block_lt_of_cell? w _ hx168_0)).trans hx168_0
      replace p168 := eq_true p168
      replace q168 := eq_true q168
      go_wp2_with (first | ((with_reducible refine gate_callee (f := 41) rfl ?_); refine gsE (some 30) Try.func41 #[.int .i64 (rd l1 x25_2), .int .i64 (-1), .int .i64 999999] ?_; (with_reducible refine (spec_l01In.calls (rd l1 x25_2) (-1) 999999 true _ A21.out).mono ?_); rintro e w' ⟨rfl, ⟨nd, rfl⟩⟩; refine ⟨_, rfl, ?_⟩))
      go_roundg k2
      case measure => have := HJ2.out; have := HK2.out; omega
      case rel => exact ⟨(wrap64 (x25_2 + 1)), (by first | rfl | (simp; done) | (simp [*]; done)), H', ⟨by have := HJ2.out; have := HK2.out; omega⟩, ⟨kX BK165⟩, ⟨bX HB⟩⟩

/-! ### spec_l05Copy: function 58 -/
def spec_l05Copy.f (a0_0 : Int) (l0_1 : List (S47)) : Option (Int × (List (S47))) := (some (([] : List (S47)) : List (S47))).bind fun y172 => (if y172.length + l0_1.length < 4398046511104 then (some (a0_0, (y172 ++ l0_1))) else (none))
def spec_l05Copy.T1 : Bool × List (List Nat × List Nat) := (true, [([], []), ([0], [0]), ([], []), ([], []), ([3], [3]), ([2, 4], [2, 4]), ([1, 5], [1, 5]), ([6, 5, 0, 1, 2, 3, 4, 5, 6], [6])])
def spec_l05Copy.B1 : List Nat := [0, 1, 0, 0, 8, 28, 63, 127]
theorem spec_l05Copy.tab1 : rtab .any (opsOf Try.f58 1) = spec_l05Copy.T1 := by kernel_rfl
theorem spec_l05Copy.bits1 : waitsOk spec_l05Copy.T1.2 spec_l05Copy.B1 = true := by kernel_rfl
set_option maxHeartbeats 8000000 in
set_option maxRecDepth 100000 in
theorem spec_l05Copy.calls (a0_0 : Int) (A0_1 : Option Addr) (c0_1 : Nat) (l0_1 : List (S47)) (r1 : Int) (r2 : List (S47)) (w : World) (hr0_1 : Kd.C k47 w A0_1 l0_1.length l0_1) (hc0_1 : l0_1.length ≤ c0_1) (h : spec_l05Copy.f a0_0 l0_1 = some (r1, r2)) :
    Calls Try.prog 58 #[.agg #[.int .i64 a0_0, .slice A0_1 l0_1.length c0_1]] w fun e w' => ∃ v1_ : Value, e = .returned (.agg #[.int .i64 r1, v1_]) ∧ Kd.R k47 47 w' w.heap.size (fun _ => True) v1_ r2 ∧ Below w.heap.size w w' := by
  have hu29 := Try.underlying29
  have HR0_1 := mK hr0_1
  have HC0_1 := mK hc0_1
  clear hr0_1 hc0_1
  have HB := mK (Below.refl w.heap.size w)
  have H : ((some (([] : List (S47)) : List (S47))).bind fun y172 => (if y172.length + l0_1.length < 4398046511104 then (some (a0_0, (y172 ++ l0_1))) else (none))) = some (r1, r2) := h
  clear h
  obtain ⟨y172, hy172⟩ : ∃ y_ : List (S47), y_ = (([] : List (S47))) := ⟨_, rfl⟩
  replace H : (if y172.length + l0_1.length < 4398046511104 then (some (a0_0, (y172 ++ l0_1))) else (none)) = some (r1, r2) := by first | (rw [hy172]; with_reducible exact H) | (have H2_ := (Option.bind_some _ _).symm.trans H; rw [hy172]; with_reducible exact H2_) | (have H2_ := (Option.bind_some _ _).symm.trans H; with_reducible exact H2_) | with_reducible exact H | (rw [hy172]; exact H) | exact H
  have Ny172 := mK hy172
  clear hy172
  by_cases c2 : y172.length + l0_1.length < 4398046511104
  rotate_left
  · rw [if_neg c2] at H
    exact absurd H (by simp)
  rw [if_pos c2] at H
  have LMc2 := mK c2
  clear c2
  obtain ⟨y175, hy175⟩ : ∃ y_ : List (S47), y_ = (y172 ++ l0_1) := ⟨_, rfl⟩
  replace H : (some (a0_0, y175)) = some (r1, r2) := by first | (rw [hy175]; with_reducible exact H) | (have H2_ := (Option.bind_some _ _).symm.trans H; rw [hy175]; with_reducible exact H2_) | (have H2_ := (Option.bind_some _ _).symm.trans H; with_reducible exact H2_) | with_reducible exact H | (rw [hy175]; exact H) | exact H
  have Ny175 := mK hy175
  clear hy175
  simp only [Option.some.injEq, Prod.mk.injEq] at H
  obtain ⟨rfl, rfl⟩ := H
  go_enter Try.func58, Try.ntmps58
  try go_wp2_with (first | ((with_reducible refine gate_dst (N := 1) rfl ?_); refine bxE 1 #[.int .i64 a0_0, .slice A0_1 l0_1.length c0_1] 29 ?_; intro gb170 hg w3 hbox hb; have BK170 := mK hbox; have GW170 := mK (gX hg HB); have GE170 := mK (gX hg HB); replace HB := bB HB hb; clear hb hbox hg) | ((with_reducible refine gate_dst (N := 2) rfl ?_); refine bxE 2 #[.int .i64 0, .slice none 0 0] 29 ?_; intro gb171 hg w4 hbox hb; have BK171 := mK hbox; have GW171 := mK (gX hg HB); have GE171 := mK (gX hg HB); replace HB := bB HB hb; have NB170_171 := mK (lX hg BK170); have NB171_170 := mK (mX hg BK170); replace BK170 := kB BK170 hb; clear hb hbox hg))
  have n0_ := mK (blk_drew BK170.out)
  have n1_ := mK (blk_drew BK171.out)
  have n2_ := mK (below_drew1 HB.out)
  clear BK170
  clear BK171
  clear HB
  have BK170 := n0_
  have BK171 := n1_
  have HB := n2_
  clear n0_ n1_ n2_
  refine start_ (n := 8) (S := fun w' => w'.cell? ⟨gb170, 0, none⟩ = some (.int .i64 a0_0) ∧ w'.cell? ⟨gb170, 1, none⟩ = some (.slice A0_1 l0_1.length c0_1)) (ds := []) (bs 0 8) (by kernel_rfl) rfl (by kernel_rfl) ⟨(blk_cell BK170.out 0).trans rfl, (blk_cell BK170.out 1).trans rfl⟩ (fun hHeld => ?_); refine with_tabW spec_l05Copy.tab1 spec_l05Copy.bits1 (fun HT_ HW_ => ?_)
  generalize w4.drew = w5 at BK170 BK171 HB hHeld ⊢
  refine pure_ (i := 0) (N := some 3) (v := ?_) (a' := ?_) (bs 1 8) rfl rfl (any_of HT_.out (by kernel_rfl)) (fun _ _ _ h => h) (Or.inl ⟨by rfl, ?_⟩) ?_ ?_
  rotate_left
  · intro w'
    go_simp
    with_reducible rfl
  rotate_left
  · simp only [Act.put, sT, sZ, sU, i64_w, i32_w]
    rfl
  refine pure_ (i := 3) (N := some 6) (v := ?_) (a' := ?_) #[true, false, false, true, false, false, false, false] rfl rfl (any_of HT_.out (by kernel_rfl)) (fun _ _ _ h => h) (Or.inl ⟨by rfl, ?_⟩) ?_ ?_
  rotate_left
  · intro w'
    go_simp
    with_reducible rfl
  rotate_left
  · simp only [Act.put, sT, sZ, sU, i64_w, i32_w]
    rfl
  refine take_ (i := 1) (N := some 4) (v := ?_) (a' := ?_) #[true, true, false, true, false, false, false, false] rfl rfl (take_ofW HT_.out HW_.out (by kernel_rfl)) (fun _ _ _ h => h) (Or.inl ⟨by rfl, ?_⟩) hHeld ?_ ?_
  rotate_left
  · rintro w' ⟨s0, s1⟩
    go_simp
    with_reducible rfl
  rotate_left
  · simp only [Act.put, sT, sZ, sU, i64_w, i32_w]
    rfl
  refine take_ (i := 4) (N := some 7) (v := ?_) (a' := ?_) #[true, true, false, true, true, false, false, false] rfl rfl (take_ofW HT_.out HW_.out (by kernel_rfl)) (fun _ _ _ h => h) (Or.inl ⟨by rfl, ?_⟩) hHeld ?_ ?_
  rotate_left
  · rintro w' ⟨s0, s1⟩
    go_simp
    with_reducible rfl
  rotate_left
  · simp only [Act.put, sT, sZ, sU, i64_w, i32_w]
    rfl
  refine one_ (i := 2) (N := some 5) (bs 5 8) rfl rfl (one_of HT_.out (by kernel_rfl)) (by decide) (fun K hK => ?_)
  refine Kd.R_lit_step k47 _ 47 ?hg (N := 5) ?hd (xs := ([] : List (S47))) (inner := []) (ok := fun _ => True) (okp := fun _ => True) ?hr ?hp (fun _ hk => hk) trivial (Below.refl _ _) (Nat.le_refl _) (by simp) ?_; (case hd => rfl); (case hg => rfl); (case hr => go_simp <;> rfl); (case hp => exact (Reps.none _ _))
  intro v173 w6 ho7 hb hg_ hnew_
  clear hg_ hnew_
  (first | rw [← Ny172.out] at ho7 | (simp only [Int.reduceToNat] at ho7; rw [← Ny172.out] at ho7))
  have n0_ := mK (Kd.R_lower ho7 (below_size (bX HB)))
  have n1_ := kB BK170 hb
  have n2_ := kB BK171 hb
  have n3_ := bB HB hb
  clear BK170
  clear BK171
  clear HB
  have HO174 := n0_
  have BK170 := n1_
  have BK171 := n2_
  have HB := n3_
  clear n0_ n1_ n2_ n3_
  clear hb ho7
  refine hK.out _ _ ⟨(blk_cell BK170.out 0).trans rfl, (blk_cell BK170.out 1).trans rfl⟩ (fun hHeld => ?_)
  clear hK K
  refine norm_ (a' := ?_) ?_ ?_
  rotate_left
  · show Act.put _ (some 5) _ = _
    simp only [Act.put, sT, sZ, sU, i64_w, i32_w]
    rfl
  refine one_ (i := 5) (N := some 8) (bs 6 8) rfl rfl (one_of HT_.out (by kernel_rfl)) (by decide) (fun K hK => ?_)
  refine Kd.R_append_rows_step k47 (w0 := w) w.heap.size (by rfl) (.tmp 5) (.tmp 7) 27 47 (.agg #[(.int .i64 0), (.int .i64 0), (.int .i64 0), (.int .i64 0)]) 32 rfl Try.underlying27 info47 rfl (by decide) (by omega) v173 y172 l0_1 _ _ _ (fun _ => True) (fun _ => False) rfl rfl ?aO ?aR (fun _ _ h => h) (fun _ h => h.elim) ?aF ?aB ?aS ?aL ?_
  (case aR => exact cX HR0_1 HB)
  (case aB => exact (bX HB))
  (case aF => exact (fun _ _ => trivial))
  (case aO => exact (rX HO174))
  (case aS => exact (below_size (bX HB)))
  (case aL => have := LMc2.out; omega)
  intro v176 w8 ho hb hg hat
  rw [← Ny175.out] at ho
  have n0_ := mK (blk_grown (kX BK170) hg (Kd.R_ne HO174.out BK170.out (by decide)))
  have n1_ := mK (blk_grown (kX BK171) hg (Kd.R_ne HO174.out BK171.out (by decide)))
  have n2_ := mK (hb)
  have n3_ := mK (ho)
  clear BK170
  clear BK171
  clear HB
  clear HO174
  have BK170 := n0_
  have BK171 := n1_
  have HB := n2_
  have HO177 := n3_
  clear n0_ n1_ n2_ n3_
  clear ho hb hg hat
  obtain ⟨Ao9, co9, eo9⟩ := Kd.R_slice HO177.out
  (first | subst eo9 | (injection eo9 with f1_ f2_ f3_; have f4_ := f1_.symm; have f5_ := f3_.symm; clear f1_ f2_ f3_; subst f4_; subst f5_))
  refine hK.out _ _ ⟨(blk_cell BK170.out 0).trans rfl, (blk_cell BK170.out 1).trans rfl⟩ (fun hHeld => ?_)
  clear hK K
  refine norm_ (a' := ?_) ?_ ?_
  rotate_left
  · show Act.put _ (some 8) _ = _
    simp only [Act.put, sT, sZ, sU, i64_w, i32_w]
    rfl
  refine pure_ (i := 6) (N := some 9) (v := ?_) (a' := ?_) (bs 7 8) rfl rfl (any_of HT_.out (by kernel_rfl)) (fun _ _ _ h => h) (Or.inl ⟨by rfl, ?_⟩) ?_ ?_
  rotate_left
  · intro w'
    go_simp
    with_reducible rfl
  rotate_left
  · simp only [Act.put, sT, sZ, sU, i64_w, i32_w]
    rfl
  refine one_ (i := 7) (N := none) (bs 8 8) rfl rfl (one_of HT_.out (by kernel_rfl)) (by decide) (fun K hK => ?_)
  have hs10 : w8.cell? ⟨gb171, 0, none⟩ = some (.int .i64 0) := (blk_cell BK171.out 0).trans rfl
  have hfs10 := fX BK171 0
  have hns10_0 := NB170_171.out
  have hms10_0 := NB171_170.out
  have hs11 : w8.cell? ⟨gb171, 1, none⟩ = some (.slice none 0 0) := (blk_cell BK171.out 1).trans rfl
  have hfs11 := fX BK171 1
  have hns11_0 := NB170_171.out
  have hms11_0 := NB171_170.out
  refine skip_ (w1 := ?_) (by rfl) rfl ?_ ?_
  rotate_left
  · go_simp
    rfl
  refine hK.out _ _ ⟨((cell_far (p := ⟨gb171, _, none⟩) NB170_171.out _).trans (((cell_far (p := ⟨gb171, _, none⟩) NB170_171.out _).trans (hHeld.1)))), ((cell_far (p := ⟨gb171, _, none⟩) NB170_171.out _).trans (((cell_far (p := ⟨gb171, _, none⟩) NB170_171.out _).trans (hHeld.2))))⟩ (fun hHeld => ?_)
  clear hK K
  refine done_ (done_of HT_.out (by kernel_rfl)) ?_
  try go_wp2
  refine bodyPost_ret (results_cell_row rfl _ _ gb171 29 #[.int .i64 a0_0, .slice Ao9 y175.length co9] (0, 0) _ rfl (kP2 BK171) Try.underlying29 rfl (by kernel_rfl)) rfl ?_
  exact ⟨_, by first | rfl | (simp [errW_none, errW_some] <;> rfl) | (simp [*, errW_none, errW_some] <;> rfl), rF2 HO177 BK171, bX HB⟩

end Go.Proofs.Ytolecnichpnhnaa.QFnExactFixTimes
