-- Written by this session's program wip/tools/mk.py out of the translation; Lean checks it.
import Derived.Test.YtbbblnmngjhadaaQFnExactLatestTimesx0
import Derived.Test.YtbbblnmngjhadaaQFnExactLatestTimesx2
import Derived.Test.YtbbblnmngjhadaaQFnExactLatestTimesx3
namespace Go.Proofs.Ytbbblnmngjhadaa.QFnExactLatestTimes
open Go.RowKit Go.Proofs.YtbbblnmngjhadaaW.PrintWords Go.Proofs.YtbbblnmngjhadaaW.PrintLast Go.Proofs.YtbbblnmngjhadaaW.PrintMore
attribute [local go_sem] max2_int min2_int max_two min_two max_three min_three max_four min_four   -- for this text's walks alone
set_option linter.unusedVariables false
set_option linter.unusedSimpArgs false

/-! ### spec_ShortestFrom: function 56 -/
mutual
def spec_ShortestFrom.j0 : Nat → Int → Bool → Int → List (S70) → Option (List Int × Bool)
  | 0, _, _, _, _ => none
  | k + 1, x1, x21, x171000, x171001 => if x21 = true then (some (([] : List Int), false)) else (if 0 ≤ x171000 then (if (x171000 : Int).toNat ≤ 35184372088832 then (if (x171000 : Int).toNat ≤ 281474976710656 then ((some (List.replicate (x171000 : Int).toNat false : List Bool)).bind fun y179 => (if 0 ≤ x1 then (if x1 < (y179.length : Int) then (spec_ShortestFrom.l0 k (List.replicate (x171000 : Int).toNat 0) (List.replicate (x171000 : Int).toNat 0) (y179.set (x1 : Int).toNat true) 0 x171000 x171001) else (none)) else (none))) else (none)) else (none)) else (none))
def spec_ShortestFrom.l0 : Nat → List Int → List Int → List Bool → Int → Int → List (S70) → Option (List Int × Bool)
  | 0, _, _, _, _, _, _ => none
  | k + 1, x6, x7, x8, x9, x171000, x171001 => if x9 < x171000 then ((spec_l03Round.f k x171000 x171001 x6 x7 x8).bind fun bt183 => (if bt183.1 < 0 then (spec_ShortestFrom.l1 k bt183.2.1 bt183.2.2.2 (x6.length : Int) 0) else (spec_ShortestFrom.l0 k bt183.2.1 bt183.2.2.1 bt183.2.2.2 (wrap64 (x9 + 1)) x171000 x171001))) else (some (([] : List Int), false))
def spec_ShortestFrom.l1 : Nat → List Int → List Bool → Int → Int → Option (List Int × Bool)
  | 0, _, _, _, _ => none
  | k + 1, x6, x8, x47, x48 => if x48 < x47 then (if 0 ≤ x48 then (if x48 < (x8.length : Int) then (if rdOf false x8 x48 = true then (if x48 < (x6.length : Int) then (if (rd x6 x48) > 1000000 then (spec_ShortestFrom.l1 k (x6.set (x48 : Int).toNat 1000000) x8 x47 (wrap64 (x48 + 1))) else (spec_ShortestFrom.l1 k x6 x8 x47 (wrap64 (x48 + 1)))) else (none)) else (if x48 < (x6.length : Int) then (spec_ShortestFrom.l1 k (x6.set (x48 : Int).toNat 1000000) x8 x47 (wrap64 (x48 + 1))) else (none))) else (none)) else (none)) else (some (x6, true))
end
def spec_ShortestFrom.f (k : Nat) (a0_0 : Int) (l0_1 : List (S70)) (a1 : Int) : Option (List Int × Bool) := (spec_GraphOk.f k a0_0 l0_1).bind fun t171 => (if t171 = true then ((spec_l01In.f a1 0 (wrap64 (a0_0 - 1))).bind fun t172 => (spec_ShortestFrom.j0 k a1 (!t172) a0_0 l0_1)) else (spec_ShortestFrom.j0 k a1 true a0_0 l0_1))
theorem spec_ShortestFrom.mono_l : ∀ k, (∀ y0 y1 y2 y3, LeO (spec_ShortestFrom.j0 k y0 y1 y2 y3) (spec_ShortestFrom.j0 (k + 1) y0 y1 y2 y3)) ∧ (∀ y0 y1 y2 y3 y4 y5, LeO (spec_ShortestFrom.l0 k y0 y1 y2 y3 y4 y5) (spec_ShortestFrom.l0 (k + 1) y0 y1 y2 y3 y4 y5)) ∧ (∀ y0 y1 y2 y3, LeO (spec_ShortestFrom.l1 k y0 y1 y2 y3) (spec_ShortestFrom.l1 (k + 1) y0 y1 y2 y3))
  | 0 => ⟨fun _ _ _ _ r h => by simp [spec_ShortestFrom.j0] at h, fun _ _ _ _ _ _ r h => by simp [spec_ShortestFrom.l0] at h, fun _ _ _ _ r h => by simp [spec_ShortestFrom.l1] at h⟩
  | k + 1 => by
    obtain ⟨ih0, ih1, ih2⟩ := spec_ShortestFrom.mono_l k
    refine ⟨?_, ?_, ?_⟩
    · intro y0 y1 y2 y3
      unfold spec_ShortestFrom.j0
      repeat' first|(with_reducible first|exact ih0 _ _ _ _|exact ih1 _ _ _ _ _ _|exact ih2 _ _ _ _|exact spec_GraphOk.mono _ _ _|exact spec_l03Round.mono _ _ _ _ _ _|exact lR _|exact lN _|refine lI ?_ ?_|refine lB ?_ (fun _ => ?_))|exact ih0 _ _ _ _|exact ih1 _ _ _ _ _ _|exact ih2 _ _ _ _|exact spec_GraphOk.mono _ _ _|exact spec_l03Round.mono _ _ _ _ _ _|exact lN _|refine lI ?_ ?_|refine lB ?_ (fun _ => ?_)
    · intro y0 y1 y2 y3 y4 y5
      unfold spec_ShortestFrom.l0
      repeat' first|(with_reducible first|exact ih0 _ _ _ _|exact ih1 _ _ _ _ _ _|exact ih2 _ _ _ _|exact spec_GraphOk.mono _ _ _|exact spec_l03Round.mono _ _ _ _ _ _|exact lR _|exact lN _|refine lI ?_ ?_|refine lB ?_ (fun _ => ?_))|exact ih0 _ _ _ _|exact ih1 _ _ _ _ _ _|exact ih2 _ _ _ _|exact spec_GraphOk.mono _ _ _|exact spec_l03Round.mono _ _ _ _ _ _|exact lN _|refine lI ?_ ?_|refine lB ?_ (fun _ => ?_)
    · intro y0 y1 y2 y3
      unfold spec_ShortestFrom.l1
      repeat' first|(with_reducible first|exact ih0 _ _ _ _|exact ih1 _ _ _ _ _ _|exact ih2 _ _ _ _|exact spec_GraphOk.mono _ _ _|exact spec_l03Round.mono _ _ _ _ _ _|exact lR _|exact lN _|refine lI ?_ ?_|refine lB ?_ (fun _ => ?_))|exact ih0 _ _ _ _|exact ih1 _ _ _ _ _ _|exact ih2 _ _ _ _|exact spec_GraphOk.mono _ _ _|exact spec_l03Round.mono _ _ _ _ _ _|exact lN _|refine lI ?_ ?_|refine lB ?_ (fun _ => ?_)
theorem spec_ShortestFrom.mono : ∀ a0 a1 a2 k, LeO (spec_ShortestFrom.f k a0 a1 a2) (spec_ShortestFrom.f (k + 1) a0 a1 a2) := by
  intro a0 a1 a2 k
  obtain ⟨ih0, ih1, ih2⟩ := spec_ShortestFrom.mono_l k
  unfold spec_ShortestFrom.f
  repeat' first|(with_reducible first|exact ih0 _ _ _ _|exact ih1 _ _ _ _ _ _|exact ih2 _ _ _ _|exact spec_GraphOk.mono _ _ _|exact spec_l03Round.mono _ _ _ _ _ _|exact lR _|exact lN _|refine lI ?_ ?_|refine lB ?_ (fun _ => ?_))|exact ih0 _ _ _ _|exact ih1 _ _ _ _ _ _|exact ih2 _ _ _ _|exact spec_GraphOk.mono _ _ _|exact spec_l03Round.mono _ _ _ _ _ _|exact lN _|refine lI ?_ ?_|refine lB ?_ (fun _ => ?_)
set_option maxHeartbeats 8000000 in
set_option maxRecDepth 100000 in
theorem spec_ShortestFrom.calls (k : Nat) (a0_0 : Int) (A0_1 : Option Addr) (c0_1 : Nat) (l0_1 : List (S70)) (a1 : Int) (r1 : List Int) (r2 : Bool) (w : World) (hr0_1 : Kd.C k70 w A0_1 l0_1.length l0_1) (hc0_1 : l0_1.length ≤ c0_1) (h : spec_ShortestFrom.f k a0_0 l0_1 a1 = some (r1, r2)) :
    Calls Try.prog 56 #[.agg #[.int .i64 a0_0, .slice A0_1 l0_1.length c0_1], .int .i64 a1] w fun e w' => ∃ v0_ : Value, e = .returned (.tuple #[v0_, .bool r2]) ∧ Kd.R (Kd.int .i64) 3 w' w.heap.size (fun _ => True) v0_ r1 ∧ Below w.heap.size w w' := by
 have hu33 := Try.underlying33
 have HR0_1 := mK hr0_1
 have HC0_1 := mK hc0_1
 clear hr0_1 hc0_1
 have HB := mK (Below.refl w.heap.size w)
 have H : ((spec_GraphOk.f k a0_0 l0_1).bind fun t171 => (if t171 = true then ((spec_l01In.f a1 0 (wrap64 (a0_0 - 1))).bind fun t172 => (spec_ShortestFrom.j0 k a1 (!t172) a0_0 l0_1)) else (spec_ShortestFrom.j0 k a1 true a0_0 l0_1))) = some (r1, r2) := h
 clear h
 have HC3 := mK H
 clear H
 go_enter Try.func56, Try.ntmps56
 go_upto_region 1 with (first | ((with_reducible refine gate_dst (N := 2) rfl ?_); refine bxE 2 #[.int .i64 a0_0, .slice A0_1 l0_1.length c0_1] 33 ?_; intro gb170 hg w4 hbox hb; have BK170 := mK hbox; have GW170 := mK (gX hg HB); have GE170 := mK (gX hg HB); replace HB := bB HB hb; clear hb hbox hg))
 (try simp only [Act.put, sT, sZ, sU])
 go_cut [21] (fun v21 wc => ∃ (kq : Nat) (x21_2 : Bool), v21 = .bool x21_2 ∧ Aside0 (spec_ShortestFrom.j0 kq a1 x21_2 a0_0 l0_1 = some (r1, r2)) ∧ Aside0 (kq ≤ k) ∧ Aside0 (wc.heap[gb170]? = some (.cells #[.int .i64 a0_0, (.slice A0_1 l0_1.length c0_1)] 33 (0, 0))) ∧ Aside0 (Below w.heap.size w wc))
 case first => (
 have H := HC3.out
 clear HC3
 replace H := Option.bind_eq_some_iff.mp H
 obtain ⟨t171, A50, H⟩ := H
 replace H : (if t171 = true then ((spec_l01In.f a1 0 (wrap64 (a0_0 - 1))).bind fun t172 => (spec_ShortestFrom.j0 k a1 (!t172) a0_0 l0_1)) else (spec_ShortestFrom.j0 k a1 true a0_0 l0_1)) = some (r1, r2) := H
 have A5 := mK A50
 clear A50
 by_cases c6 : t171 = true
 rotate_left
 {
 replace c6 := Bool.eq_false_iff.mpr c6
 subst c6
 rw [if_neg (show ¬ (false = true) by decide)] at H
 have H' := mK H
 clear H
 have hcz11_0 := q0 BK170
 have hcz11_1 := q1 BK170
 have hfz11_0 := fX BK170 0
 have hfz11_1 := fX BK170 1
 go_wp2_with (first | ((with_reducible refine gate_callee (f := 55) rfl ?_); refine gsE (some 12) Try.func55 #[.agg #[.int .i64 a0_0, .slice A0_1 l0_1.length c0_1]] ?_; (with_reducible refine (spec_GraphOk.calls k a0_0 _ _ l0_1 false _ ?side1 ?side2 A5.out).mono ?_); (case side1 => exact cX HR0_1 HB); (case side2 => exact HC0_1.out); rintro e w12 ⟨rfl, hb⟩; refine ⟨_, rfl, ?_⟩; replace BK170 := kB BK170 hb; replace HB := bB HB hb; (try clear hb); (try clear hb2); (try clear hk); (try clear hi)))
 go_meet
 case rel => exact ⟨_, (true), (by first | rfl | (simp; done) | (simp [*]; done)), H', ⟨by first | omega | exact Nat.le_refl _⟩, ⟨kX BK170⟩, ⟨bX HB⟩⟩
 }
 subst c6
 rw [if_pos rfl] at H
 replace H := Option.bind_eq_some_iff.mp H
 obtain ⟨t172, A70, H⟩ := H
 replace H : (spec_ShortestFrom.j0 k a1 (!t172) a0_0 l0_1) = some (r1, r2) := H
 have A7 := mK A70
 clear A70
 have H' := mK H
 clear H
 have hcz8_0 := q0 BK170
 have hcz8_1 := q1 BK170
 have hfz8_0 := fX BK170 0
 have hfz8_1 := fX BK170 1
 go_wp2_with (first | ((with_reducible refine gate_callee (f := 55) rfl ?_); refine gsE (some 12) Try.func55 #[.agg #[.int .i64 a0_0, .slice A0_1 l0_1.length c0_1]] ?_; (with_reducible refine (spec_GraphOk.calls k a0_0 _ _ l0_1 true _ ?side1 ?side2 A5.out).mono ?_); (case side1 => exact cX HR0_1 HB); (case side2 => exact HC0_1.out); rintro e w9 ⟨rfl, hb⟩; refine ⟨_, rfl, ?_⟩; replace BK170 := kB BK170 hb; replace HB := bB HB hb; (try clear hb); (try clear hb2); (try clear hk); (try clear hi); have hcz10_0 := q0 BK170; have hcz10_1 := q1 BK170; have hfz10_0 := fX BK170 0; have hfz10_1 := fX BK170 1) | (go_at_call 96; (with_reducible refine (spec_l01In.calls a1 0 (wrap64 (a0_0 - 1)) t172 _ A7.out).mono ?_); rintro e w' ⟨rfl, ⟨nd, rfl⟩⟩))
 go_meet
 case rel => exact ⟨_, (!t172), (by first | rfl | (simp; done) | (simp [*]; done)), H', ⟨by first | omega | exact Nat.le_refl _⟩, ⟨kX BK170⟩, ⟨bX HB⟩⟩
 )
 case rest => (
 clear HC3
 try clear p2
 try clear c5
 try clear c6
 try clear p6
 try clear hcz10_0
 try clear hcz10_1
 try clear hcz11_0
 try clear hcz11_1
 try clear hcz8_0
 try clear hcz8_1
 try clear hfz10_0
 try clear hfz10_1
 try clear hfz11_0
 try clear hfz11_1
 try clear hfz8_0
 try clear hfz8_1
 obtain ⟨kq, x21_2, rfl, HA, HJ2, BK170, HB⟩ := hcut
 cases kq with
 | zero => exact absurd HA.out (by simp [spec_ShortestFrom.j0])
 | succ kj2 => (
 have H := HA.out
 clear HA
 simp only [spec_ShortestFrom.j0] at H
 by_cases c13 : x21_2 = true
 {
 subst c13
 rw [if_pos rfl] at H
 simp only [Option.some.injEq, Prod.mk.injEq] at H
 obtain ⟨rfl, rfl⟩ := H
 go_wp2
 go_ret2
 exact ⟨_, by first | rfl | (simp [errW_none, errW_some] <;> rfl) | (simp [*, errW_none, errW_some] <;> rfl), by first | exact Kd.R_nil _ _ _ _ _ | exact Kd.N_nil _ _ _ _ _ | exact Kd.V_nil _ _ _ _ _ | exact Kd.Q_nil _ _ _ _ _ | exact Kd.S_nil _ _ _ _ _, bX HB⟩
 }
 replace c13 := Bool.eq_false_iff.mpr c13
 subst c13
 rw [if_neg (show ¬ (false = true) by decide)] at H
 by_cases c14 : 0 ≤ a0_0
 rotate_left
 {
 rw [if_neg c14] at H
 exact absurd H (by simp)
 }
 rw [if_pos c14] at H
 have c14b0 := eq_true c14
 have c14b1 : decide (0 ≤ a0_0) = true := decide_eq_true c14
 clear c14
 by_cases c15 : (a0_0 : Int).toNat ≤ 35184372088832
 rotate_left
 {
 rw [if_neg c15] at H
 exact absurd H (by simp)
 }
 rw [if_pos c15] at H
 have c15b0 := eq_true c15
 have c15b1 : decide ((a0_0 : Int).toNat ≤ 35184372088832) = true := decide_eq_true c15
 clear c15
 obtain ⟨y173, hy173⟩ : ∃ y_ : List Int, y_ = (List.replicate (a0_0 : Int).toNat 0) := ⟨_, rfl⟩
 replace H : (if (a0_0 : Int).toNat ≤ 281474976710656 then ((some (List.replicate (a0_0 : Int).toNat false : List Bool)).bind fun y179 => (if 0 ≤ a1 then (if a1 < (y179.length : Int) then (spec_ShortestFrom.l0 kj2 y173 (List.replicate (a0_0 : Int).toNat 0) (y179.set (a1 : Int).toNat true) 0 a0_0 l0_1) else (none)) else (none))) else (none)) = some (r1, r2) := by first | (rw [hy173]; with_reducible exact H) | (have H2_ := (Option.bind_some _ _).symm.trans H; rw [hy173]; with_reducible exact H2_) | (have H2_ := (Option.bind_some _ _).symm.trans H; with_reducible exact H2_) | with_reducible exact H | (rw [hy173]; exact H) | exact H
 have Ny173 := mK hy173
 clear hy173
 obtain ⟨y176, hy176⟩ : ∃ y_ : List Int, y_ = (List.replicate (a0_0 : Int).toNat 0) := ⟨_, rfl⟩
 replace H : (if (a0_0 : Int).toNat ≤ 281474976710656 then ((some (List.replicate (a0_0 : Int).toNat false : List Bool)).bind fun y179 => (if 0 ≤ a1 then (if a1 < (y179.length : Int) then (spec_ShortestFrom.l0 kj2 y173 y176 (y179.set (a1 : Int).toNat true) 0 a0_0 l0_1) else (none)) else (none))) else (none)) = some (r1, r2) := by first | (rw [hy176]; with_reducible exact H) | (have H2_ := (Option.bind_some _ _).symm.trans H; rw [hy176]; with_reducible exact H2_) | (have H2_ := (Option.bind_some _ _).symm.trans H; with_reducible exact H2_) | with_reducible exact H | (rw [hy176]; exact H) | exact H
 have Ny176 := mK hy176
 clear hy176
 by_cases c16 : (a0_0 : Int).toNat ≤ 281474976710656
 rotate_left
 {
 rw [if_neg c16] at H
 exact absurd H (by simp)
 }
 rw [if_pos c16] at H
 have c16b0 := eq_true c16
 have c16b1 : decide ((a0_0 : Int).toNat ≤ 281474976710656) = true := decide_eq_true c16
 clear c16
 obtain ⟨y179, hy179⟩ : ∃ y_ : List Bool, y_ = (List.replicate (a0_0 : Int).toNat false) := ⟨_, rfl⟩
 replace H : (if 0 ≤ a1 then (if a1 < (y179.length : Int) then (spec_ShortestFrom.l0 kj2 y173 y176 (y179.set (a1 : Int).toNat true) 0 a0_0 l0_1) else (none)) else (none)) = some (r1, r2) := by first | (rw [hy179]; with_reducible exact H) | (have H2_ := (Option.bind_some _ _).symm.trans H; rw [hy179]; with_reducible exact H2_) | (have H2_ := (Option.bind_some _ _).symm.trans H; with_reducible exact H2_) | with_reducible exact H | (rw [hy179]; exact H) | exact H
 have Ny179 := mK hy179
 clear hy179
 by_cases c17 : 0 ≤ a1
 rotate_left
 {
 rw [if_neg c17] at H
 exact absurd H (by simp)
 }
 rw [if_pos c17] at H
 have c17b0 : decide (0 ≤ a1) = true := decide_eq_true c17
 clear c17
 by_cases c18 : a1 < (y179.length : Int)
 rotate_left
 {
 rw [if_neg c18] at H
 exact absurd H (by simp)
 }
 rw [if_pos c18] at H
 have c18b0 : decide (a1 < (y179.length : Int)) = true := decide_eq_true c18
 clear c18
 obtain ⟨y182, hy182⟩ : ∃ y_ : List Bool, y_ = (y179.set (a1 : Int).toNat true) := ⟨_, rfl⟩
 replace H : (spec_ShortestFrom.l0 kj2 y173 y176 y182 0 a0_0 l0_1) = some (r1, r2) := by first | (rw [hy182]; with_reducible exact H) | (have H2_ := (Option.bind_some _ _).symm.trans H; rw [hy182]; with_reducible exact H2_) | (have H2_ := (Option.bind_some _ _).symm.trans H; with_reducible exact H2_) | with_reducible exact H | (rw [hy182]; exact H) | exact H
 have Ny182 := mK hy182
 clear hy182
 have H' := mK H
 clear H
 have hcz20_0 := q0 BK170
 have hcz20_1 := q1 BK170
 have hfz20_0 := fX BK170 0
 have hfz20_1 := fX BK170 1
 go_wp2_with (first | ((with_reducible refine gate_dst (N := 24) rfl ?_); refine Kd.R_make (Kd.int .i64) _ 3 rfl (N := 24) rfl 26 _ _ rfl a0_0 rfl rfl Try.underlying26 (.int .i64 0) 8 info3 rfl (by decide) (by omega) 0 (ok := fun _ => True) (okp := fun _ => True) rfl (fun _ hk => hk) trivial (of_decide_eq_true oX) (Nat.le_trans (Nat.mul_le_mul_right _ (of_decide_eq_true oX : a0_0.toNat ≤ 35184372088832)) (by omega)) (Below.refl _ _) (Nat.le_refl _) ?_; intro v174 w21 ho22 hb hg_ hnew_; clear hg_ hnew_; (first | rw [← Ny173.out] at ho22 | (simp only [Int.reduceToNat] at ho22; rw [← Ny173.out] at ho22)); have HO175 := mK (Kd.R_lower ho22 (below_size (bX HB))); replace BK170 := kB BK170 hb; replace HB := bB HB hb; clear hb ho22; have hcz23_0 := q0 BK170; have hcz23_1 := q1 BK170; have hfz23_0 := fX BK170 0; have hfz23_1 := fX BK170 1) | ((with_reducible refine gate_dst (N := 27) rfl ?_); refine Kd.R_make (Kd.int .i64) _ 3 rfl (N := 27) rfl 26 _ _ rfl a0_0 rfl rfl Try.underlying26 (.int .i64 0) 8 info3 rfl (by decide) (by omega) 0 (ok := fun _ => True) (okp := fun _ => True) rfl (fun _ hk => hk) trivial (of_decide_eq_true oX) (Nat.le_trans (Nat.mul_le_mul_right _ (of_decide_eq_true oX : a0_0.toNat ≤ 35184372088832)) (by omega)) (Below.refl _ _) (Nat.le_refl _) ?_; intro v177 w24 ho25 hb hg_ hnew_; clear hg_ hnew_; (first | rw [← Ny176.out] at ho25 | (simp only [Int.reduceToNat] at ho25; rw [← Ny176.out] at ho25)); have HO178 := mK (Kd.R_lower (Kd.R_new' ho25 (Kd.R_lt (rX HO175))) (below_size (bX HB))); replace HO175 := mK (Kd.R_elder' (rX HO175) (Kd.R_base ho25) hb); replace BK170 := kB BK170 hb; replace HB := bB HB hb; clear hb ho25; have hcz26_0 := q0 BK170; have hcz26_1 := q1 BK170; have hfz26_0 := fX BK170 0; have hfz26_1 := fX BK170 1) | ((with_reducible refine gate_dst (N := 30) rfl ?_); refine Kd.R_make Kd.bool _ 4 rfl (N := 30) rfl 107 _ _ rfl a0_0 rfl rfl Try.underlying107 (.bool false) 1 info4 rfl (by decide) (by omega) false (ok := fun _ => True) (okp := fun _ => True) rfl (fun _ hk => hk) trivial (of_decide_eq_true oX) (Nat.le_trans (Nat.mul_le_mul_right _ (of_decide_eq_true oX : a0_0.toNat ≤ 281474976710656)) (by omega)) (Below.refl _ _) (Nat.le_refl _) ?_; intro v180 w27 ho28 hb hg_ hnew_; clear hg_ hnew_; (first | rw [← Ny179.out] at ho28 | (simp only [Int.reduceToNat] at ho28; rw [← Ny179.out] at ho28)); replace HO175 := mK (Kd.R_below (rX HO175) hb); replace HO178 := mK (Kd.R_below (rX HO178) hb); have HO181 := mK (Kd.R_lower ho28 (below_size (bX HB))); replace BK170 := kB BK170 hb; replace HB := bB HB hb; clear hb ho28; have p19 : 0 ≤ (a1 : Int) := of_decide_eq_true oX; have q19 : (a1 : Int) < ((y179.length : Int) : Int) := of_decide_eq_true oX; obtain ⟨go19, co19, eo19, gb19, gl19, cl19, HG19⟩ := Kd.R_form HO181.out (by omega); (first | cases eo19 | (injection eo19 with ea_ en_ ec_; (first | subst ea_ | (injection ea_ with ea_; subst ea_)); subst ec_; clear en_)); have GB19 := mK gb19; have GG19 := mK HG19; clear gb19 gl19 HG19; obtain ⟨hx19_0, hf19_0⟩ := Kd.R_celln false HO181.out (a1 : Int) p19 q19; replace p19 := eq_true p19; replace q19 := eq_true q19; obtain ⟨hy29_, hz29_⟩ := Kd.R_celln false HO181.out (a1 : Int) (of_decide_eq_true oX) (of_decide_eq_true oX); have HP29 := Kd.R_putg HO181.out (a1 : Int) true) | ((with_reducible refine gate_store (t := 4) (p := 33) rfl ?_); refine store_event (t := 4) (p := 33) (v := ?vo_w30) (w1 := (w27.setCell ⟨go19, (a1 : Int).toNat, none⟩ (.bool true))) ?hg ?ho ?hn ?hr ?_; (case ho => rfl); (case hg => rfl); (case hn => rfl); (case hr => go_simp <;> rfl); intro w30 hw; have hg : w27.grownBy w30 (some go19) := (by rw [hw]; exact HP29.2); have hp_ : Kd.R Kd.bool 4 w30 w.heap.size (fun _ => True) (.slice (some ⟨go19, 0, none⟩) y179.length co19) y182 := (by rw [hw, Ny182.out]; exact HP29.1); clear HP29; have n0_ := mK (blk_grown (kX BK170) hg (Kd.R_ne HO181.out BK170.out (by decide))); have n1_ := mK (Kd.R_over' (v := (.slice (some ⟨go19, 0, none⟩) y179.length co19)) (rX HO175) (Kd.R_typed HO181.out) (by decide) hg); have n2_ := mK (Kd.R_over' (v := (.slice (some ⟨go19, 0, none⟩) y179.length co19)) (rX HO178) (Kd.R_typed HO181.out) (by decide) hg); have n3_ := mK (hp_); have n4_ := mK ((by rw [hw]; exact below_set (HB.out) GB19.out : Below w.heap.size w w30)); clear BK170; clear HO175; clear HO178; clear HO181; clear HB; have BK170 := n0_; have HO175 := n1_; have HO178 := n2_; have HO181 := n3_; have HB := n4_; clear n0_ n1_ n2_ n3_ n4_; clear hg hw hp_))
 go_loopg [9] kj2 (fun kq v9 w' => ∃ (x6_2 : List Int) (x7_2 : List Int) (x8_2 : List Bool) (x9_2 : Int), v9 = .int .i64 x9_2 ∧ Aside0 (spec_ShortestFrom.l0 kq x6_2 x7_2 x8_2 x9_2 a0_0 l0_1 = some (r1, r2)) ∧ Aside0 (kq ≤ kj2) ∧ Aside0 (Kd.R (Kd.int .i64) 3 w' w.heap.size (fun k_ => some k_ ≠ (v177 : Value).ownBlock) v174 x6_2) ∧ Aside0 (Kd.R (Kd.int .i64) 3 w' w.heap.size (fun k_ => some k_ ≠ (v174 : Value).ownBlock) v177 x7_2) ∧ Aside0 (Kd.R Kd.bool 4 w' w.heap.size (fun _ => True) (.slice (some ⟨go19, 0, none⟩) y179.length co19) x8_2) ∧ Aside0 (w'.heap[gb170]? = some (.cells #[.int .i64 a0_0, (.slice A0_1 l0_1.length c0_1)] 33 (0, 0))) ∧ Aside0 (Below w.heap.size w w'))
 case atStart => exact ⟨(y173), (y176), (y182), (0), (by first | rfl | (simp; done) | (simp [*]; done)), H', ⟨Nat.le_refl _⟩, ⟨by (with_reducible repeat first|apply rA|apply rN|apply rD); exact Kd.R_mono HO175.out (fun _ hk => hk.2)⟩, ⟨by (with_reducible repeat first|apply rA|apply rN|apply rD); exact Kd.R_mono HO178.out (fun _ hk => hk.2)⟩, ⟨rX HO181⟩, ⟨kX BK170⟩, ⟨bX HB⟩⟩
 case round => (
 clear H'
 try clear c1
 try clear p1
 try clear q1
 try clear hx1
 try clear p2
 try clear c5
 try clear c6
 try clear p6
 try clear c13
 try clear c14
 try clear c14b0
 try clear c14b1
 try clear c15
 try clear c15b0
 try clear c15b1
 try clear c16
 try clear c16b0
 try clear c16b1
 try clear c17
 try clear c17b0
 try clear c18
 try clear c18b0
 try clear p19
 try clear q19
 try clear hx19
 try clear hf19
 try clear hcz10_0
 try clear hcz10_1
 try clear hcz11_0
 try clear hcz11_1
 try clear hcz20_0
 try clear hcz20_1
 try clear hcz23_0
 try clear hcz23_1
 try clear hcz26_0
 try clear hcz26_1
 try clear hcz8_0
 try clear hcz8_1
 try clear hfz10_0
 try clear hfz10_1
 try clear hfz11_0
 try clear hfz11_1
 try clear hfz20_0
 try clear hfz20_1
 try clear hfz23_0
 try clear hfz23_1
 try clear hfz26_0
 try clear hfz26_1
 try clear hfz8_0
 try clear hfz8_1
 try clear hx19_0
 try clear p19
 try clear p2
 try clear p6
 try clear q19
 obtain ⟨x6_2, x7_2, x8_2, x9_2, rfl, HA, HK2, HO_6, HO_7, HO_8, BK170, HB⟩ := hrel
 have hl8_2 := (Kd.R_reads' HO_8.out).1
 rw [hl8_2] at HO_8
 (try simp only [hl8_2])
 (try simp only [hl8_2] at BK170)
 (try simp only [hl8_2] at HO_6)
 (try simp only [hl8_2] at HO_7)
 cases gk with
 | zero => exact absurd HA.out (by simp [spec_ShortestFrom.l0])
 | succ k2 => (
 have H := HA.out
 clear HA
 simp only [spec_ShortestFrom.l0] at H
 by_cases c31 : x9_2 < a0_0
 rotate_left
 {
 rw [if_neg c31] at H
 have c31b0 : decide (x9_2 < a0_0) = false := decide_eq_false c31
 clear c31
 simp only [Option.some.injEq, Prod.mk.injEq] at H
 obtain ⟨rfl, rfl⟩ := H
 have hcz56_0 := q0 BK170
 have hcz56_1 := q1 BK170
 have hfz56_0 := fX BK170 0
 have hfz56_1 := fX BK170 1
 (try simp only [hl8_2] at c18b0)
 go_wp2
 go_ret2
 exact ⟨_, by first | rfl | (simp [errW_none, errW_some] <;> rfl) | (simp [*, errW_none, errW_some] <;> rfl), by first | exact Kd.R_nil _ _ _ _ _ | exact Kd.N_nil _ _ _ _ _ | exact Kd.V_nil _ _ _ _ _ | exact Kd.Q_nil _ _ _ _ _ | exact Kd.S_nil _ _ _ _ _, bX HB⟩
 }
 rw [if_pos c31] at H
 have c31b0 : decide (x9_2 < a0_0) = true := decide_eq_true c31
 clear c31
 replace H := Option.bind_eq_some_iff.mp H
 obtain ⟨⟨t183, t184, t185, t186⟩, A320, H⟩ := H
 replace H : (if t183 < 0 then (spec_ShortestFrom.l1 k2 t184 t186 (x6_2.length : Int) 0) else (spec_ShortestFrom.l0 k2 t184 t185 t186 (wrap64 (x9_2 + 1)) a0_0 l0_1)) = some (r1, r2) := H
 have A32 := mK A320
 clear A320
 by_cases c33 : t183 < 0
 rotate_left
 {
 rw [if_neg c33] at H
 have c33b0 : decide (t183 < 0) = false := decide_eq_false c33
 clear c33
 have H' := mK H
 clear H
 have hcz52_0 := q0 BK170
 have hcz52_1 := q1 BK170
 have hfz52_0 := fX BK170 0
 have hfz52_1 := fX BK170 1
 obtain ⟨Ao53, co53, eo53⟩ := Kd.R_slice HO_6.out
 subst eo53
 obtain ⟨Ao54, co54, eo54⟩ := Kd.R_slice HO_7.out
 subst eo54
 go_wp2_with (first | ((with_reducible refine gate_callee (f := 97) rfl ?_); refine gsE (some 44) Try.func97 #[.agg #[.int .i64 a0_0, .slice A0_1 l0_1.length c0_1], .slice Ao53 x6_2.length co53, .slice Ao54 x7_2.length co54, .slice (some ⟨go19, 0, none⟩) x8_2.length co19] ?_; (with_reducible refine (spec_l03Round.calls k2 a0_0 _ _ l0_1 (fun k_ => some k_ = (.slice Ao53 x6_2.length co53 : Value).ownBlock) (.slice Ao53 x6_2.length co53) x6_2 (fun k_ => some k_ = (.slice Ao54 x7_2.length co54 : Value).ownBlock) (.slice Ao54 x7_2.length co54) x7_2 (fun k_ => some k_ = (.slice (some ⟨go19, 0, none⟩) x8_2.length co19 : Value).ownBlock) (.slice (some ⟨go19, 0, none⟩) x8_2.length co19) x8_2 t183 t184 t185 t186 w _ ?side1 ?side2 ?side3 ?side4 ?side5 ?side6 ?side7 ?side8 A32.out).mono ?_); (case side1 => repeat (first | (with_reducible first | exact HB.out | apply below_alloc | apply pw_below_drewN | apply below_drew1 | refine below_set ?_ GE170.out) | exact HB.out)); (case side2 => exact Kd.C_kept_came k70_heap HR0_1.out (bX HB) (fun k_ hs_ => Or.elim hs_ (fun e_ => (fun e_ => Kd.R_base HO_6.out k_ e_.symm) e_) (fun e_ => Or.elim e_ (fun e_ => (fun e_ => Kd.R_base HO_7.out k_ e_.symm) e_) (fun e_ => (fun e_ => Kd.R_base HO_8.out k_ e_.symm) e_)))); (case side3 => exact HC0_1.out); (case side4 => exact Kd.R_tight rfl HO_6.out); (case side5 => exact fun k_ e_ => (HO_6.out.1 k_ e_.symm)); (case side6 => exact Kd.R_tight rfl HO_7.out); (case side7 => exact fun k_ e_ => (HO_7.out.1 k_ e_.symm)); (case side8 => exact Kd.R_tight rfl HO_8.out); rintro e w55 ⟨rfl, hy0, hy1, hy2, hb, hkp⟩; refine ⟨_, rfl, ?_⟩; replace BK170 := mK (blk_kept (kX BK170) hkp (fun hs_ => Or.elim hs_ (fun e_ => (fun e_ => (Kd.R_ne HO_6.out BK170.out (by decide)) e_) e_) (fun e_ => Or.elim e_ (fun e_ => (fun e_ => (Kd.R_ne HO_7.out BK170.out (by decide)) e_) e_) (fun e_ => (fun e_ => (Kd.R_ne HO_8.out BK170.out (by decide)) e_) e_)))); replace HO_6 := mK (Kd.R_reok rfl hy0 (fun k_ e_ => HO_6.out.1 k_ e_)); replace HO_7 := mK (Kd.R_reok rfl hy1 (fun k_ e_ => HO_7.out.1 k_ e_)); replace HO_8 := mK (Kd.R_reok rfl hy2 (fun k_ e_ => HO_8.out.1 k_ e_)); replace HB := mK (hb); (try clear hb); (try clear hkp); (try clear hy0); (try clear hy1); (try clear hy2)))
 (try simp only [← hl8_2])
 go_roundg k2
 case measure => have := HJ2.out; have := HK2.out; omega
 case rel => exact ⟨(t184), (t185), (t186), (wrap64 (x9_2 + 1)), (by first | rfl | (simp; done) | (simp [*]; done)), H', ⟨by have := HJ2.out; have := HK2.out; omega⟩, ⟨by (try simp only [hl8_2]); (with_reducible repeat first|apply rA|apply rN|apply rD); exact HO_6.out⟩, ⟨by (try simp only [hl8_2]); (with_reducible repeat first|apply rA|apply rN|apply rD); exact HO_7.out⟩, ⟨by (try simp only [hl8_2]); (with_reducible repeat first|apply rA|apply rN|apply rD); exact HO_8.out⟩, ⟨by (try simp only [hl8_2]); (with_reducible repeat first|apply kN|apply kD|apply kA); exact BK170.out⟩, ⟨bX HB⟩⟩
 }
 rw [if_pos c33] at H
 have c33b0 : decide (t183 < 0) = true := decide_eq_true c33
 clear c33
 have H' := mK H
 clear H
 have hcz34_0 := q0 BK170
 have hcz34_1 := q1 BK170
 have hfz34_0 := fX BK170 0
 have hfz34_1 := fX BK170 1
 obtain ⟨Ao35, co35, eo35⟩ := Kd.R_slice HO_6.out
 subst eo35
 obtain ⟨Ao36, co36, eo36⟩ := Kd.R_slice HO_7.out
 subst eo36
 (try simp only [hl8_2] at c18b0)
 go_wp2_with (first | ((with_reducible refine gate_callee (f := 97) rfl ?_); refine gsE (some 44) Try.func97 #[.agg #[.int .i64 a0_0, .slice A0_1 l0_1.length c0_1], .slice Ao35 x6_2.length co35, .slice Ao36 x7_2.length co36, .slice (some ⟨go19, 0, none⟩) x8_2.length co19] ?_; (with_reducible refine (spec_l03Round.calls k2 a0_0 _ _ l0_1 (fun k_ => some k_ = (.slice Ao35 x6_2.length co35 : Value).ownBlock) (.slice Ao35 x6_2.length co35) x6_2 (fun k_ => some k_ = (.slice Ao36 x7_2.length co36 : Value).ownBlock) (.slice Ao36 x7_2.length co36) x7_2 (fun k_ => some k_ = (.slice (some ⟨go19, 0, none⟩) x8_2.length co19 : Value).ownBlock) (.slice (some ⟨go19, 0, none⟩) x8_2.length co19) x8_2 t183 t184 t185 t186 w _ ?side1 ?side2 ?side3 ?side4 ?side5 ?side6 ?side7 ?side8 A32.out).mono ?_); (case side1 => repeat (first | (with_reducible first | exact HB.out | apply below_alloc | apply pw_below_drewN | apply below_drew1 | refine below_set ?_ GE170.out) | exact HB.out)); (case side2 => exact Kd.C_kept_came k70_heap HR0_1.out (bX HB) (fun k_ hs_ => Or.elim hs_ (fun e_ => (fun e_ => Kd.R_base HO_6.out k_ e_.symm) e_) (fun e_ => Or.elim e_ (fun e_ => (fun e_ => Kd.R_base HO_7.out k_ e_.symm) e_) (fun e_ => (fun e_ => Kd.R_base HO_8.out k_ e_.symm) e_)))); (case side3 => exact HC0_1.out); (case side4 => exact Kd.R_tight rfl HO_6.out); (case side5 => exact fun k_ e_ => (HO_6.out.1 k_ e_.symm)); (case side6 => exact Kd.R_tight rfl HO_7.out); (case side7 => exact fun k_ e_ => (HO_7.out.1 k_ e_.symm)); (case side8 => exact Kd.R_tight rfl HO_8.out); rintro e w37 ⟨rfl, hy0, hy1, hy2, hb, hkp⟩; refine ⟨_, rfl, ?_⟩; replace BK170 := mK (blk_kept (kX BK170) hkp (fun hs_ => Or.elim hs_ (fun e_ => (fun e_ => (Kd.R_ne HO_6.out BK170.out (by decide)) e_) e_) (fun e_ => Or.elim e_ (fun e_ => (fun e_ => (Kd.R_ne HO_7.out BK170.out (by decide)) e_) e_) (fun e_ => (fun e_ => (Kd.R_ne HO_8.out BK170.out (by decide)) e_) e_)))); replace HO_6 := mK (Kd.R_reok rfl hy0 (fun k_ e_ => HO_6.out.1 k_ e_)); replace HO_7 := mK (Kd.R_reok rfl hy1 (fun k_ e_ => HO_7.out.1 k_ e_)); replace HO_8 := mK (Kd.R_reok rfl hy2 (fun k_ e_ => HO_8.out.1 k_ e_)); replace HB := mK (hb); (try clear hb); (try clear hkp); (try clear hy0); (try clear hy1); (try clear hy2)))
 go_loopg [48] k2 (fun kq v48 w' => ∃ (x6_3 : List Int) (x48_3 : Int), v48 = .int .i64 x48_3 ∧ Aside0 (spec_ShortestFrom.l1 kq x6_3 t186 (x6_2.length : Int) x48_3 = some (r1, r2)) ∧ Aside0 (kq ≤ k2) ∧ Aside0 (Kd.R (Kd.int .i64) 3 w' w.heap.size (fun _ => True) (.slice Ao35 x6_2.length co35) x6_3) ∧ Aside0 (Kd.R Kd.bool 4 w' w.heap.size (fun _ => True) (.slice (some ⟨go19, 0, none⟩) x8_2.length co19) t186) ∧ Aside0 (w'.heap[gb170]? = some (.cells #[.int .i64 a0_0, (.slice A0_1 l0_1.length c0_1)] 33 (0, 0))) ∧ Aside0 (Below w.heap.size w w'))
 case atStart => exact ⟨(t184), (0), (by first | rfl | (simp; done) | (simp [*]; done)), H', ⟨Nat.le_refl _⟩, ⟨by (try simp only [hl8_2]); (with_reducible repeat first|apply rA|apply rN|apply rD); exact Kd.R_mono HO_6.out (fun _ hk => trivial)⟩, ⟨by (try simp only [hl8_2]); (with_reducible repeat first|apply rA|apply rN|apply rD); exact HO_8.out⟩, ⟨by (try simp only [hl8_2]); (with_reducible repeat first|apply kN|apply kD|apply kA); exact BK170.out⟩, ⟨bX HB⟩⟩
 case round => (
 clear H'
 try clear c1
 try clear p1
 try clear q1
 try clear hx1
 try clear p2
 try clear c3
 try clear c5
 try clear c6
 try clear p6
 try clear c9
 try clear c13
 try clear c14
 try clear c14b0
 try clear c14b1
 try clear c15
 try clear c15b0
 try clear c15b1
 try clear c16
 try clear c16b0
 try clear c16b1
 try clear c17
 try clear c17b0
 try clear c18
 try clear c18b0
 try clear p19
 try clear q19
 try clear hx19
 try clear hf19
 try clear c31
 try clear c31b0
 try clear c33
 try clear c33b0
 try clear hcz10_0
 try clear hcz10_1
 try clear hcz11_0
 try clear hcz11_1
 try clear hcz20_0
 try clear hcz20_1
 try clear hcz23_0
 try clear hcz23_1
 try clear hcz26_0
 try clear hcz26_1
 try clear hcz34_0
 try clear hcz34_1
 try clear hcz8_0
 try clear hcz8_1
 try clear hfz10_0
 try clear hfz10_1
 try clear hfz11_0
 try clear hfz11_1
 try clear hfz20_0
 try clear hfz20_1
 try clear hfz23_0
 try clear hfz23_1
 try clear hfz26_0
 try clear hfz26_1
 try clear hfz34_0
 try clear hfz34_1
 try clear hfz8_0
 try clear hfz8_1
 try clear hx19_0
 try clear p1
 try clear p19
 try clear p2
 try clear p6
 try clear q1
 try clear q19
 obtain ⟨x6_3, x48_3, rfl, HA, HK3, HO_6, HO_8, BK170, HB⟩ := hrel
 have hl6_3 := (Kd.R_reads' HO_6.out).1
 rw [hl6_3] at HO_6
 (try simp only [hl6_3])
 (try simp only [hl6_3] at BK170)
 (try simp only [hl6_3] at HO_8)
 have hl8_3 := (Kd.R_reads' HO_8.out).1
 rw [hl8_3] at HO_8
 (try simp only [hl8_3])
 (try simp only [hl8_3] at BK170)
 (try simp only [hl8_3] at HO_6)
 cases gk with
 | zero => exact absurd HA.out (by simp [spec_ShortestFrom.l1])
 | succ k3 => (
 have H := HA.out
 clear HA
 simp only [spec_ShortestFrom.l1] at H
 by_cases c38 : x48_3 < (x6_2.length : Int)
 rotate_left
 {
 rw [if_neg c38] at H
 have c38b0 : decide (x48_3 < (x6_2.length : Int)) = false := decide_eq_false c38
 clear c38
 simp only [Option.some.injEq, Prod.mk.injEq] at H
 obtain ⟨rfl, rfl⟩ := H
 (try simp only [hl8_2, hl6_3, hl8_3] at c18b0)
 (try simp only [hl8_2, hl6_3, hl8_3] at c38b0)
 go_wp2
 go_ret2
 exact ⟨_, by first | rfl | (simp [errW_none, errW_some] <;> rfl) | (simp [*, errW_none, errW_some] <;> rfl), rX HO_6, bX HB⟩
 }
 rw [if_pos c38] at H
 have c38b0 : decide (x48_3 < (x6_2.length : Int)) = true := decide_eq_true c38
 clear c38
 by_cases c39 : 0 ≤ x48_3
 rotate_left
 {
 rw [if_neg c39] at H
 exact absurd H (by simp)
 }
 rw [if_pos c39] at H
 have c39b0 : decide (0 ≤ x48_3) = true := decide_eq_true c39
 clear c39
 by_cases c40 : x48_3 < (t186.length : Int)
 rotate_left
 {
 rw [if_neg c40] at H
 exact absurd H (by simp)
 }
 rw [if_pos c40] at H
 have c40b0 : decide (x48_3 < (t186.length : Int)) = true := decide_eq_true c40
 clear c40
 obtain ⟨bq41, hbq41⟩ : ∃ b_ : Bool, b_ = (rdOf false t186 x48_3) := ⟨_, rfl⟩
 replace H : (if bq41 = true then (if x48_3 < (x6_3.length : Int) then (if (rd x6_3 x48_3) > 1000000 then (spec_ShortestFrom.l1 k3 (x6_3.set (x48_3 : Int).toNat 1000000) t186 (x6_2.length : Int) (wrap64 (x48_3 + 1))) else (spec_ShortestFrom.l1 k3 x6_3 t186 (x6_2.length : Int) (wrap64 (x48_3 + 1)))) else (none)) else (if x48_3 < (x6_3.length : Int) then (spec_ShortestFrom.l1 k3 (x6_3.set (x48_3 : Int).toNat 1000000) t186 (x6_2.length : Int) (wrap64 (x48_3 + 1))) else (none))) = some (r1, r2) := by rw [← hbq41] at H; exact H
 have Nbq41 := mK hbq41
 clear hbq41
 by_cases c42 : bq41 = true
 rotate_left
 {
 replace c42 := Bool.eq_false_iff.mpr c42
 subst c42
 rw [if_neg (show ¬ (false = true) by decide)] at H
 by_cases c48 : x48_3 < (x6_3.length : Int)
 rotate_left
 {
 rw [if_neg c48] at H
 exact absurd H (by simp)
 }
 rw [if_pos c48] at H
 have c48b0 : decide (x48_3 < (x6_3.length : Int)) = true := decide_eq_true c48
 clear c48
 obtain ⟨y190, hy190⟩ : ∃ y_ : List Int, y_ = (x6_3.set (x48_3 : Int).toNat 1000000) := ⟨_, rfl⟩
 replace H : (spec_ShortestFrom.l1 k3 y190 t186 (x6_2.length : Int) (wrap64 (x48_3 + 1))) = some (r1, r2) := by first | (rw [hy190]; with_reducible exact H) | (have H2_ := (Option.bind_some _ _).symm.trans H; rw [hy190]; with_reducible exact H2_) | (have H2_ := (Option.bind_some _ _).symm.trans H; with_reducible exact H2_) | with_reducible exact H | (rw [hy190]; exact H) | exact H
 have Ny190 := mK hy190
 clear hy190
 have H' := mK H
 clear H
 have p187 : 0 ≤ (x48_3 : Int) := of_decide_eq_true oX
 have q187 : x48_3 < (t186.length : Int) := of_decide_eq_true oX
 obtain ⟨ad187, e187, hx187_0⟩ := Kd.at_bool (Kd.R_reads' HO_8.out).2.2 x48_3 p187 q187
 (try rw [← Nbq41.out] at hx187_0)
 obtain rfl : (⟨go19, 0, none⟩ : Addr) = ad187 := (by injection e187)
 (first | simp only [add_plain] at hx187_0 | simp only [add_at] at hx187_0 | simp only [Addr.add, Nat.zero_add] at hx187_0 | skip)
 replace p187 := eq_true p187
 replace q187 := eq_true q187
 have p49 : 0 ≤ (x48_3 : Int) := of_decide_eq_true oX
 have q49 : (x48_3 : Int) < ((x6_3.length : Int) : Int) := of_decide_eq_true oX
 obtain ⟨go49, co49, eo49, gb49, gl49, cl49, HG49⟩ := Kd.R_form HO_6.out (by omega)
 (first | cases eo49 | (injection eo49 with ea_ en_ ec_; (first | subst ea_ | (injection ea_ with ea_; subst ea_)); subst ec_; clear en_))
 have GB49 := mK gb49
 have GG49 := mK HG49
 clear gb49 gl49 HG49
 obtain ⟨hx49_0, hf49_0⟩ := Kd.R_celln 0 HO_6.out (x48_3 : Int) p49 q49
 replace p49 := eq_true p49
 replace q49 := eq_true q49
 have HP50 := Kd.R_putg HO_6.out (x48_3 : Int) 1000000
 go_wp2_with (first | ((with_reducible refine gate_store (t := 3) (p := 65) rfl ?_); refine store_event (t := 3) (p := 65) (v := ?vo_w51) (w1 := (wr.setCell ⟨go49, (x48_3 : Int).toNat, none⟩ (.int .i64 1000000))) ?hg ?ho ?hn ?hr ?_; (case ho => rfl); (case hg => rfl); (case hn => rfl); (case hr => go_simp <;> rfl); intro w51 hw; have hg : wr.grownBy w51 (some go49) := (by rw [hw]; exact HP50.2); have hp_ : Kd.R (Kd.int .i64) 3 w51 w.heap.size (fun _ => True) (.slice (some ⟨go49, 0, none⟩) x6_3.length co35) y190 := (by rw [hw, Ny190.out]; exact HP50.1); clear HP50; have n0_ := mK (hp_); have n1_ := mK (Kd.R_over' (v := (.slice (some ⟨go49, 0, none⟩) x6_3.length co35)) (rX HO_8) (Kd.R_typed HO_6.out) (by decide) hg); have n2_ := mK (blk_grown (kX BK170) hg (Kd.R_ne HO_6.out BK170.out (by decide))); have n3_ := mK ((by rw [hw]; exact below_set (HB.out) GB49.out : Below w.heap.size w w51)); clear HO_6; clear HO_8; clear BK170; clear HB; have HO_6 := n0_; have HO_8 := n1_; have BK170 := n2_; have HB := n3_; clear n0_ n1_ n2_ n3_; clear hg hw hp_))
 (try simp only [← hl6_3, ← hl8_3])
 go_roundg k3
 case measure => have := HJ2.out; have := HK2.out; have := HK3.out; omega
 case rel => exact ⟨(y190), (wrap64 (x48_3 + 1)), (by first | rfl | (simp; done) | (simp [*]; done)), H', ⟨by have := HJ2.out; have := HK2.out; have := HK3.out; omega⟩, ⟨by (try simp only [hl8_2]); (try simp only [hl6_3]); (try simp only [hl8_3]); (with_reducible repeat first|apply rA|apply rN|apply rD); exact HO_6.out⟩, ⟨by (try simp only [hl8_2]); (try simp only [hl6_3]); (try simp only [hl8_3]); (with_reducible repeat first|apply rA|apply rN|apply rD); exact HO_8.out⟩, ⟨by (try simp only [hl8_2]); (try simp only [hl6_3]); (try simp only [hl8_3]); (with_reducible repeat first|apply kN|apply kD|apply kA); exact BK170.out⟩, ⟨bX HB⟩⟩
 }
 subst c42
 rw [if_pos rfl] at H
 by_cases c43 : x48_3 < (x6_3.length : Int)
 rotate_left
 {
 rw [if_neg c43] at H
 exact absurd H (by simp)
 }
 rw [if_pos c43] at H
 have c43b0 : decide (x48_3 < (x6_3.length : Int)) = true := decide_eq_true c43
 clear c43
 by_cases c44 : (rd x6_3 x48_3) > 1000000
 rotate_left
 {
 rw [if_neg c44] at H
 have c44b0 : decide (1000000 < (rd x6_3 x48_3)) = false := decide_eq_false c44
 clear c44
 have H' := mK H
 clear H
 have p187 : 0 ≤ (x48_3 : Int) := of_decide_eq_true oX
 have q187 : x48_3 < (t186.length : Int) := of_decide_eq_true oX
 obtain ⟨ad187, e187, hx187_0⟩ := Kd.at_bool (Kd.R_reads' HO_8.out).2.2 x48_3 p187 q187
 (try rw [← Nbq41.out] at hx187_0)
 obtain rfl : (⟨go19, 0, none⟩ : Addr) = ad187 := (by injection e187)
 (first | simp only [add_plain] at hx187_0 | simp only [add_at] at hx187_0 | simp only [Addr.add, Nat.zero_add] at hx187_0 | skip)
 replace p187 := eq_true p187
 replace q187 := eq_true q187
 have p188 : 0 ≤ (x48_3 : Int) := of_decide_eq_true oX
 have q188 : x48_3 < (x6_3.length : Int) := of_decide_eq_true oX
 obtain ⟨ad188, e188, hx188_0⟩ := Kd.at_int (Kd.R_reads' HO_6.out).2.2 x48_3 p188 q188
 cases e188
 replace p188 := eq_true p188
 replace q188 := eq_true q188
 go_wp2
 (try simp only [← hl6_3, ← hl8_3])
 go_roundg k3
 case measure => have := HJ2.out; have := HK2.out; have := HK3.out; omega
 case rel => exact ⟨(x6_3), (wrap64 (x48_3 + 1)), (by first | rfl | (simp; done) | (simp [*]; done)), H', ⟨by have := HJ2.out; have := HK2.out; have := HK3.out; omega⟩, ⟨by (try simp only [hl8_2]); (try simp only [hl6_3]); (try simp only [hl8_3]); (with_reducible repeat first|apply rA|apply rN|apply rD); exact HO_6.out⟩, ⟨by (try simp only [hl8_2]); (try simp only [hl6_3]); (try simp only [hl8_3]); (with_reducible repeat first|apply rA|apply rN|apply rD); exact HO_8.out⟩, ⟨by (try simp only [hl8_2]); (try simp only [hl6_3]); (try simp only [hl8_3]); (with_reducible repeat first|apply kN|apply kD|apply kA); exact BK170.out⟩, ⟨bX HB⟩⟩
 }
 rw [if_pos c44] at H
 have c44b0 : decide (1000000 < (rd x6_3 x48_3)) = true := decide_eq_true c44
 clear c44
 obtain ⟨y189, hy189⟩ : ∃ y_ : List Int, y_ = (x6_3.set (x48_3 : Int).toNat 1000000) := ⟨_, rfl⟩
 replace H : (spec_ShortestFrom.l1 k3 y189 t186 (x6_2.length : Int) (wrap64 (x48_3 + 1))) = some (r1, r2) := by first | (rw [hy189]; with_reducible exact H) | (have H2_ := (Option.bind_some _ _).symm.trans H; rw [hy189]; with_reducible exact H2_) | (have H2_ := (Option.bind_some _ _).symm.trans H; with_reducible exact H2_) | with_reducible exact H | (rw [hy189]; exact H) | exact H
 have Ny189 := mK hy189
 clear hy189
 have H' := mK H
 clear H
 have p187 : 0 ≤ (x48_3 : Int) := of_decide_eq_true oX
 have q187 : x48_3 < (t186.length : Int) := of_decide_eq_true oX
 obtain ⟨ad187, e187, hx187_0⟩ := Kd.at_bool (Kd.R_reads' HO_8.out).2.2 x48_3 p187 q187
 (try rw [← Nbq41.out] at hx187_0)
 obtain rfl : (⟨go19, 0, none⟩ : Addr) = ad187 := (by injection e187)
 (first | simp only [add_plain] at hx187_0 | simp only [add_at] at hx187_0 | simp only [Addr.add, Nat.zero_add] at hx187_0 | skip)
 replace p187 := eq_true p187
 replace q187 := eq_true q187
 have p188 : 0 ≤ (x48_3 : Int) := of_decide_eq_true oX
 have q188 : x48_3 < (x6_3.length : Int) := of_decide_eq_true oX
 obtain ⟨ad188, e188, hx188_0⟩ := Kd.at_int (Kd.R_reads' HO_6.out).2.2 x48_3 p188 q188
 cases e188
 replace p188 := eq_true p188
 replace q188 := eq_true q188
 have p45 : 0 ≤ (x48_3 : Int) := of_decide_eq_true oX
 have q45 : (x48_3 : Int) < ((x6_3.length : Int) : Int) := of_decide_eq_true oX
 obtain ⟨go45, co45, eo45, gb45, gl45, cl45, HG45⟩ := Kd.R_form HO_6.out (by omega)
 (first | cases eo45 | (injection eo45 with ea_ en_ ec_; (first | subst ea_ | (injection ea_ with ea_; subst ea_)); subst ec_; clear en_))
 have GB45 := mK gb45
 have GG45 := mK HG45
 clear gb45 gl45 HG45
 (first | simp only [add_plain] at hx188_0 | skip)
 obtain ⟨hx45_0, hf45_0⟩ := Kd.R_celln 0 HO_6.out (x48_3 : Int) p45 q45
 replace p45 := eq_true p45
 replace q45 := eq_true q45
 have HP46 := Kd.R_putg HO_6.out (x48_3 : Int) 1000000
 go_wp2_with (first | ((with_reducible refine gate_store (t := 3) (p := 65) rfl ?_); refine store_event (t := 3) (p := 65) (v := ?vo_w47) (w1 := (wr.setCell ⟨go45, (x48_3 : Int).toNat, none⟩ (.int .i64 1000000))) ?hg ?ho ?hn ?hr ?_; (case ho => rfl); (case hg => rfl); (case hn => rfl); (case hr => go_simp <;> rfl); intro w47 hw; have hg : wr.grownBy w47 (some go45) := (by rw [hw]; exact HP46.2); have hp_ : Kd.R (Kd.int .i64) 3 w47 w.heap.size (fun _ => True) (.slice (some ⟨go45, 0, none⟩) x6_3.length co35) y189 := (by rw [hw, Ny189.out]; exact HP46.1); clear HP46; have n0_ := mK (hp_); have n1_ := mK (Kd.R_over' (v := (.slice (some ⟨go45, 0, none⟩) x6_3.length co35)) (rX HO_8) (Kd.R_typed HO_6.out) (by decide) hg); have n2_ := mK (blk_grown (kX BK170) hg (Kd.R_ne HO_6.out BK170.out (by decide))); have n3_ := mK ((by rw [hw]; exact below_set (HB.out) GB45.out : Below w.heap.size w w47)); clear HO_6; clear HO_8; clear BK170; clear HB; have HO_6 := n0_; have HO_8 := n1_; have BK170 := n2_; have HB := n3_; clear n0_ n1_ n2_ n3_; clear hg hw hp_))
 (try simp only [← hl6_3, ← hl8_3])
 go_roundg k3
 case measure => have := HJ2.out; have := HK2.out; have := HK3.out; omega
 case rel => exact ⟨(y189), (wrap64 (x48_3 + 1)), (by first | rfl | (simp; done) | (simp [*]; done)), H', ⟨by have := HJ2.out; have := HK2.out; have := HK3.out; omega⟩, ⟨by (try simp only [hl8_2]); (try simp only [hl6_3]); (try simp only [hl8_3]); (with_reducible repeat first|apply rA|apply rN|apply rD); exact HO_6.out⟩, ⟨by (try simp only [hl8_2]); (try simp only [hl6_3]); (try simp only [hl8_3]); (with_reducible repeat first|apply rA|apply rN|apply rD); exact HO_8.out⟩, ⟨by (try simp only [hl8_2]); (try simp only [hl6_3]); (try simp only [hl8_3]); (with_reducible repeat first|apply kN|apply kD|apply kA); exact BK170.out⟩, ⟨bX HB⟩⟩
 )
 )
 )
 )
 )
 )

/-! ### spec_ClampBound: function 57 -/
def spec_ClampBound.f (a0 : Int) : Option (Int) := if a0 < (-1000000) then (some (-1000000)) else (if a0 > 1000000 then (some 1000000) else (some a0))
set_option maxHeartbeats 8000000 in
set_option maxRecDepth 100000 in
theorem spec_ClampBound.calls (a0 : Int) (r : Int) (w : World) (h : spec_ClampBound.f a0 = some r) :
    Calls Try.prog 57 #[.int .i64 a0] w fun e w' => e = .returned (.int .i64 r) ∧ Drawn0 w w' := by
  have H : (if a0 < (-1000000) then (some (-1000000)) else (if a0 > 1000000 then (some 1000000) else (some a0))) = some r := h
  clear h
  by_cases c2 : a0 < (-1000000)
  · rw [if_pos c2] at H
    have c2b0 : decide (a0 < (-1000000)) = true := decide_eq_true c2
    clear c2
    obtain rfl := Option.some.inj H
    go_enter Try.func57, Try.ntmps57
    go_wp2
    go_ret
    exact ⟨by first | rfl | (simp; done) | (simp [*]; done), by repeat (first | exact Drawn0.refl _ | apply Drawn0.step)⟩
  rw [if_neg c2] at H
  have c2b0 : decide (a0 < (-1000000)) = false := decide_eq_false c2
  clear c2
  by_cases c3 : a0 > 1000000
  · rw [if_pos c3] at H
    have c3b0 : decide (1000000 < a0) = true := decide_eq_true c3
    clear c3
    obtain rfl := Option.some.inj H
    go_enter Try.func57, Try.ntmps57
    go_wp2
    go_ret
    exact ⟨by first | rfl | (simp; done) | (simp [*]; done), by repeat (first | exact Drawn0.refl _ | apply Drawn0.step)⟩
  rw [if_neg c3] at H
  have c3b0 : decide (1000000 < a0) = false := decide_eq_false c3
  clear c3
  obtain rfl := Option.some.inj H
  go_enter Try.func57, Try.ntmps57
  go_wp2
  go_ret
  exact ⟨by first | rfl | (simp; done) | (simp [*]; done), by repeat (first | exact Drawn0.refl _ | apply Drawn0.step)⟩

end Go.Proofs.Ytbbblnmngjhadaa.QFnExactLatestTimes
