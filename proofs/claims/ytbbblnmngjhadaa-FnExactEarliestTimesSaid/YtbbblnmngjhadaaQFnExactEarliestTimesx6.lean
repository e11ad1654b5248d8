-- Written by this session's program wip/tools/mk.py out of the translation; Lean checks it.
import Derived.Test.YtbbblnmngjhadaaQFnExactEarliestTimesx0
import Derived.Test.YtbbblnmngjhadaaQFnExactEarliestTimesx2
import Derived.Test.YtbbblnmngjhadaaQFnExactEarliestTimesx3
namespace Go.Proofs.Ytbbblnmngjhadaa.QFnExactEarliestTimes
open Go.RowKit Go.Proofs.YtbbblnmngjhadaaW.PrintWords Go.Proofs.YtbbblnmngjhadaaW.PrintLast Go.Proofs.YtbbblnmngjhadaaW.PrintMore
attribute [local go_sem] max2_int min2_int max_two min_two max_three min_three max_four min_four   -- for this text's walks alone
set_option linter.unusedVariables false
set_option linter.unusedSimpArgs false

/-! ### spec_NegativeCycle: function 64 -/
mutual
def spec_NegativeCycle.j0 : Nat → Bool → Int → List (S70) → Option (List Int)
  | 0, _, _, _ => none
  | k + 1, x20, x202000, x202001 => if x20 = true then (some ([] : List Int)) else (if 0 ≤ x202000 then (if (x202000 : Int).toNat ≤ 35184372088832 then (if (x202000 : Int).toNat ≤ 281474976710656 then ((some (List.replicate (x202000 : Int).toNat false : List Bool)).bind fun y209 => (spec_NegativeCycle.l0 k (List.replicate (x202000 : Int).toNat 0) (List.replicate (x202000 : Int).toNat 0) y209 (y209.length : Int) 0 x202000 x202001)) else (none)) else (none)) else (none))
def spec_NegativeCycle.l0 : Nat → List Int → List Int → List Bool → Int → Int → Int → List (S70) → Option (List Int)
  | 0, _, _, _, _, _, _, _ => none
  | k + 1, x3, x4, x5, x31, x32, x202000, x202001 => if x32 < x31 then (if 0 ≤ x32 then (if x32 < (x5.length : Int) then (if x32 < (x4.length : Int) then (spec_NegativeCycle.l0 k x3 (x4.set (x32 : Int).toNat (-1)) (x5.set (x32 : Int).toNat true) x31 (wrap64 (x32 + 1)) x202000 x202001) else (none)) else (none)) else (none)) else (spec_NegativeCycle.l1 k x3 x4 x5 (-1) 0 x202000 x202001)
def spec_NegativeCycle.l1 : Nat → List Int → List Int → List Bool → Int → Int → Int → List (S70) → Option (List Int)
  | 0, _, _, _, _, _, _, _ => none
  | k + 1, x3, x4, x5, x7, x8, x202000, x202001 => if x8 < x202000 then ((spec_l03Round.f k x202000 x202001 x3 x4 x5).bind fun bt214 => (spec_NegativeCycle.l1 k bt214.2.1 bt214.2.2.1 bt214.2.2.2 bt214.1 (wrap64 (x8 + 1)) x202000 x202001)) else (if x7 < 0 then (some ([] : List Int)) else (if 0 ≤ x7 then (if x7 < (x202001.length : Int) then (spec_NegativeCycle.l2 k x4 ((rd_T70 x202001 x7).f1) 0 x202000 x202001) else (none)) else (none)))
def spec_NegativeCycle.l2 : Nat → List Int → Int → Int → Int → List (S70) → Option (List Int)
  | 0, _, _, _, _, _ => none
  | k + 1, x4, x9, x10, x202000, x202001 => if x10 < x202000 then (if 0 ≤ x9 then (if x9 < (x4.length : Int) then (if 0 ≤ (rd x4 x9) then (if (rd x4 x9) < (x202001.length : Int) then (spec_NegativeCycle.l2 k x4 ((rd_T70 x202001 (rd x4 x9)).f0) (wrap64 (x10 + 1)) x202000 x202001) else (none)) else (none)) else (none)) else (none)) else (spec_NegativeCycle.l3 k x4 x9 (([] : List Int)) x9 x202000 x202001)
def spec_NegativeCycle.l3 : Nat → List Int → Int → List Int → Int → Int → List (S70) → Option (List Int)
  | 0, _, _, _, _, _, _ => none
  | k + 1, x4, x9, x11, x12, x202000, x202001 => if (x11.length : Int) = 0 then (if 0 ≤ x12 then (if x12 < (x4.length : Int) then ((some (([rd x4 x12] : List Int) : List Int)).bind fun y225 => (if y225.length + x11.length < 17592186044416 then (if 0 ≤ (rd x4 x12) then (if (rd x4 x12) < (x202001.length : Int) then (spec_NegativeCycle.l3 k x4 x9 (y225 ++ x11) ((rd_T70 x202001 (rd x4 x12)).f0) x202000 x202001) else (none)) else (none)) else (none))) else (none)) else (none)) else (if x12 = x9 then (some x11) else (if 0 ≤ x12 then (if x12 < (x4.length : Int) then ((some (([rd x4 x12] : List Int) : List Int)).bind fun y234 => (if y234.length + x11.length < 17592186044416 then (if 0 ≤ (rd x4 x12) then (if (rd x4 x12) < (x202001.length : Int) then (spec_NegativeCycle.l3 k x4 x9 (y234 ++ x11) ((rd_T70 x202001 (rd x4 x12)).f0) x202000 x202001) else (none)) else (none)) else (none))) else (none)) else (none)))
end
def spec_NegativeCycle.f (k : Nat) (a0_0 : Int) (l0_1 : List (S70)) : Option (List Int) := (spec_GraphOk.f k a0_0 l0_1).bind fun t202 => (if t202 = true then (spec_NegativeCycle.j0 k (a0_0 == 0) a0_0 l0_1) else (spec_NegativeCycle.j0 k true a0_0 l0_1))
theorem spec_NegativeCycle.mono_l : ∀ k, (∀ y0 y1 y2, LeO (spec_NegativeCycle.j0 k y0 y1 y2) (spec_NegativeCycle.j0 (k + 1) y0 y1 y2)) ∧ (∀ y0 y1 y2 y3 y4 y5 y6, LeO (spec_NegativeCycle.l0 k y0 y1 y2 y3 y4 y5 y6) (spec_NegativeCycle.l0 (k + 1) y0 y1 y2 y3 y4 y5 y6)) ∧ (∀ y0 y1 y2 y3 y4 y5 y6, LeO (spec_NegativeCycle.l1 k y0 y1 y2 y3 y4 y5 y6) (spec_NegativeCycle.l1 (k + 1) y0 y1 y2 y3 y4 y5 y6)) ∧ (∀ y0 y1 y2 y3 y4, LeO (spec_NegativeCycle.l2 k y0 y1 y2 y3 y4) (spec_NegativeCycle.l2 (k + 1) y0 y1 y2 y3 y4)) ∧ (∀ y0 y1 y2 y3 y4 y5, LeO (spec_NegativeCycle.l3 k y0 y1 y2 y3 y4 y5) (spec_NegativeCycle.l3 (k + 1) y0 y1 y2 y3 y4 y5))
  | 0 => ⟨fun _ _ _ r h => by simp [spec_NegativeCycle.j0] at h, fun _ _ _ _ _ _ _ r h => by simp [spec_NegativeCycle.l0] at h, fun _ _ _ _ _ _ _ r h => by simp [spec_NegativeCycle.l1] at h, fun _ _ _ _ _ r h => by simp [spec_NegativeCycle.l2] at h, fun _ _ _ _ _ _ r h => by simp [spec_NegativeCycle.l3] at h⟩
  | k + 1 => by
    obtain ⟨ih0, ih1, ih2, ih3, ih4⟩ := spec_NegativeCycle.mono_l k
    refine ⟨?_, ?_, ?_, ?_, ?_⟩
    · intro y0 y1 y2
      unfold spec_NegativeCycle.j0
      repeat' first|(with_reducible first|exact ih0 _ _ _|exact ih1 _ _ _ _ _ _ _|exact ih2 _ _ _ _ _ _ _|exact ih3 _ _ _ _ _|exact ih4 _ _ _ _ _ _|exact spec_GraphOk.mono _ _ _|exact spec_l03Round.mono _ _ _ _ _ _|exact lR _|exact lN _|refine lI ?_ ?_|refine lB ?_ (fun _ => ?_))|exact ih0 _ _ _|exact ih1 _ _ _ _ _ _ _|exact ih2 _ _ _ _ _ _ _|exact ih3 _ _ _ _ _|exact ih4 _ _ _ _ _ _|exact spec_GraphOk.mono _ _ _|exact spec_l03Round.mono _ _ _ _ _ _|exact lN _|refine lI ?_ ?_|refine lB ?_ (fun _ => ?_)
    · intro y0 y1 y2 y3 y4 y5 y6
      unfold spec_NegativeCycle.l0
      repeat' first|(with_reducible first|exact ih0 _ _ _|exact ih1 _ _ _ _ _ _ _|exact ih2 _ _ _ _ _ _ _|exact ih3 _ _ _ _ _|exact ih4 _ _ _ _ _ _|exact spec_GraphOk.mono _ _ _|exact spec_l03Round.mono _ _ _ _ _ _|exact lR _|exact lN _|refine lI ?_ ?_|refine lB ?_ (fun _ => ?_))|exact ih0 _ _ _|exact ih1 _ _ _ _ _ _ _|exact ih2 _ _ _ _ _ _ _|exact ih3 _ _ _ _ _|exact ih4 _ _ _ _ _ _|exact spec_GraphOk.mono _ _ _|exact spec_l03Round.mono _ _ _ _ _ _|exact lN _|refine lI ?_ ?_|refine lB ?_ (fun _ => ?_)
    · intro y0 y1 y2 y3 y4 y5 y6
      unfold spec_NegativeCycle.l1
      repeat' first|(with_reducible first|exact ih0 _ _ _|exact ih1 _ _ _ _ _ _ _|exact ih2 _ _ _ _ _ _ _|exact ih3 _ _ _ _ _|exact ih4 _ _ _ _ _ _|exact spec_GraphOk.mono _ _ _|exact spec_l03Round.mono _ _ _ _ _ _|exact lR _|exact lN _|refine lI ?_ ?_|refine lB ?_ (fun _ => ?_))|exact ih0 _ _ _|exact ih1 _ _ _ _ _ _ _|exact ih2 _ _ _ _ _ _ _|exact ih3 _ _ _ _ _|exact ih4 _ _ _ _ _ _|exact spec_GraphOk.mono _ _ _|exact spec_l03Round.mono _ _ _ _ _ _|exact lN _|refine lI ?_ ?_|refine lB ?_ (fun _ => ?_)
    · intro y0 y1 y2 y3 y4
      unfold spec_NegativeCycle.l2
      repeat' first|(with_reducible first|exact ih0 _ _ _|exact ih1 _ _ _ _ _ _ _|exact ih2 _ _ _ _ _ _ _|exact ih3 _ _ _ _ _|exact ih4 _ _ _ _ _ _|exact spec_GraphOk.mono _ _ _|exact spec_l03Round.mono _ _ _ _ _ _|exact lR _|exact lN _|refine lI ?_ ?_|refine lB ?_ (fun _ => ?_))|exact ih0 _ _ _|exact ih1 _ _ _ _ _ _ _|exact ih2 _ _ _ _ _ _ _|exact ih3 _ _ _ _ _|exact ih4 _ _ _ _ _ _|exact spec_GraphOk.mono _ _ _|exact spec_l03Round.mono _ _ _ _ _ _|exact lN _|refine lI ?_ ?_|refine lB ?_ (fun _ => ?_)
    · intro y0 y1 y2 y3 y4 y5
      unfold spec_NegativeCycle.l3
      repeat' first|(with_reducible first|exact ih0 _ _ _|exact ih1 _ _ _ _ _ _ _|exact ih2 _ _ _ _ _ _ _|exact ih3 _ _ _ _ _|exact ih4 _ _ _ _ _ _|exact spec_GraphOk.mono _ _ _|exact spec_l03Round.mono _ _ _ _ _ _|exact lR _|exact lN _|refine lI ?_ ?_|refine lB ?_ (fun _ => ?_))|exact ih0 _ _ _|exact ih1 _ _ _ _ _ _ _|exact ih2 _ _ _ _ _ _ _|exact ih3 _ _ _ _ _|exact ih4 _ _ _ _ _ _|exact spec_GraphOk.mono _ _ _|exact spec_l03Round.mono _ _ _ _ _ _|exact lN _|refine lI ?_ ?_|refine lB ?_ (fun _ => ?_)
theorem spec_NegativeCycle.mono : ∀ a0 a1 k, LeO (spec_NegativeCycle.f k a0 a1) (spec_NegativeCycle.f (k + 1) a0 a1) := by
  intro a0 a1 k
  obtain ⟨ih0, ih1, ih2, ih3, ih4⟩ := spec_NegativeCycle.mono_l k
  unfold spec_NegativeCycle.f
  repeat' first|(with_reducible first|exact ih0 _ _ _|exact ih1 _ _ _ _ _ _ _|exact ih2 _ _ _ _ _ _ _|exact ih3 _ _ _ _ _|exact ih4 _ _ _ _ _ _|exact spec_GraphOk.mono _ _ _|exact spec_l03Round.mono _ _ _ _ _ _|exact lR _|exact lN _|refine lI ?_ ?_|refine lB ?_ (fun _ => ?_))|exact ih0 _ _ _|exact ih1 _ _ _ _ _ _ _|exact ih2 _ _ _ _ _ _ _|exact ih3 _ _ _ _ _|exact ih4 _ _ _ _ _ _|exact spec_GraphOk.mono _ _ _|exact spec_l03Round.mono _ _ _ _ _ _|exact lN _|refine lI ?_ ?_|refine lB ?_ (fun _ => ?_)
set_option maxHeartbeats 8000000 in
set_option maxRecDepth 100000 in
theorem spec_NegativeCycle.calls (k : Nat) (a0_0 : Int) (A0_1 : Option Addr) (c0_1 : Nat) (l0_1 : List (S70)) (r : List Int) (w : World) (hr0_1 : Kd.C k70 w A0_1 l0_1.length l0_1) (hc0_1 : l0_1.length ≤ c0_1) (h : spec_NegativeCycle.f k a0_0 l0_1 = some r) :
    Calls Try.prog 64 #[.agg #[.int .i64 a0_0, .slice A0_1 l0_1.length c0_1]] w fun e w' => ∃ v0_ : Value, e = .returned (v0_) ∧ Kd.R (Kd.int .i64) 3 w' w.heap.size (fun _ => True) v0_ r ∧ Below w.heap.size w w' := by
 have hu33 := Try.underlying33
 have HR0_1 := mK hr0_1
 have HC0_1 := mK hc0_1
 clear hr0_1 hc0_1
 have HB := mK (Below.refl w.heap.size w)
 have H : ((spec_GraphOk.f k a0_0 l0_1).bind fun t202 => (if t202 = true then (spec_NegativeCycle.j0 k (a0_0 == 0) a0_0 l0_1) else (spec_NegativeCycle.j0 k true a0_0 l0_1))) = some r := h
 clear h
 have HC2 := mK H
 clear H
 go_enter Try.func64, Try.ntmps64
 go_upto_region 1 with (first | ((with_reducible refine gate_dst (N := 1) rfl ?_); refine bxE 1 #[.int .i64 a0_0, .slice A0_1 l0_1.length c0_1] 33 ?_; intro gb201 hg w3 hbox hb; have BK201 := mK hbox; have GW201 := mK (gX hg HB); have GE201 := mK (gX hg HB); replace HB := bB HB hb; clear hb hbox hg))
 repeat (go_quiet (first | ((with_reducible refine gate_dst (N := 1) rfl ?_); refine bxE 1 #[.int .i64 a0_0, .slice A0_1 l0_1.length c0_1] 33 ?_; intro gb201 hg w3 hbox hb; have BK201 := mK hbox; have GW201 := mK (gX hg HB); have GE201 := mK (gX hg HB); replace HB := bB HB hb; clear hb hbox hg)); go_upto_region 1 with (first | ((with_reducible refine gate_dst (N := 1) rfl ?_); refine bxE 1 #[.int .i64 a0_0, .slice A0_1 l0_1.length c0_1] 33 ?_; intro gb201 hg w3 hbox hb; have BK201 := mK hbox; have GW201 := mK (gX hg HB); have GE201 := mK (gX hg HB); replace HB := bB HB hb; clear hb hbox hg)))
 (try simp only [Act.put, sT, sZ, sU])
 go_cut [20] (fun v20 wc => ∃ (kq : Nat) (x20_1 : Bool), v20 = .bool x20_1 ∧ Aside0 (spec_NegativeCycle.j0 kq x20_1 a0_0 l0_1 = some r) ∧ Aside0 (kq ≤ k) ∧ Aside0 (wc.heap[gb201]? = some (.cells #[.int .i64 a0_0, (.slice A0_1 l0_1.length c0_1)] 33 (0, 0))) ∧ Aside0 (Below w.heap.size w wc))
 case first => (
 have H := HC2.out
 clear HC2
 replace H := Option.bind_eq_some_iff.mp H
 obtain ⟨t202, A40, H⟩ := H
 replace H : (if t202 = true then (spec_NegativeCycle.j0 k (a0_0 == 0) a0_0 l0_1) else (spec_NegativeCycle.j0 k true a0_0 l0_1)) = some r := H
 have A4 := mK A40
 clear A40
 by_cases c5 : t202 = true
 rotate_left
 {
 replace c5 := Bool.eq_false_iff.mpr c5
 subst c5
 rw [if_neg (show ¬ (false = true) by decide)] at H
 have H' := mK H
 clear H
 have hcz9_0 := q0 BK201
 have hcz9_1 := q1 BK201
 have hfz9_0 := fX BK201 0
 have hfz9_1 := fX BK201 1
 go_wp2_with (first | (go_at_call 55; (with_reducible refine (spec_GraphOk.calls k a0_0 _ _ l0_1 false _ ?side1 ?side2 A4.out).mono ?_); (case side1 => exact cX HR0_1 HB); (case side2 => exact HC0_1.out); rintro e w10 ⟨rfl, hb⟩; replace BK201 := kB BK201 hb; replace HB := bB HB hb; (try clear hb); (try clear hb2); (try clear hk); (try clear hi)))
 repeat (go_quiet (first | (go_at_call 55; (with_reducible refine (spec_GraphOk.calls k a0_0 _ _ l0_1 false _ ?side1 ?side2 A4.out).mono ?_); (case side1 => exact cX HR0_1 HB); (case side2 => exact HC0_1.out); rintro e w10 ⟨rfl, hb⟩; replace BK201 := kB BK201 hb; replace HB := bB HB hb; (try clear hb); (try clear hb2); (try clear hk); (try clear hi))); try go_wp2_with (first | (go_at_call 55; (with_reducible refine (spec_GraphOk.calls k a0_0 _ _ l0_1 false _ ?side1 ?side2 A4.out).mono ?_); (case side1 => exact cX HR0_1 HB); (case side2 => exact HC0_1.out); rintro e w10 ⟨rfl, hb⟩; replace BK201 := kB BK201 hb; replace HB := bB HB hb; (try clear hb); (try clear hb2); (try clear hk); (try clear hi))))
 go_meet
 case rel => exact ⟨_, (true), (by first | rfl | (simp; done) | (simp [*]; done)), H', ⟨by first | omega | exact Nat.le_refl _⟩, ⟨kX BK201⟩, ⟨bX HB⟩⟩
 }
 subst c5
 rw [if_pos rfl] at H
 have H' := mK H
 clear H
 have hcz6_0 := q0 BK201
 have hcz6_1 := q1 BK201
 have hfz6_0 := fX BK201 0
 have hfz6_1 := fX BK201 1
 go_wp2_with (first | (go_at_call 55; (with_reducible refine (spec_GraphOk.calls k a0_0 _ _ l0_1 true _ ?side1 ?side2 A4.out).mono ?_); (case side1 => exact cX HR0_1 HB); (case side2 => exact HC0_1.out); rintro e w7 ⟨rfl, hb⟩; replace BK201 := kB BK201 hb; replace HB := bB HB hb; (try clear hb); (try clear hb2); (try clear hk); (try clear hi); have hcz8_0 := q0 BK201; have hcz8_1 := q1 BK201; have hfz8_0 := fX BK201 0; have hfz8_1 := fX BK201 1))
 repeat (go_quiet (first | (go_at_call 55; (with_reducible refine (spec_GraphOk.calls k a0_0 _ _ l0_1 true _ ?side1 ?side2 A4.out).mono ?_); (case side1 => exact cX HR0_1 HB); (case side2 => exact HC0_1.out); rintro e w7 ⟨rfl, hb⟩; replace BK201 := kB BK201 hb; replace HB := bB HB hb; (try clear hb); (try clear hb2); (try clear hk); (try clear hi); have hcz8_0 := q0 BK201; have hcz8_1 := q1 BK201; have hfz8_0 := fX BK201 0; have hfz8_1 := fX BK201 1)); try go_wp2_with (first | (go_at_call 55; (with_reducible refine (spec_GraphOk.calls k a0_0 _ _ l0_1 true _ ?side1 ?side2 A4.out).mono ?_); (case side1 => exact cX HR0_1 HB); (case side2 => exact HC0_1.out); rintro e w7 ⟨rfl, hb⟩; replace BK201 := kB BK201 hb; replace HB := bB HB hb; (try clear hb); (try clear hb2); (try clear hk); (try clear hi); have hcz8_0 := q0 BK201; have hcz8_1 := q1 BK201; have hfz8_0 := fX BK201 0; have hfz8_1 := fX BK201 1)))
 go_meet
 case rel => exact ⟨_, ((a0_0 == 0)), (by first | rfl | (simp; done) | (simp [*]; done)), H', ⟨by first | omega | exact Nat.le_refl _⟩, ⟨kX BK201⟩, ⟨bX HB⟩⟩
 )
 case rest => (
 clear HC2
 try clear p2
 try clear c5
 try clear c6
 try clear hcz6_0
 try clear hcz6_1
 try clear hcz8_0
 try clear hcz8_1
 try clear hcz9_0
 try clear hcz9_1
 try clear hfz6_0
 try clear hfz6_1
 try clear hfz8_0
 try clear hfz8_1
 try clear hfz9_0
 try clear hfz9_1
 obtain ⟨kq, x20_1, rfl, HA, HJ1, BK201, HB⟩ := hcut
 cases kq with
 | zero => exact absurd HA.out (by simp [spec_NegativeCycle.j0])
 | succ kj1 => (
 have H := HA.out
 clear HA
 simp only [spec_NegativeCycle.j0] at H
 by_cases c11 : x20_1 = true
 {
 subst c11
 rw [if_pos rfl] at H
 obtain rfl := Option.some.inj H
 go_wp2
 repeat (go_quiet (fail); try go_wp2)
 go_ret
 exact ⟨_, by first | rfl | (simp [errW_none, errW_some] <;> rfl) | (simp [*, errW_none, errW_some] <;> rfl), by first | exact Kd.R_nil _ _ _ _ _ | exact Kd.N_nil _ _ _ _ _ | exact Kd.V_nil _ _ _ _ _ | exact Kd.Q_nil _ _ _ _ _ | exact Kd.S_nil _ _ _ _ _, bX HB⟩
 }
 replace c11 := Bool.eq_false_iff.mpr c11
 subst c11
 rw [if_neg (show ¬ (false = true) by decide)] at H
 by_cases c12 : 0 ≤ a0_0
 rotate_left
 {
 rw [if_neg c12] at H
 exact absurd H (by simp)
 }
 rw [if_pos c12] at H
 have c12b0 := eq_true c12
 have c12b1 : decide (0 ≤ a0_0) = true := decide_eq_true c12
 clear c12
 by_cases c13 : (a0_0 : Int).toNat ≤ 35184372088832
 rotate_left
 {
 rw [if_neg c13] at H
 exact absurd H (by simp)
 }
 rw [if_pos c13] at H
 have c13b0 := eq_true c13
 have c13b1 : decide ((a0_0 : Int).toNat ≤ 35184372088832) = true := decide_eq_true c13
 clear c13
 obtain ⟨y203, hy203⟩ : ∃ y_ : List Int, y_ = (List.replicate (a0_0 : Int).toNat 0) := ⟨_, rfl⟩
 replace H : (if (a0_0 : Int).toNat ≤ 281474976710656 then ((some (List.replicate (a0_0 : Int).toNat false : List Bool)).bind fun y209 => (spec_NegativeCycle.l0 kj1 y203 (List.replicate (a0_0 : Int).toNat 0) y209 (y209.length : Int) 0 a0_0 l0_1)) else (none)) = some r := by first | (rw [hy203]; with_reducible exact H) | (have H2_ := (Option.bind_some _ _).symm.trans H; rw [hy203]; with_reducible exact H2_) | (have H2_ := (Option.bind_some _ _).symm.trans H; with_reducible exact H2_) | with_reducible exact H | (rw [hy203]; exact H) | exact H
 have Ny203 := mK hy203
 clear hy203
 obtain ⟨y206, hy206⟩ : ∃ y_ : List Int, y_ = (List.replicate (a0_0 : Int).toNat 0) := ⟨_, rfl⟩
 replace H : (if (a0_0 : Int).toNat ≤ 281474976710656 then ((some (List.replicate (a0_0 : Int).toNat false : List Bool)).bind fun y209 => (spec_NegativeCycle.l0 kj1 y203 y206 y209 (y209.length : Int) 0 a0_0 l0_1)) else (none)) = some r := by first | (rw [hy206]; with_reducible exact H) | (have H2_ := (Option.bind_some _ _).symm.trans H; rw [hy206]; with_reducible exact H2_) | (have H2_ := (Option.bind_some _ _).symm.trans H; with_reducible exact H2_) | with_reducible exact H | (rw [hy206]; exact H) | exact H
 have Ny206 := mK hy206
 clear hy206
 by_cases c14 : (a0_0 : Int).toNat ≤ 281474976710656
 rotate_left
 {
 rw [if_neg c14] at H
 exact absurd H (by simp)
 }
 rw [if_pos c14] at H
 have c14b0 := eq_true c14
 have c14b1 : decide ((a0_0 : Int).toNat ≤ 281474976710656) = true := decide_eq_true c14
 clear c14
 obtain ⟨y209, hy209⟩ : ∃ y_ : List Bool, y_ = (List.replicate (a0_0 : Int).toNat false) := ⟨_, rfl⟩
 replace H : (spec_NegativeCycle.l0 kj1 y203 y206 y209 (y209.length : Int) 0 a0_0 l0_1) = some r := by first | (rw [hy209]; with_reducible exact H) | (have H2_ := (Option.bind_some _ _).symm.trans H; rw [hy209]; with_reducible exact H2_) | (have H2_ := (Option.bind_some _ _).symm.trans H; with_reducible exact H2_) | with_reducible exact H | (rw [hy209]; exact H) | exact H
 have Ny209 := mK hy209
 clear hy209
 have H' := mK H
 clear H
 have hcz15_0 := q0 BK201
 have hcz15_1 := q1 BK201
 have hfz15_0 := fX BK201 0
 have hfz15_1 := fX BK201 1
 go_wp2_with (first | ((with_reducible refine gate_dst (N := 23) rfl ?_); refine Kd.R_make (Kd.int .i64) _ 3 rfl (N := 23) rfl 26 _ _ rfl a0_0 rfl rfl Try.underlying26 (.int .i64 0) 8 info3 rfl (by decide) (by omega) 0 (ok := fun _ => True) (okp := fun _ => True) rfl (fun _ hk => hk) trivial (of_decide_eq_true oX) (Nat.le_trans (Nat.mul_le_mul_right _ (of_decide_eq_true oX : a0_0.toNat ≤ 35184372088832)) (by omega)) (Below.refl _ _) (Nat.le_refl _) ?_; intro v204 w16 ho17 hb hg_ hnew_; clear hg_ hnew_; (first | rw [← Ny203.out] at ho17 | (simp only [Int.reduceToNat] at ho17; rw [← Ny203.out] at ho17)); have HO205 := mK (Kd.R_lower ho17 (below_size (bX HB))); replace BK201 := kB BK201 hb; replace HB := bB HB hb; clear hb ho17; have hcz18_0 := q0 BK201; have hcz18_1 := q1 BK201; have hfz18_0 := fX BK201 0; have hfz18_1 := fX BK201 1) | ((with_reducible refine gate_dst (N := 26) rfl ?_); refine Kd.R_make (Kd.int .i64) _ 3 rfl (N := 26) rfl 26 _ _ rfl a0_0 rfl rfl Try.underlying26 (.int .i64 0) 8 info3 rfl (by decide) (by omega) 0 (ok := fun _ => True) (okp := fun _ => True) rfl (fun _ hk => hk) trivial (of_decide_eq_true oX) (Nat.le_trans (Nat.mul_le_mul_right _ (of_decide_eq_true oX : a0_0.toNat ≤ 35184372088832)) (by omega)) (Below.refl _ _) (Nat.le_refl _) ?_; intro v207 w19 ho20 hb hg_ hnew_; clear hg_ hnew_; (first | rw [← Ny206.out] at ho20 | (simp only [Int.reduceToNat] at ho20; rw [← Ny206.out] at ho20)); have HO208 := mK (Kd.R_lower (Kd.R_new' ho20 (Kd.R_lt (rX HO205))) (below_size (bX HB))); replace HO205 := mK (Kd.R_elder' (rX HO205) (Kd.R_base ho20) hb); replace BK201 := kB BK201 hb; replace HB := bB HB hb; clear hb ho20; have hcz21_0 := q0 BK201; have hcz21_1 := q1 BK201; have hfz21_0 := fX BK201 0; have hfz21_1 := fX BK201 1) | ((with_reducible refine gate_dst (N := 29) rfl ?_); refine Kd.R_make Kd.bool _ 4 rfl (N := 29) rfl 107 _ _ rfl a0_0 rfl rfl Try.underlying107 (.bool false) 1 info4 rfl (by decide) (by omega) false (ok := fun _ => True) (okp := fun _ => True) rfl (fun _ hk => hk) trivial (of_decide_eq_true oX) (Nat.le_trans (Nat.mul_le_mul_right _ (of_decide_eq_true oX : a0_0.toNat ≤ 281474976710656)) (by omega)) (Below.refl _ _) (Nat.le_refl _) ?_; intro v210 w22 ho23 hb hg_ hnew_; clear hg_ hnew_; (first | rw [← Ny209.out] at ho23 | (simp only [Int.reduceToNat] at ho23; rw [← Ny209.out] at ho23)); replace HO205 := mK (Kd.R_below (rX HO205) hb); replace HO208 := mK (Kd.R_below (rX HO208) hb); have HO211 := mK (Kd.R_lower ho23 (below_size (bX HB))); replace BK201 := kB BK201 hb; replace HB := bB HB hb; clear hb ho23; obtain ⟨Ao24, co24, eo24⟩ := Kd.R_slice HO211.out; subst eo24))
 repeat (go_quiet (first | ((with_reducible refine gate_dst (N := 23) rfl ?_); refine Kd.R_make (Kd.int .i64) _ 3 rfl (N := 23) rfl 26 _ _ rfl a0_0 rfl rfl Try.underlying26 (.int .i64 0) 8 info3 rfl (by decide) (by omega) 0 (ok := fun _ => True) (okp := fun _ => True) rfl (fun _ hk => hk) trivial (of_decide_eq_true oX) (Nat.le_trans (Nat.mul_le_mul_right _ (of_decide_eq_true oX : a0_0.toNat ≤ 35184372088832)) (by omega)) (Below.refl _ _) (Nat.le_refl _) ?_; intro v204 w16 ho17 hb hg_ hnew_; clear hg_ hnew_; (first | rw [← Ny203.out] at ho17 | (simp only [Int.reduceToNat] at ho17; rw [← Ny203.out] at ho17)); have HO205 := mK (Kd.R_lower ho17 (below_size (bX HB))); replace BK201 := kB BK201 hb; replace HB := bB HB hb; clear hb ho17; have hcz18_0 := q0 BK201; have hcz18_1 := q1 BK201; have hfz18_0 := fX BK201 0; have hfz18_1 := fX BK201 1) | ((with_reducible refine gate_dst (N := 26) rfl ?_); refine Kd.R_make (Kd.int .i64) _ 3 rfl (N := 26) rfl 26 _ _ rfl a0_0 rfl rfl Try.underlying26 (.int .i64 0) 8 info3 rfl (by decide) (by omega) 0 (ok := fun _ => True) (okp := fun _ => True) rfl (fun _ hk => hk) trivial (of_decide_eq_true oX) (Nat.le_trans (Nat.mul_le_mul_right _ (of_decide_eq_true oX : a0_0.toNat ≤ 35184372088832)) (by omega)) (Below.refl _ _) (Nat.le_refl _) ?_; intro v207 w19 ho20 hb hg_ hnew_; clear hg_ hnew_; (first | rw [← Ny206.out] at ho20 | (simp only [Int.reduceToNat] at ho20; rw [← Ny206.out] at ho20)); have HO208 := mK (Kd.R_lower (Kd.R_new' ho20 (Kd.R_lt (rX HO205))) (below_size (bX HB))); replace HO205 := mK (Kd.R_elder' (rX HO205) (Kd.R_base ho20) hb); replace BK201 := kB BK201 hb; replace HB := bB HB hb; clear hb ho20; have hcz21_0 := q0 BK201; have hcz21_1 := q1 BK201; have hfz21_0 := fX BK201 0; have hfz21_1 := fX BK201 1) | ((with_reducible refine gate_dst (N := 29) rfl ?_); refine Kd.R_make Kd.bool _ 4 rfl (N := 29) rfl 107 _ _ rfl a0_0 rfl rfl Try.underlying107 (.bool false) 1 info4 rfl (by decide) (by omega) false (ok := fun _ => True) (okp := fun _ => True) rfl (fun _ hk => hk) trivial (of_decide_eq_true oX) (Nat.le_trans (Nat.mul_le_mul_right _ (of_decide_eq_true oX : a0_0.toNat ≤ 281474976710656)) (by omega)) (Below.refl _ _) (Nat.le_refl _) ?_; intro v210 w22 ho23 hb hg_ hnew_; clear hg_ hnew_; (first | rw [← Ny209.out] at ho23 | (simp only [Int.reduceToNat] at ho23; rw [← Ny209.out] at ho23)); replace HO205 := mK (Kd.R_below (rX HO205) hb); replace HO208 := mK (Kd.R_below (rX HO208) hb); have HO211 := mK (Kd.R_lower ho23 (below_size (bX HB))); replace BK201 := kB BK201 hb; replace HB := bB HB hb; clear hb ho23; obtain ⟨Ao24, co24, eo24⟩ := Kd.R_slice HO211.out; subst eo24)); try go_wp2_with (first | ((with_reducible refine gate_dst (N := 23) rfl ?_); refine Kd.R_make (Kd.int .i64) _ 3 rfl (N := 23) rfl 26 _ _ rfl a0_0 rfl rfl Try.underlying26 (.int .i64 0) 8 info3 rfl (by decide) (by omega) 0 (ok := fun _ => True) (okp := fun _ => True) rfl (fun _ hk => hk) trivial (of_decide_eq_true oX) (Nat.le_trans (Nat.mul_le_mul_right _ (of_decide_eq_true oX : a0_0.toNat ≤ 35184372088832)) (by omega)) (Below.refl _ _) (Nat.le_refl _) ?_; intro v204 w16 ho17 hb hg_ hnew_; clear hg_ hnew_; (first | rw [← Ny203.out] at ho17 | (simp only [Int.reduceToNat] at ho17; rw [← Ny203.out] at ho17)); have HO205 := mK (Kd.R_lower ho17 (below_size (bX HB))); replace BK201 := kB BK201 hb; replace HB := bB HB hb; clear hb ho17; have hcz18_0 := q0 BK201; have hcz18_1 := q1 BK201; have hfz18_0 := fX BK201 0; have hfz18_1 := fX BK201 1) | ((with_reducible refine gate_dst (N := 26) rfl ?_); refine Kd.R_make (Kd.int .i64) _ 3 rfl (N := 26) rfl 26 _ _ rfl a0_0 rfl rfl Try.underlying26 (.int .i64 0) 8 info3 rfl (by decide) (by omega) 0 (ok := fun _ => True) (okp := fun _ => True) rfl (fun _ hk => hk) trivial (of_decide_eq_true oX) (Nat.le_trans (Nat.mul_le_mul_right _ (of_decide_eq_true oX : a0_0.toNat ≤ 35184372088832)) (by omega)) (Below.refl _ _) (Nat.le_refl _) ?_; intro v207 w19 ho20 hb hg_ hnew_; clear hg_ hnew_; (first | rw [← Ny206.out] at ho20 | (simp only [Int.reduceToNat] at ho20; rw [← Ny206.out] at ho20)); have HO208 := mK (Kd.R_lower (Kd.R_new' ho20 (Kd.R_lt (rX HO205))) (below_size (bX HB))); replace HO205 := mK (Kd.R_elder' (rX HO205) (Kd.R_base ho20) hb); replace BK201 := kB BK201 hb; replace HB := bB HB hb; clear hb ho20; have hcz21_0 := q0 BK201; have hcz21_1 := q1 BK201; have hfz21_0 := fX BK201 0; have hfz21_1 := fX BK201 1) | ((with_reducible refine gate_dst (N := 29) rfl ?_); refine Kd.R_make Kd.bool _ 4 rfl (N := 29) rfl 107 _ _ rfl a0_0 rfl rfl Try.underlying107 (.bool false) 1 info4 rfl (by decide) (by omega) false (ok := fun _ => True) (okp := fun _ => True) rfl (fun _ hk => hk) trivial (of_decide_eq_true oX) (Nat.le_trans (Nat.mul_le_mul_right _ (of_decide_eq_true oX : a0_0.toNat ≤ 281474976710656)) (by omega)) (Below.refl _ _) (Nat.le_refl _) ?_; intro v210 w22 ho23 hb hg_ hnew_; clear hg_ hnew_; (first | rw [← Ny209.out] at ho23 | (simp only [Int.reduceToNat] at ho23; rw [← Ny209.out] at ho23)); replace HO205 := mK (Kd.R_below (rX HO205) hb); replace HO208 := mK (Kd.R_below (rX HO208) hb); have HO211 := mK (Kd.R_lower ho23 (below_size (bX HB))); replace BK201 := kB BK201 hb; replace HB := bB HB hb; clear hb ho23; obtain ⟨Ao24, co24, eo24⟩ := Kd.R_slice HO211.out; subst eo24)))
 go_loopg [32] kj1 (fun kq v32 w' => ∃ (x4_2 : List Int) (x5_2 : List Bool) (x32_2 : Int), v32 = .int .i64 x32_2 ∧ Aside0 (spec_NegativeCycle.l0 kq y203 x4_2 x5_2 (y209.length : Int) x32_2 a0_0 l0_1 = some r) ∧ Aside0 (kq ≤ kj1) ∧ Aside0 (Kd.R (Kd.int .i64) 3 w' w.heap.size (fun k_ => some k_ ≠ (v207 : Value).ownBlock) v204 y203) ∧ Aside0 (Kd.R (Kd.int .i64) 3 w' w.heap.size (fun k_ => some k_ ≠ (v204 : Value).ownBlock) v207 x4_2) ∧ Aside0 (Kd.R Kd.bool 4 w' w.heap.size (fun _ => True) (.slice Ao24 y209.length co24) x5_2) ∧ Aside0 (w'.heap[gb201]? = some (.cells #[.int .i64 a0_0, (.slice A0_1 l0_1.length c0_1)] 33 (0, 0))) ∧ Aside0 (Below w.heap.size w w'))
 case atStart => exact ⟨(y206), (y209), (0), (by first | rfl | (simp; done) | (simp [*]; done)), H', ⟨Nat.le_refl _⟩, ⟨by (with_reducible repeat first|apply rA|apply rN|apply rD); exact Kd.R_mono HO205.out (fun _ hk => hk.2)⟩, ⟨by (with_reducible repeat first|apply rA|apply rN|apply rD); exact Kd.R_mono HO208.out (fun _ hk => hk.2)⟩, ⟨rX HO211⟩, ⟨kX BK201⟩, ⟨bX HB⟩⟩
 case round => (
 clear H'
 try clear c1
 try clear p2
 try clear c5
 try clear c6
 try clear c11
 try clear c12
 try clear c12b0
 try clear c12b1
 try clear c13
 try clear c13b0
 try clear c13b1
 try clear c14
 try clear c14b0
 try clear c14b1
 try clear hcz15_0
 try clear hcz15_1
 try clear hcz18_0
 try clear hcz18_1
 try clear hcz21_0
 try clear hcz21_1
 try clear hcz6_0
 try clear hcz6_1
 try clear hcz8_0
 try clear hcz8_1
 try clear hcz9_0
 try clear hcz9_1
 try clear hfz15_0
 try clear hfz15_1
 try clear hfz18_0
 try clear hfz18_1
 try clear hfz21_0
 try clear hfz21_1
 try clear hfz6_0
 try clear hfz6_1
 try clear hfz8_0
 try clear hfz8_1
 try clear hfz9_0
 try clear hfz9_1
 try clear p2
 obtain ⟨x4_2, x5_2, x32_2, rfl, HA, HK2, HO_3, HO_4, HO_5, BK201, HB⟩ := hrel
 have hl5_2 := (Kd.R_reads' HO_5.out).1
 rw [hl5_2] at HO_5
 (try simp only [hl5_2])
 (try simp only [hl5_2] at BK201)
 (try simp only [hl5_2] at HO_3)
 (try simp only [hl5_2] at HO_4)
 cases gk with
 | zero => exact absurd HA.out (by simp [spec_NegativeCycle.l0])
 | succ k2 => (
 have H := HA.out
 clear HA
 simp only [spec_NegativeCycle.l0] at H
 by_cases c25 : x32_2 < (y209.length : Int)
 {
 rw [if_pos c25] at H
 have c25b0 : decide (x32_2 < (y209.length : Int)) = true := decide_eq_true c25
 clear c25
 by_cases c26 : 0 ≤ x32_2
 rotate_left
 {
 rw [if_neg c26] at H
 exact absurd H (by simp)
 }
 rw [if_pos c26] at H
 have c26b0 : decide (0 ≤ x32_2) = true := decide_eq_true c26
 clear c26
 by_cases c27 : x32_2 < (x5_2.length : Int)
 rotate_left
 {
 rw [if_neg c27] at H
 exact absurd H (by simp)
 }
 rw [if_pos c27] at H
 have c27b0 : decide (x32_2 < (x5_2.length : Int)) = true := decide_eq_true c27
 clear c27
 obtain ⟨y212, hy212⟩ : ∃ y_ : List Bool, y_ = (x5_2.set (x32_2 : Int).toNat true) := ⟨_, rfl⟩
 replace H : (if x32_2 < (x4_2.length : Int) then (spec_NegativeCycle.l0 k2 y203 (x4_2.set (x32_2 : Int).toNat (-1)) y212 (y209.length : Int) (wrap64 (x32_2 + 1)) a0_0 l0_1) else (none)) = some r := by first | (rw [hy212]; with_reducible exact H) | (have H2_ := (Option.bind_some _ _).symm.trans H; rw [hy212]; with_reducible exact H2_) | (have H2_ := (Option.bind_some _ _).symm.trans H; with_reducible exact H2_) | with_reducible exact H | (rw [hy212]; exact H) | exact H
 have Ny212 := mK hy212
 clear hy212
 by_cases c29 : x32_2 < (x4_2.length : Int)
 rotate_left
 {
 rw [if_neg c29] at H
 exact absurd H (by simp)
 }
 rw [if_pos c29] at H
 have c29b0 : decide (x32_2 < (x4_2.length : Int)) = true := decide_eq_true c29
 clear c29
 obtain ⟨y213, hy213⟩ : ∃ y_ : List Int, y_ = (x4_2.set (x32_2 : Int).toNat (-1)) := ⟨_, rfl⟩
 replace H : (spec_NegativeCycle.l0 k2 y203 y213 y212 (y209.length : Int) (wrap64 (x32_2 + 1)) a0_0 l0_1) = some r := by first | (rw [hy213]; with_reducible exact H) | (have H2_ := (Option.bind_some _ _).symm.trans H; rw [hy213]; with_reducible exact H2_) | (have H2_ := (Option.bind_some _ _).symm.trans H; with_reducible exact H2_) | with_reducible exact H | (rw [hy213]; exact H) | exact H
 have Ny213 := mK hy213
 clear hy213
 have H' := mK H
 clear H
 have p28 : 0 ≤ (x32_2 : Int) := of_decide_eq_true oX
 have q28 : (x32_2 : Int) < ((x5_2.length : Int) : Int) := of_decide_eq_true oX
 obtain ⟨go28, co28, eo28, gb28, gl28, cl28, HG28⟩ := Kd.R_form HO_5.out (by omega)
 (first | cases eo28 | (injection eo28 with ea_ en_ ec_; (first | subst ea_ | (injection ea_ with ea_; subst ea_)); subst ec_; clear en_))
 have GB28 := mK gb28
 have GG28 := mK HG28
 clear gb28 gl28 HG28
 obtain ⟨hx28_0, hf28_0⟩ := Kd.R_celln false HO_5.out (x32_2 : Int) p28 q28
 replace p28 := eq_true p28
 replace q28 := eq_true q28
 have HP31 := Kd.R_putg HO_5.out (x32_2 : Int) true
 go_wp2_with (first | ((with_reducible refine gate_store (t := 4) (p := 37) rfl ?_); (try (rw [drewN_self wr]; generalize hq_ : World.drewN wr _ = wr; have n0_ := mK (Kd.R_at hq_ HO_3.out); have n1_ := mK (Kd.R_at hq_ HO_4.out); have n2_ := mK (Kd.R_at hq_ HO_5.out); have n3_ := mK (blk_at hq_ BK201.out); have n4_ := mK (below_at hq_ HB.out); clear hq_ HO_3 HO_4 HO_5 BK201 HB; have HO_3 := n0_; have HO_4 := n1_; have HO_5 := n2_; have BK201 := n3_; have HB := n4_; clear n0_ n1_ n2_ n3_ n4_; (try (have HP31 := Kd.R_putg HO_5.out (x32_2 : Int) true)))); refine store_event (t := 4) (p := 37) (v := ?vo_w32) (w1 := (wr.setCell ⟨go28, (x32_2 : Int).toNat, none⟩ (.bool true))) ?hg ?ho ?hn ?hr ?_; (case ho => rfl); (case hg => rfl); (case hn => rfl); (case hr => go_simp <;> rfl); intro w32 hw; have hg : wr.grownBy w32 (some go28) := (by rw [hw]; exact HP31.2); have hp_ : Kd.R Kd.bool 4 w32 w.heap.size (fun _ => True) (.slice (some ⟨go28, 0, none⟩) x5_2.length co24) y212 := (by rw [hw, Ny212.out]; exact HP31.1); clear HP31; have n0_ := mK (Kd.R_over' (v := (.slice (some ⟨go28, 0, none⟩) x5_2.length co24)) (rX HO_3) (Kd.R_typed HO_5.out) (by decide) hg); have n1_ := mK (Kd.R_over' (v := (.slice (some ⟨go28, 0, none⟩) x5_2.length co24)) (rX HO_4) (Kd.R_typed HO_5.out) (by decide) hg); have n2_ := mK (hp_); have n3_ := mK (blk_grown (kX BK201) hg (Kd.R_ne HO_5.out BK201.out (by decide))); have n4_ := mK ((by rw [hw]; exact below_set (HB.out) GB28.out : Below w.heap.size w w32)); clear HO_3; clear HO_4; clear HO_5; clear BK201; clear HB; have HO_3 := n0_; have HO_4 := n1_; have HO_5 := n2_; have BK201 := n3_; have HB := n4_; clear n0_ n1_ n2_ n3_ n4_; clear hg hw hp_; have p30 : 0 ≤ (x32_2 : Int) := of_decide_eq_true oX; have q30 : (x32_2 : Int) < ((x4_2.length : Int) : Int) := of_decide_eq_true oX; obtain ⟨go30, co30, eo30, gb30, gl30, cl30, HG30⟩ := Kd.R_form HO_4.out (by omega); (first | cases eo30 | (injection eo30 with ea_ en_ ec_; (first | subst ea_ | (injection ea_ with ea_; subst ea_)); subst ec_; clear en_)); have GB30 := mK gb30; have GG30 := mK HG30; clear gb30 gl30 HG30; obtain ⟨hx30_0, hf30_0⟩ := Kd.R_celln 0 HO_4.out (x32_2 : Int) p30 q30; replace p30 := eq_true p30; replace q30 := eq_true q30; obtain ⟨hy33_, hz33_⟩ := Kd.R_celln 0 HO_4.out (x32_2 : Int) (of_decide_eq_true oX) (of_decide_eq_true oX); have HP33 := Kd.R_putg HO_4.out (x32_2 : Int) (-1)) | ((with_reducible refine gate_store (t := 3) (p := 40) rfl ?_); (try (rw [drewN_self w32]; generalize hq_ : World.drewN w32 _ = w32; have n0_ := mK (Kd.R_at hq_ HO_3.out); have n1_ := mK (Kd.R_at hq_ HO_4.out); have n2_ := mK (Kd.R_at hq_ HO_5.out); have n3_ := mK (blk_at hq_ BK201.out); have n4_ := mK (below_at hq_ HB.out); clear hq_ HO_3 HO_4 HO_5 BK201 HB; have HO_3 := n0_; have HO_4 := n1_; have HO_5 := n2_; have BK201 := n3_; have HB := n4_; clear n0_ n1_ n2_ n3_ n4_; (try (obtain ⟨hy33_, hz33_⟩ := Kd.R_celln 0 HO_4.out (x32_2 : Int) (of_decide_eq_true oX) (of_decide_eq_true oX))); (try (have HP33 := Kd.R_putg HO_4.out (x32_2 : Int) (-1))))); refine store_event (t := 3) (p := 40) (v := ?vo_w34) (w1 := (w32.setCell ⟨go30, (x32_2 : Int).toNat, none⟩ (.int .i64 (-1)))) ?hg ?ho ?hn ?hr ?_; (case ho => rfl); (case hg => rfl); (case hn => rfl); (case hr => go_simp <;> rfl); intro w34 hw; have hg : w32.grownBy w34 (some go30) := (by rw [hw]; exact HP33.2); have hp_ : Kd.R (Kd.int .i64) 3 w34 w.heap.size (fun k_ => some k_ ≠ (v204 : Value).ownBlock) (.slice (some ⟨go30, 0, none⟩) x4_2.length co30) y213 := (by rw [hw, Ny213.out]; exact HP33.1); clear HP33; have n0_ := mK (Kd.R_after (v := (.slice (some ⟨go30, 0, none⟩) x4_2.length co30)) (v1 := (.slice (some ⟨go30, 0, none⟩) x4_2.length co30)) (ok := (fun _ => True)) (by (with_reducible repeat first|apply rA|apply rN|apply rD); exact Kd.R_mono HO_3.out (fun _ hk => ⟨trivial, hk⟩)) hg (.inl rfl)); have n1_ := mK (hp_); have n2_ := mK (Kd.R_over' (v := (.slice (some ⟨go30, 0, none⟩) x4_2.length co30)) (rX HO_5) (Kd.R_typed HO_4.out) (by decide) hg); have n3_ := mK (blk_grown (kX BK201) hg (Kd.R_ne HO_4.out BK201.out (by decide))); have n4_ := mK ((by rw [hw]; exact below_set (HB.out) GB30.out : Below w.heap.size w w34)); clear HO_3; clear HO_4; clear HO_5; clear BK201; clear HB; have HO_3 := n0_; have HO_4 := n1_; have HO_5 := n2_; have BK201 := n3_; have HB := n4_; clear n0_ n1_ n2_ n3_ n4_; clear hg hw hp_))
 repeat (go_quiet (first | ((with_reducible refine gate_store (t := 4) (p := 37) rfl ?_); (try (rw [drewN_self wr]; generalize hq_ : World.drewN wr _ = wr; have n0_ := mK (Kd.R_at hq_ HO_3.out); have n1_ := mK (Kd.R_at hq_ HO_4.out); have n2_ := mK (Kd.R_at hq_ HO_5.out); have n3_ := mK (blk_at hq_ BK201.out); have n4_ := mK (below_at hq_ HB.out); clear hq_ HO_3 HO_4 HO_5 BK201 HB; have HO_3 := n0_; have HO_4 := n1_; have HO_5 := n2_; have BK201 := n3_; have HB := n4_; clear n0_ n1_ n2_ n3_ n4_; (try (have HP31 := Kd.R_putg HO_5.out (x32_2 : Int) true)))); refine store_event (t := 4) (p := 37) (v := ?vo_w32) (w1 := (wr.setCell ⟨go28, (x32_2 : Int).toNat, none⟩ (.bool true))) ?hg ?ho ?hn ?hr ?_; (case ho => rfl); (case hg => rfl); (case hn => rfl); (case hr => go_simp <;> rfl); intro w32 hw; have hg : wr.grownBy w32 (some go28) := (by rw [hw]; exact HP31.2); have hp_ : Kd.R Kd.bool 4 w32 w.heap.size (fun _ => True) (.slice (some ⟨go28, 0, none⟩) x5_2.length co24) y212 := (by rw [hw, Ny212.out]; exact HP31.1); clear HP31; have n0_ := mK (Kd.R_over' (v := (.slice (some ⟨go28, 0, none⟩) x5_2.length co24)) (rX HO_3) (Kd.R_typed HO_5.out) (by decide) hg); have n1_ := mK (Kd.R_over' (v := (.slice (some ⟨go28, 0, none⟩) x5_2.length co24)) (rX HO_4) (Kd.R_typed HO_5.out) (by decide) hg); have n2_ := mK (hp_); have n3_ := mK (blk_grown (kX BK201) hg (Kd.R_ne HO_5.out BK201.out (by decide))); have n4_ := mK ((by rw [hw]; exact below_set (HB.out) GB28.out : Below w.heap.size w w32)); clear HO_3; clear HO_4; clear HO_5; clear BK201; clear HB; have HO_3 := n0_; have HO_4 := n1_; have HO_5 := n2_; have BK201 := n3_; have HB := n4_; clear n0_ n1_ n2_ n3_ n4_; clear hg hw hp_; have p30 : 0 ≤ (x32_2 : Int) := of_decide_eq_true oX; have q30 : (x32_2 : Int) < ((x4_2.length : Int) : Int) := of_decide_eq_true oX; obtain ⟨go30, co30, eo30, gb30, gl30, cl30, HG30⟩ := Kd.R_form HO_4.out (by omega); (first | cases eo30 | (injection eo30 with ea_ en_ ec_; (first | subst ea_ | (injection ea_ with ea_; subst ea_)); subst ec_; clear en_)); have GB30 := mK gb30; have GG30 := mK HG30; clear gb30 gl30 HG30; obtain ⟨hx30_0, hf30_0⟩ := Kd.R_celln 0 HO_4.out (x32_2 : Int) p30 q30; replace p30 := eq_true p30; replace q30 := eq_true q30; obtain ⟨hy33_, hz33_⟩ := Kd.R_celln 0 HO_4.out (x32_2 : Int) (of_decide_eq_true oX) (of_decide_eq_true oX); have HP33 := Kd.R_putg HO_4.out (x32_2 : Int) (-1)) | ((with_reducible refine gate_store (t := 3) (p := 40) rfl ?_); (try (rw [drewN_self w32]; generalize hq_ : World.drewN w32 _ = w32; have n0_ := mK (Kd.R_at hq_ HO_3.out); have n1_ := mK (Kd.R_at hq_ HO_4.out); have n2_ := mK (Kd.R_at hq_ HO_5.out); have n3_ := mK (blk_at hq_ BK201.out); have n4_ := mK (below_at hq_ HB.out); clear hq_ HO_3 HO_4 HO_5 BK201 HB; have HO_3 := n0_; have HO_4 := n1_; have HO_5 := n2_; have BK201 := n3_; have HB := n4_; clear n0_ n1_ n2_ n3_ n4_; (try (obtain ⟨hy33_, hz33_⟩ := Kd.R_celln 0 HO_4.out (x32_2 : Int) (of_decide_eq_true oX) (of_decide_eq_true oX))); (try (have HP33 := Kd.R_putg HO_4.out (x32_2 : Int) (-1))))); refine store_event (t := 3) (p := 40) (v := ?vo_w34) (w1 := (w32.setCell ⟨go30, (x32_2 : Int).toNat, none⟩ (.int .i64 (-1)))) ?hg ?ho ?hn ?hr ?_; (case ho => rfl); (case hg => rfl); (case hn => rfl); (case hr => go_simp <;> rfl); intro w34 hw; have hg : w32.grownBy w34 (some go30) := (by rw [hw]; exact HP33.2); have hp_ : Kd.R (Kd.int .i64) 3 w34 w.heap.size (fun k_ => some k_ ≠ (v204 : Value).ownBlock) (.slice (some ⟨go30, 0, none⟩) x4_2.length co30) y213 := (by rw [hw, Ny213.out]; exact HP33.1); clear HP33; have n0_ := mK (Kd.R_after (v := (.slice (some ⟨go30, 0, none⟩) x4_2.length co30)) (v1 := (.slice (some ⟨go30, 0, none⟩) x4_2.length co30)) (ok := (fun _ => True)) (by (with_reducible repeat first|apply rA|apply rN|apply rD); exact Kd.R_mono HO_3.out (fun _ hk => ⟨trivial, hk⟩)) hg (.inl rfl)); have n1_ := mK (hp_); have n2_ := mK (Kd.R_over' (v := (.slice (some ⟨go30, 0, none⟩) x4_2.length co30)) (rX HO_5) (Kd.R_typed HO_4.out) (by decide) hg); have n3_ := mK (blk_grown (kX BK201) hg (Kd.R_ne HO_4.out BK201.out (by decide))); have n4_ := mK ((by rw [hw]; exact below_set (HB.out) GB30.out : Below w.heap.size w w34)); clear HO_3; clear HO_4; clear HO_5; clear BK201; clear HB; have HO_3 := n0_; have HO_4 := n1_; have HO_5 := n2_; have BK201 := n3_; have HB := n4_; clear n0_ n1_ n2_ n3_ n4_; clear hg hw hp_)); try go_wp2_with (first | ((with_reducible refine gate_store (t := 4) (p := 37) rfl ?_); (try (rw [drewN_self wr]; generalize hq_ : World.drewN wr _ = wr; have n0_ := mK (Kd.R_at hq_ HO_3.out); have n1_ := mK (Kd.R_at hq_ HO_4.out); have n2_ := mK (Kd.R_at hq_ HO_5.out); have n3_ := mK (blk_at hq_ BK201.out); have n4_ := mK (below_at hq_ HB.out); clear hq_ HO_3 HO_4 HO_5 BK201 HB; have HO_3 := n0_; have HO_4 := n1_; have HO_5 := n2_; have BK201 := n3_; have HB := n4_; clear n0_ n1_ n2_ n3_ n4_; (try (have HP31 := Kd.R_putg HO_5.out (x32_2 : Int) true)))); refine store_event (t := 4) (p := 37) (v := ?vo_w32) (w1 := (wr.setCell ⟨go28, (x32_2 : Int).toNat, none⟩ (.bool true))) ?hg ?ho ?hn ?hr ?_; (case ho => rfl); (case hg => rfl); (case hn => rfl); (case hr => go_simp <;> rfl); intro w32 hw; have hg : wr.grownBy w32 (some go28) := (by rw [hw]; exact HP31.2); have hp_ : Kd.R Kd.bool 4 w32 w.heap.size (fun _ => True) (.slice (some ⟨go28, 0, none⟩) x5_2.length co24) y212 := (by rw [hw, Ny212.out]; exact HP31.1); clear HP31; have n0_ := mK (Kd.R_over' (v := (.slice (some ⟨go28, 0, none⟩) x5_2.length co24)) (rX HO_3) (Kd.R_typed HO_5.out) (by decide) hg); have n1_ := mK (Kd.R_over' (v := (.slice (some ⟨go28, 0, none⟩) x5_2.length co24)) (rX HO_4) (Kd.R_typed HO_5.out) (by decide) hg); have n2_ := mK (hp_); have n3_ := mK (blk_grown (kX BK201) hg (Kd.R_ne HO_5.out BK201.out (by decide))); have n4_ := mK ((by rw [hw]; exact below_set (HB.out) GB28.out : Below w.heap.size w w32)); clear HO_3; clear HO_4; clear HO_5; clear BK201; clear HB; have HO_3 := n0_; have HO_4 := n1_; have HO_5 := n2_; have BK201 := n3_; have HB := n4_; clear n0_ n1_ n2_ n3_ n4_; clear hg hw hp_; have p30 : 0 ≤ (x32_2 : Int) := of_decide_eq_true oX; have q30 : (x32_2 : Int) < ((x4_2.length : Int) : Int) := of_decide_eq_true oX; obtain ⟨go30, co30, eo30, gb30, gl30, cl30, HG30⟩ := Kd.R_form HO_4.out (by omega); (first | cases eo30 | (injection eo30 with ea_ en_ ec_; (first | subst ea_ | (injection ea_ with ea_; subst ea_)); subst ec_; clear en_)); have GB30 := mK gb30; have GG30 := mK HG30; clear gb30 gl30 HG30; obtain ⟨hx30_0, hf30_0⟩ := Kd.R_celln 0 HO_4.out (x32_2 : Int) p30 q30; replace p30 := eq_true p30; replace q30 := eq_true q30; obtain ⟨hy33_, hz33_⟩ := Kd.R_celln 0 HO_4.out (x32_2 : Int) (of_decide_eq_true oX) (of_decide_eq_true oX); have HP33 := Kd.R_putg HO_4.out (x32_2 : Int) (-1)) | ((with_reducible refine gate_store (t := 3) (p := 40) rfl ?_); (try (rw [drewN_self w32]; generalize hq_ : World.drewN w32 _ = w32; have n0_ := mK (Kd.R_at hq_ HO_3.out); have n1_ := mK (Kd.R_at hq_ HO_4.out); have n2_ := mK (Kd.R_at hq_ HO_5.out); have n3_ := mK (blk_at hq_ BK201.out); have n4_ := mK (below_at hq_ HB.out); clear hq_ HO_3 HO_4 HO_5 BK201 HB; have HO_3 := n0_; have HO_4 := n1_; have HO_5 := n2_; have BK201 := n3_; have HB := n4_; clear n0_ n1_ n2_ n3_ n4_; (try (obtain ⟨hy33_, hz33_⟩ := Kd.R_celln 0 HO_4.out (x32_2 : Int) (of_decide_eq_true oX) (of_decide_eq_true oX))); (try (have HP33 := Kd.R_putg HO_4.out (x32_2 : Int) (-1))))); refine store_event (t := 3) (p := 40) (v := ?vo_w34) (w1 := (w32.setCell ⟨go30, (x32_2 : Int).toNat, none⟩ (.int .i64 (-1)))) ?hg ?ho ?hn ?hr ?_; (case ho => rfl); (case hg => rfl); (case hn => rfl); (case hr => go_simp <;> rfl); intro w34 hw; have hg : w32.grownBy w34 (some go30) := (by rw [hw]; exact HP33.2); have hp_ : Kd.R (Kd.int .i64) 3 w34 w.heap.size (fun k_ => some k_ ≠ (v204 : Value).ownBlock) (.slice (some ⟨go30, 0, none⟩) x4_2.length co30) y213 := (by rw [hw, Ny213.out]; exact HP33.1); clear HP33; have n0_ := mK (Kd.R_after (v := (.slice (some ⟨go30, 0, none⟩) x4_2.length co30)) (v1 := (.slice (some ⟨go30, 0, none⟩) x4_2.length co30)) (ok := (fun _ => True)) (by (with_reducible repeat first|apply rA|apply rN|apply rD); exact Kd.R_mono HO_3.out (fun _ hk => ⟨trivial, hk⟩)) hg (.inl rfl)); have n1_ := mK (hp_); have n2_ := mK (Kd.R_over' (v := (.slice (some ⟨go30, 0, none⟩) x4_2.length co30)) (rX HO_5) (Kd.R_typed HO_4.out) (by decide) hg); have n3_ := mK (blk_grown (kX BK201) hg (Kd.R_ne HO_4.out BK201.out (by decide))); have n4_ := mK ((by rw [hw]; exact below_set (HB.out) GB30.out : Below w.heap.size w w34)); clear HO_3; clear HO_4; clear HO_5; clear BK201; clear HB; have HO_3 := n0_; have HO_4 := n1_; have HO_5 := n2_; have BK201 := n3_; have HB := n4_; clear n0_ n1_ n2_ n3_ n4_; clear hg hw hp_)))
 (try simp only [← hl5_2])
 go_roundg k2
 case measure => have := HJ1.out; have := HK2.out; omega
 case rel => exact ⟨(y213), (y212), (wrap64 (x32_2 + 1)), (by first | rfl | (simp; done) | (simp [*]; done)), H', ⟨by have := HJ1.out; have := HK2.out; omega⟩, ⟨by (try simp only [hl5_2]); (with_reducible repeat first|apply rA|apply rN|apply rD); exact Kd.R_mono HO_3.out (fun _ hk => hk.2)⟩, ⟨by (try simp only [hl5_2]); (with_reducible repeat first|apply rA|apply rN|apply rD); exact HO_4.out⟩, ⟨by (try simp only [hl5_2]); (with_reducible repeat first|apply rA|apply rN|apply rD); exact HO_5.out⟩, ⟨by (try simp only [hl5_2]); (with_reducible repeat first|apply kN|apply kD|apply kA); exact BK201.out⟩, ⟨bX HB⟩⟩
 }
 rw [if_neg c25] at H
 have c25b0 : decide (x32_2 < (y209.length : Int)) = false := decide_eq_false c25
 clear c25
 have H' := mK H
 clear H
 (try simp only [hl5_2] at c25b0)
 go_wp2
 repeat (go_quiet (fail); try go_wp2)
 go_loopg [7, 8] k2 (fun kq v7 v8 w' => ∃ (x3_3 : List Int) (x4_3 : List Int) (x5_3 : List Bool) (x7_3 : Int) (x8_3 : Int), v7 = .int .i64 x7_3 ∧ v8 = .int .i64 x8_3 ∧ Aside0 (spec_NegativeCycle.l1 kq x3_3 x4_3 x5_3 x7_3 x8_3 a0_0 l0_1 = some r) ∧ Aside0 (kq ≤ k2) ∧ Aside0 (Kd.R (Kd.int .i64) 3 w' w.heap.size (fun k_ => some k_ ≠ (v207 : Value).ownBlock) v204 x3_3) ∧ Aside0 (Kd.R (Kd.int .i64) 3 w' w.heap.size (fun k_ => some k_ ≠ (v204 : Value).ownBlock) v207 x4_3) ∧ Aside0 (Kd.R Kd.bool 4 w' w.heap.size (fun _ => True) (.slice Ao24 x5_2.length co24) x5_3) ∧ Aside0 (w'.heap[gb201]? = some (.cells #[.int .i64 a0_0, (.slice A0_1 l0_1.length c0_1)] 33 (0, 0))) ∧ Aside0 (Below w.heap.size w w'))
 case atStart => exact ⟨(y203), (x4_2), (x5_2), ((-1)), (0), (by first | rfl | (simp; done) | (simp [*]; done)), (by first | rfl | (simp; done) | (simp [*]; done)), H', ⟨Nat.le_refl _⟩, ⟨by (try simp only [hl5_2]); (with_reducible repeat first|apply rA|apply rN|apply rD); exact HO_3.out⟩, ⟨by (try simp only [hl5_2]); (with_reducible repeat first|apply rA|apply rN|apply rD); exact HO_4.out⟩, ⟨by (try simp only [hl5_2]); (with_reducible repeat first|apply rA|apply rN|apply rD); exact HO_5.out⟩, ⟨by (try simp only [hl5_2]); (with_reducible repeat first|apply kN|apply kD|apply kA); exact BK201.out⟩, ⟨bX HB⟩⟩
 case round => (
 clear H'
 try clear c1
 try clear c2
 try clear p2
 try clear q2
 try clear hx2
 try clear hf2
 try clear p3
 try clear q3
 try clear hx3
 try clear hf3
 try clear c5
 try clear c6
 try clear p6
 try clear c11
 try clear c12
 try clear c12b0
 try clear c12b1
 try clear c13
 try clear c13b0
 try clear c13b1
 try clear c14
 try clear c14b0
 try clear c14b1
 try clear c25
 try clear c25b0
 try clear c26
 try clear c26b0
 try clear c27
 try clear c27b0
 try clear p28
 try clear q28
 try clear hx28
 try clear hf28
 try clear c29
 try clear c29b0
 try clear p30
 try clear q30
 try clear hx30
 try clear hf30
 try clear hcz15_0
 try clear hcz15_1
 try clear hcz18_0
 try clear hcz18_1
 try clear hcz21_0
 try clear hcz21_1
 try clear hcz6_0
 try clear hcz6_1
 try clear hcz8_0
 try clear hcz8_1
 try clear hcz9_0
 try clear hcz9_1
 try clear hfz15_0
 try clear hfz15_1
 try clear hfz18_0
 try clear hfz18_1
 try clear hfz21_0
 try clear hfz21_1
 try clear hfz6_0
 try clear hfz6_1
 try clear hfz8_0
 try clear hfz8_1
 try clear hfz9_0
 try clear hfz9_1
 try clear hx28_0
 try clear hx30_0
 try clear p2
 try clear p28
 try clear p30
 try clear q28
 try clear q30
 obtain ⟨x3_3, x4_3, x5_3, x7_3, x8_3, rfl, rfl, HA, HK3, HO_3, HO_4, HO_5, BK201, HB⟩ := hrel
 have hl5_3 := (Kd.R_reads' HO_5.out).1
 rw [hl5_3] at HO_5
 (try simp only [hl5_3])
 (try simp only [hl5_3] at BK201)
 (try simp only [hl5_3] at HO_3)
 (try simp only [hl5_3] at HO_4)
 cases gk with
 | zero => exact absurd HA.out (by simp [spec_NegativeCycle.l1])
 | succ k3 => (
 have H := HA.out
 clear HA
 simp only [spec_NegativeCycle.l1] at H
 by_cases c35 : x8_3 < a0_0
 {
 rw [if_pos c35] at H
 have c35b0 : decide (x8_3 < a0_0) = true := decide_eq_true c35
 clear c35
 replace H := Option.bind_eq_some_iff.mp H
 obtain ⟨⟨t214, t215, t216, t217⟩, A360, H⟩ := H
 replace H : (spec_NegativeCycle.l1 k3 t215 t216 t217 t214 (wrap64 (x8_3 + 1)) a0_0 l0_1) = some r := H
 have A36 := mK A360
 clear A360
 have H' := mK H
 clear H
 have hcz37_0 := q0 BK201
 have hcz37_1 := q1 BK201
 have hfz37_0 := fX BK201 0
 have hfz37_1 := fX BK201 1
 obtain ⟨Ao38, co38, eo38⟩ := Kd.R_slice HO_3.out
 subst eo38
 obtain ⟨Ao39, co39, eo39⟩ := Kd.R_slice HO_4.out
 subst eo39
 go_wp2_with (first | (go_at_call 97; (with_reducible refine (spec_l03Round.calls k3 a0_0 _ _ l0_1 (fun k_ => some k_ = (.slice Ao38 x3_3.length co38 : Value).ownBlock) (.slice Ao38 x3_3.length co38) x3_3 (fun k_ => some k_ = (.slice Ao39 x4_3.length co39 : Value).ownBlock) (.slice Ao39 x4_3.length co39) x4_3 (fun k_ => some k_ = (.slice Ao24 x5_3.length co24 : Value).ownBlock) (.slice Ao24 x5_3.length co24) x5_3 t214 t215 t216 t217 w _ ?side1 ?side2 ?side3 ?side4 ?side5 ?side6 ?side7 ?side8 A36.out).mono ?_); (case side1 => repeat (first | (with_reducible first | exact HB.out | apply below_alloc | apply pw_below_drewN | apply below_drew1 | refine below_set ?_ GE201.out) | exact HB.out)); (case side2 => exact Kd.C_kept_came k70_heap HR0_1.out (bX HB) (fun k_ hs_ => Or.elim hs_ (fun e_ => (fun e_ => Kd.R_base HO_3.out k_ e_.symm) e_) (fun e_ => Or.elim e_ (fun e_ => (fun e_ => Kd.R_base HO_4.out k_ e_.symm) e_) (fun e_ => (fun e_ => Kd.R_base HO_5.out k_ e_.symm) e_)))); (case side3 => exact HC0_1.out); (case side4 => exact Kd.R_tight rfl HO_3.out); (case side5 => exact fun k_ e_ => (HO_3.out.1 k_ e_.symm)); (case side6 => exact Kd.R_tight rfl HO_4.out); (case side7 => exact fun k_ e_ => (HO_4.out.1 k_ e_.symm)); (case side8 => exact Kd.R_tight rfl HO_5.out); rintro e w40 ⟨rfl, hy0, hy1, hy2, hb, hkp⟩; replace BK201 := mK (blk_kept (kX BK201) hkp (fun hs_ => Or.elim hs_ (fun e_ => (fun e_ => (Kd.R_ne HO_3.out BK201.out (by decide)) e_) e_) (fun e_ => Or.elim e_ (fun e_ => (fun e_ => (Kd.R_ne HO_4.out BK201.out (by decide)) e_) e_) (fun e_ => (fun e_ => (Kd.R_ne HO_5.out BK201.out (by decide)) e_) e_)))); replace HO_3 := mK (Kd.R_reok rfl hy0 (fun k_ e_ => HO_3.out.1 k_ e_)); replace HO_4 := mK (Kd.R_reok rfl hy1 (fun k_ e_ => HO_4.out.1 k_ e_)); replace HO_5 := mK (Kd.R_reok rfl hy2 (fun k_ e_ => HO_5.out.1 k_ e_)); replace HB := mK (hb); (try clear hb); (try clear hkp); (try clear hy0); (try clear hy1); (try clear hy2)))
 repeat (go_quiet (first | (go_at_call 97; (with_reducible refine (spec_l03Round.calls k3 a0_0 _ _ l0_1 (fun k_ => some k_ = (.slice Ao38 x3_3.length co38 : Value).ownBlock) (.slice Ao38 x3_3.length co38) x3_3 (fun k_ => some k_ = (.slice Ao39 x4_3.length co39 : Value).ownBlock) (.slice Ao39 x4_3.length co39) x4_3 (fun k_ => some k_ = (.slice Ao24 x5_3.length co24 : Value).ownBlock) (.slice Ao24 x5_3.length co24) x5_3 t214 t215 t216 t217 w _ ?side1 ?side2 ?side3 ?side4 ?side5 ?side6 ?side7 ?side8 A36.out).mono ?_); (case side1 => repeat (first | (with_reducible first | exact HB.out | apply below_alloc | apply pw_below_drewN | apply below_drew1 | refine below_set ?_ GE201.out) | exact HB.out)); (case side2 => exact Kd.C_kept_came k70_heap HR0_1.out (bX HB) (fun k_ hs_ => Or.elim hs_ (fun e_ => (fun e_ => Kd.R_base HO_3.out k_ e_.symm) e_) (fun e_ => Or.elim e_ (fun e_ => (fun e_ => Kd.R_base HO_4.out k_ e_.symm) e_) (fun e_ => (fun e_ => Kd.R_base HO_5.out k_ e_.symm) e_)))); (case side3 => exact HC0_1.out); (case side4 => exact Kd.R_tight rfl HO_3.out); (case side5 => exact fun k_ e_ => (HO_3.out.1 k_ e_.symm)); (case side6 => exact Kd.R_tight rfl HO_4.out); (case side7 => exact fun k_ e_ => (HO_4.out.1 k_ e_.symm)); (case side8 => exact Kd.R_tight rfl HO_5.out); rintro e w40 ⟨rfl, hy0, hy1, hy2, hb, hkp⟩; replace BK201 := mK (blk_kept (kX BK201) hkp (fun hs_ => Or.elim hs_ (fun e_ => (fun e_ => (Kd.R_ne HO_3.out BK201.out (by decide)) e_) e_) (fun e_ => Or.elim e_ (fun e_ => (fun e_ => (Kd.R_ne HO_4.out BK201.out (by decide)) e_) e_) (fun e_ => (fun e_ => (Kd.R_ne HO_5.out BK201.out (by decide)) e_) e_)))); replace HO_3 := mK (Kd.R_reok rfl hy0 (fun k_ e_ => HO_3.out.1 k_ e_)); replace HO_4 := mK (Kd.R_reok rfl hy1 (fun k_ e_ => HO_4.out.1 k_ e_)); replace HO_5 := mK (Kd.R_reok rfl hy2 (fun k_ e_ => HO_5.out.1 k_ e_)); replace HB := mK (hb); (try clear hb); (try clear hkp); (try clear hy0); (try clear hy1); (try clear hy2))); try go_wp2_with (first | (go_at_call 97; (with_reducible refine (spec_l03Round.calls k3 a0_0 _ _ l0_1 (fun k_ => some k_ = (.slice Ao38 x3_3.length co38 : Value).ownBlock) (.slice Ao38 x3_3.length co38) x3_3 (fun k_ => some k_ = (.slice Ao39 x4_3.length co39 : Value).ownBlock) (.slice Ao39 x4_3.length co39) x4_3 (fun k_ => some k_ = (.slice Ao24 x5_3.length co24 : Value).ownBlock) (.slice Ao24 x5_3.length co24) x5_3 t214 t215 t216 t217 w _ ?side1 ?side2 ?side3 ?side4 ?side5 ?side6 ?side7 ?side8 A36.out).mono ?_); (case side1 => repeat (first | (with_reducible first | exact HB.out | apply below_alloc | apply pw_below_drewN | apply below_drew1 | refine below_set ?_ GE201.out) | exact HB.out)); (case side2 => exact Kd.C_kept_came k70_heap HR0_1.out (bX HB) (fun k_ hs_ => Or.elim hs_ (fun e_ => (fun e_ => Kd.R_base HO_3.out k_ e_.symm) e_) (fun e_ => Or.elim e_ (fun e_ => (fun e_ => Kd.R_base HO_4.out k_ e_.symm) e_) (fun e_ => (fun e_ => Kd.R_base HO_5.out k_ e_.symm) e_)))); (case side3 => exact HC0_1.out); (case side4 => exact Kd.R_tight rfl HO_3.out); (case side5 => exact fun k_ e_ => (HO_3.out.1 k_ e_.symm)); (case side6 => exact Kd.R_tight rfl HO_4.out); (case side7 => exact fun k_ e_ => (HO_4.out.1 k_ e_.symm)); (case side8 => exact Kd.R_tight rfl HO_5.out); rintro e w40 ⟨rfl, hy0, hy1, hy2, hb, hkp⟩; replace BK201 := mK (blk_kept (kX BK201) hkp (fun hs_ => Or.elim hs_ (fun e_ => (fun e_ => (Kd.R_ne HO_3.out BK201.out (by decide)) e_) e_) (fun e_ => Or.elim e_ (fun e_ => (fun e_ => (Kd.R_ne HO_4.out BK201.out (by decide)) e_) e_) (fun e_ => (fun e_ => (Kd.R_ne HO_5.out BK201.out (by decide)) e_) e_)))); replace HO_3 := mK (Kd.R_reok rfl hy0 (fun k_ e_ => HO_3.out.1 k_ e_)); replace HO_4 := mK (Kd.R_reok rfl hy1 (fun k_ e_ => HO_4.out.1 k_ e_)); replace HO_5 := mK (Kd.R_reok rfl hy2 (fun k_ e_ => HO_5.out.1 k_ e_)); replace HB := mK (hb); (try clear hb); (try clear hkp); (try clear hy0); (try clear hy1); (try clear hy2))))
 (try simp only [← hl5_3])
 go_roundg k3
 case measure => have := HJ1.out; have := HK2.out; have := HK3.out; omega
 case rel => exact ⟨(t215), (t216), (t217), (t214), (wrap64 (x8_3 + 1)), (by first | rfl | (simp; done) | (simp [*]; done)), (by first | rfl | (simp; done) | (simp [*]; done)), H', ⟨by have := HJ1.out; have := HK2.out; have := HK3.out; omega⟩, ⟨by (try simp only [hl5_2]); (try simp only [hl5_3]); (with_reducible repeat first|apply rA|apply rN|apply rD); exact HO_3.out⟩, ⟨by (try simp only [hl5_2]); (try simp only [hl5_3]); (with_reducible repeat first|apply rA|apply rN|apply rD); exact HO_4.out⟩, ⟨by (try simp only [hl5_2]); (try simp only [hl5_3]); (with_reducible repeat first|apply rA|apply rN|apply rD); exact HO_5.out⟩, ⟨by (try simp only [hl5_2]); (try simp only [hl5_3]); (with_reducible repeat first|apply kN|apply kD|apply kA); exact BK201.out⟩, ⟨bX HB⟩⟩
 }
 rw [if_neg c35] at H
 have c35b0 : decide (x8_3 < a0_0) = false := decide_eq_false c35
 clear c35
 by_cases c41 : x7_3 < 0
 {
 rw [if_pos c41] at H
 have c41b0 : decide (x7_3 < 0) = true := decide_eq_true c41
 clear c41
 obtain rfl := Option.some.inj H
 have hcz42_0 := q0 BK201
 have hcz42_1 := q1 BK201
 have hfz42_0 := fX BK201 0
 have hfz42_1 := fX BK201 1
 (try simp only [hl5_2, hl5_3] at c25b0)
 go_wp2
 repeat (go_quiet (fail); try go_wp2)
 go_ret
 exact ⟨_, by first | rfl | (simp [errW_none, errW_some] <;> rfl) | (simp [*, errW_none, errW_some] <;> rfl), by first | exact Kd.R_nil _ _ _ _ _ | exact Kd.N_nil _ _ _ _ _ | exact Kd.V_nil _ _ _ _ _ | exact Kd.Q_nil _ _ _ _ _ | exact Kd.S_nil _ _ _ _ _, bX HB⟩
 }
 rw [if_neg c41] at H
 have c41b0 : decide (x7_3 < 0) = false := decide_eq_false c41
 clear c41
 by_cases c43 : 0 ≤ x7_3
 rotate_left
 {
 rw [if_neg c43] at H
 exact absurd H (by simp)
 }
 rw [if_pos c43] at H
 have c43b0 : decide (0 ≤ x7_3) = true := decide_eq_true c43
 clear c43
 by_cases c44 : x7_3 < (l0_1.length : Int)
 rotate_left
 {
 rw [if_neg c44] at H
 exact absurd H (by simp)
 }
 rw [if_pos c44] at H
 have c44b0 : decide (x7_3 < (l0_1.length : Int)) = true := decide_eq_true c44
 clear c44
 have H' := mK H
 clear H
 have hcz45_0 := q0 BK201
 have hcz45_1 := q1 BK201
 have hfz45_0 := fX BK201 0
 have hfz45_1 := fX BK201 1
 have p218 : 0 ≤ (x7_3 : Int) := of_decide_eq_true oX
 have q218 : x7_3 < (l0_1.length : Int) := of_decide_eq_true oX
 obtain ⟨ad218, e218, hx218_0, hx218_1, hx218_2⟩ := at_T70 HR0_1.out x7_3 p218 q218
 cases e218
 replace hx218_0 := (HB.out.cell (World.block_lt_of_cell? w _ hx218_0)).trans hx218_0
 replace hx218_1 := (HB.out.cell (World.block_lt_of_cell? w _ hx218_1)).trans hx218_1
 replace hx218_2 := (HB.out.cell (World.block_lt_of_cell? w _ hx218_2)).trans hx218_2
 replace p218 := eq_true p218
 replace q218 := eq_true q218
 (try simp only [hl5_2, hl5_3] at c25b0)
 (try simp only [hl5_2, hl5_3] at c44b0)
 go_wp2
 repeat (go_quiet (fail); try go_wp2)
 go_loopg [9, 10] k3 (fun kq v9 v10 w' => ∃ (x9_4 : Int) (x10_4 : Int), v9 = .int .i64 x9_4 ∧ v10 = .int .i64 x10_4 ∧ Aside0 (spec_NegativeCycle.l2 kq x4_3 x9_4 x10_4 a0_0 l0_1 = some r) ∧ Aside0 (kq ≤ k3) ∧ Aside0 (Kd.R (Kd.int .i64) 3 w' w.heap.size (fun _ => True) v207 x4_3) ∧ Aside0 (w'.heap[gb201]? = some (.cells #[.int .i64 a0_0, (.slice (some ad218) l0_1.length c0_1)] 33 (0, 0))) ∧ Aside0 (Below w.heap.size w w'))
 case atStart => exact ⟨((rd_T70 l0_1 x7_3).f1), (0), (by first | rfl | (simp; done) | (simp [*]; done)), (by first | rfl | (simp; done) | (simp [*]; done)), H', ⟨Nat.le_refl _⟩, ⟨by (try simp only [hl5_2]); (try simp only [hl5_3]); (with_reducible repeat first|apply rA|apply rN|apply rD); exact Kd.R_mono HO_4.out (fun _ hk => trivial)⟩, ⟨by (try simp only [hl5_2]); (try simp only [hl5_3]); (with_reducible repeat first|apply kN|apply kD|apply kA); exact BK201.out⟩, ⟨bX HB⟩⟩
 case round => (
 clear H'
 try clear c1
 try clear c2
 try clear p2
 try clear q2
 try clear hx2
 try clear hf2
 try clear c3
 try clear p3
 try clear q3
 try clear hx3
 try clear hf3
 try clear c4
 try clear c5
 try clear c6
 try clear p6
 try clear c11
 try clear c12
 try clear c12b0
 try clear c12b1
 try clear c13
 try clear c13b0
 try clear c13b1
 try clear c14
 try clear c14b0
 try clear c14b1
 try clear p21
 try clear q21
 try clear hx21
 try clear c25
 try clear c25b0
 try clear c26
 try clear c26b0
 try clear c27
 try clear c27b0
 try clear p28
 try clear q28
 try clear hx28
 try clear hf28
 try clear c29
 try clear c29b0
 try clear p30
 try clear q30
 try clear hx30
 try clear hf30
 try clear c35
 try clear c35b0
 try clear c41
 try clear c41b0
 try clear c43
 try clear c43b0
 try clear c44
 try clear c44b0
 try clear hcz15_0
 try clear hcz15_1
 try clear hcz18_0
 try clear hcz18_1
 try clear hcz21_0
 try clear hcz21_1
 try clear hcz37_0
 try clear hcz37_1
 try clear hcz42_0
 try clear hcz42_1
 try clear hcz45_0
 try clear hcz45_1
 try clear hcz6_0
 try clear hcz6_1
 try clear hcz8_0
 try clear hcz8_1
 try clear hcz9_0
 try clear hcz9_1
 try clear hfz15_0
 try clear hfz15_1
 try clear hfz18_0
 try clear hfz18_1
 try clear hfz21_0
 try clear hfz21_1
 try clear hfz37_0
 try clear hfz37_1
 try clear hfz42_0
 try clear hfz42_1
 try clear hfz45_0
 try clear hfz45_1
 try clear hfz6_0
 try clear hfz6_1
 try clear hfz8_0
 try clear hfz8_1
 try clear hfz9_0
 try clear hfz9_1
 try clear hx218_0
 try clear hx218_1
 try clear hx218_2
 try clear hx28_0
 try clear hx30_0
 try clear p2
 try clear p218
 try clear p28
 try clear p3
 try clear p30
 try clear p6
 try clear q2
 try clear q218
 try clear q28
 try clear q3
 try clear q30
 obtain ⟨x9_4, x10_4, rfl, rfl, HA, HK4, HO_4, BK201, HB⟩ := hrel
 cases gk with
 | zero => exact absurd HA.out (by simp [spec_NegativeCycle.l2])
 | succ k4 => (
 have H := HA.out
 clear HA
 simp only [spec_NegativeCycle.l2] at H
 by_cases c46 : x10_4 < a0_0
 {
 rw [if_pos c46] at H
 have c46b0 : decide (x10_4 < a0_0) = true := decide_eq_true c46
 clear c46
 by_cases c47 : 0 ≤ x9_4
 rotate_left
 {
 rw [if_neg c47] at H
 exact absurd H (by simp)
 }
 rw [if_pos c47] at H
 have c47b0 : decide (0 ≤ x9_4) = true := decide_eq_true c47
 clear c47
 by_cases c48 : x9_4 < (x4_3.length : Int)
 rotate_left
 {
 rw [if_neg c48] at H
 exact absurd H (by simp)
 }
 rw [if_pos c48] at H
 have c48b0 : decide (x9_4 < (x4_3.length : Int)) = true := decide_eq_true c48
 clear c48
 by_cases c49 : 0 ≤ (rd x4_3 x9_4)
 rotate_left
 {
 rw [if_neg c49] at H
 exact absurd H (by simp)
 }
 rw [if_pos c49] at H
 have c49b0 : decide (0 ≤ (rd x4_3 x9_4)) = true := decide_eq_true c49
 clear c49
 by_cases c50 : (rd x4_3 x9_4) < (l0_1.length : Int)
 rotate_left
 {
 rw [if_neg c50] at H
 exact absurd H (by simp)
 }
 rw [if_pos c50] at H
 have c50b0 : decide ((rd x4_3 x9_4) < (l0_1.length : Int)) = true := decide_eq_true c50
 clear c50
 have H' := mK H
 clear H
 have hcz51_0 := q0 BK201
 have hcz51_1 := q1 BK201
 have hfz51_0 := fX BK201 0
 have hfz51_1 := fX BK201 1
 obtain ⟨Ao52, co52, eo52⟩ := Kd.R_slice HO_4.out
 subst eo52
 have p219 : 0 ≤ (x9_4 : Int) := of_decide_eq_true oX
 have q219 : x9_4 < (x4_3.length : Int) := of_decide_eq_true oX
 obtain ⟨ad219, e219, hx219_0⟩ := Kd.at_int (Kd.R_reads' HO_4.out).2.2 x9_4 p219 q219
 cases e219
 replace p219 := eq_true p219
 replace q219 := eq_true q219
 have p220 : 0 ≤ ((rd x4_3 x9_4) : Int) := of_decide_eq_true oX
 have q220 : (rd x4_3 x9_4) < (l0_1.length : Int) := of_decide_eq_true oX
 obtain ⟨ad220, e220, hx220_0, hx220_1, hx220_2⟩ := at_T70 HR0_1.out (rd x4_3 x9_4) p220 q220
 obtain rfl : ad218 = ad220 := (by injection e220)
 replace hx220_0 := (HB.out.cell (World.block_lt_of_cell? w _ hx220_0)).trans hx220_0
 replace hx220_1 := (HB.out.cell (World.block_lt_of_cell? w _ hx220_1)).trans hx220_1
 replace hx220_2 := (HB.out.cell (World.block_lt_of_cell? w _ hx220_2)).trans hx220_2
 replace p220 := eq_true p220
 replace q220 := eq_true q220
 go_wp2
 repeat (go_quiet (fail); try go_wp2)
 go_roundg k4
 case measure => have := HJ1.out; have := HK2.out; have := HK3.out; have := HK4.out; omega
 case rel => exact ⟨((rd_T70 l0_1 (rd x4_3 x9_4)).f0), (wrap64 (x10_4 + 1)), (by first | rfl | (simp; done) | (simp [*]; done)), (by first | rfl | (simp; done) | (simp [*]; done)), H', ⟨by have := HJ1.out; have := HK2.out; have := HK3.out; have := HK4.out; omega⟩, ⟨by (try simp only [hl5_2]); (try simp only [hl5_3]); (with_reducible repeat first|apply rA|apply rN|apply rD); exact HO_4.out⟩, ⟨by (try simp only [hl5_2]); (try simp only [hl5_3]); (with_reducible repeat first|apply kN|apply kD|apply kA); exact BK201.out⟩, ⟨bX HB⟩⟩
 }
 rw [if_neg c46] at H
 have c46b0 : decide (x10_4 < a0_0) = false := decide_eq_false c46
 clear c46
 obtain ⟨y221, hy221⟩ : ∃ y_ : List Int, y_ = (([] : List Int)) := ⟨_, rfl⟩
 replace H : (spec_NegativeCycle.l3 k4 x4_3 x9_4 y221 x9_4 a0_0 l0_1) = some r := by first | (rw [hy221]; with_reducible exact H) | (have H2_ := (Option.bind_some _ _).symm.trans H; rw [hy221]; with_reducible exact H2_) | (have H2_ := (Option.bind_some _ _).symm.trans H; with_reducible exact H2_) | with_reducible exact H | (rw [hy221]; exact H) | exact H
 have Ny221 := mK hy221
 clear hy221
 have H' := mK H
 clear H
 have hcz53_0 := q0 BK201
 have hcz53_1 := q1 BK201
 have hfz53_0 := fX BK201 0
 have hfz53_1 := fX BK201 1
 (try simp only [hl5_2, hl5_3] at c25b0)
 (try simp only [hl5_2, hl5_3] at c44b0)
 go_wp2_with (first | ((with_reducible refine gate_dst (N := 76) rfl ?_); refine Kd.R_lit (Kd.int .i64) _ 3 ?hg (N := 76) ?hd (xs := ([] : List Int)) (inner := []) (ok := fun _ => True) (okp := fun _ => True) ?hr ?hp (fun _ hk => hk) trivial (Below.refl _ _) (Nat.le_refl _) (by simp) ?_; (case hd => rfl); (case hg => rfl); (case hr => go_simp <;> rfl); (case hp => exact (Reps.none _ _)); intro v222 w54 ho55 hb hg_ hnew_; clear hg_ hnew_; (first | rw [← Ny221.out] at ho55 | (simp only [Int.reduceToNat] at ho55; rw [← Ny221.out] at ho55)); have HO223 := mK (Kd.R_lower (Kd.R_new' ho55 (Kd.R_lt (rX HO_4))) (below_size (bX HB))); replace HO_4 := mK (Kd.R_elder' (rX HO_4) (Kd.R_base ho55) hb); replace BK201 := kB BK201 hb; replace HB := bB HB hb; clear hb ho55))
 repeat (go_quiet (first | ((with_reducible refine gate_dst (N := 76) rfl ?_); refine Kd.R_lit (Kd.int .i64) _ 3 ?hg (N := 76) ?hd (xs := ([] : List Int)) (inner := []) (ok := fun _ => True) (okp := fun _ => True) ?hr ?hp (fun _ hk => hk) trivial (Below.refl _ _) (Nat.le_refl _) (by simp) ?_; (case hd => rfl); (case hg => rfl); (case hr => go_simp <;> rfl); (case hp => exact (Reps.none _ _)); intro v222 w54 ho55 hb hg_ hnew_; clear hg_ hnew_; (first | rw [← Ny221.out] at ho55 | (simp only [Int.reduceToNat] at ho55; rw [← Ny221.out] at ho55)); have HO223 := mK (Kd.R_lower (Kd.R_new' ho55 (Kd.R_lt (rX HO_4))) (below_size (bX HB))); replace HO_4 := mK (Kd.R_elder' (rX HO_4) (Kd.R_base ho55) hb); replace BK201 := kB BK201 hb; replace HB := bB HB hb; clear hb ho55)); try go_wp2_with (first | ((with_reducible refine gate_dst (N := 76) rfl ?_); refine Kd.R_lit (Kd.int .i64) _ 3 ?hg (N := 76) ?hd (xs := ([] : List Int)) (inner := []) (ok := fun _ => True) (okp := fun _ => True) ?hr ?hp (fun _ hk => hk) trivial (Below.refl _ _) (Nat.le_refl _) (by simp) ?_; (case hd => rfl); (case hg => rfl); (case hr => go_simp <;> rfl); (case hp => exact (Reps.none _ _)); intro v222 w54 ho55 hb hg_ hnew_; clear hg_ hnew_; (first | rw [← Ny221.out] at ho55 | (simp only [Int.reduceToNat] at ho55; rw [← Ny221.out] at ho55)); have HO223 := mK (Kd.R_lower (Kd.R_new' ho55 (Kd.R_lt (rX HO_4))) (below_size (bX HB))); replace HO_4 := mK (Kd.R_elder' (rX HO_4) (Kd.R_base ho55) hb); replace BK201 := kB BK201 hb; replace HB := bB HB hb; clear hb ho55)))
 go_loopg [11, 12] k4 (fun kq v11 v12 w' => ∃ (x11_5 : List Int) (x12_5 : Int), v12 = .int .i64 x12_5 ∧ Aside0 (spec_NegativeCycle.l3 kq x4_3 x9_4 x11_5 x12_5 a0_0 l0_1 = some r) ∧ Aside0 (kq ≤ k4) ∧ Aside0 (Kd.R (Kd.int .i64) 3 w' w.heap.size (fun k_ => some k_ ≠ (v11 : Value).ownBlock) v207 x4_3) ∧ Aside0 (Kd.R (Kd.int .i64) 3 w' w.heap.size (fun k_ => some k_ ≠ (v207 : Value).ownBlock) v11 x11_5) ∧ Aside0 (w'.heap[gb201]? = some (.cells #[.int .i64 a0_0, (.slice (some ad218) l0_1.length c0_1)] 33 (0, 0))) ∧ Aside0 (Below w.heap.size w w'))
 case atStart => exact ⟨(y221), (x9_4), (by first | rfl | (simp; done) | (simp [*]; done)), H', ⟨Nat.le_refl _⟩, ⟨by (try simp only [hl5_2]); (try simp only [hl5_3]); (with_reducible repeat first|apply rA|apply rN|apply rD); exact Kd.R_mono HO_4.out (fun _ hk => hk.2)⟩, ⟨by (try simp only [hl5_2]); (try simp only [hl5_3]); (with_reducible repeat first|apply rA|apply rN|apply rD); exact Kd.R_mono HO223.out (fun _ hk => hk.2)⟩, ⟨by (try simp only [hl5_2]); (try simp only [hl5_3]); (with_reducible repeat first|apply kN|apply kD|apply kA); exact BK201.out⟩, ⟨bX HB⟩⟩
 case round => (
 clear H'
 try clear c1
 try clear c2
 try clear p2
 try clear q2
 try clear hx2
 try clear hf2
 try clear c3
 try clear p3
 try clear q3
 try clear hx3
 try clear hf3
 try clear c4
 try clear c5
 try clear c6
 try clear p6
 try clear c11
 try clear c12
 try clear c12b0
 try clear c12b1
 try clear c13
 try clear c13b0
 try clear c13b1
 try clear c14
 try clear c14b0
 try clear c14b1
 try clear p21
 try clear q21
 try clear hx21
 try clear p22
 try clear q22
 try clear hx22
 try clear c25
 try clear c25b0
 try clear c26
 try clear c26b0
 try clear c27
 try clear c27b0
 try clear p28
 try clear q28
 try clear hx28
 try clear hf28
 try clear c29
 try clear c29b0
 try clear p30
 try clear q30
 try clear hx30
 try clear hf30
 try clear c35
 try clear c35b0
 try clear c41
 try clear c41b0
 try clear c43
 try clear c43b0
 try clear c44
 try clear c44b0
 try clear c46
 try clear c46b0
 try clear c47
 try clear c47b0
 try clear c48
 try clear c48b0
 try clear c49
 try clear c49b0
 try clear c50
 try clear c50b0
 try clear hcz15_0
 try clear hcz15_1
 try clear hcz18_0
 try clear hcz18_1
 try clear hcz21_0
 try clear hcz21_1
 try clear hcz37_0
 try clear hcz37_1
 try clear hcz42_0
 try clear hcz42_1
 try clear hcz45_0
 try clear hcz45_1
 try clear hcz51_0
 try clear hcz51_1
 try clear hcz53_0
 try clear hcz53_1
 try clear hcz6_0
 try clear hcz6_1
 try clear hcz8_0
 try clear hcz8_1
 try clear hcz9_0
 try clear hcz9_1
 try clear hfz15_0
 try clear hfz15_1
 try clear hfz18_0
 try clear hfz18_1
 try clear hfz21_0
 try clear hfz21_1
 try clear hfz37_0
 try clear hfz37_1
 try clear hfz42_0
 try clear hfz42_1
 try clear hfz45_0
 try clear hfz45_1
 try clear hfz51_0
 try clear hfz51_1
 try clear hfz53_0
 try clear hfz53_1
 try clear hfz6_0
 try clear hfz6_1
 try clear hfz8_0
 try clear hfz8_1
 try clear hfz9_0
 try clear hfz9_1
 try clear hx218_0
 try clear hx218_1
 try clear hx218_2
 try clear hx219_0
 try clear hx220_0
 try clear hx220_1
 try clear hx220_2
 try clear hx28_0
 try clear hx30_0
 try clear p2
 try clear p21
 try clear p218
 try clear p219
 try clear p220
 try clear p28
 try clear p3
 try clear p30
 try clear p6
 try clear q2
 try clear q21
 try clear q218
 try clear q219
 try clear q220
 try clear q28
 try clear q3
 try clear q30
 obtain ⟨x11_5, x12_5, rfl, HA, HK5, HO_4, HO_11, BK201, HB⟩ := hrel
 cases gk with
 | zero => exact absurd HA.out (by simp [spec_NegativeCycle.l3])
 | succ k5 => (
 have H := HA.out
 clear HA
 simp only [spec_NegativeCycle.l3] at H
 by_cases c56 : (x11_5.length : Int) = 0
 {
 rw [if_pos c56] at H
 have c56b0 : ((x11_5.length : Int) == 0) = true := beq_iff_eq.mpr c56
 have c56b1 : ((x11_5.length : Int) != 0) = false := bne_eq_false_iff_eq.mpr c56
 clear c56
 by_cases c57 : 0 ≤ x12_5
 rotate_left
 {
 rw [if_neg c57] at H
 exact absurd H (by simp)
 }
 rw [if_pos c57] at H
 have c57b0 : decide (0 ≤ x12_5) = true := decide_eq_true c57
 clear c57
 by_cases c58 : x12_5 < (x4_3.length : Int)
 rotate_left
 {
 rw [if_neg c58] at H
 exact absurd H (by simp)
 }
 rw [if_pos c58] at H
 have c58b0 : decide (x12_5 < (x4_3.length : Int)) = true := decide_eq_true c58
 clear c58
 obtain ⟨y225, hy225⟩ : ∃ y_ : List Int, y_ = (([rd x4_3 x12_5] : List Int)) := ⟨_, rfl⟩
 replace H : (if y225.length + x11_5.length < 17592186044416 then (if 0 ≤ (rd x4_3 x12_5) then (if (rd x4_3 x12_5) < (l0_1.length : Int) then (spec_NegativeCycle.l3 k5 x4_3 x9_4 (y225 ++ x11_5) ((rd_T70 l0_1 (rd x4_3 x12_5)).f0) a0_0 l0_1) else (none)) else (none)) else (none)) = some r := by first | (rw [hy225]; with_reducible exact H) | (have H2_ := (Option.bind_some _ _).symm.trans H; rw [hy225]; with_reducible exact H2_) | (have H2_ := (Option.bind_some _ _).symm.trans H; with_reducible exact H2_) | with_reducible exact H | (rw [hy225]; exact H) | exact H
 have Ny225 := mK hy225
 clear hy225
 by_cases c59 : y225.length + x11_5.length < 17592186044416
 rotate_left
 {
 rw [if_neg c59] at H
 exact absurd H (by simp)
 }
 rw [if_pos c59] at H
 have LMc59 := mK c59
 clear c59
 obtain ⟨y228, hy228⟩ : ∃ y_ : List Int, y_ = (y225 ++ x11_5) := ⟨_, rfl⟩
 replace H : (if 0 ≤ (rd x4_3 x12_5) then (if (rd x4_3 x12_5) < (l0_1.length : Int) then (spec_NegativeCycle.l3 k5 x4_3 x9_4 y228 ((rd_T70 l0_1 (rd x4_3 x12_5)).f0) a0_0 l0_1) else (none)) else (none)) = some r := by first | (rw [hy228]; with_reducible exact H) | (have H2_ := (Option.bind_some _ _).symm.trans H; rw [hy228]; with_reducible exact H2_) | (have H2_ := (Option.bind_some _ _).symm.trans H; with_reducible exact H2_) | with_reducible exact H | (rw [hy228]; exact H) | exact H
 have Ny228 := mK hy228
 clear hy228
 by_cases c60 : 0 ≤ (rd x4_3 x12_5)
 rotate_left
 {
 rw [if_neg c60] at H
 exact absurd H (by simp)
 }
 rw [if_pos c60] at H
 have c60b0 : decide (0 ≤ (rd x4_3 x12_5)) = true := decide_eq_true c60
 clear c60
 by_cases c61 : (rd x4_3 x12_5) < (l0_1.length : Int)
 rotate_left
 {
 rw [if_neg c61] at H
 exact absurd H (by simp)
 }
 rw [if_pos c61] at H
 have c61b0 : decide ((rd x4_3 x12_5) < (l0_1.length : Int)) = true := decide_eq_true c61
 clear c61
 have H' := mK H
 clear H
 obtain ⟨Ao62, co62, eo62⟩ := Kd.R_slice HO_11.out
 subst eo62
 obtain ⟨Ao63, co63, eo63⟩ := Kd.R_slice HO_4.out
 subst eo63
 have p224 : 0 ≤ (x12_5 : Int) := of_decide_eq_true oX
 have q224 : x12_5 < (x4_3.length : Int) := of_decide_eq_true oX
 obtain ⟨ad224, e224, hx224_0⟩ := Kd.at_int (Kd.R_reads' HO_4.out).2.2 x12_5 p224 q224
 cases e224
 replace p224 := eq_true p224
 replace q224 := eq_true q224
 go_wp2_with (first | ((with_reducible refine gate_dst (N := 90) rfl ?_); refine Kd.R_lit (Kd.int .i64) _ 3 ?hg (N := 90) ?hd (xs := ([rd x4_3 x12_5] : List Int)) (inner := [.int .i64 (rd x4_3 x12_5)]) (ok := fun _ => True) (okp := fun _ => True) ?hr ?hp (fun _ hk => hk) trivial (Below.refl _ _) (Nat.le_refl _) (by simp) ?_; (case hd => rfl); (case hg => rfl); (case hr => go_simp <;> rfl); (case hp => exact (Reps.one (show Kd.M (Kd.int .i64) _ _ _ (rd x4_3 x12_5) [.int .i64 (rd x4_3 x12_5)] from rfl) (Reps.none _ _))); intro v226 w64 ho65 hb hg_ hnew_; clear hg_ hnew_; (first | rw [← Ny225.out] at ho65 | (simp only [Int.reduceToNat] at ho65; rw [← Ny225.out] at ho65)); have HO227 := mK (Kd.R_lower (Kd.R_new' (Kd.R_new' ho65 (Kd.R_lt (rX HO_4))) (Kd.R_lt (rX HO_11))) (below_size (bX HB))); replace HO_4 := mK (Kd.R_elder' (rX HO_4) (Kd.R_base ho65) hb); replace HO_11 := mK (Kd.R_elder' (rX HO_11) (Kd.R_base ho65) hb); replace BK201 := kB BK201 hb; replace HB := bB HB hb; clear hb ho65) | ((with_reducible refine gate_builtin (b := .append) (xs := #[.tmp 90, .tmp 91]) rfl ?_); at_builtin; refine Kd.R_append_rows (Kd.int .i64) (w0 := w) w.heap.size rfl (.tmp 90) (.tmp 91) 26 3 (.int .i64 0) 8 rfl Try.underlying26 info3 rfl (by decide) (by omega) v226 y225 x11_5 _ _ _ (fun k_ => some k_ ≠ (.slice (some ad224) x4_3.length co63 : Value).ownBlock ∧ some k_ ≠ (.slice Ao62 x11_5.length co62 : Value).ownBlock) (fun _ => False) rfl rfl ?aO ?aR (fun _ _ h => h) (fun _ h => h.elim) ?aF ?aB ?aS ?aL ?_; (case aR => repeat (first | exact (Kd.R_reads' HO_11.out).2.2 | (with_reducible refine Kd.C_alloc ?_ _) | (with_reducible refine Kd.C_drewN ?_ _) | (with_reducible refine Kd.C_drew ?_))); (case aB => exact (bX HB)); (case aF => exact (fun k_ hk => ⟨Kd.fresh' (Kd.R_lt (rX HO_4)) k_ hk, Kd.fresh' (Kd.R_lt (rX HO_11)) k_ hk⟩)); (case aO => exact (by (with_reducible repeat first|apply rA|apply rN|apply rD); exact Kd.R_mono HO227.out (fun _ hk => ⟨hk.1.2, hk.2⟩))); (case aS => exact (below_size (bX HB))); (case aL => have := LMc59.out; omega); intro v229 w66 ho hb hg hat; rw [← Ny228.out] at ho; have n0_ := mK (Kd.R_after (ok := (fun k_ => some k_ ≠ (.slice Ao62 x11_5.length co62 : Value).ownBlock)) (rX HO_4) hg hat); have n1_ := mK (Kd.R_after (ok := (fun k_ => some k_ ≠ (.slice (some ad224) x4_3.length co63 : Value).ownBlock)) (rX HO_11) hg hat); have n2_ := mK (blk_grown (kX BK201) hg (Kd.R_ne HO227.out BK201.out (by decide))); have n3_ := mK (hb); have n4_ := mK (ho); clear HO_4; clear HO_11; clear BK201; clear HB; clear HO227; have HO_4 := n0_; have HO_11 := n1_; have BK201 := n2_; have HB := n3_; have HO230 := n4_; clear n0_ n1_ n2_ n3_ n4_; clear ho hb hg hat; have hcz67_0 := q0 BK201; have hcz67_1 := q1 BK201; have hfz67_0 := fX BK201 0; have hfz67_1 := fX BK201 1; have p231 : 0 ≤ (x12_5 : Int) := of_decide_eq_true oX; have q231 : x12_5 < (x4_3.length : Int) := of_decide_eq_true oX; obtain ⟨ad231, e231, hx231_0⟩ := Kd.at_int (Kd.R_reads' HO_4.out).2.2 x12_5 p231 q231; obtain rfl : ad224 = ad231 := (by injection e231); replace p231 := eq_true p231; replace q231 := eq_true q231; have p232 : 0 ≤ ((rd x4_3 x12_5) : Int) := of_decide_eq_true oX; have q232 : (rd x4_3 x12_5) < (l0_1.length : Int) := of_decide_eq_true oX; obtain ⟨ad232, e232, hx232_0, hx232_1, hx232_2⟩ := at_T70 HR0_1.out (rd x4_3 x12_5) p232 q232; obtain rfl : ad218 = ad232 := (by injection e232); replace hx232_0 := (HB.out.cell (World.block_lt_of_cell? w _ hx232_0)).trans hx232_0; replace hx232_1 := (HB.out.cell (World.block_lt_of_cell? w _ hx232_1)).trans hx232_1; replace hx232_2 := (HB.out.cell (World.block_lt_of_cell? w _ hx232_2)).trans hx232_2; replace p232 := eq_true p232; replace q232 := eq_true q232))
 repeat (go_quiet (first | ((with_reducible refine gate_dst (N := 90) rfl ?_); refine Kd.R_lit (Kd.int .i64) _ 3 ?hg (N := 90) ?hd (xs := ([rd x4_3 x12_5] : List Int)) (inner := [.int .i64 (rd x4_3 x12_5)]) (ok := fun _ => True) (okp := fun _ => True) ?hr ?hp (fun _ hk => hk) trivial (Below.refl _ _) (Nat.le_refl _) (by simp) ?_; (case hd => rfl); (case hg => rfl); (case hr => go_simp <;> rfl); (case hp => exact (Reps.one (show Kd.M (Kd.int .i64) _ _ _ (rd x4_3 x12_5) [.int .i64 (rd x4_3 x12_5)] from rfl) (Reps.none _ _))); intro v226 w64 ho65 hb hg_ hnew_; clear hg_ hnew_; (first | rw [← Ny225.out] at ho65 | (simp only [Int.reduceToNat] at ho65; rw [← Ny225.out] at ho65)); have HO227 := mK (Kd.R_lower (Kd.R_new' (Kd.R_new' ho65 (Kd.R_lt (rX HO_4))) (Kd.R_lt (rX HO_11))) (below_size (bX HB))); replace HO_4 := mK (Kd.R_elder' (rX HO_4) (Kd.R_base ho65) hb); replace HO_11 := mK (Kd.R_elder' (rX HO_11) (Kd.R_base ho65) hb); replace BK201 := kB BK201 hb; replace HB := bB HB hb; clear hb ho65) | ((with_reducible refine gate_builtin (b := .append) (xs := #[.tmp 90, .tmp 91]) rfl ?_); at_builtin; refine Kd.R_append_rows (Kd.int .i64) (w0 := w) w.heap.size rfl (.tmp 90) (.tmp 91) 26 3 (.int .i64 0) 8 rfl Try.underlying26 info3 rfl (by decide) (by omega) v226 y225 x11_5 _ _ _ (fun k_ => some k_ ≠ (.slice (some ad224) x4_3.length co63 : Value).ownBlock ∧ some k_ ≠ (.slice Ao62 x11_5.length co62 : Value).ownBlock) (fun _ => False) rfl rfl ?aO ?aR (fun _ _ h => h) (fun _ h => h.elim) ?aF ?aB ?aS ?aL ?_; (case aR => repeat (first | exact (Kd.R_reads' HO_11.out).2.2 | (with_reducible refine Kd.C_alloc ?_ _) | (with_reducible refine Kd.C_drewN ?_ _) | (with_reducible refine Kd.C_drew ?_))); (case aB => exact (bX HB)); (case aF => exact (fun k_ hk => ⟨Kd.fresh' (Kd.R_lt (rX HO_4)) k_ hk, Kd.fresh' (Kd.R_lt (rX HO_11)) k_ hk⟩)); (case aO => exact (by (with_reducible repeat first|apply rA|apply rN|apply rD); exact Kd.R_mono HO227.out (fun _ hk => ⟨hk.1.2, hk.2⟩))); (case aS => exact (below_size (bX HB))); (case aL => have := LMc59.out; omega); intro v229 w66 ho hb hg hat; rw [← Ny228.out] at ho; have n0_ := mK (Kd.R_after (ok := (fun k_ => some k_ ≠ (.slice Ao62 x11_5.length co62 : Value).ownBlock)) (rX HO_4) hg hat); have n1_ := mK (Kd.R_after (ok := (fun k_ => some k_ ≠ (.slice (some ad224) x4_3.length co63 : Value).ownBlock)) (rX HO_11) hg hat); have n2_ := mK (blk_grown (kX BK201) hg (Kd.R_ne HO227.out BK201.out (by decide))); have n3_ := mK (hb); have n4_ := mK (ho); clear HO_4; clear HO_11; clear BK201; clear HB; clear HO227; have HO_4 := n0_; have HO_11 := n1_; have BK201 := n2_; have HB := n3_; have HO230 := n4_; clear n0_ n1_ n2_ n3_ n4_; clear ho hb hg hat; have hcz67_0 := q0 BK201; have hcz67_1 := q1 BK201; have hfz67_0 := fX BK201 0; have hfz67_1 := fX BK201 1; have p231 : 0 ≤ (x12_5 : Int) := of_decide_eq_true oX; have q231 : x12_5 < (x4_3.length : Int) := of_decide_eq_true oX; obtain ⟨ad231, e231, hx231_0⟩ := Kd.at_int (Kd.R_reads' HO_4.out).2.2 x12_5 p231 q231; obtain rfl : ad224 = ad231 := (by injection e231); replace p231 := eq_true p231; replace q231 := eq_true q231; have p232 : 0 ≤ ((rd x4_3 x12_5) : Int) := of_decide_eq_true oX; have q232 : (rd x4_3 x12_5) < (l0_1.length : Int) := of_decide_eq_true oX; obtain ⟨ad232, e232, hx232_0, hx232_1, hx232_2⟩ := at_T70 HR0_1.out (rd x4_3 x12_5) p232 q232; obtain rfl : ad218 = ad232 := (by injection e232); replace hx232_0 := (HB.out.cell (World.block_lt_of_cell? w _ hx232_0)).trans hx232_0; replace hx232_1 := (HB.out.cell (World.block_lt_of_cell? w _ hx232_1)).trans hx232_1; replace hx232_2 := (HB.out.cell (World.block_lt_of_cell? w _ hx232_2)).trans hx232_2; replace p232 := eq_true p232; replace q232 := eq_true q232)); try go_wp2_with (first | ((with_reducible refine gate_dst (N := 90) rfl ?_); refine Kd.R_lit (Kd.int .i64) _ 3 ?hg (N := 90) ?hd (xs := ([rd x4_3 x12_5] : List Int)) (inner := [.int .i64 (rd x4_3 x12_5)]) (ok := fun _ => True) (okp := fun _ => True) ?hr ?hp (fun _ hk => hk) trivial (Below.refl _ _) (Nat.le_refl _) (by simp) ?_; (case hd => rfl); (case hg => rfl); (case hr => go_simp <;> rfl); (case hp => exact (Reps.one (show Kd.M (Kd.int .i64) _ _ _ (rd x4_3 x12_5) [.int .i64 (rd x4_3 x12_5)] from rfl) (Reps.none _ _))); intro v226 w64 ho65 hb hg_ hnew_; clear hg_ hnew_; (first | rw [← Ny225.out] at ho65 | (simp only [Int.reduceToNat] at ho65; rw [← Ny225.out] at ho65)); have HO227 := mK (Kd.R_lower (Kd.R_new' (Kd.R_new' ho65 (Kd.R_lt (rX HO_4))) (Kd.R_lt (rX HO_11))) (below_size (bX HB))); replace HO_4 := mK (Kd.R_elder' (rX HO_4) (Kd.R_base ho65) hb); replace HO_11 := mK (Kd.R_elder' (rX HO_11) (Kd.R_base ho65) hb); replace BK201 := kB BK201 hb; replace HB := bB HB hb; clear hb ho65) | ((with_reducible refine gate_builtin (b := .append) (xs := #[.tmp 90, .tmp 91]) rfl ?_); at_builtin; refine Kd.R_append_rows (Kd.int .i64) (w0 := w) w.heap.size rfl (.tmp 90) (.tmp 91) 26 3 (.int .i64 0) 8 rfl Try.underlying26 info3 rfl (by decide) (by omega) v226 y225 x11_5 _ _ _ (fun k_ => some k_ ≠ (.slice (some ad224) x4_3.length co63 : Value).ownBlock ∧ some k_ ≠ (.slice Ao62 x11_5.length co62 : Value).ownBlock) (fun _ => False) rfl rfl ?aO ?aR (fun _ _ h => h) (fun _ h => h.elim) ?aF ?aB ?aS ?aL ?_; (case aR => repeat (first | exact (Kd.R_reads' HO_11.out).2.2 | (with_reducible refine Kd.C_alloc ?_ _) | (with_reducible refine Kd.C_drewN ?_ _) | (with_reducible refine Kd.C_drew ?_))); (case aB => exact (bX HB)); (case aF => exact (fun k_ hk => ⟨Kd.fresh' (Kd.R_lt (rX HO_4)) k_ hk, Kd.fresh' (Kd.R_lt (rX HO_11)) k_ hk⟩)); (case aO => exact (by (with_reducible repeat first|apply rA|apply rN|apply rD); exact Kd.R_mono HO227.out (fun _ hk => ⟨hk.1.2, hk.2⟩))); (case aS => exact (below_size (bX HB))); (case aL => have := LMc59.out; omega); intro v229 w66 ho hb hg hat; rw [← Ny228.out] at ho; have n0_ := mK (Kd.R_after (ok := (fun k_ => some k_ ≠ (.slice Ao62 x11_5.length co62 : Value).ownBlock)) (rX HO_4) hg hat); have n1_ := mK (Kd.R_after (ok := (fun k_ => some k_ ≠ (.slice (some ad224) x4_3.length co63 : Value).ownBlock)) (rX HO_11) hg hat); have n2_ := mK (blk_grown (kX BK201) hg (Kd.R_ne HO227.out BK201.out (by decide))); have n3_ := mK (hb); have n4_ := mK (ho); clear HO_4; clear HO_11; clear BK201; clear HB; clear HO227; have HO_4 := n0_; have HO_11 := n1_; have BK201 := n2_; have HB := n3_; have HO230 := n4_; clear n0_ n1_ n2_ n3_ n4_; clear ho hb hg hat; have hcz67_0 := q0 BK201; have hcz67_1 := q1 BK201; have hfz67_0 := fX BK201 0; have hfz67_1 := fX BK201 1; have p231 : 0 ≤ (x12_5 : Int) := of_decide_eq_true oX; have q231 : x12_5 < (x4_3.length : Int) := of_decide_eq_true oX; obtain ⟨ad231, e231, hx231_0⟩ := Kd.at_int (Kd.R_reads' HO_4.out).2.2 x12_5 p231 q231; obtain rfl : ad224 = ad231 := (by injection e231); replace p231 := eq_true p231; replace q231 := eq_true q231; have p232 : 0 ≤ ((rd x4_3 x12_5) : Int) := of_decide_eq_true oX; have q232 : (rd x4_3 x12_5) < (l0_1.length : Int) := of_decide_eq_true oX; obtain ⟨ad232, e232, hx232_0, hx232_1, hx232_2⟩ := at_T70 HR0_1.out (rd x4_3 x12_5) p232 q232; obtain rfl : ad218 = ad232 := (by injection e232); replace hx232_0 := (HB.out.cell (World.block_lt_of_cell? w _ hx232_0)).trans hx232_0; replace hx232_1 := (HB.out.cell (World.block_lt_of_cell? w _ hx232_1)).trans hx232_1; replace hx232_2 := (HB.out.cell (World.block_lt_of_cell? w _ hx232_2)).trans hx232_2; replace p232 := eq_true p232; replace q232 := eq_true q232)))
 go_roundg k5
 case measure => have := HJ1.out; have := HK2.out; have := HK3.out; have := HK4.out; have := HK5.out; omega
 case rel => exact ⟨(y228), ((rd_T70 l0_1 (rd x4_3 x12_5)).f0), (by first | rfl | (simp; done) | (simp [*]; done)), H', ⟨by have := HJ1.out; have := HK2.out; have := HK3.out; have := HK4.out; have := HK5.out; omega⟩, ⟨by (try simp only [hl5_2]); (try simp only [hl5_3]); (with_reducible repeat first|apply rA|apply rN|apply rD); exact Kd.R_mono HO_4.out (fun _ hk => hk.2)⟩, ⟨by (try simp only [hl5_2]); (try simp only [hl5_3]); (with_reducible repeat first|apply rA|apply rN|apply rD); exact Kd.R_mono HO230.out (fun _ hk => hk.1)⟩, ⟨by (try simp only [hl5_2]); (try simp only [hl5_3]); (with_reducible repeat first|apply kN|apply kD|apply kA); exact BK201.out⟩, ⟨bX HB⟩⟩
 }
 rw [if_neg c56] at H
 have c56b0 : ((x11_5.length : Int) == 0) = false := beq_eq_false_iff_ne.mpr c56
 have c56b1 : ((x11_5.length : Int) != 0) = true := bne_iff_ne.mpr c56
 have c56b2 : ¬ (x11_5 = []) := fun h_ => c56 (by rw [h_]; rfl)
 by_cases c68 : x12_5 = x9_4
 {
 rw [if_pos c68] at H
 have c68b0 : (x12_5 == x9_4) = true := beq_iff_eq.mpr c68
 have c68b1 : (x12_5 != x9_4) = false := bne_eq_false_iff_eq.mpr c68
 clear c68
 obtain rfl := Option.some.inj H
 obtain ⟨Ao69, co69, eo69⟩ := Kd.R_slice HO_11.out
 subst eo69
 (try simp only [hl5_2, hl5_3] at c25b0)
 (try simp only [hl5_2, hl5_3] at c44b0)
 (try simp only [hl5_2, hl5_3] at c56b0)
 (try simp only [hl5_2, hl5_3] at c56b1)
 go_wp2
 repeat (go_quiet (fail); try go_wp2)
 go_ret
 exact ⟨_, by first | rfl | (simp [errW_none, errW_some] <;> rfl) | (simp [*, errW_none, errW_some] <;> rfl), by (with_reducible repeat first|apply rA|apply rN|apply rD); exact Kd.R_mono HO_11.out (fun _ hk => trivial), bX HB⟩
 }
 rw [if_neg c68] at H
 have c68b0 : (x12_5 == x9_4) = false := beq_eq_false_iff_ne.mpr c68
 have c68b1 : (x12_5 != x9_4) = true := bne_iff_ne.mpr c68
 by_cases c70 : 0 ≤ x12_5
 rotate_left
 {
 rw [if_neg c70] at H
 exact absurd H (by simp)
 }
 rw [if_pos c70] at H
 have c70b0 : decide (0 ≤ x12_5) = true := decide_eq_true c70
 clear c70
 by_cases c71 : x12_5 < (x4_3.length : Int)
 rotate_left
 {
 rw [if_neg c71] at H
 exact absurd H (by simp)
 }
 rw [if_pos c71] at H
 have c71b0 : decide (x12_5 < (x4_3.length : Int)) = true := decide_eq_true c71
 clear c71
 obtain ⟨y234, hy234⟩ : ∃ y_ : List Int, y_ = (([rd x4_3 x12_5] : List Int)) := ⟨_, rfl⟩
 replace H : (if y234.length + x11_5.length < 17592186044416 then (if 0 ≤ (rd x4_3 x12_5) then (if (rd x4_3 x12_5) < (l0_1.length : Int) then (spec_NegativeCycle.l3 k5 x4_3 x9_4 (y234 ++ x11_5) ((rd_T70 l0_1 (rd x4_3 x12_5)).f0) a0_0 l0_1) else (none)) else (none)) else (none)) = some r := by first | (rw [hy234]; with_reducible exact H) | (have H2_ := (Option.bind_some _ _).symm.trans H; rw [hy234]; with_reducible exact H2_) | (have H2_ := (Option.bind_some _ _).symm.trans H; with_reducible exact H2_) | with_reducible exact H | (rw [hy234]; exact H) | exact H
 have Ny234 := mK hy234
 clear hy234
 by_cases c72 : y234.length + x11_5.length < 17592186044416
 rotate_left
 {
 rw [if_neg c72] at H
 exact absurd H (by simp)
 }
 rw [if_pos c72] at H
 have LMc72 := mK c72
 clear c72
 obtain ⟨y237, hy237⟩ : ∃ y_ : List Int, y_ = (y234 ++ x11_5) := ⟨_, rfl⟩
 replace H : (if 0 ≤ (rd x4_3 x12_5) then (if (rd x4_3 x12_5) < (l0_1.length : Int) then (spec_NegativeCycle.l3 k5 x4_3 x9_4 y237 ((rd_T70 l0_1 (rd x4_3 x12_5)).f0) a0_0 l0_1) else (none)) else (none)) = some r := by first | (rw [hy237]; with_reducible exact H) | (have H2_ := (Option.bind_some _ _).symm.trans H; rw [hy237]; with_reducible exact H2_) | (have H2_ := (Option.bind_some _ _).symm.trans H; with_reducible exact H2_) | with_reducible exact H | (rw [hy237]; exact H) | exact H
 have Ny237 := mK hy237
 clear hy237
 by_cases c73 : 0 ≤ (rd x4_3 x12_5)
 rotate_left
 {
 rw [if_neg c73] at H
 exact absurd H (by simp)
 }
 rw [if_pos c73] at H
 have c73b0 : decide (0 ≤ (rd x4_3 x12_5)) = true := decide_eq_true c73
 clear c73
 by_cases c74 : (rd x4_3 x12_5) < (l0_1.length : Int)
 rotate_left
 {
 rw [if_neg c74] at H
 exact absurd H (by simp)
 }
 rw [if_pos c74] at H
 have c74b0 : decide ((rd x4_3 x12_5) < (l0_1.length : Int)) = true := decide_eq_true c74
 clear c74
 have H' := mK H
 clear H
 obtain ⟨Ao75, co75, eo75⟩ := Kd.R_slice HO_11.out
 subst eo75
 obtain ⟨Ao76, co76, eo76⟩ := Kd.R_slice HO_4.out
 subst eo76
 have p233 : 0 ≤ (x12_5 : Int) := of_decide_eq_true oX
 have q233 : x12_5 < (x4_3.length : Int) := of_decide_eq_true oX
 obtain ⟨ad233, e233, hx233_0⟩ := Kd.at_int (Kd.R_reads' HO_4.out).2.2 x12_5 p233 q233
 cases e233
 replace p233 := eq_true p233
 replace q233 := eq_true q233
 go_wp2_with (first | ((with_reducible refine gate_dst (N := 90) rfl ?_); refine Kd.R_lit (Kd.int .i64) _ 3 ?hg (N := 90) ?hd (xs := ([rd x4_3 x12_5] : List Int)) (inner := [.int .i64 (rd x4_3 x12_5)]) (ok := fun _ => True) (okp := fun _ => True) ?hr ?hp (fun _ hk => hk) trivial (Below.refl _ _) (Nat.le_refl _) (by simp) ?_; (case hd => rfl); (case hg => rfl); (case hr => go_simp <;> rfl); (case hp => exact (Reps.one (show Kd.M (Kd.int .i64) _ _ _ (rd x4_3 x12_5) [.int .i64 (rd x4_3 x12_5)] from rfl) (Reps.none _ _))); intro v235 w77 ho78 hb hg_ hnew_; clear hg_ hnew_; (first | rw [← Ny234.out] at ho78 | (simp only [Int.reduceToNat] at ho78; rw [← Ny234.out] at ho78)); have HO236 := mK (Kd.R_lower (Kd.R_new' (Kd.R_new' ho78 (Kd.R_lt (rX HO_4))) (Kd.R_lt (rX HO_11))) (below_size (bX HB))); replace HO_4 := mK (Kd.R_elder' (rX HO_4) (Kd.R_base ho78) hb); replace HO_11 := mK (Kd.R_elder' (rX HO_11) (Kd.R_base ho78) hb); replace BK201 := kB BK201 hb; replace HB := bB HB hb; clear hb ho78) | ((with_reducible refine gate_builtin (b := .append) (xs := #[.tmp 90, .tmp 91]) rfl ?_); at_builtin; refine Kd.R_append_rows (Kd.int .i64) (w0 := w) w.heap.size rfl (.tmp 90) (.tmp 91) 26 3 (.int .i64 0) 8 rfl Try.underlying26 info3 rfl (by decide) (by omega) v235 y234 x11_5 _ _ _ (fun k_ => some k_ ≠ (.slice (some ad233) x4_3.length co76 : Value).ownBlock ∧ some k_ ≠ (.slice Ao75 x11_5.length co75 : Value).ownBlock) (fun _ => False) rfl rfl ?aO ?aR (fun _ _ h => h) (fun _ h => h.elim) ?aF ?aB ?aS ?aL ?_; (case aR => repeat (first | exact (Kd.R_reads' HO_11.out).2.2 | (with_reducible refine Kd.C_alloc ?_ _) | (with_reducible refine Kd.C_drewN ?_ _) | (with_reducible refine Kd.C_drew ?_))); (case aB => exact (bX HB)); (case aF => exact (fun k_ hk => ⟨Kd.fresh' (Kd.R_lt (rX HO_4)) k_ hk, Kd.fresh' (Kd.R_lt (rX HO_11)) k_ hk⟩)); (case aO => exact (by (with_reducible repeat first|apply rA|apply rN|apply rD); exact Kd.R_mono HO236.out (fun _ hk => ⟨hk.1.2, hk.2⟩))); (case aS => exact (below_size (bX HB))); (case aL => have := LMc72.out; omega); intro v238 w79 ho hb hg hat; rw [← Ny237.out] at ho; have n0_ := mK (Kd.R_after (ok := (fun k_ => some k_ ≠ (.slice Ao75 x11_5.length co75 : Value).ownBlock)) (rX HO_4) hg hat); have n1_ := mK (Kd.R_after (ok := (fun k_ => some k_ ≠ (.slice (some ad233) x4_3.length co76 : Value).ownBlock)) (rX HO_11) hg hat); have n2_ := mK (blk_grown (kX BK201) hg (Kd.R_ne HO236.out BK201.out (by decide))); have n3_ := mK (hb); have n4_ := mK (ho); clear HO_4; clear HO_11; clear BK201; clear HB; clear HO236; have HO_4 := n0_; have HO_11 := n1_; have BK201 := n2_; have HB := n3_; have HO239 := n4_; clear n0_ n1_ n2_ n3_ n4_; clear ho hb hg hat; have hcz80_0 := q0 BK201; have hcz80_1 := q1 BK201; have hfz80_0 := fX BK201 0; have hfz80_1 := fX BK201 1; have p240 : 0 ≤ (x12_5 : Int) := of_decide_eq_true oX; have q240 : x12_5 < (x4_3.length : Int) := of_decide_eq_true oX; obtain ⟨ad240, e240, hx240_0⟩ := Kd.at_int (Kd.R_reads' HO_4.out).2.2 x12_5 p240 q240; obtain rfl : ad233 = ad240 := (by injection e240); replace p240 := eq_true p240; replace q240 := eq_true q240; have p241 : 0 ≤ ((rd x4_3 x12_5) : Int) := of_decide_eq_true oX; have q241 : (rd x4_3 x12_5) < (l0_1.length : Int) := of_decide_eq_true oX; obtain ⟨ad241, e241, hx241_0, hx241_1, hx241_2⟩ := at_T70 HR0_1.out (rd x4_3 x12_5) p241 q241; obtain rfl : ad218 = ad241 := (by injection e241); replace hx241_0 := (HB.out.cell (World.block_lt_of_cell? w _ hx241_0)).trans hx241_0; replace hx241_1 := (HB.out.cell (World.block_lt_of_cell? w _ hx241_1)).trans hx241_1; replace hx241_2 := (HB.out.cell (World.block_lt_of_cell? w _ hx241_2)).trans hx241_2; replace p241 := eq_true p241; replace q241 := eq_true q241))
 repeat (go_quiet (first | ((with_reducible refine gate_dst (N := 90) rfl ?_); refine Kd.R_lit (Kd.int .i64) _ 3 ?hg (N := 90) ?hd (xs := ([rd x4_3 x12_5] : List Int)) (inner := [.int .i64 (rd x4_3 x12_5)]) (ok := fun _ => True) (okp := fun _ => True) ?hr ?hp (fun _ hk => hk) trivial (Below.refl _ _) (Nat.le_refl _) (by simp) ?_; (case hd => rfl); (case hg => rfl); (case hr => go_simp <;> rfl); (case hp => exact (Reps.one (show Kd.M (Kd.int .i64) _ _ _ (rd x4_3 x12_5) [.int .i64 (rd x4_3 x12_5)] from rfl) (Reps.none _ _))); intro v235 w77 ho78 hb hg_ hnew_; clear hg_ hnew_; (first | rw [← Ny234.out] at ho78 | (simp only [Int.reduceToNat] at ho78; rw [← Ny234.out] at ho78)); have HO236 := mK (Kd.R_lower (Kd.R_new' (Kd.R_new' ho78 (Kd.R_lt (rX HO_4))) (Kd.R_lt (rX HO_11))) (below_size (bX HB))); replace HO_4 := mK (Kd.R_elder' (rX HO_4) (Kd.R_base ho78) hb); replace HO_11 := mK (Kd.R_elder' (rX HO_11) (Kd.R_base ho78) hb); replace BK201 := kB BK201 hb; replace HB := bB HB hb; clear hb ho78) | ((with_reducible refine gate_builtin (b := .append) (xs := #[.tmp 90, .tmp 91]) rfl ?_); at_builtin; refine Kd.R_append_rows (Kd.int .i64) (w0 := w) w.heap.size rfl (.tmp 90) (.tmp 91) 26 3 (.int .i64 0) 8 rfl Try.underlying26 info3 rfl (by decide) (by omega) v235 y234 x11_5 _ _ _ (fun k_ => some k_ ≠ (.slice (some ad233) x4_3.length co76 : Value).ownBlock ∧ some k_ ≠ (.slice Ao75 x11_5.length co75 : Value).ownBlock) (fun _ => False) rfl rfl ?aO ?aR (fun _ _ h => h) (fun _ h => h.elim) ?aF ?aB ?aS ?aL ?_; (case aR => repeat (first | exact (Kd.R_reads' HO_11.out).2.2 | (with_reducible refine Kd.C_alloc ?_ _) | (with_reducible refine Kd.C_drewN ?_ _) | (with_reducible refine Kd.C_drew ?_))); (case aB => exact (bX HB)); (case aF => exact (fun k_ hk => ⟨Kd.fresh' (Kd.R_lt (rX HO_4)) k_ hk, Kd.fresh' (Kd.R_lt (rX HO_11)) k_ hk⟩)); (case aO => exact (by (with_reducible repeat first|apply rA|apply rN|apply rD); exact Kd.R_mono HO236.out (fun _ hk => ⟨hk.1.2, hk.2⟩))); (case aS => exact (below_size (bX HB))); (case aL => have := LMc72.out; omega); intro v238 w79 ho hb hg hat; rw [← Ny237.out] at ho; have n0_ := mK (Kd.R_after (ok := (fun k_ => some k_ ≠ (.slice Ao75 x11_5.length co75 : Value).ownBlock)) (rX HO_4) hg hat); have n1_ := mK (Kd.R_after (ok := (fun k_ => some k_ ≠ (.slice (some ad233) x4_3.length co76 : Value).ownBlock)) (rX HO_11) hg hat); have n2_ := mK (blk_grown (kX BK201) hg (Kd.R_ne HO236.out BK201.out (by decide))); have n3_ := mK (hb); have n4_ := mK (ho); clear HO_4; clear HO_11; clear BK201; clear HB; clear HO236; have HO_4 := n0_; have HO_11 := n1_; have BK201 := n2_; have HB := n3_; have HO239 := n4_; clear n0_ n1_ n2_ n3_ n4_; clear ho hb hg hat; have hcz80_0 := q0 BK201; have hcz80_1 := q1 BK201; have hfz80_0 := fX BK201 0; have hfz80_1 := fX BK201 1; have p240 : 0 ≤ (x12_5 : Int) := of_decide_eq_true oX; have q240 : x12_5 < (x4_3.length : Int) := of_decide_eq_true oX; obtain ⟨ad240, e240, hx240_0⟩ := Kd.at_int (Kd.R_reads' HO_4.out).2.2 x12_5 p240 q240; obtain rfl : ad233 = ad240 := (by injection e240); replace p240 := eq_true p240; replace q240 := eq_true q240; have p241 : 0 ≤ ((rd x4_3 x12_5) : Int) := of_decide_eq_true oX; have q241 : (rd x4_3 x12_5) < (l0_1.length : Int) := of_decide_eq_true oX; obtain ⟨ad241, e241, hx241_0, hx241_1, hx241_2⟩ := at_T70 HR0_1.out (rd x4_3 x12_5) p241 q241; obtain rfl : ad218 = ad241 := (by injection e241); replace hx241_0 := (HB.out.cell (World.block_lt_of_cell? w _ hx241_0)).trans hx241_0; replace hx241_1 := (HB.out.cell (World.block_lt_of_cell? w _ hx241_1)).trans hx241_1; replace hx241_2 := (HB.out.cell (World.block_lt_of_cell? w _ hx241_2)).trans hx241_2; replace p241 := eq_true p241; replace q241 := eq_true q241)); try go_wp2_with (first | ((with_reducible refine gate_dst (N := 90) rfl ?_); refine Kd.R_lit (Kd.int .i64) _ 3 ?hg (N := 90) ?hd (xs := ([rd x4_3 x12_5] : List Int)) (inner := [.int .i64 (rd x4_3 x12_5)]) (ok := fun _ => True) (okp := fun _ => True) ?hr ?hp (fun _ hk => hk) trivial (Below.refl _ _) (Nat.le_refl _) (by simp) ?_; (case hd => rfl); (case hg => rfl); (case hr => go_simp <;> rfl); (case hp => exact (Reps.one (show Kd.M (Kd.int .i64) _ _ _ (rd x4_3 x12_5) [.int .i64 (rd x4_3 x12_5)] from rfl) (Reps.none _ _))); intro v235 w77 ho78 hb hg_ hnew_; clear hg_ hnew_; (first | rw [← Ny234.out] at ho78 | (simp only [Int.reduceToNat] at ho78; rw [← Ny234.out] at ho78)); have HO236 := mK (Kd.R_lower (Kd.R_new' (Kd.R_new' ho78 (Kd.R_lt (rX HO_4))) (Kd.R_lt (rX HO_11))) (below_size (bX HB))); replace HO_4 := mK (Kd.R_elder' (rX HO_4) (Kd.R_base ho78) hb); replace HO_11 := mK (Kd.R_elder' (rX HO_11) (Kd.R_base ho78) hb); replace BK201 := kB BK201 hb; replace HB := bB HB hb; clear hb ho78) | ((with_reducible refine gate_builtin (b := .append) (xs := #[.tmp 90, .tmp 91]) rfl ?_); at_builtin; refine Kd.R_append_rows (Kd.int .i64) (w0 := w) w.heap.size rfl (.tmp 90) (.tmp 91) 26 3 (.int .i64 0) 8 rfl Try.underlying26 info3 rfl (by decide) (by omega) v235 y234 x11_5 _ _ _ (fun k_ => some k_ ≠ (.slice (some ad233) x4_3.length co76 : Value).ownBlock ∧ some k_ ≠ (.slice Ao75 x11_5.length co75 : Value).ownBlock) (fun _ => False) rfl rfl ?aO ?aR (fun _ _ h => h) (fun _ h => h.elim) ?aF ?aB ?aS ?aL ?_; (case aR => repeat (first | exact (Kd.R_reads' HO_11.out).2.2 | (with_reducible refine Kd.C_alloc ?_ _) | (with_reducible refine Kd.C_drewN ?_ _) | (with_reducible refine Kd.C_drew ?_))); (case aB => exact (bX HB)); (case aF => exact (fun k_ hk => ⟨Kd.fresh' (Kd.R_lt (rX HO_4)) k_ hk, Kd.fresh' (Kd.R_lt (rX HO_11)) k_ hk⟩)); (case aO => exact (by (with_reducible repeat first|apply rA|apply rN|apply rD); exact Kd.R_mono HO236.out (fun _ hk => ⟨hk.1.2, hk.2⟩))); (case aS => exact (below_size (bX HB))); (case aL => have := LMc72.out; omega); intro v238 w79 ho hb hg hat; rw [← Ny237.out] at ho; have n0_ := mK (Kd.R_after (ok := (fun k_ => some k_ ≠ (.slice Ao75 x11_5.length co75 : Value).ownBlock)) (rX HO_4) hg hat); have n1_ := mK (Kd.R_after (ok := (fun k_ => some k_ ≠ (.slice (some ad233) x4_3.length co76 : Value).ownBlock)) (rX HO_11) hg hat); have n2_ := mK (blk_grown (kX BK201) hg (Kd.R_ne HO236.out BK201.out (by decide))); have n3_ := mK (hb); have n4_ := mK (ho); clear HO_4; clear HO_11; clear BK201; clear HB; clear HO236; have HO_4 := n0_; have HO_11 := n1_; have BK201 := n2_; have HB := n3_; have HO239 := n4_; clear n0_ n1_ n2_ n3_ n4_; clear ho hb hg hat; have hcz80_0 := q0 BK201; have hcz80_1 := q1 BK201; have hfz80_0 := fX BK201 0; have hfz80_1 := fX BK201 1; have p240 : 0 ≤ (x12_5 : Int) := of_decide_eq_true oX; have q240 : x12_5 < (x4_3.length : Int) := of_decide_eq_true oX; obtain ⟨ad240, e240, hx240_0⟩ := Kd.at_int (Kd.R_reads' HO_4.out).2.2 x12_5 p240 q240; obtain rfl : ad233 = ad240 := (by injection e240); replace p240 := eq_true p240; replace q240 := eq_true q240; have p241 : 0 ≤ ((rd x4_3 x12_5) : Int) := of_decide_eq_true oX; have q241 : (rd x4_3 x12_5) < (l0_1.length : Int) := of_decide_eq_true oX; obtain ⟨ad241, e241, hx241_0, hx241_1, hx241_2⟩ := at_T70 HR0_1.out (rd x4_3 x12_5) p241 q241; obtain rfl : ad218 = ad241 := (by injection e241); replace hx241_0 := (HB.out.cell (World.block_lt_of_cell? w _ hx241_0)).trans hx241_0; replace hx241_1 := (HB.out.cell (World.block_lt_of_cell? w _ hx241_1)).trans hx241_1; replace hx241_2 := (HB.out.cell (World.block_lt_of_cell? w _ hx241_2)).trans hx241_2; replace p241 := eq_true p241; replace q241 := eq_true q241)))
 go_roundg k5
 case measure => have := HJ1.out; have := HK2.out; have := HK3.out; have := HK4.out; have := HK5.out; omega
 case rel => exact ⟨(y237), ((rd_T70 l0_1 (rd x4_3 x12_5)).f0), (by first | rfl | (simp; done) | (simp [*]; done)), H', ⟨by have := HJ1.out; have := HK2.out; have := HK3.out; have := HK4.out; have := HK5.out; omega⟩, ⟨by (try simp only [hl5_2]); (try simp only [hl5_3]); (with_reducible repeat first|apply rA|apply rN|apply rD); exact Kd.R_mono HO_4.out (fun _ hk => hk.2)⟩, ⟨by (try simp only [hl5_2]); (try simp only [hl5_3]); (with_reducible repeat first|apply rA|apply rN|apply rD); exact Kd.R_mono HO239.out (fun _ hk => hk.1)⟩, ⟨by (try simp only [hl5_2]); (try simp only [hl5_3]); (with_reducible repeat first|apply kN|apply kD|apply kA); exact BK201.out⟩, ⟨bX HB⟩⟩
 )
 )
 )
 )
 )
 )
 )
 )
 )
 )

end Go.Proofs.Ytbbblnmngjhadaa.QFnExactEarliestTimes
