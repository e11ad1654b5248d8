-- Written by this session's program wip/tools/mk.py out of the translation; Lean checks it.
import Derived.Test.YtolecnichpnhnaaQFnExactFixTimesx0
import Derived.Test.YtolecnichpnhnaaQFnExactFixTimesx4
namespace Go.Proofs.Ytolecnichpnhnaa.QFnExactFixTimes
open Go.RowKit Go.Proofs.YtolecnichpnhnaaW.PrintWords Go.Proofs.YtolecnichpnhnaaW.PrintLast Go.Proofs.YtolecnichpnhnaaW.PrintMore
attribute [local go_sem] max2_int min2_int max_two min_two max_three min_three max_four min_four   -- for this text's walks alone
set_option linter.unusedVariables false
set_option linter.unusedSimpArgs false

/-! ### impl_FixTimes: function 35 -/
def impl_FixTimes.l0 : Nat → List Int → Int → Int → Int → List (S47) → Option (Int × (List (S47)) × Bool)
  | 0, _, _, _, _, _ => none
  | k + 1, x20, x21, x22, x205000, x205001 => if x22 < x21 then (if 0 ≤ x22 then (if x22 < (x20.length : Int) then (if x22 > 0 then (if (rd x20 x22) = (-1) then (impl_FixTimes.l0 k x20 x21 (wrap64 (x22 + 1)) x205000 x205001) else (if x205001.length < 4398046511104 then (impl_FixTimes.l0 k x20 x21 (wrap64 (x22 + 1)) x205000 (x205001 ++ [(⟨0, x22, (⟨rd x20 x22, rd x20 x22⟩ : S45)⟩ : S47)])) else (none))) else (impl_FixTimes.l0 k x20 x21 (wrap64 (x22 + 1)) x205000 x205001)) else (none)) else (none)) else ((impl_SimpleOk.f x205000 x205001).bind fun t209 => (if t209 = true then (some (x205000, x205001, true)) else (some (0, ([] : List (S47)), false))))
def impl_FixTimes.f (k : Nat) (a0_0 : Int) (l0_1 : List (S47)) (l1 : List Int) : Option (Int × (List (S47)) × Bool) := (impl_PartialOk.f a0_0 l0_1 l1).bind fun t200 => (if t200 = true then ((impl_Link_60.f l0_1).bind fun t201 => (impl_FixTimes.l0 k l1 (l1.length : Int) 0 a0_0 t201)) else (some (0, ([] : List (S47)), false)))
theorem impl_FixTimes.mono_l : ∀ k, (∀ y0 y1 y2 y3 y4, LeO (impl_FixTimes.l0 k y0 y1 y2 y3 y4) (impl_FixTimes.l0 (k + 1) y0 y1 y2 y3 y4))
  | 0 => fun _ _ _ _ _ r h => by simp [impl_FixTimes.l0] at h
  | k + 1 => by
    have ih0 := impl_FixTimes.mono_l k
    · intro y0 y1 y2 y3 y4
      unfold impl_FixTimes.l0
      repeat' first|(with_reducible first|exact ih0 _ _ _ _ _|exact lR _|exact lN _|refine lI ?_ ?_|refine lB ?_ (fun _ => ?_))|exact ih0 _ _ _ _ _|exact lN _|refine lI ?_ ?_|refine lB ?_ (fun _ => ?_)
theorem impl_FixTimes.mono : ∀ a0 a1 a2 k, LeO (impl_FixTimes.f k a0 a1 a2) (impl_FixTimes.f (k + 1) a0 a1 a2) := by
  intro a0 a1 a2 k
  have ih0 := impl_FixTimes.mono_l k
  unfold impl_FixTimes.f
  repeat' first|(with_reducible first|exact ih0 _ _ _ _ _|exact lR _|exact lN _|refine lI ?_ ?_|refine lB ?_ (fun _ => ?_))|exact ih0 _ _ _ _ _|exact lN _|refine lI ?_ ?_|refine lB ?_ (fun _ => ?_)
def impl_FixTimes.T3 : Bool × List (List Nat × List Nat) := (true, [([], []), ([0], [0]), ([], []), ([2], [2]), ([3], [3]), ([1, 4], [1, 4]), ([], []), ([6, 5, 4, 0, 1, 2, 3, 4, 5, 6], [5, 6])])
def impl_FixTimes.B3 : List Nat := [0, 1, 0, 4, 12, 31, 0, 127]
theorem impl_FixTimes.tab3 : rtab .any (opsOf Try.f35 3) = impl_FixTimes.T3 := by kernel_rfl
theorem impl_FixTimes.bits3 : waitsOk impl_FixTimes.T3.2 impl_FixTimes.B3 = true := by kernel_rfl
set_option maxHeartbeats 8000000 in
set_option maxRecDepth 100000 in
theorem impl_FixTimes.calls (k : Nat) (a0_0 : Int) (A0_1 : Option Addr) (c0_1 : Nat) (l0_1 : List (S47)) (A1 : Option Addr) (c1 : Nat) (l1 : List Int) (r1 : Int) (r2 : List (S47)) (r3 : Bool) (w : World) (hr0_1 : Kd.C k47 w A0_1 l0_1.length l0_1) (hc0_1 : l0_1.length ≤ c0_1) (hr1 : Kd.C (Kd.int .i64) w A1 l1.length l1) (hc1 : l1.length ≤ c1) (h : impl_FixTimes.f k a0_0 l0_1 l1 = some (r1, r2, r3)) :
    Calls Try.prog 35 #[.agg #[.int .i64 a0_0, .slice A0_1 l0_1.length c0_1], .slice A1 l1.length c1] w fun e w' => ∃ v1_ : Value, e = .returned (.tuple #[.agg #[.int .i64 r1, v1_], .bool r3]) ∧ Kd.R k47 47 w' w.heap.size (fun _ => True) v1_ r2 ∧ Below w.heap.size w w' := by
 have hu29 := Try.underlying29
 have hu45 := Try.underlying45
 have hu47 := Try.underlying47
 have HR0_1 := mK hr0_1
 have HC0_1 := mK hc0_1
 clear hr0_1 hc0_1
 have HR1 := mK hr1
 have HC1 := mK hc1
 clear hr1 hc1
 have HB := mK (Below.refl w.heap.size w)
 have H : ((impl_PartialOk.f a0_0 l0_1 l1).bind fun t200 => (if t200 = true then ((impl_Link_60.f l0_1).bind fun t201 => (impl_FixTimes.l0 k l1 (l1.length : Int) 0 a0_0 t201)) else (some (0, ([] : List (S47)), false)))) = some (r1, r2, r3) := h
 clear h
 replace H := Option.bind_eq_some_iff.mp H
 obtain ⟨t200, A30, H⟩ := H
 replace H : (if t200 = true then ((impl_Link_60.f l0_1).bind fun t201 => (impl_FixTimes.l0 k l1 (l1.length : Int) 0 a0_0 t201)) else (some (0, ([] : List (S47)), false))) = some (r1, r2, r3) := H
 have A3 := mK A30
 clear A30
 by_cases c4 : t200 = true
 rotate_left
 {
 replace c4 := Bool.eq_false_iff.mpr c4
 subst c4
 rw [if_neg (show ¬ (false = true) by decide)] at H
 simp only [Option.some.injEq, Prod.mk.injEq] at H
 obtain ⟨rfl, rfl, rfl⟩ := H
 go_enter Try.func35, Try.ntmps35
 go_wp2_with (first | ((with_reducible refine gate_dst (N := 2) rfl ?_); refine bxE 2 #[.int .i64 a0_0, .slice A0_1 l0_1.length c0_1] 29 ?_; intro gb198 hg w48 hbox hb; have BK198 := mK hbox; have GW198 := mK (gX hg HB); have GE198 := mK (gX hg HB); replace HB := bB HB hb; clear hb hbox hg) | ((with_reducible refine gate_dst (N := 4) rfl ?_); refine bxE 4 #[.int .i64 0, .slice none 0 0] 29 ?_; intro gb199 hg w49 hbox hb; have BK199 := mK hbox; have GW199 := mK (gX hg HB); have GE199 := mK (gX hg HB); replace HB := bB HB hb; have NB198_199 := mK (lX hg BK198); have NB199_198 := mK (mX hg BK198); replace BK198 := kB BK198 hb; clear hb hbox hg; have hnb50 := NB198_199.out; have hnc50 := NB199_198.out; have hcz51_0 := q0 BK198; have hcz51_1 := q1 BK198; have hfz51_0 := fX BK198 0; have hfz51_1 := fX BK198 1) | ((with_reducible refine gate_callee (f := 18) rfl ?_); refine gsE (some 11) Try.func18 #[.agg #[.int .i64 a0_0, .slice A0_1 l0_1.length c0_1], .slice A1 l1.length c1] ?_; (with_reducible refine (impl_PartialOk.calls a0_0 _ _ l0_1 _ _ l1 false _ ?side1 ?side2 ?side3 ?side4 A3.out).mono ?_); (case side1 => exact cX HR0_1 HB); (case side2 => exact HC0_1.out); (case side3 => exact cX HR1 HB); (case side4 => exact HC1.out); rintro e w52 ⟨rfl, hb⟩; refine ⟨_, rfl, ?_⟩; replace BK198 := kB BK198 hb; replace BK199 := kB BK199 hb; replace HB := bB HB hb; (try clear hb); (try clear hb2); (try clear hk); (try clear hi); have hcz53_0 := q0 BK199; have hcz53_1 := q1 BK199; have hfz53_0 := fX BK199 0; have hfz53_1 := fX BK199 1))
 refine bodyPost_ret (results_ct rfl _ _ gb199 29 #[.int .i64 0, .slice none 0 0] (0, 0) _ rfl (kP2 BK199) Try.underlying29 rfl (by kernel_rfl)) rfl ?_
 exact ⟨_, by first | rfl | (simp [errW_none, errW_some] <;> rfl) | (simp [*, errW_none, errW_some] <;> rfl), by first | exact Kd.R_nil _ _ _ _ _ | exact Kd.N_nil _ _ _ _ _ | exact Kd.V_nil _ _ _ _ _ | exact Kd.Q_nil _ _ _ _ _ | exact Kd.S_nil _ _ _ _ _, bX HB⟩
 }
 subst c4
 rw [if_pos rfl] at H
 replace H := Option.bind_eq_some_iff.mp H
 obtain ⟨t201, A50, H⟩ := H
 replace H : (impl_FixTimes.l0 k l1 (l1.length : Int) 0 a0_0 t201) = some (r1, r2, r3) := H
 have A5 := mK A50
 clear A50
 have H' := mK H
 clear H
 go_enter Try.func35, Try.ntmps35
 try go_wp2_with (first | ((with_reducible refine gate_dst (N := 2) rfl ?_); refine bxE 2 #[.int .i64 a0_0, .slice A0_1 l0_1.length c0_1] 29 ?_; intro gb198 hg w6 hbox hb; have BK198 := mK hbox; have GW198 := mK (gX hg HB); have GE198 := mK (gX hg HB); replace HB := bB HB hb; clear hb hbox hg) | ((with_reducible refine gate_dst (N := 4) rfl ?_); refine bxE 4 #[.int .i64 0, .slice none 0 0] 29 ?_; intro gb199 hg w7 hbox hb; have BK199 := mK hbox; have GW199 := mK (gX hg HB); have GE199 := mK (gX hg HB); replace HB := bB HB hb; have NB198_199 := mK (lX hg BK198); have NB199_198 := mK (mX hg BK198); replace BK198 := kB BK198 hb; clear hb hbox hg; have hnb8 := NB198_199.out; have hnc8 := NB199_198.out; have hcz9_0 := q0 BK198; have hcz9_1 := q1 BK198; have hfz9_0 := fX BK198 0; have hfz9_1 := fX BK198 1) | ((with_reducible refine gate_callee (f := 18) rfl ?_); refine gsE (some 11) Try.func18 #[.agg #[.int .i64 a0_0, .slice A0_1 l0_1.length c0_1], .slice A1 l1.length c1] ?_; (with_reducible refine (impl_PartialOk.calls a0_0 _ _ l0_1 _ _ l1 true _ ?side1 ?side2 ?side3 ?side4 A3.out).mono ?_); (case side1 => exact cX HR0_1 HB); (case side2 => exact HC0_1.out); (case side3 => exact cX HR1 HB); (case side4 => exact HC1.out); rintro e w10 ⟨rfl, hb⟩; refine ⟨_, rfl, ?_⟩; replace BK198 := kB BK198 hb; replace BK199 := kB BK199 hb; replace HB := bB HB hb; (try clear hb); (try clear hb2); (try clear hk); (try clear hi)))
 have n0_ := mK (blk_drew BK198.out)
 have n1_ := mK (blk_drew BK199.out)
 have n2_ := mK (below_drew1 HB.out)
 clear BK198
 clear BK199
 clear HB
 have BK198 := n0_
 have BK199 := n1_
 have HB := n2_
 clear n0_ n1_ n2_
 refine start_ (n := 8) (S := fun w' => w'.cell? ⟨gb198, 0, none⟩ = some (.int .i64 a0_0) ∧ w'.cell? ⟨gb198, 1, none⟩ = some (.slice A0_1 l0_1.length c0_1)) (ds := []) (bs 0 8) (by kernel_rfl) rfl (by kernel_rfl) ⟨(blk_cell BK198.out 0).trans rfl, (blk_cell BK198.out 1).trans rfl⟩ (fun hHeld => ?_); refine with_tabW impl_FixTimes.tab3 impl_FixTimes.bits3 (fun HT_ HW_ => ?_)
 generalize w10.drew = w11 at BK198 BK199 HB hHeld ⊢
 refine pL 0 14 (bs 1 8) HT_ ?_
 refine pL 2 16 #[true, false, true, false, false, false, false, false] HT_ ?_
 refine tL 1 15 (bs 3 8) HT_ HW_ hHeld ?_
 refine tL 3 17 (bs 4 8) HT_ HW_ hHeld ?_
 refine join_ (σ := Value × Nat) 1 (bs 7 8) (fun s_ => [(18, s_.1), (6, .pointer (some ⟨s_.2, 0, none⟩)), (19, .agg #[.int .i64 a0_0, s_.1])]) (fun s_ w' => (w'.cell? ⟨gb198, 0, none⟩ = some (.int .i64 a0_0) ∧ w'.cell? ⟨gb198, 1, none⟩ = some (.slice A0_1 l0_1.length c0_1)) ∧ (Kd.R k47 47 w' w.heap.size (fun _ => True) s_.1 t201) ∧ (w'.heap[gb198]? = some (.cells #[.int .i64 a0_0, .slice A0_1 l0_1.length c0_1] 29 (0, 0))) ∧ (w'.heap[gb199]? = some (.cells #[.int .i64 0, .slice none 0 0] 29 (0, 0))) ∧ (w'.heap[s_.2]? = some (.cells #[.int .i64 0, .slice none 0 0] 29 (0, 0))) ∧ (w.heap.size ≤ s_.2) ∧ (w.heap.size ≤ s_.2) ∧ (gb198 ≠ s_.2) ∧ (s_.2 ≠ gb198) ∧ (gb199 ≠ s_.2) ∧ (s_.2 ≠ gb199) ∧ (Below w.heap.size w w')) ?_ ?_
 rotate_left
 {
 intro hCont
 refine two_ (i := 4) (j := 6) (Ni := some 18) (Nj := some 6) (bs 5 8) #[true, true, true, true, false, false, true, false] rfl rfl rfl rfl (two_of HT_.out (by kernel_rfl)) (by decide) (by decide) (fun K hK => ?_) (fun K hK => ?_)
 {
 skip
 refine gsK Try.func60 #[.slice A0_1 l0_1.length c0_1] ?_
 with_reducible refine (impl_Link_60.calls _ _ l0_1 t201 _ ?side1 ?side2 A5.out).mono ?_
 (case side1 => exact cX HR0_1 HB)
 (case side2 => exact HC0_1.out)
 rintro e w12 ⟨v202, rfl, ho0, hb⟩
 refine ⟨_, rfl, ?_⟩
 have n0_ := mK (Kd.R_lower ho0 (below_size (bX HB)))
 have n1_ := kB BK198 hb
 have n2_ := kB BK199 hb
 have n3_ := bB HB hb
 clear BK198
 clear BK199
 clear HB
 have HO203 := n0_
 have BK198 := n1_
 have BK199 := n2_
 have HB := n3_
 clear n0_ n1_ n2_ n3_
 (try clear hb)
 (try clear hb2)
 (try clear hk)
 (try clear hi)
 (try clear ho0)
 obtain ⟨Ao13, co13, eo13⟩ := Kd.R_slice HO203.out
 (first | subst eo13 | (injection eo13 with f1_ f2_ f3_; have f4_ := f1_.symm; have f5_ := f3_.symm; clear f1_ f2_ f3_; subst f4_; subst f5_))
 refine hK.out _ _ ⟨(blk_cell BK198.out 0).trans rfl, (blk_cell BK198.out 1).trans rfl⟩ (fun hHeld => ?_)
 clear hK K
 refine norm_ (a' := ?_) ?_ ?_
 rotate_left
 {
 show Act.put _ (some 18) _ = _
 simp only [Act.put, sT, sZ, sU, i64_w, i32_w]
 rfl
 }
 refine pL 5 19 (bs 6 8) HT_ ?_
 refine one_ (i := 6) (N := some 6) (bs 7 8) rfl rfl (one_of HT_.out (by kernel_rfl)) (by decide) (fun K hK => ?_)
 refine box_step ?hg (N := 6) ?hd (cs := #[.int .i64 0, .slice none 0 0]) (t := 29) ?hr ?_; (case hd => rfl); (case hg => rfl); (case hr => go_simp <;> rfl)
 intro gb204 hg w14 hbox hb
 have n0_ := mK (Kd.R_below (rX HO203) hb)
 have n1_ := kB BK198 hb
 have n2_ := kB BK199 hb
 have n3_ := bB HB hb
 have n4_ := mK hbox
 have n5_ := mK (gX hg HB)
 have n6_ := mK (gX hg HB)
 have n7_ := mK (lX hg BK198)
 have n8_ := mK (mX hg BK198)
 have n9_ := mK (lX hg BK199)
 have n10_ := mK (mX hg BK199)
 clear HO203
 clear BK198
 clear BK199
 clear HB
 have HO203 := n0_
 have BK198 := n1_
 have BK199 := n2_
 have HB := n3_
 have BK204 := n4_
 have GW204 := n5_
 have GE204 := n6_
 have NB198_204 := n7_
 have NB204_198 := n8_
 have NB199_204 := n9_
 have NB204_199 := n10_
 clear n0_ n1_ n2_ n3_ n4_ n5_ n6_ n7_ n8_ n9_ n10_
 clear hb hbox hg
 refine hK.out _ _ ⟨(blk_cell BK198.out 0).trans rfl, (blk_cell BK198.out 1).trans rfl⟩ (fun hHeld => ?_)
 clear hK K
 refine norm_ (a' := ?_) ?_ ?_
 rotate_left
 {
 show Act.put _ (some 6) _ = _
 simp only [Act.put, sT, sZ, sU, i64_w, i32_w]
 rfl
 }
 exact norm_ (by simp only [putAll, Act.put, sT, sZ, sU]) (hCont (.slice Ao13 t201.length co13, gb204) _ ⟨hHeld, HO203.out, BK198.out, BK199.out, BK204.out, GW204.out, GE204.out, NB198_204.out, NB204_198.out, NB199_204.out, NB204_199.out, HB.out⟩)
 }
 {
 skip
 refine box_step ?hg (N := 6) ?hd (cs := #[.int .i64 0, .slice none 0 0]) (t := 29) ?hr ?_; (case hd => rfl); (case hg => rfl); (case hr => go_simp <;> rfl)
 intro gb204 hg w12 hbox hb
 have n0_ := kB BK198 hb
 have n1_ := kB BK199 hb
 have n2_ := bB HB hb
 have n3_ := mK hbox
 have n4_ := mK (gX hg HB)
 have n5_ := mK (gX hg HB)
 have n6_ := mK (lX hg BK198)
 have n7_ := mK (mX hg BK198)
 have n8_ := mK (lX hg BK199)
 have n9_ := mK (mX hg BK199)
 clear BK198
 clear BK199
 clear HB
 have BK198 := n0_
 have BK199 := n1_
 have HB := n2_
 have BK204 := n3_
 have GW204 := n4_
 have GE204 := n5_
 have NB198_204 := n6_
 have NB204_198 := n7_
 have NB199_204 := n8_
 have NB204_199 := n9_
 clear n0_ n1_ n2_ n3_ n4_ n5_ n6_ n7_ n8_ n9_
 clear hb hbox hg
 refine hK.out _ _ ⟨(blk_cell BK198.out 0).trans rfl, (blk_cell BK198.out 1).trans rfl⟩ (fun hHeld => ?_)
 clear hK K
 refine norm_ (a' := ?_) ?_ ?_
 rotate_left
 {
 show Act.put _ (some 6) _ = _
 simp only [Act.put, sT, sZ, sU, i64_w, i32_w]
 rfl
 }
 refine one_ (i := 4) (N := some 18) #[true, true, true, true, true, false, true, false] rfl rfl (one_of HT_.out (by kernel_rfl)) (by decide) (fun K hK => ?_)
 refine gsK Try.func60 #[.slice A0_1 l0_1.length c0_1] ?_
 with_reducible refine (impl_Link_60.calls _ _ l0_1 t201 _ ?side1 ?side2 A5.out).mono ?_
 (case side1 => exact cX HR0_1 HB)
 (case side2 => exact HC0_1.out)
 rintro e w13 ⟨v202, rfl, ho0, hb⟩
 refine ⟨_, rfl, ?_⟩
 have n0_ := mK (Kd.R_lower ho0 (below_size (bX HB)))
 have n1_ := kB BK198 hb
 have n2_ := kB BK199 hb
 have n3_ := kB BK204 hb
 have n4_ := bB HB hb
 clear BK198
 clear BK199
 clear BK204
 clear HB
 have HO203 := n0_
 have BK198 := n1_
 have BK199 := n2_
 have BK204 := n3_
 have HB := n4_
 clear n0_ n1_ n2_ n3_ n4_
 (try clear hb)
 (try clear hb2)
 (try clear hk)
 (try clear hi)
 (try clear ho0)
 obtain ⟨Ao14, co14, eo14⟩ := Kd.R_slice HO203.out
 (first | subst eo14 | (injection eo14 with f1_ f2_ f3_; have f4_ := f1_.symm; have f5_ := f3_.symm; clear f1_ f2_ f3_; subst f4_; subst f5_))
 refine hK.out _ _ ⟨(blk_cell BK198.out 0).trans rfl, (blk_cell BK198.out 1).trans rfl⟩ (fun hHeld => ?_)
 clear hK K
 refine norm_ (a' := ?_) ?_ ?_
 rotate_left
 {
 show Act.put _ (some 18) _ = _
 simp only [Act.put, sT, sZ, sU, i64_w, i32_w]
 rfl
 }
 refine pL 5 19 (bs 7 8) HT_ ?_
 exact norm_ (by simp only [putAll, Act.put, sT, sZ, sU]) (hCont (.slice Ao14 t201.length co14, gb204) _ ⟨hHeld, HO203.out, BK198.out, BK199.out, BK204.out, GW204.out, GE204.out, NB198_204.out, NB204_198.out, NB199_204.out, NB204_199.out, HB.out⟩)
 }
 }
 rintro ⟨v202, gb204⟩ w15 ⟨hS_, h0_, h1_, h2_, h3_, h4_, h5_, h6_, h7_, h8_, h9_, h10_⟩
 have n0_ : Aside0 (Kd.R k47 47 w15 w.heap.size (fun _ => True) v202 t201) := ⟨h0_⟩
 have n1_ : Aside0 (w15.heap[gb198]? = some (.cells #[.int .i64 a0_0, .slice A0_1 l0_1.length c0_1] 29 (0, 0))) := ⟨h1_⟩
 have n2_ : Aside0 (w15.heap[gb199]? = some (.cells #[.int .i64 0, .slice none 0 0] 29 (0, 0))) := ⟨h2_⟩
 have n3_ : Aside0 (w15.heap[gb204]? = some (.cells #[.int .i64 0, .slice none 0 0] 29 (0, 0))) := ⟨h3_⟩
 have n4_ : Aside0 (w.heap.size ≤ gb204) := ⟨h4_⟩
 have n5_ : Aside0 (w.heap.size ≤ gb204) := ⟨h5_⟩
 have n6_ : Aside0 (gb198 ≠ gb204) := ⟨h6_⟩
 have n7_ : Aside0 (gb204 ≠ gb198) := ⟨h7_⟩
 have n8_ : Aside0 (gb199 ≠ gb204) := ⟨h8_⟩
 have n9_ : Aside0 (gb204 ≠ gb199) := ⟨h9_⟩
 have n10_ : Aside0 (Below w.heap.size w w15) := ⟨h10_⟩
 clear BK198
 clear BK199
 clear HB
 clear h0_ h1_ h2_ h3_ h4_ h5_ h6_ h7_ h8_ h9_ h10_
 have HO203 := n0_
 have BK198 := n1_
 have BK199 := n2_
 have BK204 := n3_
 have GW204 := n4_
 have GE204 := n5_
 have NB198_204 := n6_
 have NB204_198 := n7_
 have NB199_204 := n8_
 have NB204_199 := n9_
 have HB := n10_
 clear n0_ n1_ n2_ n3_ n4_ n5_ n6_ n7_ n8_ n9_ n10_
 have hHeld : w15.cell? ⟨gb198, 0, none⟩ = some (.int .i64 a0_0) ∧ w15.cell? ⟨gb198, 1, none⟩ = some (.slice A0_1 l0_1.length c0_1) := hS_
 obtain ⟨Ao16, co16, eo16⟩ := Kd.R_slice HO203.out
 (first | subst eo16 | (injection eo16 with f1_ f2_ f3_; have f4_ := f1_.symm; have f5_ := f3_.symm; clear f1_ f2_ f3_; subst f4_; subst f5_))
 refine norm_ (a' := ?_) ?_ ?_
 rotate_left
 {
 simp only [putAll, Act.put, sT, sZ, sU]
 rfl
 }
 refine one_ (i := 7) (N := none) (bs 8 8) rfl rfl (one_of HT_.out (by kernel_rfl)) (by decide) (fun K hK => ?_)
 have hs17 : w15.cell? ⟨gb204, 0, none⟩ = some (.int .i64 0) := (blk_cell BK204.out 0).trans rfl
 have hfs17 := fX BK204 0
 have hns17_0 := NB198_204.out
 have hns17_1 := NB199_204.out
 have hms17_0 := NB204_198.out
 have hms17_1 := NB204_199.out
 have hs18 : w15.cell? ⟨gb204, 1, none⟩ = some (.slice none 0 0) := (blk_cell BK204.out 1).trans rfl
 have hfs18 := fX BK204 1
 have hns18_0 := NB198_204.out
 have hns18_1 := NB199_204.out
 have hms18_0 := NB204_198.out
 have hms18_1 := NB204_199.out
 refine skip_ (w1 := ?_) (by rfl) rfl ?_ ?_
 rotate_left
 {
 go_simp
 rfl
 }
 refine hK.out _ _ ⟨((cell_far (p := ⟨gb204, _, none⟩) NB198_204.out _).trans (((cell_far (p := ⟨gb204, _, none⟩) NB198_204.out _).trans (hHeld.1)))), ((cell_far (p := ⟨gb204, _, none⟩) NB198_204.out _).trans (((cell_far (p := ⟨gb204, _, none⟩) NB198_204.out _).trans (hHeld.2))))⟩ (fun hHeld => ?_)
 clear hK K
 refine done_ (done_of HT_.out (by kernel_rfl)) ?_
 try go_wp2
 go_loopg [22] k (fun kq v22 w' => ∃ (x22_1 : Int) (x205001_1 : List (S47)) (u205001 : Value), v22 = .int .i64 x22_1 ∧ Aside0 (impl_FixTimes.l0 kq l1 (l1.length : Int) x22_1 a0_0 x205001_1 = some (r1, r2, r3)) ∧ Aside0 (kq ≤ k) ∧ Aside0 (Kd.R k47 47 w' w.heap.size (fun _ => True) u205001 x205001_1) ∧ Aside0 (w'.heap[gb198]? = some (.cells #[.int .i64 a0_0, (.slice A0_1 l0_1.length c0_1)] 29 (0, 0))) ∧ Aside0 (w'.heap[gb199]? = some (.cells #[.int .i64 0, (.slice none 0 0)] 29 (0, 0))) ∧ Aside0 (w'.heap[gb204]? = some (.cells #[.int .i64 a0_0, u205001] 29 (0, 0))) ∧ Aside0 (Below w.heap.size w w'))
 case atStart => exact ⟨(0), (t201), (.slice Ao16 t201.length co16), (by first | rfl | (simp; done) | (simp [*]; done)), H', ⟨Nat.le_refl _⟩, ⟨rF2 HO203 BK204⟩, ⟨kF BK198 NB198_204⟩, ⟨kF BK199 NB199_204⟩, ⟨kP2 BK204⟩, ⟨bX HB⟩⟩
 case round => (
 clear H'
 try clear c1
 try clear p2
 try clear c3
 try clear c4
 try clear c6
 try clear c8
 try clear c18
 try clear hcz9_0
 try clear hcz9_1
 try clear hfz9_0
 try clear hfz9_1
 obtain ⟨x22_1, x205001_1, u205001, rfl, HA, HK1, HO_205001, BK198, BK199, BK204, HB⟩ := hrel
 cases gk with
 | zero => exact absurd HA.out (by simp [impl_FixTimes.l0])
 | succ k1 => (
 have H := HA.out
 clear HA
 simp only [impl_FixTimes.l0] at H
 by_cases c19 : x22_1 < (l1.length : Int)
 rotate_left
 {
 rw [if_neg c19] at H
 have c19b0 : decide (x22_1 < (l1.length : Int)) = false := decide_eq_false c19
 clear c19
 replace H := Option.bind_eq_some_iff.mp H
 obtain ⟨t209, A310, H⟩ := H
 replace H : (if t209 = true then (some (a0_0, x205001_1, true)) else (some (0, ([] : List (S47)), false))) = some (r1, r2, r3) := H
 have A31 := mK A310
 clear A310
 by_cases c32 : t209 = true
 rotate_left
 {
 replace c32 := Bool.eq_false_iff.mpr c32
 subst c32
 rw [if_neg (show ¬ (false = true) by decide)] at H
 simp only [Option.some.injEq, Prod.mk.injEq] at H
 obtain ⟨rfl, rfl, rfl⟩ := H
 have hnb41 := NB204_198.out
 have hnc41 := NB198_204.out
 have hnb42 := NB204_199.out
 have hnc42 := NB199_204.out
 have hcz43_0 := q0 BK204
 have hcz43_1 := q1 BK204
 have hfz43_0 := fX BK204 0
 have hfz43_1 := fX BK204 1
 obtain ⟨Ao44, co44, eo44⟩ := Kd.R_slice HO_205001.out
 subst eo44
 go_wp2_with (first | ((with_reducible refine gate_callee (f := 14) rfl ?_); refine gsE (some 45) Try.func14 #[.agg #[.int .i64 a0_0, .slice Ao44 x205001_1.length co44]] ?_; (with_reducible refine (impl_SimpleOk.calls a0_0 _ _ x205001_1 false _ ?side1 ?side2 A31.out).mono ?_); (case side1 => repeat (first | exact (Kd.R_reads' HO_205001.out).2.2 | (with_reducible refine Kd.C_alloc ?_ _) | (with_reducible refine Kd.C_drewN ?_ _) | (with_reducible refine Kd.C_drew ?_))); (case side2 => exact (Kd.R_reads' HO_205001.out).2.1); rintro e w45 ⟨rfl, hb⟩; refine ⟨_, rfl, ?_⟩; replace HO_205001 := mK (Kd.R_below (rX HO_205001) hb); replace BK198 := kB BK198 hb; replace BK199 := kB BK199 hb; replace BK204 := kB BK204 hb; replace HB := bB HB hb; (try clear hb); (try clear hb2); (try clear hk); (try clear hi); have hnb46 := NB199_198.out; have hnc46 := NB198_199.out; have hcz47_0 := q0 BK199; have hcz47_1 := q1 BK199; have hfz47_0 := fX BK199 0; have hfz47_1 := fX BK199 1))
 refine bodyPost_ret (results_ct rfl _ _ gb199 29 #[.int .i64 0, .slice none 0 0] (0, 0) _ rfl (kP2 BK199) Try.underlying29 rfl (by kernel_rfl)) rfl ?_
 exact ⟨_, by first | rfl | (simp [errW_none, errW_some] <;> rfl) | (simp [*, errW_none, errW_some] <;> rfl), by first | exact Kd.R_nil _ _ _ _ _ | exact Kd.N_nil _ _ _ _ _ | exact Kd.V_nil _ _ _ _ _ | exact Kd.Q_nil _ _ _ _ _ | exact Kd.S_nil _ _ _ _ _, bX HB⟩
 }
 subst c32
 rw [if_pos rfl] at H
 simp only [Option.some.injEq, Prod.mk.injEq] at H
 obtain ⟨rfl, rfl, rfl⟩ := H
 have hnb33 := NB204_198.out
 have hnc33 := NB198_204.out
 have hnb34 := NB204_199.out
 have hnc34 := NB199_204.out
 have hcz35_0 := q0 BK204
 have hcz35_1 := q1 BK204
 have hfz35_0 := fX BK204 0
 have hfz35_1 := fX BK204 1
 obtain ⟨Ao36, co36, eo36⟩ := Kd.R_slice HO_205001.out
 subst eo36
 go_wp2_with (first | ((with_reducible refine gate_callee (f := 14) rfl ?_); refine gsE (some 45) Try.func14 #[.agg #[.int .i64 a0_0, .slice Ao36 x205001_1.length co36]] ?_; (with_reducible refine (impl_SimpleOk.calls a0_0 _ _ x205001_1 true _ ?side1 ?side2 A31.out).mono ?_); (case side1 => repeat (first | exact (Kd.R_reads' HO_205001.out).2.2 | (with_reducible refine Kd.C_alloc ?_ _) | (with_reducible refine Kd.C_drewN ?_ _) | (with_reducible refine Kd.C_drew ?_))); (case side2 => exact (Kd.R_reads' HO_205001.out).2.1); rintro e w37 ⟨rfl, hb⟩; refine ⟨_, rfl, ?_⟩; replace HO_205001 := mK (Kd.R_below (rX HO_205001) hb); replace BK198 := kB BK198 hb; replace BK199 := kB BK199 hb; replace BK204 := kB BK204 hb; replace HB := bB HB hb; (try clear hb); (try clear hb2); (try clear hk); (try clear hi); have hcz38_0 := q0 BK204; have hcz38_1 := q1 BK204; have hfz38_0 := fX BK204 0; have hfz38_1 := fX BK204 1; have hnb39 := NB199_198.out; have hnc39 := NB198_199.out; have hcz40_0 := q0 BK199; have hcz40_1 := q1 BK199; have hfz40_0 := fX BK199 0; have hfz40_1 := fX BK199 1))
 refine bodyPost_ret (results_ct rfl _ _ gb199 29 #[.int .i64 a0_0, .slice Ao36 x205001_1.length co36] (0, 0) _ rfl (kP2 BK199) Try.underlying29 rfl (by kernel_rfl)) rfl ?_
 exact ⟨_, by first | rfl | (simp [errW_none, errW_some] <;> rfl) | (simp [*, errW_none, errW_some] <;> rfl), rF2 HO_205001 BK199, bX HB⟩
 }
 rw [if_pos c19] at H
 have c19b0 : decide (x22_1 < (l1.length : Int)) = true := decide_eq_true c19
 clear c19
 by_cases c20 : 0 ≤ x22_1
 rotate_left
 {
 rw [if_neg c20] at H
 exact absurd H (by simp)
 }
 rw [if_pos c20] at H
 have c20b0 : decide (0 ≤ x22_1) = true := decide_eq_true c20
 clear c20
 by_cases c21 : x22_1 < (l1.length : Int)
 rotate_left
 {
 rw [if_neg c21] at H
 exact absurd H (by simp)
 }
 rw [if_pos c21] at H
 have c21b0 : decide (x22_1 < (l1.length : Int)) = true := decide_eq_true c21
 clear c21
 by_cases c22 : x22_1 > 0
 rotate_left
 {
 rw [if_neg c22] at H
 have c22b0 : decide (0 < x22_1) = false := decide_eq_false c22
 clear c22
 have H' := mK H
 clear H
 have p205 : 0 ≤ (x22_1 : Int) := of_decide_eq_true oX
 have q205 : x22_1 < (l1.length : Int) := of_decide_eq_true oX
 obtain ⟨ad205, e205, hx205_0⟩ := Kd.at_int HR1.out x22_1 p205 q205
 cases e205
 replace hx205_0 := (HB.out.cell (World.block_lt_of_cell? w _ hx205_0)).trans hx205_0
 replace p205 := eq_true p205
 replace q205 := eq_true q205
 go_wp2
 go_roundg k1
 case measure => have := HK1.out; omega
 case rel => exact ⟨(wrap64 (x22_1 + 1)), (x205001_1), (u205001), (by first | rfl | (simp; done) | (simp [*]; done)), H', ⟨by have := HK1.out; omega⟩, ⟨rX HO_205001⟩, ⟨kX BK198⟩, ⟨kX BK199⟩, ⟨kX BK204⟩, ⟨bX HB⟩⟩
 }
 rw [if_pos c22] at H
 have c22b0 : decide (0 < x22_1) = true := decide_eq_true c22
 clear c22
 by_cases c23 : (rd l1 x22_1) = (-1)
 {
 rw [if_pos c23] at H
 have c23b0 : ((rd l1 x22_1) == (-1)) = true := beq_iff_eq.mpr c23
 have c23b1 : ((rd l1 x22_1) != (-1)) = false := bne_eq_false_iff_eq.mpr c23
 clear c23
 have H' := mK H
 clear H
 have p205 : 0 ≤ (x22_1 : Int) := of_decide_eq_true oX
 have q205 : x22_1 < (l1.length : Int) := of_decide_eq_true oX
 obtain ⟨ad205, e205, hx205_0⟩ := Kd.at_int HR1.out x22_1 p205 q205
 cases e205
 replace hx205_0 := (HB.out.cell (World.block_lt_of_cell? w _ hx205_0)).trans hx205_0
 replace p205 := eq_true p205
 replace q205 := eq_true q205
 go_wp2
 go_roundg k1
 case measure => have := HK1.out; omega
 case rel => exact ⟨(wrap64 (x22_1 + 1)), (x205001_1), (u205001), (by first | rfl | (simp; done) | (simp [*]; done)), H', ⟨by have := HK1.out; omega⟩, ⟨rX HO_205001⟩, ⟨kX BK198⟩, ⟨kX BK199⟩, ⟨kX BK204⟩, ⟨bX HB⟩⟩
 }
 rw [if_neg c23] at H
 have c23b0 : ((rd l1 x22_1) == (-1)) = false := beq_eq_false_iff_ne.mpr c23
 have c23b1 : ((rd l1 x22_1) != (-1)) = true := bne_iff_ne.mpr c23
 by_cases c24 : x205001_1.length < 4398046511104
 rotate_left
 {
 rw [if_neg c24] at H
 exact absurd H (by simp)
 }
 rw [if_pos c24] at H
 have LMc24 := mK c24
 clear c24
 obtain ⟨y206, hy206⟩ : ∃ y_ : List (S47), y_ = (x205001_1 ++ [(⟨0, x22_1, (⟨rd l1 x22_1, rd l1 x22_1⟩ : S45)⟩ : S47)]) := ⟨_, rfl⟩
 replace H : (impl_FixTimes.l0 k1 l1 (l1.length : Int) (wrap64 (x22_1 + 1)) a0_0 y206) = some (r1, r2, r3) := by first | (rw [hy206]; with_reducible exact H) | (have H2_ := (Option.bind_some _ _).symm.trans H; rw [hy206]; with_reducible exact H2_) | (have H2_ := (Option.bind_some _ _).symm.trans H; with_reducible exact H2_) | with_reducible exact H | (rw [hy206]; exact H) | exact H
 have Ny206 := mK hy206
 clear hy206
 have H' := mK H
 clear H
 have p205 : 0 ≤ (x22_1 : Int) := of_decide_eq_true oX
 have q205 : x22_1 < (l1.length : Int) := of_decide_eq_true oX
 obtain ⟨ad205, e205, hx205_0⟩ := Kd.at_int HR1.out x22_1 p205 q205
 cases e205
 replace hx205_0 := (HB.out.cell (World.block_lt_of_cell? w _ hx205_0)).trans hx205_0
 replace p205 := eq_true p205
 replace q205 := eq_true q205
 have hnb25 := NB204_198.out
 have hnc25 := NB198_204.out
 have hnb26 := NB204_199.out
 have hnc26 := NB199_204.out
 have hcz27_0 := q0 BK204
 have hcz27_1 := q1 BK204
 have hfz27_0 := fX BK204 0
 have hfz27_1 := fX BK204 1
 go_wp2_with (first | ((with_reducible refine gate_builtin (b := .append) (xs := #[.tmp 34, .tmp 40]) rfl ?_); at_builtin; refine Kd.R_append k47 (w0 := w) w.heap.size rfl (.tmp 34) (.tmp 40) 27 47 (.agg #[(.int .i64 0), (.int .i64 0), (.int .i64 0), (.int .i64 0)]) 32 rfl Try.underlying27 info47 rfl (by decide) (by omega) u205001 x205001_1 (⟨0, x22_1, (⟨rd l1 x22_1, rd l1 x22_1⟩ : S45)⟩ : S47) [.int .i64 0, .int .i64 x22_1, .int .i64 (rd l1 x22_1), .int .i64 (rd l1 x22_1)] (fun _ => True) (fun _ => False) rfl rfl ?aP (fun _ hk => hk.elim) ?aF ?aO ?aB ?aS ?aL ?_; (case aP => exact k47_mkM _ _ _ (⟨0, x22_1, (⟨rd l1 x22_1, rd l1 x22_1⟩ : S45)⟩ : S47)); (case aB => exact (bX HB)); (case aF => exact (fun _ _ => trivial)); (case aO => exact (rX HO_205001)); (case aS => exact (below_size (bX HB))); (case aL => have := LMc24.out; omega); intro v207 w28 ho hb hg hat; rw [← Ny206.out] at ho; have n0_ := mK (blk_grown (kX BK198) hg (Kd.R_ne HO_205001.out BK198.out (by decide))); have n1_ := mK (blk_grown (kX BK199) hg (Kd.R_ne HO_205001.out BK199.out (by decide))); have n2_ := mK (blk_grown (kX BK204) hg (Kd.R_ne HO_205001.out BK204.out (by decide))); have n3_ := mK (hb); have n4_ := mK (ho); clear BK198; clear BK199; clear BK204; clear HB; clear HO_205001; have BK198 := n0_; have BK199 := n1_; have BK204 := n2_; have HB := n3_; have HO208 := n4_; clear n0_ n1_ n2_ n3_ n4_; clear ho hb hg hat; obtain ⟨Ao29, co29, eo29⟩ := Kd.R_slice HO208.out; subst eo29; have hcz30_0 := q0 BK204; have hcz30_1 := q1 BK204; have hfz30_0 := fX BK204 0; have hfz30_1 := fX BK204 1))
 go_roundg k1
 case measure => have := HK1.out; omega
 case rel => exact ⟨(wrap64 (x22_1 + 1)), (y206), (.slice Ao29 y206.length co29), (by first | rfl | (simp; done) | (simp [*]; done)), H', ⟨by have := HK1.out; omega⟩, ⟨by (with_reducible repeat first|apply rA|apply rN|apply rD); exact Kd.R_mono (Kd.R_far (p := ⟨gb204, 1, none⟩) (Kd.R_types HO208.out BK204.out (by decide)) (fun _ hk => hk.2) (.slice Ao29 y206.length co29)) (fun _ hk => trivial)⟩, ⟨kF BK198 NB198_204⟩, ⟨kF BK199 NB199_204⟩, ⟨by (with_reducible repeat first|apply kN|apply kD|apply kA); refine blk_put (cs := #[.int .i64 a0_0, u205001]) ?_ 1 _ rfl; (with_reducible repeat first|apply kN|apply kD|apply kA); exact BK204.out⟩, ⟨bX HB⟩⟩
 )
 )

/-! ### laws_markIntS: function 36 -/
def laws_markIntS.l0 : Nat → List Int → Int → Int → Option (Int × List Int)
  | 0, _, _, _ => none
  | k + 1, x0, x1, x5 => if x5 < (x0.length : Int) then (if 0 ≤ x5 then (laws_markIntS.l0 k (x0.set (x5 : Int).toNat x1) (wrap64 (x1 + 1)) (wrap64 (x5 + 1))) else (none)) else (some (x1, x0))
def laws_markIntS.f (k : Nat) (l0 : List Int) (a1 : Int) : Option (Int × List Int) := laws_markIntS.l0 k l0 a1 0
theorem laws_markIntS.mono_l : ∀ k, (∀ y0 y1 y2, LeO (laws_markIntS.l0 k y0 y1 y2) (laws_markIntS.l0 (k + 1) y0 y1 y2))
  | 0 => fun _ _ _ r h => by simp [laws_markIntS.l0] at h
  | k + 1 => by
    have ih0 := laws_markIntS.mono_l k
    · intro y0 y1 y2
      unfold laws_markIntS.l0
      repeat' first|(with_reducible first|exact ih0 _ _ _|exact lR _|exact lN _|refine lI ?_ ?_|refine lB ?_ (fun _ => ?_))|exact ih0 _ _ _|exact lN _|refine lI ?_ ?_|refine lB ?_ (fun _ => ?_)
theorem laws_markIntS.mono : ∀ a0 a1 k, LeO (laws_markIntS.f k a0 a1) (laws_markIntS.f (k + 1) a0 a1) := by
  intro a0 a1 k
  have ih0 := laws_markIntS.mono_l k
  unfold laws_markIntS.f
  repeat' first|(with_reducible first|exact ih0 _ _ _|exact lR _|exact lN _|refine lI ?_ ?_|refine lB ?_ (fun _ => ?_))|exact ih0 _ _ _|exact lN _|refine lI ?_ ?_|refine lB ?_ (fun _ => ?_)
set_option maxHeartbeats 8000000 in
set_option maxRecDepth 100000 in
theorem laws_markIntS.calls (k : Nat) (P0_ : Nat → Prop) (u9000_ : Value) (l0 : List Int) (a1 : Int) (r1 : Int) (r2 : List Int) (w0 w : World) (hB : Below w0.heap.size w0 w) (ho0 : Kd.R (Kd.int .i64) 3 w w0.heap.size P0_ u9000_ l0) (h : laws_markIntS.f k l0 a1 = some (r1, r2)) :
    Calls Try.prog 36 #[u9000_, .int .i64 a1] w fun e w' => e = .returned (.int .i64 r1) ∧ Kd.R (Kd.int .i64) 3 w' w0.heap.size (fun k_ => (P0_ k_ ∨ w.heap.size ≤ k_)) u9000_ r2 ∧ Below w0.heap.size w0 w' ∧ Kept w w' (fun k_ => P0_ k_) := by
  have HO0 := mK (show Kd.R (Kd.int .i64) 3 w w0.heap.size (fun k_ => (P0_ k_ ∨ w.heap.size ≤ k_)) u9000_ l0 from Kd.R_mono ho0 (fun k_ hk => (.inl hk)))
  have HK := mK (Kept.refl w (fun k_ => P0_ k_))
  have HW0 := mK hB.size
  have HB := mK hB
  clear hB
  have H : (laws_markIntS.l0 k l0 a1 0) = some (r1, r2) := h
  clear h
  have H' := mK H
  clear H
  go_enter Try.func36, Try.ntmps36
  go_wp2
  go_loopg [1, 5] k (fun kq v1 v5 w' => ∃ (x0_1 : List Int) (x1_1 : Int) (x5_1 : Int), v1 = .int .i64 x1_1 ∧ v5 = .int .i64 x5_1 ∧ Aside0 (laws_markIntS.l0 kq x0_1 x1_1 x5_1 = some (r1, r2)) ∧ Aside0 (kq ≤ k) ∧ Aside0 (Kd.R (Kd.int .i64) 3 w' w0.heap.size (fun k_ => (P0_ k_ ∨ w.heap.size ≤ k_)) u9000_ x0_1) ∧ Aside0 (Kept w w' (fun k_ => P0_ k_)) ∧ Aside0 (Below w0.heap.size w0 w'))
  case atStart => exact ⟨(l0), (a1), (0), (by first | rfl | (simp; done) | (simp [*]; done)), (by first | rfl | (simp; done) | (simp [*]; done)), H', ⟨Nat.le_refl _⟩, ⟨rX HO0⟩, ⟨tX HK⟩, ⟨bX HB⟩⟩
  case round =>
   clear H'
   try clear p2
   obtain ⟨x0_1, x1_1, x5_1, rfl, rfl, HA, HK1, HO_0, HK, HB⟩ := hrel
   cases gk with
   | zero => exact absurd HA.out (by simp [laws_markIntS.l0])
   | succ k1 =>
    have H := HA.out
    clear HA
    simp only [laws_markIntS.l0] at H
    by_cases c3 : x5_1 < (x0_1.length : Int)
    rotate_left
    · rw [if_neg c3] at H
      have c3b0 : decide (x5_1 < (x0_1.length : Int)) = false := decide_eq_false c3
      clear c3
      simp only [Option.some.injEq, Prod.mk.injEq] at H
      obtain ⟨rfl, rfl⟩ := H
      obtain ⟨Ao9, co9, eo9⟩ := Kd.R_slice HO_0.out
      subst eo9
      go_wp2
      go_ret
      exact ⟨by first | rfl | (simp [errW_none, errW_some] <;> rfl) | (simp [*, errW_none, errW_some] <;> rfl), rX HO_0, bX HB, tX HK⟩
    rw [if_pos c3] at H
    have c3b0 : decide (x5_1 < (x0_1.length : Int)) = true := decide_eq_true c3
    clear c3
    by_cases c4 : 0 ≤ x5_1
    rotate_left
    · rw [if_neg c4] at H
      exact absurd H (by simp)
    rw [if_pos c4] at H
    have c4b0 : decide (0 ≤ x5_1) = true := decide_eq_true c4
    clear c4
    obtain ⟨y210, hy210⟩ : ∃ y_ : List Int, y_ = (x0_1.set (x5_1 : Int).toNat x1_1) := ⟨_, rfl⟩
    replace H : (laws_markIntS.l0 k1 y210 (wrap64 (x1_1 + 1)) (wrap64 (x5_1 + 1))) = some (r1, r2) := by first | (rw [hy210]; with_reducible exact H) | (have H2_ := (Option.bind_some _ _).symm.trans H; rw [hy210]; with_reducible exact H2_) | (have H2_ := (Option.bind_some _ _).symm.trans H; with_reducible exact H2_) | with_reducible exact H | (rw [hy210]; exact H) | exact H
    have Ny210 := mK hy210
    clear hy210
    have H' := mK H
    clear H
    obtain ⟨Ao6, co6, eo6⟩ := Kd.R_slice HO_0.out
    subst eo6
    have p5 : 0 ≤ (x5_1 : Int) := of_decide_eq_true oX
    have q5 : (x5_1 : Int) < ((x0_1.length : Int) : Int) := of_decide_eq_true oX
    obtain ⟨go5, co5, eo5, gb5, gl5, cl5, HG5⟩ := Kd.R_form HO_0.out (by omega)
    (first | cases eo5 | (injection eo5 with ea_ en_ ec_; (first | subst ea_ | (injection ea_ with ea_; subst ea_)); subst ec_; clear en_))
    have GB5 := mK gb5
    have GG5 := mK HG5
    clear gb5 gl5 HG5
    have HMgo5 := mK (show (P0_ go5 ∨ w.heap.size ≤ go5) from (HO_0.out.1 _ rfl))
    obtain ⟨hx5_0, hf5_0⟩ := Kd.R_celln 0 HO_0.out (x5_1 : Int) p5 q5
    replace p5 := eq_true p5
    replace q5 := eq_true q5
    have HP7 := Kd.R_putg HO_0.out (x5_1 : Int) x1_1
    go_wp2_with (first | ((with_reducible refine gate_store (t := 3) (p := 15) rfl ?_); refine store_event (t := 3) (p := 15) (v := ?vo_w8) (w1 := (wr.setCell ⟨go5, (x5_1 : Int).toNat, none⟩ (.int .i64 x1_1))) ?hg ?ho ?hn ?hr ?_; (case ho => rfl); (case hg => rfl); (case hn => rfl); (case hr => go_simp <;> rfl); intro w8 hw; have hg : wr.grownBy w8 (some go5) := (by rw [hw]; exact HP7.2); have hp_ : Kd.R (Kd.int .i64) 3 w8 w0.heap.size (fun k_ => (P0_ k_ ∨ w.heap.size ≤ k_)) (.slice (some ⟨go5, 0, none⟩) x0_1.length co6) y210 := (by rw [hw, Ny210.out]; exact HP7.1); clear HP7; have n0_ := mK (hp_); have n1_ := mK ((by rw [hw]; exact below_set (HB.out) GB5.out : Below w0.heap.size w0 w8)); have n2_ := mK (Kept.of_grown (S := (fun k_ => P0_ k_)) hg (tX HK) (fun k_ e_ => (HO_0.out.1 k_ e_))); clear HO_0; clear HB; clear HK; have HO_0 := n0_; have HB := n1_; have HK := n2_; clear n0_ n1_ n2_; clear hg hw hp_))
    go_roundg k1
    case measure => have := HK1.out; omega
    case rel => exact ⟨(y210), (wrap64 (x1_1 + 1)), (wrap64 (x5_1 + 1)), (by first | rfl | (simp; done) | (simp [*]; done)), (by first | rfl | (simp; done) | (simp [*]; done)), H', ⟨by have := HK1.out; omega⟩, ⟨rX HO_0⟩, ⟨tX HK⟩, ⟨bX HB⟩⟩

end Go.Proofs.Ytolecnichpnhnaa.QFnExactFixTimes
