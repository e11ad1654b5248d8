-- Written by this session's program wip/tools/mk.py out of the translation; Lean checks it.
import Derived.Test.YtolecnichpnhnaaQFnExactFixTimesx0
import Derived.Test.YtolecnichpnhnaaQFnExactFixTimesx3
namespace Go.Proofs.Ytolecnichpnhnaa.QFnExactFixTimes
open Go.RowKit Go.Proofs.YtolecnichpnhnaaW.PrintWords Go.Proofs.YtolecnichpnhnaaW.PrintLast Go.Proofs.YtolecnichpnhnaaW.PrintMore
attribute [local go_sem] max2_int min2_int max_two min_two max_three min_three max_four min_four   -- for this text's walks alone
set_option linter.unusedVariables false
set_option linter.unusedSimpArgs false

/-! ### spec_FixTimes: function 34 -/
def spec_FixTimes.l0 : Nat → List Int → Int → Int → Int → List (S47) → Option (Int × (List (S47)) × Bool)
  | 0, _, _, _, _, _ => none
  | k + 1, x16, x17, x18, x186000, x186001 => if x18 < x17 then (if 0 ≤ x18 then (if x18 < (x16.length : Int) then (if x18 > 0 then (if (rd x16 x18) = (-1) then (spec_FixTimes.l0 k x16 x17 (wrap64 (x18 + 1)) x186000 x186001) else (if x186001.length < 4398046511104 then (spec_FixTimes.l0 k x16 x17 (wrap64 (x18 + 1)) x186000 (x186001 ++ [(⟨0, x18, (⟨rd x16 x18, rd x16 x18⟩ : S45)⟩ : S47)])) else (none))) else (spec_FixTimes.l0 k x16 x17 (wrap64 (x18 + 1)) x186000 x186001)) else (none)) else (none)) else ((spec_SimpleOk.f k x186000 x186001).bind fun t190 => (if t190 = true then (some (x186000, x186001, true)) else (some (0, ([] : List (S47)), false))))
def spec_FixTimes.f (k : Nat) (a0_0 : Int) (l0_1 : List (S47)) (l1 : List Int) : Option (Int × (List (S47)) × Bool) := (spec_PartialOk.f k a0_0 l0_1 l1).bind fun t180 => (if t180 = true then ((spec_l05Copy.f a0_0 l0_1).bind fun bt181 => (spec_FixTimes.l0 k l1 (l1.length : Int) 0 bt181.1 bt181.2)) else (some (0, ([] : List (S47)), false)))
theorem spec_FixTimes.mono_l : ∀ k, (∀ y0 y1 y2 y3 y4, LeO (spec_FixTimes.l0 k y0 y1 y2 y3 y4) (spec_FixTimes.l0 (k + 1) y0 y1 y2 y3 y4))
  | 0 => fun _ _ _ _ _ r h => by simp [spec_FixTimes.l0] at h
  | k + 1 => by
    have ih0 := spec_FixTimes.mono_l k
    · intro y0 y1 y2 y3 y4
      unfold spec_FixTimes.l0
      repeat' first|(with_reducible first|exact ih0 _ _ _ _ _|exact spec_PartialOk.mono _ _ _ _|exact spec_SimpleOk.mono _ _ _|exact lR _|exact lN _|refine lI ?_ ?_|refine lB ?_ (fun _ => ?_))|exact ih0 _ _ _ _ _|exact spec_PartialOk.mono _ _ _ _|exact spec_SimpleOk.mono _ _ _|exact lN _|refine lI ?_ ?_|refine lB ?_ (fun _ => ?_)
theorem spec_FixTimes.mono : ∀ a0 a1 a2 k, LeO (spec_FixTimes.f k a0 a1 a2) (spec_FixTimes.f (k + 1) a0 a1 a2) := by
  intro a0 a1 a2 k
  have ih0 := spec_FixTimes.mono_l k
  unfold spec_FixTimes.f
  repeat' first|(with_reducible first|exact ih0 _ _ _ _ _|exact spec_PartialOk.mono _ _ _ _|exact spec_SimpleOk.mono _ _ _|exact lR _|exact lN _|refine lI ?_ ?_|refine lB ?_ (fun _ => ?_))|exact ih0 _ _ _ _ _|exact spec_PartialOk.mono _ _ _ _|exact spec_SimpleOk.mono _ _ _|exact lN _|refine lI ?_ ?_|refine lB ?_ (fun _ => ?_)
set_option maxHeartbeats 8000000 in
set_option maxRecDepth 100000 in
theorem spec_FixTimes.calls (k : Nat) (a0_0 : Int) (A0_1 : Option Addr) (c0_1 : Nat) (l0_1 : List (S47)) (A1 : Option Addr) (c1 : Nat) (l1 : List Int) (r1 : Int) (r2 : List (S47)) (r3 : Bool) (w : World) (hr0_1 : Kd.C k47 w A0_1 l0_1.length l0_1) (hc0_1 : l0_1.length ≤ c0_1) (hr1 : Kd.C (Kd.int .i64) w A1 l1.length l1) (hc1 : l1.length ≤ c1) (h : spec_FixTimes.f k a0_0 l0_1 l1 = some (r1, r2, r3)) :
    Calls Try.prog 34 #[.agg #[.int .i64 a0_0, .slice A0_1 l0_1.length c0_1], .slice A1 l1.length c1] w fun e w' => ∃ v1_ : Value, e = .returned (.tuple #[.agg #[.int .i64 r1, v1_], .bool r3]) ∧ Kd.R k47 47 w' w.heap.size (fun _ => True) v1_ r2 ∧ Below w.heap.size w w' := by
 have hu29 := Try.underlying29
 have hu45 := Try.underlying45
 have hu47 := Try.underlying47
 have HR0_1 := mK hr0_1
 have HC0_1 := mK hc0_1
 clear hr0_1 hc0_1
 have HR1 := mK hr1
 have HC1 := mK hc1
 clear hr1 hc1
 have HB := mK (Below.refl w.heap.size w)
 have H : ((spec_PartialOk.f k a0_0 l0_1 l1).bind fun t180 => (if t180 = true then ((spec_l05Copy.f a0_0 l0_1).bind fun bt181 => (spec_FixTimes.l0 k l1 (l1.length : Int) 0 bt181.1 bt181.2)) else (some (0, ([] : List (S47)), false)))) = some (r1, r2, r3) := h
 clear h
 replace H := Option.bind_eq_some_iff.mp H
 obtain ⟨t180, A30, H⟩ := H
 replace H : (if t180 = true then ((spec_l05Copy.f a0_0 l0_1).bind fun bt181 => (spec_FixTimes.l0 k l1 (l1.length : Int) 0 bt181.1 bt181.2)) else (some (0, ([] : List (S47)), false))) = some (r1, r2, r3) := H
 have A3 := mK A30
 clear A30
 by_cases c4 : t180 = true
 rotate_left
 {
 replace c4 := Bool.eq_false_iff.mpr c4
 subst c4
 rw [if_neg (show ¬ (false = true) by decide)] at H
 simp only [Option.some.injEq, Prod.mk.injEq] at H
 obtain ⟨rfl, rfl, rfl⟩ := H
 go_enter Try.func34, Try.ntmps34
 go_wp2_with (first | ((with_reducible refine gate_dst (N := 2) rfl ?_); refine bxE 2 #[.int .i64 a0_0, .slice A0_1 l0_1.length c0_1] 29 ?_; intro gb178 hg w47 hbox hb; have BK178 := mK hbox; have GW178 := mK (gX hg HB); have GE178 := mK (gX hg HB); replace HB := bB HB hb; clear hb hbox hg) | ((with_reducible refine gate_dst (N := 4) rfl ?_); refine bxE 4 #[.int .i64 0, .slice none 0 0] 29 ?_; intro gb179 hg w48 hbox hb; have BK179 := mK hbox; have GW179 := mK (gX hg HB); have GE179 := mK (gX hg HB); replace HB := bB HB hb; have NB178_179 := mK (lX hg BK178); have NB179_178 := mK (mX hg BK178); replace BK178 := kB BK178 hb; clear hb hbox hg; have hnb49 := NB178_179.out; have hnc49 := NB179_178.out; have hcz50_0 := q0 BK178; have hcz50_1 := q1 BK178; have hfz50_0 := fX BK178 0; have hfz50_1 := fX BK178 1) | ((with_reducible refine gate_callee (f := 16) rfl ?_); refine gsE (some 11) Try.func16 #[.agg #[.int .i64 a0_0, .slice A0_1 l0_1.length c0_1], .slice A1 l1.length c1] ?_; (with_reducible refine (spec_PartialOk.calls k a0_0 _ _ l0_1 _ _ l1 false _ ?side1 ?side2 ?side3 ?side4 A3.out).mono ?_); (case side1 => exact cX HR0_1 HB); (case side2 => exact HC0_1.out); (case side3 => exact cX HR1 HB); (case side4 => exact HC1.out); rintro e w51 ⟨rfl, hb⟩; refine ⟨_, rfl, ?_⟩; replace BK178 := kB BK178 hb; replace BK179 := kB BK179 hb; replace HB := bB HB hb; (try clear hb); (try clear hb2); (try clear hk); (try clear hi); have hcz52_0 := q0 BK179; have hcz52_1 := q1 BK179; have hfz52_0 := fX BK179 0; have hfz52_1 := fX BK179 1))
 refine bodyPost_ret (results_ct rfl _ _ gb179 29 #[.int .i64 0, .slice none 0 0] (0, 0) _ rfl (kP2 BK179) Try.underlying29 rfl (by kernel_rfl)) rfl ?_
 exact ⟨_, by first | rfl | (simp [errW_none, errW_some] <;> rfl) | (simp [*, errW_none, errW_some] <;> rfl), by first | exact Kd.R_nil _ _ _ _ _ | exact Kd.N_nil _ _ _ _ _ | exact Kd.V_nil _ _ _ _ _ | exact Kd.Q_nil _ _ _ _ _ | exact Kd.S_nil _ _ _ _ _, bX HB⟩
 }
 subst c4
 rw [if_pos rfl] at H
 replace H := Option.bind_eq_some_iff.mp H
 obtain ⟨⟨t181, t182⟩, A50, H⟩ := H
 replace H : (spec_FixTimes.l0 k l1 (l1.length : Int) 0 t181 t182) = some (r1, r2, r3) := H
 have A5 := mK A50
 clear A50
 have H' := mK H
 clear H
 go_enter Try.func34, Try.ntmps34
 go_wp2_with (first | ((with_reducible refine gate_dst (N := 2) rfl ?_); refine bxE 2 #[.int .i64 a0_0, .slice A0_1 l0_1.length c0_1] 29 ?_; intro gb178 hg w6 hbox hb; have BK178 := mK hbox; have GW178 := mK (gX hg HB); have GE178 := mK (gX hg HB); replace HB := bB HB hb; clear hb hbox hg) | ((with_reducible refine gate_dst (N := 4) rfl ?_); refine bxE 4 #[.int .i64 0, .slice none 0 0] 29 ?_; intro gb179 hg w7 hbox hb; have BK179 := mK hbox; have GW179 := mK (gX hg HB); have GE179 := mK (gX hg HB); replace HB := bB HB hb; have NB178_179 := mK (lX hg BK178); have NB179_178 := mK (mX hg BK178); replace BK178 := kB BK178 hb; clear hb hbox hg; have hnb8 := NB178_179.out; have hnc8 := NB179_178.out; have hcz9_0 := q0 BK178; have hcz9_1 := q1 BK178; have hfz9_0 := fX BK178 0; have hfz9_1 := fX BK178 1) | ((with_reducible refine gate_callee (f := 16) rfl ?_); refine gsE (some 11) Try.func16 #[.agg #[.int .i64 a0_0, .slice A0_1 l0_1.length c0_1], .slice A1 l1.length c1] ?_; (with_reducible refine (spec_PartialOk.calls k a0_0 _ _ l0_1 _ _ l1 true _ ?side1 ?side2 ?side3 ?side4 A3.out).mono ?_); (case side1 => exact cX HR0_1 HB); (case side2 => exact HC0_1.out); (case side3 => exact cX HR1 HB); (case side4 => exact HC1.out); rintro e w10 ⟨rfl, hb⟩; refine ⟨_, rfl, ?_⟩; replace BK178 := kB BK178 hb; replace BK179 := kB BK179 hb; replace HB := bB HB hb; (try clear hb); (try clear hb2); (try clear hk); (try clear hi); have hcz11_0 := q0 BK178; have hcz11_1 := q1 BK178; have hfz11_0 := fX BK178 0; have hfz11_1 := fX BK178 1) | ((with_reducible refine gate_callee (f := 58) rfl ?_); refine gsE (some 15) Try.func58 #[.agg #[.int .i64 a0_0, .slice A0_1 l0_1.length c0_1]] ?_; (with_reducible refine (spec_l05Copy.calls a0_0 _ _ l0_1 t181 t182 _ ?side1 ?side2 A5.out).mono ?_); (case side1 => exact cX HR0_1 HB); (case side2 => exact HC0_1.out); rintro e w12 ⟨v183, rfl, ho0, hb⟩; refine ⟨_, rfl, ?_⟩; have HO184 := mK (Kd.R_lower ho0 (below_size (bX HB))); replace BK178 := kB BK178 hb; replace BK179 := kB BK179 hb; replace HB := bB HB hb; (try clear hb); (try clear hb2); (try clear hk); (try clear hi); (try clear ho0)) | ((with_reducible refine gate_dst (N := 6) rfl ?_); refine bxE 6 #[.int .i64 0, .slice none 0 0] 29 ?_; intro gb185 hg w13 hbox hb; replace HO184 := mK (Kd.R_below (rX HO184) hb); have BK185 := mK hbox; have GW185 := mK (gX hg HB); have GE185 := mK (gX hg HB); replace HB := bB HB hb; have NB178_185 := mK (lX hg BK178); have NB185_178 := mK (mX hg BK178); replace BK178 := kB BK178 hb; have NB179_185 := mK (lX hg BK179); have NB185_179 := mK (mX hg BK179); replace BK179 := kB BK179 hb; clear hb hbox hg; have hnb14 := NB185_178.out; have hnc14 := NB178_185.out; have hnb15 := NB185_179.out; have hnc15 := NB179_185.out; have hcz16_0 := q0 BK185; have hcz16_1 := q1 BK185; have hfz16_0 := fX BK185 0; have hfz16_1 := fX BK185 1; obtain ⟨Ao17, co17, eo17⟩ := Kd.R_slice HO184.out; subst eo17))
 go_loopg [18] k (fun kq v18 w' => ∃ (x18_1 : Int) (x186001_1 : List (S47)) (u186001 : Value), v18 = .int .i64 x18_1 ∧ Aside0 (spec_FixTimes.l0 kq l1 (l1.length : Int) x18_1 t181 x186001_1 = some (r1, r2, r3)) ∧ Aside0 (kq ≤ k) ∧ Aside0 (Kd.R k47 47 w' w.heap.size (fun _ => True) u186001 x186001_1) ∧ Aside0 (w'.heap[gb178]? = some (.cells #[.int .i64 a0_0, (.slice A0_1 l0_1.length c0_1)] 29 (0, 0))) ∧ Aside0 (w'.heap[gb179]? = some (.cells #[.int .i64 0, (.slice none 0 0)] 29 (0, 0))) ∧ Aside0 (w'.heap[gb185]? = some (.cells #[.int .i64 t181, u186001] 29 (0, 0))) ∧ Aside0 (Below w.heap.size w w'))
 case atStart => exact ⟨(0), (t182), (.slice Ao17 t182.length co17), (by first | rfl | (simp; done) | (simp [*]; done)), H', ⟨Nat.le_refl _⟩, ⟨rF2 HO184 BK185⟩, ⟨kF BK178 NB178_185⟩, ⟨kF BK179 NB179_185⟩, ⟨kP2 BK185⟩, ⟨bX HB⟩⟩
 case round => (
 clear H'
 try clear c1
 try clear p2
 try clear c3
 try clear c4
 try clear c5
 try clear c8
 try clear c14
 try clear c15
 try clear c16
 try clear hcz11_0
 try clear hcz11_1
 try clear hcz16_0
 try clear hcz16_1
 try clear hcz9_0
 try clear hcz9_1
 try clear hfz11_0
 try clear hfz11_1
 try clear hfz16_0
 try clear hfz16_1
 try clear hfz9_0
 try clear hfz9_1
 obtain ⟨x18_1, x186001_1, u186001, rfl, HA, HK1, HO_186001, BK178, BK179, BK185, HB⟩ := hrel
 cases gk with
 | zero => exact absurd HA.out (by simp [spec_FixTimes.l0])
 | succ k1 => (
 have H := HA.out
 clear HA
 simp only [spec_FixTimes.l0] at H
 by_cases c18 : x18_1 < (l1.length : Int)
 rotate_left
 {
 rw [if_neg c18] at H
 have c18b0 : decide (x18_1 < (l1.length : Int)) = false := decide_eq_false c18
 clear c18
 replace H := Option.bind_eq_some_iff.mp H
 obtain ⟨t190, A300, H⟩ := H
 replace H : (if t190 = true then (some (t181, x186001_1, true)) else (some (0, ([] : List (S47)), false))) = some (r1, r2, r3) := H
 have A30 := mK A300
 clear A300
 by_cases c31 : t190 = true
 rotate_left
 {
 replace c31 := Bool.eq_false_iff.mpr c31
 subst c31
 rw [if_neg (show ¬ (false = true) by decide)] at H
 simp only [Option.some.injEq, Prod.mk.injEq] at H
 obtain ⟨rfl, rfl, rfl⟩ := H
 have hnb40 := NB185_178.out
 have hnc40 := NB178_185.out
 have hnb41 := NB185_179.out
 have hnc41 := NB179_185.out
 have hcz42_0 := q0 BK185
 have hcz42_1 := q1 BK185
 have hfz42_0 := fX BK185 0
 have hfz42_1 := fX BK185 1
 obtain ⟨Ao43, co43, eo43⟩ := Kd.R_slice HO_186001.out
 subst eo43
 go_wp2_with (first | ((with_reducible refine gate_callee (f := 12) rfl ?_); refine gsE (some 41) Try.func12 #[.agg #[.int .i64 t181, .slice Ao43 x186001_1.length co43]] ?_; (with_reducible refine (spec_SimpleOk.calls k1 t181 _ _ x186001_1 false _ ?side1 ?side2 A30.out).mono ?_); (case side1 => repeat (first | exact (Kd.R_reads' HO_186001.out).2.2 | (with_reducible refine Kd.C_alloc ?_ _) | (with_reducible refine Kd.C_drewN ?_ _) | (with_reducible refine Kd.C_drew ?_))); (case side2 => exact (Kd.R_reads' HO_186001.out).2.1); rintro e w44 ⟨rfl, hb⟩; refine ⟨_, rfl, ?_⟩; replace HO_186001 := mK (Kd.R_below (rX HO_186001) hb); replace BK178 := kB BK178 hb; replace BK179 := kB BK179 hb; replace BK185 := kB BK185 hb; replace HB := bB HB hb; (try clear hb); (try clear hb2); (try clear hk); (try clear hi); have hnb45 := NB179_178.out; have hnc45 := NB178_179.out; have hcz46_0 := q0 BK179; have hcz46_1 := q1 BK179; have hfz46_0 := fX BK179 0; have hfz46_1 := fX BK179 1))
 refine bodyPost_ret (results_ct rfl _ _ gb179 29 #[.int .i64 0, .slice none 0 0] (0, 0) _ rfl (kP2 BK179) Try.underlying29 rfl (by kernel_rfl)) rfl ?_
 exact ⟨_, by first | rfl | (simp [errW_none, errW_some] <;> rfl) | (simp [*, errW_none, errW_some] <;> rfl), by first | exact Kd.R_nil _ _ _ _ _ | exact Kd.N_nil _ _ _ _ _ | exact Kd.V_nil _ _ _ _ _ | exact Kd.Q_nil _ _ _ _ _ | exact Kd.S_nil _ _ _ _ _, bX HB⟩
 }
 subst c31
 rw [if_pos rfl] at H
 simp only [Option.some.injEq, Prod.mk.injEq] at H
 obtain ⟨rfl, rfl, rfl⟩ := H
 have hnb32 := NB185_178.out
 have hnc32 := NB178_185.out
 have hnb33 := NB185_179.out
 have hnc33 := NB179_185.out
 have hcz34_0 := q0 BK185
 have hcz34_1 := q1 BK185
 have hfz34_0 := fX BK185 0
 have hfz34_1 := fX BK185 1
 obtain ⟨Ao35, co35, eo35⟩ := Kd.R_slice HO_186001.out
 subst eo35
 go_wp2_with (first | ((with_reducible refine gate_callee (f := 12) rfl ?_); refine gsE (some 41) Try.func12 #[.agg #[.int .i64 t181, .slice Ao35 x186001_1.length co35]] ?_; (with_reducible refine (spec_SimpleOk.calls k1 t181 _ _ x186001_1 true _ ?side1 ?side2 A30.out).mono ?_); (case side1 => repeat (first | exact (Kd.R_reads' HO_186001.out).2.2 | (with_reducible refine Kd.C_alloc ?_ _) | (with_reducible refine Kd.C_drewN ?_ _) | (with_reducible refine Kd.C_drew ?_))); (case side2 => exact (Kd.R_reads' HO_186001.out).2.1); rintro e w36 ⟨rfl, hb⟩; refine ⟨_, rfl, ?_⟩; replace HO_186001 := mK (Kd.R_below (rX HO_186001) hb); replace BK178 := kB BK178 hb; replace BK179 := kB BK179 hb; replace BK185 := kB BK185 hb; replace HB := bB HB hb; (try clear hb); (try clear hb2); (try clear hk); (try clear hi); have hcz37_0 := q0 BK185; have hcz37_1 := q1 BK185; have hfz37_0 := fX BK185 0; have hfz37_1 := fX BK185 1; have hnb38 := NB179_178.out; have hnc38 := NB178_179.out; have hcz39_0 := q0 BK179; have hcz39_1 := q1 BK179; have hfz39_0 := fX BK179 0; have hfz39_1 := fX BK179 1))
 refine bodyPost_ret (results_ct rfl _ _ gb179 29 #[.int .i64 t181, .slice Ao35 x186001_1.length co35] (0, 0) _ rfl (kP2 BK179) Try.underlying29 rfl (by kernel_rfl)) rfl ?_
 exact ⟨_, by first | rfl | (simp [errW_none, errW_some] <;> rfl) | (simp [*, errW_none, errW_some] <;> rfl), rF2 HO_186001 BK179, bX HB⟩
 }
 rw [if_pos c18] at H
 have c18b0 : decide (x18_1 < (l1.length : Int)) = true := decide_eq_true c18
 clear c18
 by_cases c19 : 0 ≤ x18_1
 rotate_left
 {
 rw [if_neg c19] at H
 exact absurd H (by simp)
 }
 rw [if_pos c19] at H
 have c19b0 : decide (0 ≤ x18_1) = true := decide_eq_true c19
 clear c19
 by_cases c20 : x18_1 < (l1.length : Int)
 rotate_left
 {
 rw [if_neg c20] at H
 exact absurd H (by simp)
 }
 rw [if_pos c20] at H
 have c20b0 : decide (x18_1 < (l1.length : Int)) = true := decide_eq_true c20
 clear c20
 by_cases c21 : x18_1 > 0
 rotate_left
 {
 rw [if_neg c21] at H
 have c21b0 : decide (0 < x18_1) = false := decide_eq_false c21
 clear c21
 have H' := mK H
 clear H
 have p186 : 0 ≤ (x18_1 : Int) := of_decide_eq_true oX
 have q186 : x18_1 < (l1.length : Int) := of_decide_eq_true oX
 obtain ⟨ad186, e186, hx186_0⟩ := Kd.at_int HR1.out x18_1 p186 q186
 cases e186
 replace hx186_0 := (HB.out.cell (World.block_lt_of_cell? w _ hx186_0)).trans hx186_0
 replace p186 := eq_true p186
 replace q186 := eq_true q186
 go_wp2
 go_roundg k1
 case measure => have := HK1.out; omega
 case rel => exact ⟨(wrap64 (x18_1 + 1)), (x186001_1), (u186001), (by first | rfl | (simp; done) | (simp [*]; done)), H', ⟨by have := HK1.out; omega⟩, ⟨rX HO_186001⟩, ⟨kX BK178⟩, ⟨kX BK179⟩, ⟨kX BK185⟩, ⟨bX HB⟩⟩
 }
 rw [if_pos c21] at H
 have c21b0 : decide (0 < x18_1) = true := decide_eq_true c21
 clear c21
 by_cases c22 : (rd l1 x18_1) = (-1)
 {
 rw [if_pos c22] at H
 have c22b0 : ((rd l1 x18_1) == (-1)) = true := beq_iff_eq.mpr c22
 have c22b1 : ((rd l1 x18_1) != (-1)) = false := bne_eq_false_iff_eq.mpr c22
 clear c22
 have H' := mK H
 clear H
 have p186 : 0 ≤ (x18_1 : Int) := of_decide_eq_true oX
 have q186 : x18_1 < (l1.length : Int) := of_decide_eq_true oX
 obtain ⟨ad186, e186, hx186_0⟩ := Kd.at_int HR1.out x18_1 p186 q186
 cases e186
 replace hx186_0 := (HB.out.cell (World.block_lt_of_cell? w _ hx186_0)).trans hx186_0
 replace p186 := eq_true p186
 replace q186 := eq_true q186
 go_wp2
 go_roundg k1
 case measure => have := HK1.out; omega
 case rel => exact ⟨(wrap64 (x18_1 + 1)), (x186001_1), (u186001), (by first | rfl | (simp; done) | (simp [*]; done)), H', ⟨by have := HK1.out; omega⟩, ⟨rX HO_186001⟩, ⟨kX BK178⟩, ⟨kX BK179⟩, ⟨kX BK185⟩, ⟨bX HB⟩⟩
 }
 rw [if_neg c22] at H
 have c22b0 : ((rd l1 x18_1) == (-1)) = false := beq_eq_false_iff_ne.mpr c22
 have c22b1 : ((rd l1 x18_1) != (-1)) = true := bne_iff_ne.mpr c22
 by_cases c23 : x186001_1.length < 4398046511104
 rotate_left
 {
 rw [if_neg c23] at H
 exact absurd H (by simp)
 }
 rw [if_pos c23] at H
 have LMc23 := mK c23
 clear c23
 obtain ⟨y187, hy187⟩ : ∃ y_ : List (S47), y_ = (x186001_1 ++ [(⟨0, x18_1, (⟨rd l1 x18_1, rd l1 x18_1⟩ : S45)⟩ : S47)]) := ⟨_, rfl⟩
 replace H : (spec_FixTimes.l0 k1 l1 (l1.length : Int) (wrap64 (x18_1 + 1)) t181 y187) = some (r1, r2, r3) := by first | (rw [hy187]; with_reducible exact H) | (have H2_ := (Option.bind_some _ _).symm.trans H; rw [hy187]; with_reducible exact H2_) | (have H2_ := (Option.bind_some _ _).symm.trans H; with_reducible exact H2_) | with_reducible exact H | (rw [hy187]; exact H) | exact H
 have Ny187 := mK hy187
 clear hy187
 have H' := mK H
 clear H
 have p186 : 0 ≤ (x18_1 : Int) := of_decide_eq_true oX
 have q186 : x18_1 < (l1.length : Int) := of_decide_eq_true oX
 obtain ⟨ad186, e186, hx186_0⟩ := Kd.at_int HR1.out x18_1 p186 q186
 cases e186
 replace hx186_0 := (HB.out.cell (World.block_lt_of_cell? w _ hx186_0)).trans hx186_0
 replace p186 := eq_true p186
 replace q186 := eq_true q186
 have hnb24 := NB185_178.out
 have hnc24 := NB178_185.out
 have hnb25 := NB185_179.out
 have hnc25 := NB179_185.out
 have hcz26_0 := q0 BK185
 have hcz26_1 := q1 BK185
 have hfz26_0 := fX BK185 0
 have hfz26_1 := fX BK185 1
 go_wp2_with (first | ((with_reducible refine gate_builtin (b := .append) (xs := #[.tmp 30, .tmp 36]) rfl ?_); at_builtin; refine Kd.R_append k47 (w0 := w) w.heap.size rfl (.tmp 30) (.tmp 36) 27 47 (.agg #[(.int .i64 0), (.int .i64 0), (.int .i64 0), (.int .i64 0)]) 32 rfl Try.underlying27 info47 rfl (by decide) (by omega) u186001 x186001_1 (⟨0, x18_1, (⟨rd l1 x18_1, rd l1 x18_1⟩ : S45)⟩ : S47) [.int .i64 0, .int .i64 x18_1, .int .i64 (rd l1 x18_1), .int .i64 (rd l1 x18_1)] (fun _ => True) (fun _ => False) rfl rfl ?aP (fun _ hk => hk.elim) ?aF ?aO ?aB ?aS ?aL ?_; (case aP => exact k47_mkM _ _ _ (⟨0, x18_1, (⟨rd l1 x18_1, rd l1 x18_1⟩ : S45)⟩ : S47)); (case aB => exact (bX HB)); (case aF => exact (fun _ _ => trivial)); (case aO => exact (rX HO_186001)); (case aS => exact (below_size (bX HB))); (case aL => have := LMc23.out; omega); intro v188 w27 ho hb hg hat; rw [← Ny187.out] at ho; have n0_ := mK (blk_grown (kX BK178) hg (Kd.R_ne HO_186001.out BK178.out (by decide))); have n1_ := mK (blk_grown (kX BK179) hg (Kd.R_ne HO_186001.out BK179.out (by decide))); have n2_ := mK (blk_grown (kX BK185) hg (Kd.R_ne HO_186001.out BK185.out (by decide))); have n3_ := mK (hb); have n4_ := mK (ho); clear BK178; clear BK179; clear BK185; clear HB; clear HO_186001; have BK178 := n0_; have BK179 := n1_; have BK185 := n2_; have HB := n3_; have HO189 := n4_; clear n0_ n1_ n2_ n3_ n4_; clear ho hb hg hat; obtain ⟨Ao28, co28, eo28⟩ := Kd.R_slice HO189.out; subst eo28; have hcz29_0 := q0 BK185; have hcz29_1 := q1 BK185; have hfz29_0 := fX BK185 0; have hfz29_1 := fX BK185 1))
 go_roundg k1
 case measure => have := HK1.out; omega
 case rel => exact ⟨(wrap64 (x18_1 + 1)), (y187), (.slice Ao28 y187.length co28), (by first | rfl | (simp; done) | (simp [*]; done)), H', ⟨by have := HK1.out; omega⟩, ⟨by (with_reducible repeat first|apply rA|apply rN|apply rD); exact Kd.R_mono (Kd.R_far (p := ⟨gb185, 1, none⟩) (Kd.R_types HO189.out BK185.out (by decide)) (fun _ hk => hk.2) (.slice Ao28 y187.length co28)) (fun _ hk => trivial)⟩, ⟨kF BK178 NB178_185⟩, ⟨kF BK179 NB179_185⟩, ⟨by (with_reducible repeat first|apply kN|apply kD|apply kA); refine blk_put (cs := #[.int .i64 t181, u186001]) ?_ 1 _ rfl; (with_reducible repeat first|apply kN|apply kD|apply kA); exact BK185.out⟩, ⟨bX HB⟩⟩
 )
 )

/-! ### impl_Link_55: function 55 -/
section
open Go.Shelf Go.Lib
instance : Inhabited S47 := ⟨z47⟩
def encLink (x : S47) : List Value := [.int .i64 x.f0, .int .i64 x.f1, .int .i64 x.f2.f0, .int .i64 x.f2.f1]
set_option maxHeartbeats 2000000 in
theorem idxLink_calls (p : S47 → Bool) (g : Nat) (lb : Array Value) (eg : ∀ args w, (callFunc g args).run Try.prog w = .ok (.enter g args) w) (b off n c : Nat) (zs : List S47) (w : World)
    (hp : ∀ (W : World) (x : S47), x ∈ zs → Below w.heap.size w W → Calls Try.prog g (#[(.agg #[.int .i64 x.f0, .int .i64 x.f1, .int .i64 x.f2.f0, .int .i64 x.f2.f1])] ++ lb) W fun e w' => e = .returned (.bool (p x)) ∧ Below w.heap.size w w') (hz : n ≤ zs.length) (hbig : n ≤ 9223372036854775807) (hb : b < w.heap.size)
    (hc : ∀ j, j < zs.length → ∀ i v, (encLink zs[j]!)[i]? = some v → w.cell? ⟨b, off + j * 4 + i, none⟩ = some v) :
    Calls Try.prog 55 #[.slice (some ⟨b, off, none⟩) n c, .func (.func g) #[] lb] w fun e w' => e = .returned (.int .i64 (Lib.idxBy (fun _ y => p y) (zs.take n) default)) ∧ Below w.heap.size w w' := by
  have hrow : ∀ (W : World), Below w.heap.size w W → ∀ j, j < zs.length → W.cell? ⟨b, off + j * 4, none⟩ = some (.int .i64 zs[j]!.f0) ∧ W.cell? ⟨b, off + j * 4 + 1, none⟩ = some (.int .i64 zs[j]!.f1) ∧ W.cell? ⟨b, off + j * 4 + 2, none⟩ = some (.int .i64 zs[j]!.f2.f0) ∧ W.cell? ⟨b, off + j * 4 + 3, none⟩ = some (.int .i64 zs[j]!.f2.f1) := fun W hW j hj =>
   ⟨(hW.cell (p := ⟨b, off + j * 4, none⟩) hb).trans (hc j hj 0 _ rfl), (hW.cell (p := ⟨b, off + j * 4 + 1, none⟩) hb).trans (hc j hj 1 _ rfl), (hW.cell (p := ⟨b, off + j * 4 + 2, none⟩) hb).trans (hc j hj 2 _ rfl), (hW.cell (p := ⟨b, off + j * 4 + 3, none⟩) hb).trans (hc j hj 3 _ rfl)⟩
  clear hc
  go_enter Try.func55, Try.ntmps55
  go_wp2
  go_loopg [5, 8] n (fun gg _ s8 wr => ∃ kk : Nat, kk ≤ n ∧ n - kk ≤ gg ∧ s8 = .int .i64 kk ∧ Aside (Below w.heap.size w wr) ∧ Aside (∀ j, j < kk → p zs[j]! = false))
  case atStart => exact ⟨0, Nat.zero_le _, by omega, rfl, Below.refl _ w, fun j hj => absurd hj (Nat.not_lt_zero _)⟩
  case round =>
   obtain ⟨kk, hkk, hg, rfl, BW, A⟩ := hrel
   by_cases hlt : kk < n
   rotate_left
   · have hltz : ¬ (kk : Int) < (n : Int) := by omega
     have : kk = n := by omega
     subst this
     go_wp2
     go_ret
     refine ⟨?_, BW.out⟩
     rw [Lib.idxBy_miss (fun _ y => p y) zs kk default A.out]
     rfl
   have hltz : (kk : Int) < (n : Int) := by omega
   obtain ⟨l0, l1, l2, l3⟩ := hrow wr BW.out kk (by omega)
   have hcall := hp wr zs[kk]! (by rw [getElem!_pos zs kk (by omega)]; exact List.getElem_mem _) BW.out
   clear hrow hp
   generalize hy : zs[kk]! = y at l0 l1 l2 l3 hcall
   have B : Aside (zs[kk]! = y) := hy
   clear hy
   cases hq : p y with
   | true =>
    rw [hq] at hcall
    go_wp2_with (go_at_fn g; refine hcall.mono ?_; rintro e w' ⟨rfl, hb'⟩)
    go_ret
    refine ⟨?_, hb'⟩
    rw [Lib.idxBy_hit (fun _ y => p y) zs n kk default hlt hz (by show p zs[kk]! = true; rw [B.out]; exact hq) A.out]
    rfl
   | false =>
    rw [hq] at hcall
    go_wp2_with (go_at_fn g; refine hcall.mono ?_; rintro e w' ⟨rfl, hb'⟩)
    go_roundg (n - (kk + 1))
    case measure => omega
    case rel =>
     refine ⟨kk + 1, by omega, by omega, by go_num, hb', (show Aside _ from fun j hj => ?_)⟩
     by_cases e : j = kk
     rotate_left
     · exact A.out j (by omega)
     subst e
     rw [B.out]; exact hq
theorem idxLink_empty (a : Option Addr) (c : Nat) (fv : Value) (w : World) :
    Calls Try.prog 55 #[.slice a 0 c, fv] w fun e w' => e = .returned (.int .i64 (-1)) ∧ w' = w := by
  go_enter Try.func55, Try.ntmps55
  go_wp2
  go_loopg [5, 8] 0 (fun _ _ s8 wr => s8 = .int .i64 0 ∧ wr = w)
  case atStart => exact ⟨rfl, rfl⟩
  case round =>
   obtain ⟨rfl, rfl⟩ := hrel
   go_wp2
   go_ret
   exact ⟨rfl, rfl⟩
theorem addrLink_of {W : World} {a : Addr} {v : Value} (h : W.cell? a = some v) : ∃ b o, a = ⟨b, o, none⟩ ∧ b < W.heap.size := by
  obtain ⟨b, o, s⟩ := a
  have hlt := World.block_lt_of_cell? W _ h
  cases s with
  | none => exact ⟨b, o, rfl, hlt⟩
  | some s =>
   unfold World.cell? at h
   split at h
   · simp at h
   · simp at h
theorem idxLink_at (p : S47 → Bool) (g : Nat) (lb : Array Value) (eg : ∀ args w, (callFunc g args).run Try.prog w = .ok (.enter g args) w) (A : Option Addr) (c : Nat) (l : List S47) (w : World)
    (hp : ∀ (W : World) (x : S47), x ∈ l → Below w.heap.size w W → Calls Try.prog g (#[(.agg #[.int .i64 x.f0, .int .i64 x.f1, .int .i64 x.f2.f0, .int .i64 x.f2.f1])] ++ lb) W fun e w' => e = .returned (.bool (p x)) ∧ Below w.heap.size w w') (hr : Kd.C k47 w A l.length l) :
    Calls Try.prog 55 #[.slice A l.length c, .func (.func g) #[] lb] w fun e w' => e = .returned (.int .i64 (Lib.idxBy (fun _ y => p y) l default)) ∧ Below w.heap.size w w' := by
  cases l with
  | nil => exact (idxLink_empty A c _ w).mono fun e w' ⟨he, hw⟩ => by subst hw; exact ⟨he, Below.refl _ _⟩
  | cons x l' =>
   have hrow : ∀ j, j < (x :: l').length → ∃ ad, A = some ad ∧ ∀ i v, (encLink (x :: l')[j]!)[i]? = some v → w.cell? (ad.add (j * 4 + i)) = some v := by
    intro j hj
    obtain ⟨ad, cs, e, _, hK, hc0⟩ := Kd.C_get hr z47 j (by omega) (by omega)
    have hcs : cs = encLink ((x :: l').getD j z47) := k47_open (by simpa using hK)
    refine ⟨ad, e, fun i v hi => ?_⟩
    have e1 : (x :: l')[j]! = (x :: l').getD j z47 := by rw [List.getD_eq_getElem?_getD, List.getElem!_eq_getElem?_getD]; rfl
    have := hc0 i v (by rw [hcs, ← e1]; exact hi)
    simpa [k47, k45, Kd.iso, Kd.pair, Kd.int, Kd.scalar] using this
   obtain ⟨ad, rfl, h0⟩ := hrow 0 (by simp)
   obtain ⟨b, o, rfl, hb⟩ := addrLink_of (h0 0 _ rfl)
   have hcon := idxLink_calls p g lb eg b o (x :: l').length c (x :: l') w
     hp (Nat.le_refl _) (Kd.C_max hr) hb (fun j hj i v hi => by
       obtain ⟨ad', e, h⟩ := hrow j hj
       obtain rfl := Option.some.inj e
       have := h i v hi
       rw [Addr.add_lit] at this
       rw [← this, Nat.add_assoc])
   rw [List.take_length] at hcon
   exact hcon
end

/-! ### impl_Link_44: function 44 -/
section
open Go.Shelf Go.Lib
theorem anyLink_at (p : S47 → Bool) (g : Nat) (lb : Array Value) (eg : ∀ args w, (callFunc g args).run Try.prog w = .ok (.enter g args) w) (A : Option Addr) (c : Nat) (l : List S47) (w : World)
    (hp : ∀ (W : World) (x : S47), x ∈ l → Below w.heap.size w W → Calls Try.prog g (#[(.agg #[.int .i64 x.f0, .int .i64 x.f1, .int .i64 x.f2.f0, .int .i64 x.f2.f1])] ++ lb) W fun e w' => e = .returned (.bool (p x)) ∧ Below w.heap.size w w') (hr : Kd.C k47 w A l.length l) :
    Calls Try.prog 44 #[.slice A l.length c, .func (.func g) #[] lb] w fun e w' => e = .returned (.bool (l.any p)) ∧ Below w.heap.size w w' := by
  rw [show l.any p = decide (0 ≤ Lib.idxBy (fun _ y => p y) l default) from (Lib.idxBy_nonneg_iff (fun _ y => p y) l default).symm]
  have hcon := idxLink_at p g lb eg A c l w hp hr
  generalize Lib.idxBy (fun _ y => p y) l default = r at hcon ⊢
  go_enter Try.func44, Try.ntmps44
  go_wp2_with (go_at_call 55; refine hcon.mono ?_; rintro e w' ⟨rfl, hb'⟩)
  go_ret
  exact ⟨by simp, hb'⟩
end

/-! ### impl_isNode: function 46 -/
def impl_isNode.f (a0 : Int) (a1 : Int) : Option (Bool) := if a1 ≥ 0 then (some (decide (a1 < a0))) else (some false)
set_option maxHeartbeats 8000000 in
set_option maxRecDepth 100000 in
theorem impl_isNode.calls (a0 : Int) (a1 : Int) (r : Bool) (w : World) (h : impl_isNode.f a0 a1 = some r) :
    Calls Try.prog 46 #[.int .i64 a0, .int .i64 a1] w fun e w' => e = .returned (.bool r) ∧ Drawn0 w w' := by
  have H : (if a1 ≥ 0 then (some (decide (a1 < a0))) else (some false)) = some r := h
  clear h
  by_cases c3 : a1 ≥ 0
  · rw [if_pos c3] at H
    have c3b0 : decide (0 ≤ a1) = true := decide_eq_true c3
    clear c3
    obtain rfl := Option.some.inj H
    go_enter Try.func46, Try.ntmps46
    go_wp2
    go_ret
    exact ⟨by first | rfl | (simp; done) | (simp [*]; done), by repeat (first | exact Drawn0.refl _ | apply Drawn0.step)⟩
  rw [if_neg c3] at H
  have c3b0 : decide (0 ≤ a1) = false := decide_eq_false c3
  clear c3
  obtain rfl := Option.some.inj H
  go_enter Try.func46, Try.ntmps46
  go_wp2
  go_ret
  exact ⟨by first | rfl | (simp; done) | (simp [*]; done), by repeat (first | exact Drawn0.refl _ | apply Drawn0.step)⟩

/-! ### impl_IntervalOk: function 47 -/
def impl_IntervalOk.f (a0_0 : Int) (a0_1 : Int) : Option (Bool) := if a0_0 ≥ (-1000000) then (if a0_0 ≤ a0_1 then (if a0_1 ≤ 1000000 then (if a0_0 = 1000000 then (some false) else (some (a0_1 != (-1000000)))) else (some false)) else (some false)) else (some false)
set_option maxHeartbeats 8000000 in
set_option maxRecDepth 100000 in
theorem impl_IntervalOk.calls (a0_0 : Int) (a0_1 : Int) (r : Bool) (w : World) (h : impl_IntervalOk.f a0_0 a0_1 = some r) :
    Calls Try.prog 47 #[.agg #[.int .i64 a0_0, .int .i64 a0_1]] w fun e w' => e = .returned (.bool r) ∧ Below w.heap.size w w' := by
  have hu45 := Try.underlying45
  have HB := mK (Below.refl w.heap.size w)
  have H : (if a0_0 ≥ (-1000000) then (if a0_0 ≤ a0_1 then (if a0_1 ≤ 1000000 then (if a0_0 = 1000000 then (some false) else (some (a0_1 != (-1000000)))) else (some false)) else (some false)) else (some false)) = some r := h
  clear h
  by_cases c2 : a0_0 ≥ (-1000000)
  rotate_left
  · rw [if_neg c2] at H
    have c2b0 : decide ((-1000000) ≤ a0_0) = false := decide_eq_false c2
    clear c2
    obtain rfl := Option.some.inj H
    go_enter Try.func47, Try.ntmps47
    go_wp2_with (first | ((with_reducible refine gate_dst (N := 1) rfl ?_); refine bxE 1 #[.int .i64 a0_0, .int .i64 a0_1] 45 ?_; intro gb191 hg w14 hbox hb; have BK191 := mK hbox; have GW191 := mK (gX hg HB); have GE191 := mK (gX hg HB); replace HB := bB HB hb; clear hb hbox hg; have hcz15_0 := q0 BK191; have hcz15_1 := q1 BK191; have hfz15_0 := fX BK191 0; have hfz15_1 := fX BK191 1))
    go_ret
    exact ⟨by first | rfl | (simp [errW_none, errW_some] <;> rfl) | (simp [*, errW_none, errW_some] <;> rfl), bX HB⟩
  rw [if_pos c2] at H
  have c2b0 : decide ((-1000000) ≤ a0_0) = true := decide_eq_true c2
  clear c2
  by_cases c3 : a0_0 ≤ a0_1
  rotate_left
  · rw [if_neg c3] at H
    have c3b0 : decide (a0_0 ≤ a0_1) = false := decide_eq_false c3
    clear c3
    obtain rfl := Option.some.inj H
    go_enter Try.func47, Try.ntmps47
    go_wp2_with (first | ((with_reducible refine gate_dst (N := 1) rfl ?_); refine bxE 1 #[.int .i64 a0_0, .int .i64 a0_1] 45 ?_; intro gb191 hg w12 hbox hb; have BK191 := mK hbox; have GW191 := mK (gX hg HB); have GE191 := mK (gX hg HB); replace HB := bB HB hb; clear hb hbox hg; have hcz13_0 := q0 BK191; have hcz13_1 := q1 BK191; have hfz13_0 := fX BK191 0; have hfz13_1 := fX BK191 1))
    go_ret
    exact ⟨by first | rfl | (simp [errW_none, errW_some] <;> rfl) | (simp [*, errW_none, errW_some] <;> rfl), bX HB⟩
  rw [if_pos c3] at H
  have c3b0 : decide (a0_0 ≤ a0_1) = true := decide_eq_true c3
  clear c3
  by_cases c4 : a0_1 ≤ 1000000
  rotate_left
  · rw [if_neg c4] at H
    have c4b0 : decide (a0_1 ≤ 1000000) = false := decide_eq_false c4
    clear c4
    obtain rfl := Option.some.inj H
    go_enter Try.func47, Try.ntmps47
    go_wp2_with (first | ((with_reducible refine gate_dst (N := 1) rfl ?_); refine bxE 1 #[.int .i64 a0_0, .int .i64 a0_1] 45 ?_; intro gb191 hg w10 hbox hb; have BK191 := mK hbox; have GW191 := mK (gX hg HB); have GE191 := mK (gX hg HB); replace HB := bB HB hb; clear hb hbox hg; have hcz11_0 := q0 BK191; have hcz11_1 := q1 BK191; have hfz11_0 := fX BK191 0; have hfz11_1 := fX BK191 1))
    go_ret
    exact ⟨by first | rfl | (simp [errW_none, errW_some] <;> rfl) | (simp [*, errW_none, errW_some] <;> rfl), bX HB⟩
  rw [if_pos c4] at H
  have c4b0 : decide (a0_1 ≤ 1000000) = true := decide_eq_true c4
  clear c4
  by_cases c5 : a0_0 = 1000000
  rotate_left
  · rw [if_neg c5] at H
    have c5b0 : (a0_0 == 1000000) = false := beq_eq_false_iff_ne.mpr c5
    have c5b1 : (a0_0 != 1000000) = true := bne_iff_ne.mpr c5
    obtain rfl := Option.some.inj H
    go_enter Try.func47, Try.ntmps47
    go_wp2_with (first | ((with_reducible refine gate_dst (N := 1) rfl ?_); refine bxE 1 #[.int .i64 a0_0, .int .i64 a0_1] 45 ?_; intro gb191 hg w8 hbox hb; have BK191 := mK hbox; have GW191 := mK (gX hg HB); have GE191 := mK (gX hg HB); replace HB := bB HB hb; clear hb hbox hg; have hcz9_0 := q0 BK191; have hcz9_1 := q1 BK191; have hfz9_0 := fX BK191 0; have hfz9_1 := fX BK191 1))
    go_ret
    exact ⟨by first | rfl | (simp [errW_none, errW_some] <;> rfl) | (simp [*, errW_none, errW_some] <;> rfl), bX HB⟩
  rw [if_pos c5] at H
  have c5b0 : (a0_0 == 1000000) = true := beq_iff_eq.mpr c5
  have c5b1 : (a0_0 != 1000000) = false := bne_eq_false_iff_eq.mpr c5
  clear c5
  obtain rfl := Option.some.inj H
  go_enter Try.func47, Try.ntmps47
  go_wp2_with (first | ((with_reducible refine gate_dst (N := 1) rfl ?_); refine bxE 1 #[.int .i64 a0_0, .int .i64 a0_1] 45 ?_; intro gb191 hg w6 hbox hb; have BK191 := mK hbox; have GW191 := mK (gX hg HB); have GE191 := mK (gX hg HB); replace HB := bB HB hb; clear hb hbox hg; have hcz7_0 := q0 BK191; have hcz7_1 := q1 BK191; have hfz7_0 := fX BK191 0; have hfz7_1 := fX BK191 1))
  go_ret
  exact ⟨by first | rfl | (simp [errW_none, errW_some] <;> rfl) | (simp [*, errW_none, errW_some] <;> rfl), bX HB⟩

/-! ### impl_SimpleOk: function 14 -/
section
open Go.Shelf Go.Lib
def sNodeB (n x : Int) : Bool := decide (0 ≤ x ∧ x < n)
theorem sNodeB_calls (n x : Int) (w : World) : Calls Try.prog 46 #[.int .i64 n, .int .i64 x] w fun e w' => e = .returned (.bool (sNodeB n x)) ∧ w = w' := by
  by_cases h1 : 0 ≤ x
  rotate_left
  · rw [show sNodeB n x = false from decide_eq_false (fun h => h1 h.1)]
    go_enter Try.func46, Try.ntmps46
    go_wp2
    go_ret
    exact ⟨by simp, rfl⟩
  by_cases h2 : x < n
  · rw [show sNodeB n x = true from decide_eq_true ⟨h1, h2⟩]
    go_enter Try.func46, Try.ntmps46
    go_wp2
    go_ret
    exact ⟨by simp, rfl⟩
  rw [show sNodeB n x = false from decide_eq_false (fun h => h2 h.2)]
  go_enter Try.func46, Try.ntmps46
  go_wp2
  go_ret
  exact ⟨by simp, rfl⟩
def qokB (a b : Int) : Bool := decide (-1000000 ≤ a ∧ a ≤ b ∧ b ≤ 1000000 ∧ a ≠ 1000000 ∧ b ≠ -1000000)
theorem qokB_f (a b : Int) : impl_IntervalOk.f a b = some (qokB a b) := by
  unfold impl_IntervalOk.f qokB
  repeat' split
  all_goals (congr 1; first | (symm; rw [decide_eq_false_iff_not]; omega) | (rw [Bool.eq_iff_iff]; simp only [bne_iff_ne, ne_eq, decide_eq_true_eq]; omega))
def badLink (n : Int) (e : S47) : Bool := !sNodeB n e.f0 || (!sNodeB n e.f1 || !qokB e.f2.f0 e.f2.f1)
theorem badLink_calls (n : Int) (B : Nat) (x : S47) (W : World) (hBW : B < W.heap.size) (hc : W.cell? ⟨B, 0, none⟩ = some (.int .i64 n)) :
    Calls Try.prog 45 #[.agg #[.int .i64 x.f0, .int .i64 x.f1, .int .i64 x.f2.f0, .int .i64 x.f2.f1], .pointer (some ⟨B, 0, none⟩)] W fun e w' => e = .returned (.bool (badLink n x)) ∧ Below W.heap.size W w' := by
  have hne : B ≠ W.heap.size := by omega
  obtain ⟨a, b, c, d⟩ := x
  show Calls Try.prog 45 #[.agg #[.int .i64 a, .int .i64 b, .int .i64 c, .int .i64 d], .pointer (some ⟨B, 0, none⟩)] W _
  obtain ⟨r1, h1⟩ : ∃ r, sNodeB n a = r := ⟨_, rfl⟩
  obtain ⟨r2, h2⟩ : ∃ r, sNodeB n b = r := ⟨_, rfl⟩
  obtain ⟨r3, h3⟩ : ∃ r, qokB c d = r := ⟨_, rfl⟩
  have k1 := sNodeB_calls n a
  have k2 := sNodeB_calls n b
  have k3 := fun w => impl_IntervalOk.calls c d r3 w (by rw [qokB_f, h3])
  rw [show badLink n ⟨a, b, c, d⟩ = (!r1 || (!r2 || !r3)) by simp [badLink, h1, h2, h3]]
  rw [h1] at k1
  rw [h2] at k2
  clear h1 h2 h3
  cases r1 <;> cases r2 <;> cases r3
  all_goals
    go_enter Try.func45, Try.ntmps45
    first
    | (go_wp2_with (first | (go_at_call 46; (with_reducible refine (k1 _).mono ?_); rintro e w' ⟨rfl, rfl⟩) | (go_at_call 46; (with_reducible refine (k2 _).mono ?_); rintro e w' ⟨rfl, rfl⟩))
       go_ret
       exact ⟨by simp, (Below.refl _ W).alloc (Nat.le_refl _) _⟩)
    | (go_wp2_with (first | (go_at_call 46; (with_reducible refine (k1 _).mono ?_); rintro e w' ⟨rfl, rfl⟩) | (go_at_call 46; (with_reducible refine (k2 _).mono ?_); rintro e w' ⟨rfl, rfl⟩) | (go_at_call 47; (with_reducible refine (k3 _).mono ?_); rintro e w' ⟨rfl, hb'⟩))
       go_ret
       exact ⟨by simp, ((Below.refl _ W).alloc (Nat.le_refl _) _).trans (hb'.mono (by simp))⟩)
def impl_SimpleOk.f (a0_0 : Int) (l0_1 : List (S47)) : Option (Bool) := some (if a0_0 < 1 then false else if a0_0 > 8 then false else if (l0_1.length : Int) > 40 then false else !(l0_1.any (badLink a0_0)))
theorem impl_SimpleOk.calls (a0_0 : Int) (A0_1 : Option Addr) (c0_1 : Nat) (l0_1 : List (S47)) (r : Bool) (w : World) (hr0_1 : Kd.C k47 w A0_1 l0_1.length l0_1) (hc0_1 : l0_1.length ≤ c0_1) (h : impl_SimpleOk.f a0_0 l0_1 = some r) :
    Calls Try.prog 14 #[.agg #[.int .i64 a0_0, .slice A0_1 l0_1.length c0_1]] w fun e w' => e = .returned (.bool r) ∧ Below w.heap.size w w' := by
  obtain rfl := Option.some.inj h
  clear h
  by_cases h0 : a0_0 < 1
  · rw [if_pos h0]
    have h0 : decide (a0_0 < 1) = true := decide_eq_true h0
    go_enter Try.func14, Try.ntmps14
    go_wp2
    go_ret
    exact ⟨by simp, (Below.refl _ w).alloc (Nat.le_refl _) _⟩
  rw [if_neg h0]
  replace h0 : decide (a0_0 < 1) = false := decide_eq_false h0
  by_cases h1 : a0_0 > 8
  · rw [if_pos h1]
    have h1 : decide (8 < a0_0) = true := decide_eq_true h1
    go_enter Try.func14, Try.ntmps14
    go_wp2
    go_ret
    exact ⟨by simp, (Below.refl _ w).alloc (Nat.le_refl _) _⟩
  rw [if_neg h1]
  replace h1 : decide (8 < a0_0) = false := decide_eq_false h1
  by_cases h2 : (l0_1.length : Int) > 40
  · rw [if_pos h2]
    have h2 : decide (40 < (l0_1.length : Int)) = true := decide_eq_true h2
    go_enter Try.func14, Try.ntmps14
    go_wp2
    go_ret
    exact ⟨by simp, (Below.refl _ w).alloc (Nat.le_refl _) _⟩
  rw [if_neg h2]
  replace h2 : decide (40 < (l0_1.length : Int)) = false := decide_eq_false h2
  have eg : ∀ args w, (callFunc 45 args).run Try.prog w = .ok (.enter 45 args) w := enters_of Try.func45 (by kernel_rfl) rfl
  have hcon := anyLink_at (badLink a0_0) 45 #[.pointer (some ⟨w.heap.size, 0, none⟩)] eg A0_1 c0_1 l0_1 (w.alloc (.cells #[.int .i64 a0_0, .slice A0_1 l0_1.length c0_1] 29))
    (fun W x _ hb => (badLink_calls a0_0 w.heap.size x W (Nat.lt_of_lt_of_le (by simp) hb.size) ((hb.cell (p := ⟨w.heap.size, 0, none⟩) (by simp)).trans (by simp))).mono fun e w' ⟨he, h⟩ => ⟨he, hb.trans (h.mono hb.size)⟩) (Kd.C_alloc hr0_1 _)
  generalize l0_1.any (badLink a0_0) = r at hcon ⊢
  go_enter Try.func14, Try.ntmps14
  go_wp2_with (go_at_call 44; refine hcon.mono ?_; rintro e w' ⟨rfl, hb'⟩)
  go_ret
  exact ⟨by simp, ((Below.refl _ w).alloc (Nat.le_refl _) _).trans (hb'.mono (by simp))⟩
end

/-! ### slices_IndexFunc_int_int: function 71 -/
section
open Go.Shelf Go.Lib
def encInt (x : Int) : List Value := [.int .i64 x]
set_option maxHeartbeats 2000000 in
theorem idxInt_calls (p : Int → Bool) (g : Nat) (lb : Array Value) (eg : ∀ args w, (callFunc g args).run Try.prog w = .ok (.enter g args) w) (b off n c : Nat) (zs : List Int) (w : World)
    (hp : ∀ (W : World) (x : Int), x ∈ zs → Below w.heap.size w W → Calls Try.prog g (#[(.int .i64 x)] ++ lb) W fun e w' => e = .returned (.bool (p x)) ∧ Below w.heap.size w w') (hz : n ≤ zs.length) (hbig : n ≤ 9223372036854775807) (hb : b < w.heap.size)
    (hc : ∀ j, j < zs.length → ∀ i v, (encInt zs[j]!)[i]? = some v → w.cell? ⟨b, off + j * 1 + i, none⟩ = some v) :
    Calls Try.prog 71 #[.slice (some ⟨b, off, none⟩) n c, .func (.func g) #[] lb] w fun e w' => e = .returned (.int .i64 (Lib.idxBy (fun _ y => p y) (zs.take n) (0 : Int))) ∧ Below w.heap.size w w' := by
  have hrow : ∀ (W : World), Below w.heap.size w W → ∀ j, j < zs.length → W.cell? ⟨b, off + j, none⟩ = some (.int .i64 zs[j]!) := fun W hW j hj =>
   (hW.cell (p := ⟨b, off + j, none⟩) hb).trans (by simpa using hc j hj 0 _ rfl)
  clear hc
  go_enter Try.func71, Try.ntmps71
  go_wp2
  go_loopg [5, 8] n (fun gg _ s8 wr => ∃ kk : Nat, kk ≤ n ∧ n - kk ≤ gg ∧ s8 = .int .i64 kk ∧ Aside (Below w.heap.size w wr) ∧ Aside (∀ j, j < kk → p zs[j]! = false))
  case atStart => exact ⟨0, Nat.zero_le _, by omega, rfl, Below.refl _ w, fun j hj => absurd hj (Nat.not_lt_zero _)⟩
  case round =>
   obtain ⟨kk, hkk, hg, rfl, BW, A⟩ := hrel
   by_cases hlt : kk < n
   rotate_left
   · have hltz : ¬ (kk : Int) < (n : Int) := by omega
     have : kk = n := by omega
     subst this
     go_wp2
     go_ret
     refine ⟨?_, BW.out⟩
     rw [Lib.idxBy_miss (fun _ y => p y) zs kk (0 : Int) A.out]
     rfl
   have hltz : (kk : Int) < (n : Int) := by omega
   have l0 := hrow wr BW.out kk (by omega)
   have hcall := hp wr zs[kk]! (by rw [getElem!_pos zs kk (by omega)]; exact List.getElem_mem _) BW.out
   clear hrow hp
   generalize hy : zs[kk]! = y at l0 hcall
   have B : Aside (zs[kk]! = y) := hy
   clear hy
   cases hq : p y with
   | true =>
    rw [hq] at hcall
    go_wp2_with (go_at_fn g; refine hcall.mono ?_; rintro e w' ⟨rfl, hb'⟩)
    go_ret
    refine ⟨?_, hb'⟩
    rw [Lib.idxBy_hit (fun _ y => p y) zs n kk (0 : Int) hlt hz (by show p zs[kk]! = true; rw [B.out]; exact hq) A.out]
    rfl
   | false =>
    rw [hq] at hcall
    go_wp2_with (go_at_fn g; refine hcall.mono ?_; rintro e w' ⟨rfl, hb'⟩)
    go_roundg (n - (kk + 1))
    case measure => omega
    case rel =>
     refine ⟨kk + 1, by omega, by omega, by go_num, hb', (show Aside _ from fun j hj => ?_)⟩
     by_cases e : j = kk
     rotate_left
     · exact A.out j (by omega)
     subst e
     rw [B.out]; exact hq
theorem idxInt_empty (a : Option Addr) (c : Nat) (fv : Value) (w : World) :
    Calls Try.prog 71 #[.slice a 0 c, fv] w fun e w' => e = .returned (.int .i64 (-1)) ∧ w' = w := by
  go_enter Try.func71, Try.ntmps71
  go_wp2
  go_loopg [5, 8] 0 (fun _ _ s8 wr => s8 = .int .i64 0 ∧ wr = w)
  case atStart => exact ⟨rfl, rfl⟩
  case round =>
   obtain ⟨rfl, rfl⟩ := hrel
   go_wp2
   go_ret
   exact ⟨rfl, rfl⟩
theorem addrInt_of {W : World} {a : Addr} {v : Value} (h : W.cell? a = some v) : ∃ b o, a = ⟨b, o, none⟩ ∧ b < W.heap.size := by
  obtain ⟨b, o, s⟩ := a
  have hlt := World.block_lt_of_cell? W _ h
  cases s with
  | none => exact ⟨b, o, rfl, hlt⟩
  | some s =>
   unfold World.cell? at h
   split at h
   · simp at h
   · simp at h
theorem idxInt_at (p : Int → Bool) (g : Nat) (lb : Array Value) (eg : ∀ args w, (callFunc g args).run Try.prog w = .ok (.enter g args) w) (A : Option Addr) (c : Nat) (l : List Int) (w : World)
    (hp : ∀ (W : World) (x : Int), x ∈ l → Below w.heap.size w W → Calls Try.prog g (#[(.int .i64 x)] ++ lb) W fun e w' => e = .returned (.bool (p x)) ∧ Below w.heap.size w w') (hr : Kd.C (Kd.int .i64) w A l.length l) :
    Calls Try.prog 71 #[.slice A l.length c, .func (.func g) #[] lb] w fun e w' => e = .returned (.int .i64 (Lib.idxBy (fun _ y => p y) l (0 : Int))) ∧ Below w.heap.size w w' := by
  cases l with
  | nil => exact (idxInt_empty A c _ w).mono fun e w' ⟨he, hw⟩ => by subst hw; exact ⟨he, Below.refl _ _⟩
  | cons x l' =>
   have hrow : ∀ j, j < (x :: l').length → ∃ ad, A = some ad ∧ ∀ i v, (encInt (x :: l')[j]!)[i]? = some v → w.cell? (ad.add (j * 1 + i)) = some v := by
    intro j hj
    obtain ⟨ad, cs, e, _, hK, hc0⟩ := Kd.C_get hr (0 : Int) j (by omega) (by omega)
    have hcs : cs = encInt ((x :: l').getD j (0 : Int)) := by simpa [Kd.int, Kd.scalar, encInt] using hK
    refine ⟨ad, e, fun i v hi => ?_⟩
    have e1 : (x :: l')[j]! = (x :: l').getD j (0 : Int) := by rw [List.getD_eq_getElem?_getD, List.getElem!_eq_getElem?_getD]; rfl
    have := hc0 i v (by rw [hcs, ← e1]; exact hi)
    simpa [Kd.int, Kd.scalar] using this
   obtain ⟨ad, rfl, h0⟩ := hrow 0 (by simp)
   obtain ⟨b, o, rfl, hb⟩ := addrInt_of (h0 0 _ rfl)
   have hcon := idxInt_calls p g lb eg b o (x :: l').length c (x :: l') w
     hp (Nat.le_refl _) (Kd.C_max hr) hb (fun j hj i v hi => by
       obtain ⟨ad', e, h⟩ := hrow j hj
       obtain rfl := Option.some.inj e
       have := h i v hi
       rw [Addr.add_lit] at this
       rw [← this, Nat.add_assoc])
   rw [List.take_length] at hcon
   exact hcon
end

/-! ### slices_ContainsFunc_int_int: function 49 -/
section
open Go.Shelf Go.Lib
theorem anyInt_at (p : Int → Bool) (g : Nat) (lb : Array Value) (eg : ∀ args w, (callFunc g args).run Try.prog w = .ok (.enter g args) w) (A : Option Addr) (c : Nat) (l : List Int) (w : World)
    (hp : ∀ (W : World) (x : Int), x ∈ l → Below w.heap.size w W → Calls Try.prog g (#[(.int .i64 x)] ++ lb) W fun e w' => e = .returned (.bool (p x)) ∧ Below w.heap.size w w') (hr : Kd.C (Kd.int .i64) w A l.length l) :
    Calls Try.prog 49 #[.slice A l.length c, .func (.func g) #[] lb] w fun e w' => e = .returned (.bool (l.any p)) ∧ Below w.heap.size w w' := by
  rw [show l.any p = decide (0 ≤ Lib.idxBy (fun _ y => p y) l (0 : Int)) from (Lib.idxBy_nonneg_iff (fun _ y => p y) l (0 : Int)).symm]
  have hcon := idxInt_at p g lb eg A c l w hp hr
  generalize Lib.idxBy (fun _ y => p y) l (0 : Int) = r at hcon ⊢
  go_enter Try.func49, Try.ntmps49
  go_wp2_with (go_at_call 71; refine hcon.mono ?_; rintro e w' ⟨rfl, hb'⟩)
  go_ret
  exact ⟨by simp, hb'⟩
end

/-! ### impl_isTime: function 51 -/
def impl_isTime.f (a0 : Int) : Option (Bool) := if a0 ≥ 0 then (some (decide (a0 < 1000000))) else (some false)
set_option maxHeartbeats 8000000 in
set_option maxRecDepth 100000 in
theorem impl_isTime.calls (a0 : Int) (r : Bool) (w : World) (h : impl_isTime.f a0 = some r) :
    Calls Try.prog 51 #[.int .i64 a0] w fun e w' => e = .returned (.bool r) ∧ Drawn0 w w' := by
  have H : (if a0 ≥ 0 then (some (decide (a0 < 1000000))) else (some false)) = some r := h
  clear h
  by_cases c2 : a0 ≥ 0
  · rw [if_pos c2] at H
    have c2b0 : decide (0 ≤ a0) = true := decide_eq_true c2
    clear c2
    obtain rfl := Option.some.inj H
    go_enter Try.func51, Try.ntmps51
    go_wp2
    go_ret
    exact ⟨by first | rfl | (simp; done) | (simp [*]; done), by repeat (first | exact Drawn0.refl _ | apply Drawn0.step)⟩
  rw [if_neg c2] at H
  have c2b0 : decide (0 ≤ a0) = false := decide_eq_false c2
  clear c2
  obtain rfl := Option.some.inj H
  go_enter Try.func51, Try.ntmps51
  go_wp2
  go_ret
  exact ⟨by first | rfl | (simp; done) | (simp [*]; done), by repeat (first | exact Drawn0.refl _ | apply Drawn0.step)⟩

/-! ### impl_PartialOk: function 18 -/
section
open Go.Shelf Go.Lib
def isTimeB (x : Int) : Bool := decide (0 ≤ x ∧ x < 1000000)
theorem isTimeB_calls (x : Int) (w : World) : Calls Try.prog 51 #[.int .i64 x] w fun e w' => e = .returned (.bool (isTimeB x)) ∧ w = w' := by
  by_cases h1 : 0 ≤ x
  rotate_left
  · rw [show isTimeB x = false from decide_eq_false (fun h => h1 h.1)]
    go_enter Try.func51, Try.ntmps51
    go_wp2
    go_ret
    exact ⟨by simp, rfl⟩
  by_cases h2 : x < 1000000
  · rw [show isTimeB x = true from decide_eq_true ⟨h1, h2⟩]
    go_enter Try.func51, Try.ntmps51
    go_wp2
    go_ret
    exact ⟨by simp, rfl⟩
  rw [show isTimeB x = false from decide_eq_false (fun h => h2 h.2)]
  go_enter Try.func51, Try.ntmps51
  go_wp2
  go_ret
  exact ⟨by simp, rfl⟩
theorem first_cell {A : Option Addr} {x : Int} {l : List Int} {w : World} (hr : Kd.C (Kd.int .i64) w A (x :: l).length (x :: l)) : ∃ b o, A = some ⟨b, o, none⟩ ∧ b < w.heap.size ∧ w.cell? ⟨b, o, none⟩ = some (.int .i64 x) := by
  obtain ⟨ad, cs, e, _, hK, hc0⟩ := Kd.C_get hr (0 : Int) 0 (by omega) (by simp)
  have hcs : cs = [.int .i64 x] := by simpa [Kd.int, Kd.scalar] using hK
  have h := hc0 0 _ (by rw [hcs]; rfl)
  rw [show ad.add (Int.toNat 0 * (Kd.int .i64).sz + 0) = ad by simp [Addr.add]] at h
  obtain ⟨b, o, rfl, hb⟩ := addrInt_of h
  exact ⟨b, o, e, hb, h⟩
def partB (x : Int) : Bool := x != -1 && !isTimeB x
theorem partB_calls (x : Int) (W : World) : Calls Try.prog 50 #[.int .i64 x] W fun e w' => e = .returned (.bool (partB x)) ∧ W = w' := by
  have k1 := isTimeB_calls x
  obtain ⟨r1, h1⟩ : ∃ r, isTimeB x = r := ⟨_, rfl⟩
  rw [show partB x = (x != -1 && !r1) by simp [partB, h1]]
  rw [h1] at k1
  by_cases c : x = -1
  · have c0 : (x == -1) = true := beq_iff_eq.mpr c
    have c1 : (x != -1) = false := by rw [bne, c0]; rfl
    rw [c1]
    go_enter Try.func50, Try.ntmps50
    go_wp2_with (go_at_call 51; (with_reducible refine (k1 _).mono ?_); rintro e w' ⟨rfl, rfl⟩)
    go_ret
    exact ⟨by simp, rfl⟩
  have c0 : (x == -1) = false := beq_eq_false_iff_ne.mpr c
  have c1 : (x != -1) = true := bne_iff_ne.mpr c
  rw [c1]
  cases r1
  all_goals
    go_enter Try.func50, Try.ntmps50
    go_wp2_with (go_at_call 51; (with_reducible refine (k1 _).mono ?_); rintro e w' ⟨rfl, rfl⟩)
    go_ret
    exact ⟨by simp, rfl⟩
theorem anyPart (A : Option Addr) (c : Nat) (l : List Int) (w : World) (hr : Kd.C (Kd.int .i64) w A l.length l) :
    Calls Try.prog 49 #[.slice A l.length c, .func (.func 50) #[] #[]] w fun e w' => e = .returned (.bool (l.any partB)) ∧ Below w.heap.size w w' := by
  have eg : ∀ args w, (callFunc 50 args).run Try.prog w = .ok (.enter 50 args) w := enters_of Try.func50 (by kernel_rfl) rfl
  exact anyInt_at partB 50 #[] eg A c l w (fun W x _ hb => (partB_calls x W).mono fun e w' ⟨he, h⟩ => ⟨he, by rw [← h]; exact hb⟩) hr
def impl_PartialOk.f (a0_0 : Int) (l0_1 : List (S47)) (l1 : List Int) : Option (Bool) := (impl_SimpleOk.f a0_0 l0_1).bind fun t => if t = true then (if (l1.length : Int) = a0_0 then (if 0 < l1.length then (if rd l1 0 = 0 then some (!(l1.any partB)) else some false) else none) else some false) else some false
theorem impl_PartialOk.calls (a0_0 : Int) (A0_1 : Option Addr) (c0_1 : Nat) (l0_1 : List (S47)) (A1 : Option Addr) (c1 : Nat) (l1 : List Int) (r : Bool) (w : World) (hr0_1 : Kd.C k47 w A0_1 l0_1.length l0_1) (hc0_1 : l0_1.length ≤ c0_1) (hr1 : Kd.C (Kd.int .i64) w A1 l1.length l1) (hc1 : l1.length ≤ c1) (h : impl_PartialOk.f a0_0 l0_1 l1 = some r) :
    Calls Try.prog 18 #[.agg #[.int .i64 a0_0, .slice A0_1 l0_1.length c0_1], .slice A1 l1.length c1] w fun e w' => e = .returned (.bool r) ∧ Below w.heap.size w w' := by
  obtain ⟨t, ht⟩ : ∃ t, impl_SimpleOk.f a0_0 l0_1 = some t := ⟨_, rfl⟩
  unfold impl_PartialOk.f at h
  rw [ht] at h
  simp only [Option.bind_some] at h
  have hS := fun W (hW : Below w.heap.size w W) => impl_SimpleOk.calls a0_0 A0_1 c0_1 l0_1 t W (Kd.C_below hr0_1 hW) hc0_1 ht
  have hA := fun W (hW : Below w.heap.size w W) => anyPart A1 c1 l1 W (Kd.C_below hr1 hW)
  generalize l1.any partB = q at hA h
  cases t with
  | false =>
   obtain rfl := Option.some.inj h
   go_enter Try.func18, Try.ntmps18
   go_wp2_with (go_at_call 14; refine (hS _ ?sideB).mono ?_; (case sideB => exact (Below.refl _ w).alloc (Nat.le_refl _) _); rintro e w' ⟨rfl, hb'⟩; have hcell : w'.cell? ⟨w.heap.size, 0, none⟩ = some (.int .i64 a0_0) := (hb'.cell (p := ⟨w.heap.size, 0, none⟩) (by simp)).trans (by simp); have hB : Below w.heap.size w w' := ((Below.refl _ w).alloc (Nat.le_refl _) _).trans (hb'.mono (by simp)))
   go_ret
   exact ⟨by simp, hB⟩
  | true =>
   rw [if_pos rfl] at h
   by_cases c : (l1.length : Int) = a0_0
   rotate_left
   · rw [if_neg c] at h
     obtain rfl := Option.some.inj h
     have c0 : ((l1.length : Int) == a0_0) = false := beq_eq_false_iff_ne.mpr c
     have c1 : ((l1.length : Int) != a0_0) = true := bne_iff_ne.mpr c
     go_enter Try.func18, Try.ntmps18
     go_wp2_with (go_at_call 14; refine (hS _ ?sideB).mono ?_; (case sideB => exact (Below.refl _ w).alloc (Nat.le_refl _) _); rintro e w' ⟨rfl, hb'⟩; have hcell : w'.cell? ⟨w.heap.size, 0, none⟩ = some (.int .i64 a0_0) := (hb'.cell (p := ⟨w.heap.size, 0, none⟩) (by simp)).trans (by simp); have hB : Below w.heap.size w w' := ((Below.refl _ w).alloc (Nat.le_refl _) _).trans (hb'.mono (by simp)))
     go_ret
     exact ⟨by simp, hB⟩
   rw [if_pos c] at h
   cases l1 with
   | nil => simp at h
   | cons x l =>
    obtain ⟨b, o, rfl, hb, hx⟩ := first_cell hr1
    have hle : 0 < (x :: l).length := by simp
    generalize hL : (x :: l).length = n at *
    have hn0 : (0 : Int) < (n : Int) := by omega
    rw [if_pos hle] at h
    have e0 : rd (x :: l) 0 = x := rfl
    rw [e0] at h
    have c0 : ((n : Int) == a0_0) = true := beq_iff_eq.mpr c
    have c1 : ((n : Int) != a0_0) = false := by rw [bne, c0]; rfl
    by_cases d : x = 0
    rotate_left
    · rw [if_neg d] at h
      obtain rfl := Option.some.inj h
      have d0 : (x == 0) = false := beq_eq_false_iff_ne.mpr d
      have d1 : (x != 0) = true := bne_iff_ne.mpr d
      go_enter Try.func18, Try.ntmps18
      go_wp2_with (go_at_call 14; refine (hS _ ?sideB).mono ?_; (case sideB => exact (Below.refl _ w).alloc (Nat.le_refl _) _); rintro e w' ⟨rfl, hb'⟩; have hcell : w'.cell? ⟨w.heap.size, 0, none⟩ = some (.int .i64 a0_0) := (hb'.cell (p := ⟨w.heap.size, 0, none⟩) (by simp)).trans (by simp); have hB : Below w.heap.size w w' := ((Below.refl _ w).alloc (Nat.le_refl _) _).trans (hb'.mono (by simp)); have hx' := (hB.cell (p := ⟨b, o, none⟩) hb).trans hx)
      go_ret
      exact ⟨by simp, hB⟩
    rw [if_pos d] at h
    obtain rfl := Option.some.inj h
    have d0 : (x == 0) = true := beq_iff_eq.mpr d
    have d1 : (x != 0) = false := by rw [bne, d0]; rfl
    go_enter Try.func18, Try.ntmps18
    go_wp2_with (first | (go_at_call 14; refine (hS _ ?sideB).mono ?_; (case sideB => exact (Below.refl _ w).alloc (Nat.le_refl _) _); rintro e w' ⟨rfl, hb'⟩; have hcell : w'.cell? ⟨w.heap.size, 0, none⟩ = some (.int .i64 a0_0) := (hb'.cell (p := ⟨w.heap.size, 0, none⟩) (by simp)).trans (by simp); have hB : Below w.heap.size w w' := ((Below.refl _ w).alloc (Nat.le_refl _) _).trans (hb'.mono (by simp)); have hx' := (hB.cell (p := ⟨b, o, none⟩) hb).trans hx) | (go_at_call 49; refine (hA _ hB).mono ?_; rintro e w2 ⟨rfl, hb2⟩))
    go_ret
    exact ⟨by simp, hB.trans (hb2.mono hB.size)⟩
end

/-! ### impl_Link_60: function 60 -/
def impl_Link_60.f (l0 : List (S47)) : Option ((List (S47))) := (some (([] : List (S47)) : List (S47))).bind fun y192 => (if y192.length + l0.length < 4398046511104 then (some (y192 ++ l0)) else (none))
set_option maxHeartbeats 8000000 in
set_option maxRecDepth 100000 in
theorem impl_Link_60.calls_some (ad0 : Addr) (c0 : Nat) (l0 : List (S47)) (r : List (S47)) (w : World) (hr0 : Kd.C k47 w (some ad0) l0.length l0) (hc0 : l0.length ≤ c0) (h : impl_Link_60.f l0 = some r) :
    Calls Try.prog 60 #[.slice (some ad0) l0.length c0] w fun e w' => ∃ v0_ : Value, e = .returned (v0_) ∧ Kd.R k47 47 w' w.heap.size (fun _ => True) v0_ r ∧ Below w.heap.size w w' := by
  have HR0 := mK hr0
  have HC0 := mK hc0
  clear hr0 hc0
  have HB := mK (Below.refl w.heap.size w)
  have H : ((some (([] : List (S47)) : List (S47))).bind fun y192 => (if y192.length + l0.length < 4398046511104 then (some (y192 ++ l0)) else (none))) = some r := h
  clear h
  obtain ⟨y192, hy192⟩ : ∃ y_ : List (S47), y_ = (([] : List (S47))) := ⟨_, rfl⟩
  replace H : (if y192.length + l0.length < 4398046511104 then (some (y192 ++ l0)) else (none)) = some r := by first | (rw [hy192]; with_reducible exact H) | (have H2_ := (Option.bind_some _ _).symm.trans H; rw [hy192]; with_reducible exact H2_) | (have H2_ := (Option.bind_some _ _).symm.trans H; with_reducible exact H2_) | with_reducible exact H | (rw [hy192]; exact H) | exact H
  have Ny192 := mK hy192
  clear hy192
  by_cases c2 : y192.length + l0.length < 4398046511104
  rotate_left
  · rw [if_neg c2] at H
    exact absurd H (by simp)
  rw [if_pos c2] at H
  have LMc2 := mK c2
  clear c2
  obtain ⟨y195, hy195⟩ : ∃ y_ : List (S47), y_ = (y192 ++ l0) := ⟨_, rfl⟩
  replace H : (some y195) = some r := by first | (rw [hy195]; with_reducible exact H) | (have H2_ := (Option.bind_some _ _).symm.trans H; rw [hy195]; with_reducible exact H2_) | (have H2_ := (Option.bind_some _ _).symm.trans H; with_reducible exact H2_) | with_reducible exact H | (rw [hy195]; exact H) | exact H
  have Ny195 := mK hy195
  clear hy195
  obtain rfl := Option.some.inj H
  have qn : ∀ (w : World) (a : Option Addr) (n c n' c' : Nat), (binOp .eql 27 (.slice a n c) (.slice none n' c')).run Try.prog w = .ok (.bool a.isNone) w := fun w a n c n' c' => Lib.run_eql_slice_nil w _ _ a n c n' c' Try.underlying27
  go_enter Try.func60, Try.ntmps60
  go_wp2_with (first | ((with_reducible refine gate_dst (N := 5) rfl ?_); refine Kd.R_lit k47 _ 47 ?hg (N := 5) ?hd (xs := ([] : List (S47))) (inner := []) (ok := fun _ => True) (okp := fun _ => True) ?hr ?hp (fun _ hk => hk) trivial (Below.refl _ _) (Nat.le_refl _) (by simp) ?_; (case hd => rfl); (case hg => rfl); (case hr => go_simp <;> rfl); (case hp => exact (Reps.none _ _)); intro v193 w3 ho4 hb hg_ hnew_; clear hg_ hnew_; (first | rw [← Ny192.out] at ho4 | (simp only [Int.reduceToNat] at ho4; rw [← Ny192.out] at ho4)); have HO194 := mK (Kd.R_lower ho4 (below_size (bX HB))); replace HB := bB HB hb; clear hb ho4) | ((with_reducible refine gate_builtin (b := .append) (xs := #[.tmp 5, .tmp 6]) rfl ?_); at_builtin; refine Kd.R_append_rows k47 (w0 := w) w.heap.size rfl (.tmp 5) (.tmp 6) 27 47 (.agg #[(.int .i64 0), (.int .i64 0), (.int .i64 0), (.int .i64 0)]) 32 rfl Try.underlying27 info47 rfl (by decide) (by omega) v193 y192 l0 _ _ _ (fun _ => True) (fun _ => False) rfl rfl ?aO ?aR (fun _ _ h => h) (fun _ h => h.elim) ?aF ?aB ?aS ?aL ?_; (case aR => exact cX HR0 HB); (case aB => exact (bX HB)); (case aF => exact (fun _ _ => trivial)); (case aO => exact (rX HO194)); (case aS => exact (below_size (bX HB))); (case aL => have := LMc2.out; omega); intro v196 w5 ho hb hg hat; rw [← Ny195.out] at ho; have n0_ := mK (hb); have n1_ := mK (ho); clear HB; clear HO194; have HB := n0_; have HO197 := n1_; clear n0_ n1_; clear ho hb hg hat))
  go_ret
  exact ⟨_, by first | rfl | (simp [errW_none, errW_some] <;> rfl) | (simp [*, errW_none, errW_some] <;> rfl), rX HO197, bX HB⟩

set_option maxHeartbeats 8000000 in
theorem impl_Link_60.calls (A0 : Option Addr) (c0 : Nat) (l0 : List (S47)) (r : List (S47)) (w : World) (hr0 : Kd.C k47 w A0 l0.length l0) (hc0 : l0.length ≤ c0) (h : impl_Link_60.f l0 = some r) :
    Calls Try.prog 60 #[.slice A0 l0.length c0] w fun e w' => ∃ v0_ : Value, e = .returned (v0_) ∧ Kd.R k47 47 w' w.heap.size (fun _ => True) v0_ r ∧ Below w.heap.size w w' := by
  cases A0 with
  | some ad0 => exact impl_Link_60.calls_some ad0 c0 l0 r w hr0 hc0 h
  | none =>
   have hl : l0 = [] := by
    cases l0 with
    | nil => rfl
    | cons x y => obtain ⟨ad, e, _⟩ := hr0.2.2 (by simp); cases e
   subst hl
   obtain rfl : [] = r := by simpa [impl_Link_60.f] using h
   have qn : ∀ (w : World) (a : Option Addr) (n c n' c' : Nat), (binOp .eql 27 (.slice a n c) (.slice none n' c')).run Try.prog w = .ok (.bool a.isNone) w := fun w a n c n' c' => Lib.run_eql_slice_nil w _ _ a n c n' c' Try.underlying27
   go_enter Try.func60, Try.ntmps60
   go_wp2
   go_ret
   exact ⟨_, rfl, Kd.R_nil _ _ _ _ _, Below.refl _ _⟩

end Go.Proofs.Ytolecnichpnhnaa.QFnExactFixTimes
