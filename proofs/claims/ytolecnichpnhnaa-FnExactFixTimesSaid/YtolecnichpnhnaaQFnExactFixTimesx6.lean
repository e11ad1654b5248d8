-- Written by this session's program wip/tools/mk.py out of the translation; Lean checks it.
import Derived.Test.YtolecnichpnhnaaQFnExactFixTimesx0
import Derived.Test.YtolecnichpnhnaaQFnExactFixTimesx1
import Derived.Test.YtolecnichpnhnaaQFnExactFixTimesx2
import Derived.Test.YtolecnichpnhnaaQFnExactFixTimesx4
import Derived.Test.YtolecnichpnhnaaQFnExactFixTimesx5
namespace Go.Proofs.Ytolecnichpnhnaa.QFnExactFixTimes
open Go.RowKit Go.Proofs.YtolecnichpnhnaaW.PrintWords Go.Proofs.YtolecnichpnhnaaW.PrintLast Go.Proofs.YtolecnichpnhnaaW.PrintMore
attribute [local go_sem] max2_int min2_int max_two min_two max_three min_three max_four min_four   -- for this text's walks alone
set_option linter.unusedVariables false
set_option linter.unusedSimpArgs false

/-! ### laws_FnExactFixTimes: function 9 -/
mutual
def laws_FnExactFixTimes.j0 : Nat → List Int → Bool → List Int → Bool → Bool → Int → List (S42) → Int → List (S47) → Int → List (S47) → Int → List (S47) → Option (Bool)
  | 0, _, _, _, _, _, _, _, _, _, _, _, _, _ => none
  | k + 1, x1, x7, x9, x11, x51, x212000, x212001, x226000, x226001, x231000, x231001, x240000, x240001 => if x51 = true then (some false) else ((laws_toSimple.f k x212000 x212001).bind fun bt241 => ((laws_eqSimple.f k x231000 x231001 bt241.1 bt241.2).bind fun t245 => (if t245 = true then ((laws_toIntS.f k x1).bind fun t246 => ((laws_eqIntS.f k x9 t246).bind fun t249 => (if t249 = true then ((laws_markSimple.f k x231000 x231001 1).bind fun bt250 => ((laws_markIntS.f k x9 bt250.1).bind fun bt252 => (if bt252.1 < 0 then (laws_FnExactFixTimes.j1 k x1 x7 true x212000 x212001 x226000 x226001 x240000 x240001) else ((laws_eqSimple.f k x240000 x240001 x226000 x226001).bind fun t254 => (if t254 = true then (laws_FnExactFixTimes.j1 k x1 x7 (x11 != x7) x212000 x212001 x226000 x226001 x240000 x240001) else (laws_FnExactFixTimes.j1 k x1 x7 true x212000 x212001 x226000 x226001 x240000 x240001)))))) else (some false)))) else (some false))))
def laws_FnExactFixTimes.j1 : Nat → List Int → Bool → Bool → Int → List (S42) → Int → List (S47) → Int → List (S47) → Option (Bool)
  | 0, _, _, _, _, _, _, _, _, _ => none
  | k + 1, x1, x7, x80, x212000, x212001, x226000, x226001, x240000, x240001 => if x80 = true then (some false) else ((laws_markSimple.f k x240000 x240001 1).bind fun bt255 => ((laws_heldSimple.f k x240000 bt255.2 1).bind fun t257 => (if t257 < 0 then (some false) else (if t257 = bt255.1 then ((laws_toSimple.f k x212000 x212001).bind fun bt258 => ((laws_toIntS.f k x1).bind fun t262 => ((impl_FixTimes.f k bt258.1 bt258.2 t262).bind fun bt265 => ((laws_eqSimple.f k bt265.1 bt265.2.1 x226000 x226001).bind fun t271 => (if t271 = true then (laws_FnExactFixTimes.j2 k bt255.1 (bt265.2.2 != x7) x240000 bt255.2) else (laws_FnExactFixTimes.j2 k bt255.1 true x240000 bt255.2)))))) else (some false)))))
def laws_FnExactFixTimes.j2 : Nat → Int → Bool → Int → List (S47) → Option (Bool)
  | 0, _, _, _, _ => none
  | k + 1, x13, x108, x240000, x240001 => if x108 = true then (some false) else ((laws_heldSimple.f k x240000 x240001 1).bind fun t272 => (if t272 < 0 then (some false) else (if t272 = x13 then (some true) else (some false))))
end
def laws_FnExactFixTimes.f (k : Nat) (a0_0 : Int) (l0_1 : List (S42)) (l1 : List Int) : Option (Bool) := if (l1.length : Int) > 1048576 then (some true) else ((laws_szSimple.f a0_0 l0_1 1048576).bind fun t212 => (if t212 < 0 then (some true) else ((laws_toSimple.f k a0_0 l0_1).bind fun bt213 => ((laws_toIntS.f k l1).bind fun t217 => ((spec_FixTimes.f k bt213.1 bt213.2 t217).bind fun bt220 => ((laws_toSimple.f k a0_0 l0_1).bind fun bt226 => ((laws_toIntS.f k l1).bind fun t231 => ((impl_FixTimes.f k bt226.1 bt226.2 t231).bind fun bt234 => ((laws_eqSimple.f k bt234.1 bt234.2.1 bt220.1 bt220.2.1).bind fun t240 => (if t240 = true then (laws_FnExactFixTimes.j0 k l1 bt220.2.2 t231 bt234.2.2 (bt234.2.2 != bt220.2.2) a0_0 l0_1 bt220.1 bt220.2.1 bt226.1 bt226.2 bt234.1 bt234.2.1) else (laws_FnExactFixTimes.j0 k l1 bt220.2.2 t231 bt234.2.2 true a0_0 l0_1 bt220.1 bt220.2.1 bt226.1 bt226.2 bt234.1 bt234.2.1)))))))))))
theorem laws_FnExactFixTimes.mono_l : ∀ k, (∀ y0 y1 y2 y3 y4 y5 y6 y7 y8 y9 y10 y11 y12, LeO (laws_FnExactFixTimes.j0 k y0 y1 y2 y3 y4 y5 y6 y7 y8 y9 y10 y11 y12) (laws_FnExactFixTimes.j0 (k + 1) y0 y1 y2 y3 y4 y5 y6 y7 y8 y9 y10 y11 y12)) ∧ (∀ y0 y1 y2 y3 y4 y5 y6 y7 y8, LeO (laws_FnExactFixTimes.j1 k y0 y1 y2 y3 y4 y5 y6 y7 y8) (laws_FnExactFixTimes.j1 (k + 1) y0 y1 y2 y3 y4 y5 y6 y7 y8)) ∧ (∀ y0 y1 y2 y3, LeO (laws_FnExactFixTimes.j2 k y0 y1 y2 y3) (laws_FnExactFixTimes.j2 (k + 1) y0 y1 y2 y3))
  | 0 => ⟨fun _ _ _ _ _ _ _ _ _ _ _ _ _ r h => by simp [laws_FnExactFixTimes.j0] at h, fun _ _ _ _ _ _ _ _ _ r h => by simp [laws_FnExactFixTimes.j1] at h, fun _ _ _ _ r h => by simp [laws_FnExactFixTimes.j2] at h⟩
  | k + 1 => by
    obtain ⟨ih0, ih1, ih2⟩ := laws_FnExactFixTimes.mono_l k
    refine ⟨?_, ?_, ?_⟩
    · intro y0 y1 y2 y3 y4 y5 y6 y7 y8 y9 y10 y11 y12
      unfold laws_FnExactFixTimes.j0
      repeat' first|(with_reducible first|exact ih0 _ _ _ _ _ _ _ _ _ _ _ _ _|exact ih1 _ _ _ _ _ _ _ _ _|exact ih2 _ _ _ _|exact impl_FixTimes.mono _ _ _ _|exact laws_eqIntS.mono _ _ _|exact laws_eqSimple.mono _ _ _ _ _|exact laws_heldSimple.mono _ _ _ _|exact laws_markIntS.mono _ _ _|exact laws_markSimple.mono _ _ _ _|exact laws_toIntS.mono _ _|exact laws_toSimple.mono _ _ _|exact spec_FixTimes.mono _ _ _ _|exact lR _|exact lN _|refine lI ?_ ?_|refine lB ?_ (fun _ => ?_))|exact ih0 _ _ _ _ _ _ _ _ _ _ _ _ _|exact ih1 _ _ _ _ _ _ _ _ _|exact ih2 _ _ _ _|exact impl_FixTimes.mono _ _ _ _|exact laws_eqIntS.mono _ _ _|exact laws_eqSimple.mono _ _ _ _ _|exact laws_heldSimple.mono _ _ _ _|exact laws_markIntS.mono _ _ _|exact laws_markSimple.mono _ _ _ _|exact laws_toIntS.mono _ _|exact laws_toSimple.mono _ _ _|exact spec_FixTimes.mono _ _ _ _|exact lN _|refine lI ?_ ?_|refine lB ?_ (fun _ => ?_)
    · intro y0 y1 y2 y3 y4 y5 y6 y7 y8
      unfold laws_FnExactFixTimes.j1
      repeat' first|(with_reducible first|exact ih0 _ _ _ _ _ _ _ _ _ _ _ _ _|exact ih1 _ _ _ _ _ _ _ _ _|exact ih2 _ _ _ _|exact impl_FixTimes.mono _ _ _ _|exact laws_eqIntS.mono _ _ _|exact laws_eqSimple.mono _ _ _ _ _|exact laws_heldSimple.mono _ _ _ _|exact laws_markIntS.mono _ _ _|exact laws_markSimple.mono _ _ _ _|exact laws_toIntS.mono _ _|exact laws_toSimple.mono _ _ _|exact spec_FixTimes.mono _ _ _ _|exact lR _|exact lN _|refine lI ?_ ?_|refine lB ?_ (fun _ => ?_))|exact ih0 _ _ _ _ _ _ _ _ _ _ _ _ _|exact ih1 _ _ _ _ _ _ _ _ _|exact ih2 _ _ _ _|exact impl_FixTimes.mono _ _ _ _|exact laws_eqIntS.mono _ _ _|exact laws_eqSimple.mono _ _ _ _ _|exact laws_heldSimple.mono _ _ _ _|exact laws_markIntS.mono _ _ _|exact laws_markSimple.mono _ _ _ _|exact laws_toIntS.mono _ _|exact laws_toSimple.mono _ _ _|exact spec_FixTimes.mono _ _ _ _|exact lN _|refine lI ?_ ?_|refine lB ?_ (fun _ => ?_)
    · intro y0 y1 y2 y3
      unfold laws_FnExactFixTimes.j2
      repeat' first|(with_reducible first|exact ih0 _ _ _ _ _ _ _ _ _ _ _ _ _|exact ih1 _ _ _ _ _ _ _ _ _|exact ih2 _ _ _ _|exact impl_FixTimes.mono _ _ _ _|exact laws_eqIntS.mono _ _ _|exact laws_eqSimple.mono _ _ _ _ _|exact laws_heldSimple.mono _ _ _ _|exact laws_markIntS.mono _ _ _|exact laws_markSimple.mono _ _ _ _|exact laws_toIntS.mono _ _|exact laws_toSimple.mono _ _ _|exact spec_FixTimes.mono _ _ _ _|exact lR _|exact lN _|refine lI ?_ ?_|refine lB ?_ (fun _ => ?_))|exact ih0 _ _ _ _ _ _ _ _ _ _ _ _ _|exact ih1 _ _ _ _ _ _ _ _ _|exact ih2 _ _ _ _|exact impl_FixTimes.mono _ _ _ _|exact laws_eqIntS.mono _ _ _|exact laws_eqSimple.mono _ _ _ _ _|exact laws_heldSimple.mono _ _ _ _|exact laws_markIntS.mono _ _ _|exact laws_markSimple.mono _ _ _ _|exact laws_toIntS.mono _ _|exact laws_toSimple.mono _ _ _|exact spec_FixTimes.mono _ _ _ _|exact lN _|refine lI ?_ ?_|refine lB ?_ (fun _ => ?_)
theorem laws_FnExactFixTimes.mono : ∀ a0 a1 a2 k, LeO (laws_FnExactFixTimes.f k a0 a1 a2) (laws_FnExactFixTimes.f (k + 1) a0 a1 a2) := by
  intro a0 a1 a2 k
  obtain ⟨ih0, ih1, ih2⟩ := laws_FnExactFixTimes.mono_l k
  unfold laws_FnExactFixTimes.f
  repeat' first|(with_reducible first|exact ih0 _ _ _ _ _ _ _ _ _ _ _ _ _|exact ih1 _ _ _ _ _ _ _ _ _|exact ih2 _ _ _ _|exact impl_FixTimes.mono _ _ _ _|exact laws_eqIntS.mono _ _ _|exact laws_eqSimple.mono _ _ _ _ _|exact laws_heldSimple.mono _ _ _ _|exact laws_markIntS.mono _ _ _|exact laws_markSimple.mono _ _ _ _|exact laws_toIntS.mono _ _|exact laws_toSimple.mono _ _ _|exact spec_FixTimes.mono _ _ _ _|exact lR _|exact lN _|refine lI ?_ ?_|refine lB ?_ (fun _ => ?_))|exact ih0 _ _ _ _ _ _ _ _ _ _ _ _ _|exact ih1 _ _ _ _ _ _ _ _ _|exact ih2 _ _ _ _|exact impl_FixTimes.mono _ _ _ _|exact laws_eqIntS.mono _ _ _|exact laws_eqSimple.mono _ _ _ _ _|exact laws_heldSimple.mono _ _ _ _|exact laws_markIntS.mono _ _ _|exact laws_markSimple.mono _ _ _ _|exact laws_toIntS.mono _ _|exact laws_toSimple.mono _ _ _|exact spec_FixTimes.mono _ _ _ _|exact lN _|refine lI ?_ ?_|refine lB ?_ (fun _ => ?_)
set_option maxHeartbeats 8000000 in
set_option maxRecDepth 100000 in
theorem laws_FnExactFixTimes.calls (k : Nat) (a0_0 : Int) (A0_1 : Option Addr) (c0_1 : Nat) (l0_1 : List (S42)) (A1 : Option Addr) (c1 : Nat) (l1 : List Int) (r : Bool) (w : World) (hr0_1 : Kd.C k42 w A0_1 l0_1.length l0_1) (hc0_1 : l0_1.length ≤ c0_1) (hr1 : Kd.C (Kd.int .i64) w A1 l1.length l1) (hc1 : l1.length ≤ c1) (h : laws_FnExactFixTimes.f k a0_0 l0_1 l1 = some r) (hr_ : r = true) :
    Calls Try.prog 9 #[.agg #[.int .i64 a0_0, .slice A0_1 l0_1.length c0_1], .slice A1 l1.length c1] w fun e w' => e = .returned (.bool r) ∧ Below w.heap.size w w' := by
 have hu24 := Try.underlying24
 have hu29 := Try.underlying29
 have HR0_1 := mK hr0_1
 have HC0_1 := mK hc0_1
 clear hr0_1 hc0_1
 have HR1 := mK hr1
 have HC1 := mK hc1
 clear hr1 hc1
 have HB := mK (Below.refl w.heap.size w)
 have H : (if (l1.length : Int) > 1048576 then (some true) else ((laws_szSimple.f a0_0 l0_1 1048576).bind fun t212 => (if t212 < 0 then (some true) else ((laws_toSimple.f k a0_0 l0_1).bind fun bt213 => ((laws_toIntS.f k l1).bind fun t217 => ((spec_FixTimes.f k bt213.1 bt213.2 t217).bind fun bt220 => ((laws_toSimple.f k a0_0 l0_1).bind fun bt226 => ((laws_toIntS.f k l1).bind fun t231 => ((impl_FixTimes.f k bt226.1 bt226.2 t231).bind fun bt234 => ((laws_eqSimple.f k bt234.1 bt234.2.1 bt220.1 bt220.2.1).bind fun t240 => (if t240 = true then (laws_FnExactFixTimes.j0 k l1 bt220.2.2 t231 bt234.2.2 (bt234.2.2 != bt220.2.2) a0_0 l0_1 bt220.1 bt220.2.1 bt226.1 bt226.2 bt234.1 bt234.2.1) else (laws_FnExactFixTimes.j0 k l1 bt220.2.2 t231 bt234.2.2 true a0_0 l0_1 bt220.1 bt220.2.1 bt226.1 bt226.2 bt234.1 bt234.2.1)))))))))))) = some r := h
 clear h
 by_cases c3 : (l1.length : Int) > 1048576
 {
 rw [if_pos c3] at H
 have c3b0 : decide (1048576 < (l1.length : Int)) = true := decide_eq_true c3
 have c3b1 : decide (1048576 < l1.length) = true := decide_eq_true (by omega)
 clear c3
 obtain rfl := Option.some.inj H
 clear hr_
 go_enter Try.func9, Try.ntmps9
 go_wp2_with (first | ((with_reducible refine gate_dst (N := 2) rfl ?_); refine bxE 2 #[.int .i64 a0_0, .slice A0_1 l0_1.length c0_1] 24 ?_; intro gb211 hg w4 hbox hb; have BK211 := mK hbox; have GW211 := mK (gX hg HB); have GE211 := mK (gX hg HB); replace HB := bB HB hb; clear hb hbox hg))
 go_ret
 exact ⟨by first | rfl | (simp [errW_none, errW_some] <;> rfl) | (simp [*, errW_none, errW_some] <;> rfl), bX HB⟩
 }
 rw [if_neg c3] at H
 have c3b0 : decide (1048576 < (l1.length : Int)) = false := decide_eq_false c3
 have c3b1 : decide (1048576 < l1.length) = false := decide_eq_false (by omega)
 clear c3
 replace H := Option.bind_eq_some_iff.mp H
 obtain ⟨t212, A50, H⟩ := H
 replace H : (if t212 < 0 then (some true) else ((laws_toSimple.f k a0_0 l0_1).bind fun bt213 => ((laws_toIntS.f k l1).bind fun t217 => ((spec_FixTimes.f k bt213.1 bt213.2 t217).bind fun bt220 => ((laws_toSimple.f k a0_0 l0_1).bind fun bt226 => ((laws_toIntS.f k l1).bind fun t231 => ((impl_FixTimes.f k bt226.1 bt226.2 t231).bind fun bt234 => ((laws_eqSimple.f k bt234.1 bt234.2.1 bt220.1 bt220.2.1).bind fun t240 => (if t240 = true then (laws_FnExactFixTimes.j0 k l1 bt220.2.2 t231 bt234.2.2 (bt234.2.2 != bt220.2.2) a0_0 l0_1 bt220.1 bt220.2.1 bt226.1 bt226.2 bt234.1 bt234.2.1) else (laws_FnExactFixTimes.j0 k l1 bt220.2.2 t231 bt234.2.2 true a0_0 l0_1 bt220.1 bt220.2.1 bt226.1 bt226.2 bt234.1 bt234.2.1)))))))))) = some r := H
 have A5 := mK A50
 clear A50
 by_cases c6 : t212 < 0
 {
 rw [if_pos c6] at H
 have c6b0 : decide (t212 < 0) = true := decide_eq_true c6
 clear c6
 obtain rfl := Option.some.inj H
 clear hr_
 go_enter Try.func9, Try.ntmps9
 go_wp2_with (first | ((with_reducible refine gate_dst (N := 2) rfl ?_); refine bxE 2 #[.int .i64 a0_0, .slice A0_1 l0_1.length c0_1] 24 ?_; intro gb211 hg w7 hbox hb; have BK211 := mK hbox; have GW211 := mK (gX hg HB); have GE211 := mK (gX hg HB); replace HB := bB HB hb; clear hb hbox hg; have hcz8_0 := q0 BK211; have hcz8_1 := q1 BK211; have hfz8_0 := fX BK211 0; have hfz8_1 := fX BK211 1) | ((with_reducible refine gate_callee (f := 11) rfl ?_); refine gsE (some 22) Try.func11 #[.agg #[.int .i64 a0_0, .slice A0_1 l0_1.length c0_1], .int .i64 1048576] ?_; (with_reducible refine (laws_szSimple.calls a0_0 _ _ l0_1 1048576 t212 _ ?side1 ?side2 A5.out).mono ?_); (case side1 => exact cX HR0_1 HB); (case side2 => exact HC0_1.out); rintro e w9 ⟨rfl, hb⟩; refine ⟨_, rfl, ?_⟩; replace BK211 := kB BK211 hb; replace HB := bB HB hb; (try clear hb); (try clear hb2); (try clear hk); (try clear hi)))
 go_ret
 exact ⟨by first | rfl | (simp [errW_none, errW_some] <;> rfl) | (simp [*, errW_none, errW_some] <;> rfl), bX HB⟩
 }
 rw [if_neg c6] at H
 have c6b0 : decide (t212 < 0) = false := decide_eq_false c6
 clear c6
 replace H := Option.bind_eq_some_iff.mp H
 obtain ⟨⟨t213, t214⟩, A100, H⟩ := H
 replace H : ((laws_toIntS.f k l1).bind fun t217 => ((spec_FixTimes.f k t213 t214 t217).bind fun bt220 => ((laws_toSimple.f k a0_0 l0_1).bind fun bt226 => ((laws_toIntS.f k l1).bind fun t231 => ((impl_FixTimes.f k bt226.1 bt226.2 t231).bind fun bt234 => ((laws_eqSimple.f k bt234.1 bt234.2.1 bt220.1 bt220.2.1).bind fun t240 => (if t240 = true then (laws_FnExactFixTimes.j0 k l1 bt220.2.2 t231 bt234.2.2 (bt234.2.2 != bt220.2.2) a0_0 l0_1 bt220.1 bt220.2.1 bt226.1 bt226.2 bt234.1 bt234.2.1) else (laws_FnExactFixTimes.j0 k l1 bt220.2.2 t231 bt234.2.2 true a0_0 l0_1 bt220.1 bt220.2.1 bt226.1 bt226.2 bt234.1 bt234.2.1)))))))) = some r := H
 have A10 := mK A100
 clear A100
 replace H := Option.bind_eq_some_iff.mp H
 obtain ⟨t217, A110, H⟩ := H
 replace H : ((spec_FixTimes.f k t213 t214 t217).bind fun bt220 => ((laws_toSimple.f k a0_0 l0_1).bind fun bt226 => ((laws_toIntS.f k l1).bind fun t231 => ((impl_FixTimes.f k bt226.1 bt226.2 t231).bind fun bt234 => ((laws_eqSimple.f k bt234.1 bt234.2.1 bt220.1 bt220.2.1).bind fun t240 => (if t240 = true then (laws_FnExactFixTimes.j0 k l1 bt220.2.2 t231 bt234.2.2 (bt234.2.2 != bt220.2.2) a0_0 l0_1 bt220.1 bt220.2.1 bt226.1 bt226.2 bt234.1 bt234.2.1) else (laws_FnExactFixTimes.j0 k l1 bt220.2.2 t231 bt234.2.2 true a0_0 l0_1 bt220.1 bt220.2.1 bt226.1 bt226.2 bt234.1 bt234.2.1))))))) = some r := H
 have A11 := mK A110
 clear A110
 replace H := Option.bind_eq_some_iff.mp H
 obtain ⟨⟨t220, t221, t224⟩, A120, H⟩ := H
 replace H : ((laws_toSimple.f k a0_0 l0_1).bind fun bt226 => ((laws_toIntS.f k l1).bind fun t231 => ((impl_FixTimes.f k bt226.1 bt226.2 t231).bind fun bt234 => ((laws_eqSimple.f k bt234.1 bt234.2.1 t220 t221).bind fun t240 => (if t240 = true then (laws_FnExactFixTimes.j0 k l1 t224 t231 bt234.2.2 (bt234.2.2 != t224) a0_0 l0_1 t220 t221 bt226.1 bt226.2 bt234.1 bt234.2.1) else (laws_FnExactFixTimes.j0 k l1 t224 t231 bt234.2.2 true a0_0 l0_1 t220 t221 bt226.1 bt226.2 bt234.1 bt234.2.1)))))) = some r := H
 have A12 := mK A120
 clear A120
 replace H := Option.bind_eq_some_iff.mp H
 obtain ⟨⟨t226, t227⟩, A130, H⟩ := H
 replace H : ((laws_toIntS.f k l1).bind fun t231 => ((impl_FixTimes.f k t226 t227 t231).bind fun bt234 => ((laws_eqSimple.f k bt234.1 bt234.2.1 t220 t221).bind fun t240 => (if t240 = true then (laws_FnExactFixTimes.j0 k l1 t224 t231 bt234.2.2 (bt234.2.2 != t224) a0_0 l0_1 t220 t221 t226 t227 bt234.1 bt234.2.1) else (laws_FnExactFixTimes.j0 k l1 t224 t231 bt234.2.2 true a0_0 l0_1 t220 t221 t226 t227 bt234.1 bt234.2.1))))) = some r := H
 have A13 := mK A130
 clear A130
 replace H := Option.bind_eq_some_iff.mp H
 obtain ⟨t231, A140, H⟩ := H
 replace H : ((impl_FixTimes.f k t226 t227 t231).bind fun bt234 => ((laws_eqSimple.f k bt234.1 bt234.2.1 t220 t221).bind fun t240 => (if t240 = true then (laws_FnExactFixTimes.j0 k l1 t224 t231 bt234.2.2 (bt234.2.2 != t224) a0_0 l0_1 t220 t221 t226 t227 bt234.1 bt234.2.1) else (laws_FnExactFixTimes.j0 k l1 t224 t231 bt234.2.2 true a0_0 l0_1 t220 t221 t226 t227 bt234.1 bt234.2.1)))) = some r := H
 have A14 := mK A140
 clear A140
 replace H := Option.bind_eq_some_iff.mp H
 obtain ⟨⟨t234, t235, t238⟩, A150, H⟩ := H
 replace H : ((laws_eqSimple.f k t234 t235 t220 t221).bind fun t240 => (if t240 = true then (laws_FnExactFixTimes.j0 k l1 t224 t231 t238 (t238 != t224) a0_0 l0_1 t220 t221 t226 t227 t234 t235) else (laws_FnExactFixTimes.j0 k l1 t224 t231 t238 true a0_0 l0_1 t220 t221 t226 t227 t234 t235))) = some r := H
 have A15 := mK A150
 clear A150
 have HC16 := mK H
 clear H
 go_enter Try.func9, Try.ntmps9
 go_upto_region 11 with (first | ((with_reducible refine gate_dst (N := 2) rfl ?_); refine bxE 2 #[.int .i64 a0_0, .slice A0_1 l0_1.length c0_1] 24 ?_; intro gb211 hg w17 hbox hb; have BK211 := mK hbox; have GW211 := mK (gX hg HB); have GE211 := mK (gX hg HB); replace HB := bB HB hb; clear hb hbox hg; have hcz18_0 := q0 BK211; have hcz18_1 := q1 BK211; have hfz18_0 := fX BK211 0; have hfz18_1 := fX BK211 1) | ((with_reducible refine gate_callee (f := 11) rfl ?_); refine gsE (some 22) Try.func11 #[.agg #[.int .i64 a0_0, .slice A0_1 l0_1.length c0_1], .int .i64 1048576] ?_; (with_reducible refine (laws_szSimple.calls a0_0 _ _ l0_1 1048576 t212 _ ?side1 ?side2 A5.out).mono ?_); (case side1 => exact cX HR0_1 HB); (case side2 => exact HC0_1.out); rintro e w19 ⟨rfl, hb⟩; refine ⟨_, rfl, ?_⟩; replace BK211 := kB BK211 hb; replace HB := bB HB hb; (try clear hb); (try clear hb2); (try clear hk); (try clear hi); have hcz20_0 := q0 BK211; have hcz20_1 := q1 BK211; have hfz20_0 := fX BK211 0; have hfz20_1 := fX BK211 1) | ((with_reducible refine gate_callee (f := 13) rfl ?_); refine gsE (some 27) Try.func13 #[.agg #[.int .i64 a0_0, .slice A0_1 l0_1.length c0_1]] ?_; (with_reducible refine (laws_toSimple.calls k a0_0 _ _ l0_1 t213 t214 _ ?side1 ?side2 A10.out).mono ?_); (case side1 => exact cX HR0_1 HB); (case side2 => exact HC0_1.out); rintro e w21 ⟨v215, rfl, ho0, hb⟩; refine ⟨_, rfl, ?_⟩; have HO216 := mK (Kd.R_lower ho0 (below_size (bX HB))); replace BK211 := kB BK211 hb; replace HB := bB HB hb; (try clear hb); (try clear hb2); (try clear hk); (try clear hi); (try clear ho0)) | ((with_reducible refine gate_callee (f := 17) rfl ?_); refine gsE (some 29) Try.func17 #[.slice A1 l1.length c1] ?_; (with_reducible refine (laws_toIntS.calls k _ _ l1 t217 _ ?side1 ?side2 A11.out).mono ?_); (case side1 => exact cX HR1 HB); (case side2 => exact HC1.out); rintro e w22 ⟨v218, rfl, ho0, hb⟩; refine ⟨_, rfl, ?_⟩; replace HO216 := mK (Kd.R_below (rX HO216) hb); have HO219 := mK (Kd.R_lower ho0 (below_size (bX HB))); replace BK211 := kB BK211 hb; replace HB := bB HB hb; (try clear hb); (try clear hb2); (try clear hk); (try clear hi); (try clear ho0); obtain ⟨Ao23, co23, eo23⟩ := Kd.R_slice HO216.out; subst eo23; obtain ⟨Ao24, co24, eo24⟩ := Kd.R_slice HO219.out; subst eo24) | ((with_reducible refine gate_callee (f := 34) rfl ?_); refine gsE (some 30) Try.func34 #[.agg #[.int .i64 t213, .slice Ao23 t214.length co23], .slice Ao24 t217.length co24] ?_; (with_reducible refine (spec_FixTimes.calls k t213 _ _ t214 _ _ t217 t220 t221 t224 _ ?side1 ?side2 ?side3 ?side4 A12.out).mono ?_); (case side1 => repeat (first | exact (Kd.R_reads' HO216.out).2.2 | (with_reducible refine Kd.C_alloc ?_ _) | (with_reducible refine Kd.C_drewN ?_ _) | (with_reducible refine Kd.C_drew ?_))); (case side2 => exact (Kd.R_reads' HO216.out).2.1); (case side3 => repeat (first | exact (Kd.R_reads' HO219.out).2.2 | (with_reducible refine Kd.C_alloc ?_ _) | (with_reducible refine Kd.C_drewN ?_ _) | (with_reducible refine Kd.C_drew ?_))); (case side4 => exact (Kd.R_reads' HO219.out).2.1); rintro e w25 ⟨v222, rfl, ho0, hb⟩; refine ⟨_, rfl, ?_⟩; replace HO219 := mK (Kd.R_below (rX HO219) hb); have HO223 := mK (Kd.R_lower (Kd.R_new' ho0 (Kd.R_lt (rX HO216))) (below_size (bX HB))); replace HO216 := mK (Kd.R_elder' (rX HO216) (Kd.R_base ho0) hb); replace BK211 := kB BK211 hb; replace HB := bB HB hb; (try clear hb); (try clear hb2); (try clear hk); (try clear hi); (try clear ho0)) | ((with_reducible refine gate_dst (N := 6) rfl ?_); refine bxE 6 #[.int .i64 0, .slice none 0 0] 29 ?_; intro gb225 hg w26 hbox hb; replace HO216 := mK (Kd.R_below (rX HO216) hb); replace HO219 := mK (Kd.R_below (rX HO219) hb); replace HO223 := mK (Kd.R_below (rX HO223) hb); have BK225 := mK hbox; have GW225 := mK (gX hg HB); have GE225 := mK (gX hg HB); replace HB := bB HB hb; have NB211_225 := mK (lX hg BK211); have NB225_211 := mK (mX hg BK211); replace BK211 := kB BK211 hb; clear hb hbox hg; have hnb27 := NB225_211.out; have hnc27 := NB211_225.out; have hcz28_0 := q0 BK225; have hcz28_1 := q1 BK225; have hfz28_0 := fX BK225 0; have hfz28_1 := fX BK225 1; obtain ⟨Ao29, co29, eo29⟩ := Kd.R_slice HO223.out; subst eo29; have hcz30_0 := q0 BK211; have hcz30_1 := q1 BK211; have hfz30_0 := fX BK211 0; have hfz30_1 := fX BK211 1) | ((with_reducible refine gate_callee (f := 13) rfl ?_); refine gsE (some 34) Try.func13 #[.agg #[.int .i64 a0_0, .slice A0_1 l0_1.length c0_1]] ?_; (with_reducible refine (laws_toSimple.calls k a0_0 _ _ l0_1 t226 t227 _ ?side1 ?side2 A13.out).mono ?_); (case side1 => exact Kd.C_below HR0_1.out (bX HB)); (case side2 => exact HC0_1.out); rintro e w31 ⟨v228, rfl, ho0, hb⟩; refine ⟨_, rfl, ?_⟩; have n0_ := mK (Kd.R_elder' (rF2 HO216 BK225) (Kd.R_base ho0) hb); have n1_ := mK (Kd.R_below (rF2 HO219 BK225) hb); have n2_ := mK (Kd.R_elder' (rF2 HO223 BK225) (Kd.R_base ho0) hb); have n3_ := mK (Kd.R_lower (Kd.R_new' (Kd.R_new' ho0 (Kd.R_lt (rF2 HO216 BK225))) (Kd.R_lt (rF2 HO223 BK225))) (below_size (bX HB))); have n4_ := mK (blk_below (g := gb211) (o := .cells #[.int .i64 a0_0, .slice A0_1 l0_1.length c0_1] 24 (0, 0)) (kF BK211 NB211_225) hb); have n5_ := mK (blk_below (g := gb225) (o := .cells #[.int .i64 t220, .slice Ao29 t221.length co29] 29 (0, 0)) (kP2 BK225) hb); have n6_ := bB HB hb; clear HO216; clear HO219; clear HO223; clear BK211; clear BK225; clear HB; have HO216 := n0_; have HO219 := n1_; have HO223 := n2_; have HO229 := n3_; have BK211 := n4_; have BK225 := n5_; have HB := n6_; clear n0_ n1_ n2_ n3_ n4_ n5_ n6_; (try clear hb); (try clear hb2); (try clear hk); (try clear hi); (try clear ho0)) | ((with_reducible refine gate_dst (N := 8) rfl ?_); refine bxE 8 #[.int .i64 0, .slice none 0 0] 29 ?_; intro gb230 hg w32 hbox hb; replace HO216 := mK (Kd.R_below (rX HO216) hb); replace HO219 := mK (Kd.R_below (rX HO219) hb); replace HO223 := mK (Kd.R_below (rX HO223) hb); replace HO229 := mK (Kd.R_below (rX HO229) hb); have BK230 := mK hbox; have GW230 := mK (gX hg HB); have GE230 := mK (gX hg HB); replace HB := bB HB hb; have NB211_230 := mK (lX hg BK211); have NB230_211 := mK (mX hg BK211); replace BK211 := kB BK211 hb; have NB225_230 := mK (lX hg BK225); have NB230_225 := mK (mX hg BK225); replace BK225 := kB BK225 hb; clear hb hbox hg; have hnb33 := NB230_211.out; have hnc33 := NB211_230.out; have hnb34 := NB230_225.out; have hnc34 := NB225_230.out; have hcz35_0 := q0 BK230; have hcz35_1 := q1 BK230; have hfz35_0 := fX BK230 0; have hfz35_1 := fX BK230 1; obtain ⟨Ao36, co36, eo36⟩ := Kd.R_slice HO229.out; subst eo36) | ((with_reducible refine gate_callee (f := 17) rfl ?_); refine gsE (some 36) Try.func17 #[.slice A1 l1.length c1] ?_; (with_reducible refine (laws_toIntS.calls k _ _ l1 t231 _ ?side1 ?side2 A14.out).mono ?_); (case side1 => exact Kd.C_below HR1.out (bX HB)); (case side2 => exact HC1.out); rintro e w37 ⟨v232, rfl, ho0, hb⟩; refine ⟨_, rfl, ?_⟩; have n0_ := mK (Kd.R_below (rF2 HO216 BK230) hb); have n1_ := mK (Kd.R_elder' (rF2 HO219 BK230) (Kd.R_base ho0) hb); have n2_ := mK (Kd.R_below (rF2 HO223 BK230) hb); have n3_ := mK (Kd.R_below (rF2 HO229 BK230) hb); have n4_ := mK (Kd.R_lower (Kd.R_new' ho0 (Kd.R_lt (rF2 HO219 BK230))) (below_size (bX HB))); have n5_ := mK (blk_below (g := gb211) (o := .cells #[.int .i64 a0_0, .slice A0_1 l0_1.length c0_1] 24 (0, 0)) (kF BK211 NB211_230) hb); have n6_ := mK (blk_below (g := gb225) (o := .cells #[.int .i64 t220, .slice Ao29 t221.length co29] 29 (0, 0)) (kF BK225 NB225_230) hb); have n7_ := mK (blk_below (g := gb230) (o := .cells #[.int .i64 t226, .slice Ao36 t227.length co36] 29 (0, 0)) (kP2 BK230) hb); have n8_ := bB HB hb; clear HO216; clear HO219; clear HO223; clear HO229; clear BK211; clear BK225; clear BK230; clear HB; have HO216 := n0_; have HO219 := n1_; have HO223 := n2_; have HO229 := n3_; have HO233 := n4_; have BK211 := n5_; have BK225 := n6_; have BK230 := n7_; have HB := n8_; clear n0_ n1_ n2_ n3_ n4_ n5_ n6_ n7_ n8_; (try clear hb); (try clear hb2); (try clear hk); (try clear hi); (try clear ho0); have hcz38_0 := q0 BK230; have hcz38_1 := q1 BK230; have hfz38_0 := fX BK230 0; have hfz38_1 := fX BK230 1; obtain ⟨Ao39, co39, eo39⟩ := Kd.R_slice HO233.out; subst eo39) | ((with_reducible refine gate_callee (f := 35) rfl ?_); refine gsE (some 40) Try.func35 #[.agg #[.int .i64 t226, .slice Ao36 t227.length co36], .slice Ao39 t231.length co39] ?_; (with_reducible refine (impl_FixTimes.calls k t226 _ _ t227 _ _ t231 t234 t235 t238 _ ?side1 ?side2 ?side3 ?side4 A15.out).mono ?_); (case side1 => repeat (first | exact (Kd.R_reads' HO229.out).2.2 | (with_reducible refine Kd.C_alloc ?_ _) | (with_reducible refine Kd.C_drewN ?_ _) | (with_reducible refine Kd.C_drew ?_))); (case side2 => exact (Kd.R_reads' HO229.out).2.1); (case side3 => repeat (first | exact (Kd.R_reads' HO233.out).2.2 | (with_reducible refine Kd.C_alloc ?_ _) | (with_reducible refine Kd.C_drewN ?_ _) | (with_reducible refine Kd.C_drew ?_))); (case side4 => exact (Kd.R_reads' HO233.out).2.1); rintro e w40 ⟨v236, rfl, ho0, hb⟩; refine ⟨_, rfl, ?_⟩; replace HO219 := mK (Kd.R_below (rX HO219) hb); replace HO233 := mK (Kd.R_below (rX HO233) hb); have HO237 := mK (Kd.R_lower (Kd.R_new' (Kd.R_new' (Kd.R_new' ho0 (Kd.R_lt (rX HO216))) (Kd.R_lt (rX HO223))) (Kd.R_lt (rX HO229))) (below_size (bX HB))); replace HO216 := mK (Kd.R_elder' (rX HO216) (Kd.R_base ho0) hb); replace HO223 := mK (Kd.R_elder' (rX HO223) (Kd.R_base ho0) hb); replace HO229 := mK (Kd.R_elder' (rX HO229) (Kd.R_base ho0) hb); replace BK211 := kB BK211 hb; replace BK225 := kB BK225 hb; replace BK230 := kB BK230 hb; replace HB := bB HB hb; (try clear hb); (try clear hb2); (try clear hk); (try clear hi); (try clear ho0)) | ((with_reducible refine gate_dst (N := 10) rfl ?_); refine bxE 10 #[.int .i64 0, .slice none 0 0] 29 ?_; intro gb239 hg w41 hbox hb; replace HO216 := mK (Kd.R_below (rX HO216) hb); replace HO219 := mK (Kd.R_below (rX HO219) hb); replace HO223 := mK (Kd.R_below (rX HO223) hb); replace HO229 := mK (Kd.R_below (rX HO229) hb); replace HO233 := mK (Kd.R_below (rX HO233) hb); replace HO237 := mK (Kd.R_below (rX HO237) hb); have BK239 := mK hbox; have GW239 := mK (gX hg HB); have GE239 := mK (gX hg HB); replace HB := bB HB hb; have NB211_239 := mK (lX hg BK211); have NB239_211 := mK (mX hg BK211); replace BK211 := kB BK211 hb; have NB225_239 := mK (lX hg BK225); have NB239_225 := mK (mX hg BK225); replace BK225 := kB BK225 hb; have NB230_239 := mK (lX hg BK230); have NB239_230 := mK (mX hg BK230); replace BK230 := kB BK230 hb; clear hb hbox hg; have hnb42 := NB239_211.out; have hnc42 := NB211_239.out; have hnb43 := NB239_225.out; have hnc43 := NB225_239.out; have hnb44 := NB239_230.out; have hnc44 := NB230_239.out; have hcz45_0 := q0 BK239; have hcz45_1 := q1 BK239; have hfz45_0 := fX BK239 0; have hfz45_1 := fX BK239 1; obtain ⟨Ao46, co46, eo46⟩ := Kd.R_slice HO237.out; subst eo46))
 (try simp only [Act.put, sT, sZ, sU])
 go_cut [51] (fun v51 wc => ∃ (kq : Nat) (x51_15 : Bool), v51 = .bool x51_15 ∧ Aside0 (laws_FnExactFixTimes.j0 kq l1 t224 t231 t238 x51_15 a0_0 l0_1 t220 t221 t226 t227 t234 t235 = some r) ∧ Aside0 (kq ≤ k) ∧ Aside0 (Kd.R (Kd.int .i64) 3 wc w.heap.size (fun _ => True) (.slice Ao39 t231.length co39) t231) ∧ Aside0 (Kd.R k47 47 wc w.heap.size (fun k_ => some k_ ≠ ((.slice Ao36 t227.length co36) : Value).ownBlock ∧ some k_ ≠ ((.slice Ao46 t235.length co46) : Value).ownBlock) (.slice Ao29 t221.length co29) t221) ∧ Aside0 (Kd.R k47 47 wc w.heap.size (fun k_ => some k_ ≠ ((.slice Ao29 t221.length co29) : Value).ownBlock ∧ some k_ ≠ ((.slice Ao46 t235.length co46) : Value).ownBlock) (.slice Ao36 t227.length co36) t227) ∧ Aside0 (Kd.R k47 47 wc w.heap.size (fun k_ => some k_ ≠ ((.slice Ao29 t221.length co29) : Value).ownBlock ∧ some k_ ≠ ((.slice Ao36 t227.length co36) : Value).ownBlock) (.slice Ao46 t235.length co46) t235) ∧ Aside0 (wc.heap[gb211]? = some (.cells #[.int .i64 a0_0, (.slice A0_1 l0_1.length c0_1)] 24 (0, 0))) ∧ Aside0 (wc.heap[gb225]? = some (.cells #[.int .i64 t220, (.slice Ao29 t221.length co29)] 29 (0, 0))) ∧ Aside0 (wc.heap[gb230]? = some (.cells #[.int .i64 t226, (.slice Ao36 t227.length co36)] 29 (0, 0))) ∧ Aside0 (wc.heap[gb239]? = some (.cells #[.int .i64 t234, (.slice Ao46 t235.length co46)] 29 (0, 0))) ∧ Aside0 (Below w.heap.size w wc))
 case first => (
 have H := HC16.out
 clear HC16
 replace H := Option.bind_eq_some_iff.mp H
 obtain ⟨t240, A470, H⟩ := H
 replace H : (if t240 = true then (laws_FnExactFixTimes.j0 k l1 t224 t231 t238 (t238 != t224) a0_0 l0_1 t220 t221 t226 t227 t234 t235) else (laws_FnExactFixTimes.j0 k l1 t224 t231 t238 true a0_0 l0_1 t220 t221 t226 t227 t234 t235)) = some r := H
 have A47 := mK A470
 clear A470
 by_cases c48 : t240 = true
 rotate_left
 {
 replace c48 := Bool.eq_false_iff.mpr c48
 subst c48
 rw [if_neg (show ¬ (false = true) by decide)] at H
 subst hr_
 exact absurd H (by cases k <;> simp [laws_FnExactFixTimes.j0])
 }
 subst c48
 rw [if_pos rfl] at H
 have H' := mK H
 clear H
 have hnb49 := NB239_211.out
 have hnc49 := NB211_239.out
 have hnb50 := NB239_225.out
 have hnc50 := NB225_239.out
 have hnb51 := NB239_230.out
 have hnc51 := NB230_239.out
 have hcz52_0 := q0 BK239
 have hcz52_1 := q1 BK239
 have hfz52_0 := fX BK239 0
 have hfz52_1 := fX BK239 1
 have hnb53 := NB225_211.out
 have hnc53 := NB211_225.out
 have hnb54 := NB225_230.out
 have hnc54 := NB230_225.out
 have hcz55_0 := q0 BK225
 have hcz55_1 := q1 BK225
 have hfz55_0 := fX BK225 0
 have hfz55_1 := fX BK225 1
 go_wp2_with (first | ((with_reducible refine gate_callee (f := 15) rfl ?_); refine gsE (some 45) Try.func15 #[.agg #[.int .i64 t234, .slice Ao46 t235.length co46], .agg #[.int .i64 t220, .slice Ao29 t221.length co29]] ?_; (with_reducible refine (laws_eqSimple.calls k t234 _ _ t235 t220 _ _ t221 true _ ?side1 ?side2 ?side3 ?side4 A47.out).mono ?_); (case side1 => refine (Kd.R_reads' (e := 47) (base := w.heap.size) (ok := fun k_ => (((True ∧ some k_ ≠ (.slice Ao23 t214.length co23 : Value).ownBlock) ∧ some k_ ≠ (.slice Ao29 t221.length co29 : Value).ownBlock) ∧ some k_ ≠ (.slice Ao36 t227.length co36 : Value).ownBlock)) (n := t235.length) (c := co46) ?_).2.2; exact (rF2 HO237 BK239)); (case side2 => exact (Kd.R_reads' HO237.out).2.1); (case side3 => refine (Kd.R_reads' (e := 47) (base := w.heap.size) (ok := fun k_ => (((True ∧ some k_ ≠ (.slice Ao23 t214.length co23 : Value).ownBlock) ∧ some k_ ≠ (.slice Ao36 t227.length co36 : Value).ownBlock) ∧ some k_ ≠ (.slice Ao46 t235.length co46 : Value).ownBlock)) (n := t221.length) (c := co29) ?_).2.2; exact (rF2 HO223 BK239)); (case side4 => exact (Kd.R_reads' HO223.out).2.1); rintro e w56 ⟨rfl, hb⟩; refine ⟨_, rfl, ?_⟩; have n0_ := mK (Kd.R_below (rF2 HO216 BK239) hb); have n1_ := mK (Kd.R_below (rF2 HO219 BK239) hb); have n2_ := mK (Kd.R_below (rF2 HO223 BK239) hb); have n3_ := mK (Kd.R_below (rF2 HO229 BK239) hb); have n4_ := mK (Kd.R_below (rF2 HO233 BK239) hb); have n5_ := mK (Kd.R_below (rF2 HO237 BK239) hb); have n6_ := mK (blk_below (g := gb211) (o := .cells #[.int .i64 a0_0, .slice A0_1 l0_1.length c0_1] 24 (0, 0)) (kF BK211 NB211_239) hb); have n7_ := mK (blk_below (g := gb225) (o := .cells #[.int .i64 t220, .slice Ao29 t221.length co29] 29 (0, 0)) (kF BK225 NB225_239) hb); have n8_ := mK (blk_below (g := gb230) (o := .cells #[.int .i64 t226, .slice Ao36 t227.length co36] 29 (0, 0)) (kF BK230 NB230_239) hb); have n9_ := mK (blk_below (g := gb239) (o := .cells #[.int .i64 t234, .slice Ao46 t235.length co46] 29 (0, 0)) (kP2 BK239) hb); have n10_ := bB HB hb; clear HO216; clear HO219; clear HO223; clear HO229; clear HO233; clear HO237; clear BK211; clear BK225; clear BK230; clear BK239; clear HB; have HO216 := n0_; have HO219 := n1_; have HO223 := n2_; have HO229 := n3_; have HO233 := n4_; have HO237 := n5_; have BK211 := n6_; have BK225 := n7_; have BK230 := n8_; have BK239 := n9_; have HB := n10_; clear n0_ n1_ n2_ n3_ n4_ n5_ n6_ n7_ n8_ n9_ n10_; (try clear hb); (try clear hb2); (try clear hk); (try clear hi)))
 go_meet
 case rel => exact ⟨_, ((t238 != t224)), (by first | rfl | (simp; done) | (simp [*]; done)), H', ⟨by first | omega | exact Nat.le_refl _⟩, ⟨by (with_reducible repeat first|apply rA|apply rN|apply rD); exact Kd.R_mono HO233.out (fun _ hk => trivial)⟩, ⟨by (with_reducible repeat first|apply rA|apply rN|apply rD); exact Kd.R_mono HO223.out (fun _ hk => ⟨hk.1.2, hk.2⟩)⟩, ⟨by (with_reducible repeat first|apply rA|apply rN|apply rD); exact Kd.R_mono HO229.out (fun _ hk => ⟨hk.1.2, hk.2⟩)⟩, ⟨by (with_reducible repeat first|apply rA|apply rN|apply rD); exact Kd.R_mono HO237.out (fun _ hk => ⟨hk.1.2, hk.2⟩)⟩, ⟨kX BK211⟩, ⟨kX BK225⟩, ⟨kX BK230⟩, ⟨kX BK239⟩, ⟨bX HB⟩⟩
 )
 case rest => (
 clear HC16
 try clear c1
 try clear c2
 try clear p2
 try clear c3
 try clear c3b0
 try clear c3b1
 try clear c4
 try clear c5
 try clear c6
 try clear c6b0
 try clear c9
 try clear c11
 try clear c13
 try clear c15
 try clear c17
 try clear c27
 try clear c33
 try clear c34
 try clear c35
 try clear c42
 try clear c43
 try clear c44
 try clear c48
 try clear c49
 try clear c50
 try clear c51
 try clear c53
 try clear c54
 try clear hcz18_0
 try clear hcz18_1
 try clear hcz20_0
 try clear hcz20_1
 try clear hcz28_0
 try clear hcz28_1
 try clear hcz30_0
 try clear hcz30_1
 try clear hcz35_0
 try clear hcz35_1
 try clear hcz38_0
 try clear hcz38_1
 try clear hcz45_0
 try clear hcz45_1
 try clear hcz52_0
 try clear hcz52_1
 try clear hcz55_0
 try clear hcz55_1
 try clear hcz8_0
 try clear hcz8_1
 try clear hfz18_0
 try clear hfz18_1
 try clear hfz20_0
 try clear hfz20_1
 try clear hfz28_0
 try clear hfz28_1
 try clear hfz30_0
 try clear hfz30_1
 try clear hfz35_0
 try clear hfz35_1
 try clear hfz38_0
 try clear hfz38_1
 try clear hfz45_0
 try clear hfz45_1
 try clear hfz52_0
 try clear hfz52_1
 try clear hfz55_0
 try clear hfz55_1
 try clear hfz8_0
 try clear hfz8_1
 obtain ⟨kq, x51_15, rfl, HA, HJ15, HO_9, HO_226001, HO_231001, HO_240001, BK211, BK225, BK230, BK239, HB⟩ := hcut
 cases kq with
 | zero => exact absurd HA.out (by simp [laws_FnExactFixTimes.j0])
 | succ kj15 => (
 have H := HA.out
 clear HA
 simp only [laws_FnExactFixTimes.j0] at H
 by_cases c57 : x51_15 = true
 {
 subst c57
 rw [if_pos rfl] at H
 obtain rfl := Option.some.inj H
 exact absurd hr_ (by decide)
 }
 replace c57 := Bool.eq_false_iff.mpr c57
 subst c57
 rw [if_neg (show ¬ (false = true) by decide)] at H
 replace H := Option.bind_eq_some_iff.mp H
 obtain ⟨⟨t241, t242⟩, A580, H⟩ := H
 replace H : ((laws_eqSimple.f kj15 t226 t227 t241 t242).bind fun t245 => (if t245 = true then ((laws_toIntS.f kj15 l1).bind fun t246 => ((laws_eqIntS.f kj15 t231 t246).bind fun t249 => (if t249 = true then ((laws_markSimple.f kj15 t226 t227 1).bind fun bt250 => ((laws_markIntS.f kj15 t231 bt250.1).bind fun bt252 => (if bt252.1 < 0 then (laws_FnExactFixTimes.j1 kj15 l1 t224 true a0_0 l0_1 t220 t221 t234 t235) else ((laws_eqSimple.f kj15 t234 t235 t220 t221).bind fun t254 => (if t254 = true then (laws_FnExactFixTimes.j1 kj15 l1 t224 (t238 != t224) a0_0 l0_1 t220 t221 t234 t235) else (laws_FnExactFixTimes.j1 kj15 l1 t224 true a0_0 l0_1 t220 t221 t234 t235)))))) else (some false)))) else (some false))) = some r := H
 have A58 := mK A580
 clear A580
 replace H := Option.bind_eq_some_iff.mp H
 obtain ⟨t245, A590, H⟩ := H
 replace H : (if t245 = true then ((laws_toIntS.f kj15 l1).bind fun t246 => ((laws_eqIntS.f kj15 t231 t246).bind fun t249 => (if t249 = true then ((laws_markSimple.f kj15 t226 t227 1).bind fun bt250 => ((laws_markIntS.f kj15 t231 bt250.1).bind fun bt252 => (if bt252.1 < 0 then (laws_FnExactFixTimes.j1 kj15 l1 t224 true a0_0 l0_1 t220 t221 t234 t235) else ((laws_eqSimple.f kj15 t234 t235 t220 t221).bind fun t254 => (if t254 = true then (laws_FnExactFixTimes.j1 kj15 l1 t224 (t238 != t224) a0_0 l0_1 t220 t221 t234 t235) else (laws_FnExactFixTimes.j1 kj15 l1 t224 true a0_0 l0_1 t220 t221 t234 t235)))))) else (some false)))) else (some false)) = some r := H
 have A59 := mK A590
 clear A590
 by_cases c60 : t245 = true
 rotate_left
 {
 replace c60 := Bool.eq_false_iff.mpr c60
 subst c60
 rw [if_neg (show ¬ (false = true) by decide)] at H
 obtain rfl := Option.some.inj H
 exact absurd hr_ (by decide)
 }
 subst c60
 rw [if_pos rfl] at H
 replace H := Option.bind_eq_some_iff.mp H
 obtain ⟨t246, A610, H⟩ := H
 replace H : ((laws_eqIntS.f kj15 t231 t246).bind fun t249 => (if t249 = true then ((laws_markSimple.f kj15 t226 t227 1).bind fun bt250 => ((laws_markIntS.f kj15 t231 bt250.1).bind fun bt252 => (if bt252.1 < 0 then (laws_FnExactFixTimes.j1 kj15 l1 t224 true a0_0 l0_1 t220 t221 t234 t235) else ((laws_eqSimple.f kj15 t234 t235 t220 t221).bind fun t254 => (if t254 = true then (laws_FnExactFixTimes.j1 kj15 l1 t224 (t238 != t224) a0_0 l0_1 t220 t221 t234 t235) else (laws_FnExactFixTimes.j1 kj15 l1 t224 true a0_0 l0_1 t220 t221 t234 t235)))))) else (some false))) = some r := H
 have A61 := mK A610
 clear A610
 replace H := Option.bind_eq_some_iff.mp H
 obtain ⟨t249, A620, H⟩ := H
 replace H : (if t249 = true then ((laws_markSimple.f kj15 t226 t227 1).bind fun bt250 => ((laws_markIntS.f kj15 t231 bt250.1).bind fun bt252 => (if bt252.1 < 0 then (laws_FnExactFixTimes.j1 kj15 l1 t224 true a0_0 l0_1 t220 t221 t234 t235) else ((laws_eqSimple.f kj15 t234 t235 t220 t221).bind fun t254 => (if t254 = true then (laws_FnExactFixTimes.j1 kj15 l1 t224 (t238 != t224) a0_0 l0_1 t220 t221 t234 t235) else (laws_FnExactFixTimes.j1 kj15 l1 t224 true a0_0 l0_1 t220 t221 t234 t235)))))) else (some false)) = some r := H
 have A62 := mK A620
 clear A620
 by_cases c63 : t249 = true
 rotate_left
 {
 replace c63 := Bool.eq_false_iff.mpr c63
 subst c63
 rw [if_neg (show ¬ (false = true) by decide)] at H
 obtain rfl := Option.some.inj H
 exact absurd hr_ (by decide)
 }
 subst c63
 rw [if_pos rfl] at H
 replace H := Option.bind_eq_some_iff.mp H
 obtain ⟨⟨t250, t251⟩, A640, H⟩ := H
 replace H : ((laws_markIntS.f kj15 t231 t250).bind fun bt252 => (if bt252.1 < 0 then (laws_FnExactFixTimes.j1 kj15 l1 t224 true a0_0 l0_1 t220 t221 t234 t235) else ((laws_eqSimple.f kj15 t234 t235 t220 t221).bind fun t254 => (if t254 = true then (laws_FnExactFixTimes.j1 kj15 l1 t224 (t238 != t224) a0_0 l0_1 t220 t221 t234 t235) else (laws_FnExactFixTimes.j1 kj15 l1 t224 true a0_0 l0_1 t220 t221 t234 t235))))) = some r := H
 have A64 := mK A640
 clear A640
 replace H := Option.bind_eq_some_iff.mp H
 obtain ⟨⟨t252, t253⟩, A650, H⟩ := H
 replace H : (if t252 < 0 then (laws_FnExactFixTimes.j1 kj15 l1 t224 true a0_0 l0_1 t220 t221 t234 t235) else ((laws_eqSimple.f kj15 t234 t235 t220 t221).bind fun t254 => (if t254 = true then (laws_FnExactFixTimes.j1 kj15 l1 t224 (t238 != t224) a0_0 l0_1 t220 t221 t234 t235) else (laws_FnExactFixTimes.j1 kj15 l1 t224 true a0_0 l0_1 t220 t221 t234 t235)))) = some r := H
 have A65 := mK A650
 clear A650
 have HC66 := mK H
 clear H
 try go_wp2
 have n0_ := mK (Kd.R_drew HO_9.out)
 have n1_ := mK (Kd.R_drew HO_226001.out)
 have n2_ := mK (Kd.R_drew HO_231001.out)
 have n3_ := mK (Kd.R_drew HO_240001.out)
 have n4_ := mK (blk_drew BK211.out)
 have n5_ := mK (blk_drew BK225.out)
 have n6_ := mK (blk_drew BK230.out)
 have n7_ := mK (blk_drew BK239.out)
 have n8_ := mK (below_drew1 HB.out)
 clear HO_9
 clear HO_226001
 clear HO_231001
 clear HO_240001
 clear BK211
 clear BK225
 clear BK230
 clear BK239
 clear HB
 have HO_9 := n0_
 have HO_226001 := n1_
 have HO_231001 := n2_
 have HO_240001 := n3_
 have BK211 := n4_
 have BK225 := n5_
 have BK230 := n6_
 have BK239 := n7_
 have HB := n8_
 clear n0_ n1_ n2_ n3_ n4_ n5_ n6_ n7_ n8_
 refine start_ (n := 5) (S := fun w' => w'.cell? ⟨gb230, 0, none⟩ = some (.int .i64 t226) ∧ w'.cell? ⟨gb230, 1, none⟩ = some (.slice Ao36 t227.length co36) ∧ w'.cell? ⟨gb211, 0, none⟩ = some (.int .i64 a0_0) ∧ w'.cell? ⟨gb211, 1, none⟩ = some (.slice A0_1 l0_1.length c0_1)) (ds := []) (bs 0 5) (by kernel_rfl) rfl (by kernel_rfl) ⟨(blk_cell BK230.out 0).trans rfl, (blk_cell BK230.out 1).trans rfl, (blk_cell BK211.out 0).trans rfl, (blk_cell BK211.out 1).trans rfl⟩ (fun hHeld => ?_)
 generalize wc.drew = w67 at HO_9 HO_226001 HO_231001 HO_240001 BK211 BK225 BK230 BK239 HB hHeld ⊢
 refine take_ (i := 0) (N := some 52) (v := ?_) (a' := ?_) (bs 1 5) rfl rfl (by kernel_rfl) (fun _ _ _ h => h) (Or.inl ⟨by rfl, ?_⟩) hHeld ?_ ?_
 rotate_left
 {
 rintro w' ⟨s0, s1, s2, s3⟩
 go_simp
 with_reducible rfl
 }
 rotate_left
 {
 simp only [Act.put, sT, sZ, sU, i64_w, i32_w]
 rfl
 }
 refine take_ (i := 1) (N := some 53) (v := ?_) (a' := ?_) (bs 2 5) rfl rfl (by kernel_rfl) (fun _ _ _ h => h) (Or.inl ⟨by rfl, ?_⟩) hHeld ?_ ?_
 rotate_left
 {
 rintro w' ⟨s0, s1, s2, s3⟩
 go_simp
 with_reducible rfl
 }
 rotate_left
 {
 simp only [Act.put, sT, sZ, sU, i64_w, i32_w]
 rfl
 }
 refine one_ (i := 2) (N := some 54) (bs 3 5) rfl rfl (by kernel_rfl) (by decide) (fun K hK => ?_)
 refine gsK Try.func13 #[.agg #[.int .i64 a0_0, .slice A0_1 l0_1.length c0_1]] ?_
 with_reducible refine (laws_toSimple.calls kj15 a0_0 _ _ l0_1 t241 t242 _ ?side1 ?side2 A58.out).mono ?_
 (case side1 => exact cX HR0_1 HB)
 (case side2 => exact HC0_1.out)
 rintro e w68 ⟨v243, rfl, ho0, hb⟩
 refine ⟨_, rfl, ?_⟩
 have n0_ := mK (Kd.R_below (rX HO_9) hb)
 have n1_ := mK (Kd.R_elder' (rX HO_226001) (Kd.R_base ho0) hb)
 have n2_ := mK (Kd.R_elder' (rX HO_231001) (Kd.R_base ho0) hb)
 have n3_ := mK (Kd.R_elder' (rX HO_240001) (Kd.R_base ho0) hb)
 have n4_ := mK (Kd.R_lower (Kd.R_new' (Kd.R_new' (Kd.R_new' ho0 (Kd.R_lt (rX HO_226001))) (Kd.R_lt (rX HO_231001))) (Kd.R_lt (rX HO_240001))) (below_size (bX HB)))
 have n5_ := kB BK211 hb
 have n6_ := kB BK225 hb
 have n7_ := kB BK230 hb
 have n8_ := kB BK239 hb
 have n9_ := bB HB hb
 clear HO_9
 clear HO_226001
 clear HO_231001
 clear HO_240001
 clear BK211
 clear BK225
 clear BK230
 clear BK239
 clear HB
 have HO_9 := n0_
 have HO_226001 := n1_
 have HO_231001 := n2_
 have HO_240001 := n3_
 have HO244 := n4_
 have BK211 := n5_
 have BK225 := n6_
 have BK230 := n7_
 have BK239 := n8_
 have HB := n9_
 clear n0_ n1_ n2_ n3_ n4_ n5_ n6_ n7_ n8_ n9_
 (try clear hb)
 (try clear hb2)
 (try clear hk)
 (try clear hi)
 (try clear ho0)
 obtain ⟨Ao69, co69, eo69⟩ := Kd.R_slice HO244.out
 (first | subst eo69 | (injection eo69 with f1_ f2_ f3_; have f4_ := f1_.symm; have f5_ := f3_.symm; clear f1_ f2_ f3_; subst f4_; subst f5_))
 refine hK.out _ _ ⟨(blk_cell BK230.out 0).trans rfl, (blk_cell BK230.out 1).trans rfl, (blk_cell BK211.out 0).trans rfl, (blk_cell BK211.out 1).trans rfl⟩ (fun hHeld => ?_)
 clear hK K
 refine norm_ (a' := ?_) ?_ ?_
 rotate_left
 {
 show Act.put _ (some 54) _ = _
 simp only [Act.put, sT, sZ, sU, i64_w, i32_w]
 rfl
 }
 refine one_ (i := 3) (N := some 55) (bs 4 5) rfl rfl (by kernel_rfl) (by decide) (fun K hK => ?_)
 refine gsK Try.func15 #[.agg #[.int .i64 t226, .slice Ao36 t227.length co36], .agg #[.int .i64 t241, .slice Ao69 t242.length co69]] ?_
 with_reducible refine (laws_eqSimple.calls kj15 t226 _ _ t227 t241 _ _ t242 true _ ?side1 ?side2 ?side3 ?side4 A59.out).mono ?_
 (case side1 => repeat (first | exact (Kd.R_reads' HO_231001.out).2.2 | (with_reducible refine Kd.C_alloc ?_ _) | (with_reducible refine Kd.C_drewN ?_ _) | (with_reducible refine Kd.C_drew ?_)))
 (case side2 => exact (Kd.R_reads' HO_231001.out).2.1)
 (case side3 => repeat (first | exact (Kd.R_reads' HO244.out).2.2 | (with_reducible refine Kd.C_alloc ?_ _) | (with_reducible refine Kd.C_drewN ?_ _) | (with_reducible refine Kd.C_drew ?_)))
 (case side4 => exact (Kd.R_reads' HO244.out).2.1)
 rintro e w70 ⟨rfl, hb⟩
 refine ⟨_, rfl, ?_⟩
 have n0_ := mK (Kd.R_below (rX HO_9) hb)
 have n1_ := mK (Kd.R_below (rX HO_226001) hb)
 have n2_ := mK (Kd.R_below (rX HO_231001) hb)
 have n3_ := mK (Kd.R_below (rX HO_240001) hb)
 have n4_ := mK (Kd.R_below (rX HO244) hb)
 have n5_ := kB BK211 hb
 have n6_ := kB BK225 hb
 have n7_ := kB BK230 hb
 have n8_ := kB BK239 hb
 have n9_ := bB HB hb
 clear HO_9
 clear HO_226001
 clear HO_231001
 clear HO_240001
 clear HO244
 clear BK211
 clear BK225
 clear BK230
 clear BK239
 clear HB
 have HO_9 := n0_
 have HO_226001 := n1_
 have HO_231001 := n2_
 have HO_240001 := n3_
 have HO244 := n4_
 have BK211 := n5_
 have BK225 := n6_
 have BK230 := n7_
 have BK239 := n8_
 have HB := n9_
 clear n0_ n1_ n2_ n3_ n4_ n5_ n6_ n7_ n8_ n9_
 (try clear hb)
 (try clear hb2)
 (try clear hk)
 (try clear hi)
 refine hK.out _ _ ⟨(blk_cell BK230.out 0).trans rfl, (blk_cell BK230.out 1).trans rfl, (blk_cell BK211.out 0).trans rfl, (blk_cell BK211.out 1).trans rfl⟩ (fun hHeld => ?_)
 clear hK K
 refine norm_ (a' := ?_) ?_ ?_
 rotate_left
 {
 show Act.put _ (some 55) _ = _
 simp only [Act.put, sT, sZ, sU, i64_w, i32_w]
 rfl
 }
 refine pure_ (i := 4) (N := some 56) (v := ?_) (a' := ?_) (bs 5 5) rfl rfl (by kernel_rfl) (fun _ _ _ h => h) (Or.inl ⟨by rfl, ?_⟩) ?_ ?_
 rotate_left
 {
 intro w'
 go_simp
 with_reducible rfl
 }
 rotate_left
 {
 simp only [Act.put, sT, sZ, sU, i64_w, i32_w]
 rfl
 }
 refine done_ (by kernel_rfl) ?_
 go_upto_region 20 with (first | ((with_reducible refine gate_callee (f := 17) rfl ?_); refine gsE (some 59) Try.func17 #[.slice A1 l1.length c1] ?_; (with_reducible refine (laws_toIntS.calls kj15 _ _ l1 t246 _ ?side1 ?side2 A61.out).mono ?_); (case side1 => exact cX HR1 HB); (case side2 => exact HC1.out); rintro e w71 ⟨v247, rfl, ho0, hb⟩; refine ⟨_, rfl, ?_⟩; replace HO_226001 := mK (Kd.R_below (rX HO_226001) hb); replace HO_231001 := mK (Kd.R_below (rX HO_231001) hb); replace HO_240001 := mK (Kd.R_below (rX HO_240001) hb); replace HO244 := mK (Kd.R_below (rX HO244) hb); have HO248 := mK (Kd.R_lower (Kd.R_new' ho0 (Kd.R_lt (rX HO_9))) (below_size (bX HB))); replace HO_9 := mK (Kd.R_elder' (rX HO_9) (Kd.R_base ho0) hb); replace BK211 := kB BK211 hb; replace BK225 := kB BK225 hb; replace BK230 := kB BK230 hb; replace BK239 := kB BK239 hb; replace HB := bB HB hb; (try clear hb); (try clear hb2); (try clear hk); (try clear hi); (try clear ho0); obtain ⟨Ao72, co72, eo72⟩ := Kd.R_slice HO248.out; subst eo72) | ((with_reducible refine gate_callee (f := 19) rfl ?_); refine gsE (some 60) Try.func19 #[.slice Ao39 t231.length co39, .slice Ao72 t246.length co72] ?_; (with_reducible refine (laws_eqIntS.calls kj15 _ _ t231 _ _ t246 true _ ?side1 ?side2 ?side3 ?side4 A62.out).mono ?_); (case side1 => repeat (first | exact (Kd.R_reads' HO_9.out).2.2 | (with_reducible refine Kd.C_alloc ?_ _) | (with_reducible refine Kd.C_drewN ?_ _) | (with_reducible refine Kd.C_drew ?_))); (case side2 => exact (Kd.R_reads' HO_9.out).2.1); (case side3 => repeat (first | exact (Kd.R_reads' HO248.out).2.2 | (with_reducible refine Kd.C_alloc ?_ _) | (with_reducible refine Kd.C_drewN ?_ _) | (with_reducible refine Kd.C_drew ?_))); (case side4 => exact (Kd.R_reads' HO248.out).2.1); rintro e w' ⟨rfl, ⟨nd, rfl⟩⟩; refine ⟨_, rfl, ?_⟩; have hnb73 := NB230_211.out; have hnc73 := NB211_230.out; have hnb74 := NB230_225.out; have hnc74 := NB225_230.out; have hnb75 := NB230_239.out; have hnc75 := NB239_230.out; have hcz76_0 := q0 BK230; have hcz76_1 := q1 BK230; have hfz76_0 := fX BK230 0; have hfz76_1 := fX BK230 1) | ((with_reducible refine gate_callee (f := 27) rfl ?_); refine gsE (some 64) Try.func27 #[.agg #[.int .i64 t226, .slice Ao36 t227.length co36], .int .i64 1] ?_; (with_reducible refine (laws_markSimple.calls kj15 t226 (fun k_ => some k_ = (.slice Ao36 t227.length co36 : Value).ownBlock) (.slice Ao36 t227.length co36) t227 1 t250 t251 w _ ?side1 ?side2 A64.out).mono ?_); (case side1 => repeat (first | (with_reducible first | exact HB.out | apply below_alloc | apply pw_below_drewN | apply below_drew1 | refine below_set ?_ GE211.out | refine below_set ?_ GE225.out | refine below_set ?_ GE230.out | refine below_set ?_ GE239.out) | exact HB.out)); (case side2 => exact Kd.R_tight rfl HO_231001.out); rintro e w77 ⟨rfl, hy0, hb, hkp⟩; refine ⟨_, rfl, ?_⟩; replace HO_9 := mK (Kd.R_mono (ok' := fun k_ => some k_ ≠ (.slice Ao72 t246.length co72 : Value).ownBlock) (Kd.R_keptB ((Kd.R_apart' HO_9.out (Kd.R_typed HO_231001.out) (by decide))) hkp (fun k_ hk_ hs_ => (hk_.2) hs_)) (fun k_ hk_ => hk_.1.1.2)); replace HO_226001 := mK (Kd.R_mono (ok' := fun k_ => some k_ ≠ (.slice Ao36 t227.length co36 : Value).ownBlock ∧ some k_ ≠ (.slice Ao46 t235.length co46 : Value).ownBlock ∧ some k_ ≠ (.slice Ao69 t242.length co69 : Value).ownBlock) (Kd.R_keptB (HO_226001.out) hkp (fun k_ hk_ hs_ => (hk_.1.1) hs_)) (fun k_ hk_ => ⟨hk_.1.1.1, hk_.1.1.2, hk_.1.2⟩)); replace HO_240001 := mK (Kd.R_mono (ok' := fun k_ => some k_ ≠ (.slice Ao29 t221.length co29 : Value).ownBlock ∧ some k_ ≠ (.slice Ao36 t227.length co36 : Value).ownBlock ∧ some k_ ≠ (.slice Ao69 t242.length co69 : Value).ownBlock) (Kd.R_keptB (HO_240001.out) hkp (fun k_ hk_ hs_ => (hk_.1.2) hs_)) (fun k_ hk_ => ⟨hk_.1.1.1, hk_.1.1.2, hk_.1.2⟩)); replace BK211 := mK (blk_kept (kX BK211) hkp (fun hs_ => (fun e_ => (Kd.R_ne HO_231001.out BK211.out (by decide)) e_) hs_)); replace BK225 := mK (blk_kept (kX BK225) hkp (fun hs_ => (fun e_ => (Kd.R_ne HO_231001.out BK225.out (by decide)) e_) hs_)); replace BK230 := mK (blk_kept (kX BK230) hkp (fun hs_ => (fun e_ => (Kd.R_ne HO_231001.out BK230.out (by decide)) e_) hs_)); replace BK239 := mK (blk_kept (kX BK239) hkp (fun hs_ => (fun e_ => (Kd.R_ne HO_231001.out BK239.out (by decide)) e_) hs_)); replace HO244 := mK (Kd.R_mono (ok' := fun k_ => some k_ ≠ (.slice Ao29 t221.length co29 : Value).ownBlock ∧ some k_ ≠ (.slice Ao36 t227.length co36 : Value).ownBlock ∧ some k_ ≠ (.slice Ao46 t235.length co46 : Value).ownBlock) (Kd.R_keptB (HO244.out) hkp (fun k_ hk_ hs_ => (hk_.1.2) hs_)) (fun k_ hk_ => ⟨hk_.1.1.1.2, hk_.1.1.2, hk_.1.2⟩)); replace HO248 := mK (Kd.R_mono (ok' := fun k_ => some k_ ≠ (.slice Ao39 t231.length co39 : Value).ownBlock) (Kd.R_keptB ((Kd.R_apart' HO248.out (Kd.R_typed HO_231001.out) (by decide))) hkp (fun k_ hk_ hs_ => (hk_.2) hs_)) (fun k_ hk_ => hk_.1.1.2)); replace HO_231001 := mK (Kd.R_reok rfl hy0 (fun k_ e_ => HO_231001.out.1 k_ e_)); replace HB := mK (hb); (try clear hb); (try clear hkp); (try clear hy0)) | ((with_reducible refine gate_callee (f := 36) rfl ?_); refine gsE (some 67) Try.func36 #[.slice Ao39 t231.length co39, .int .i64 t250] ?_; (with_reducible refine (laws_markIntS.calls kj15 (fun k_ => some k_ = (.slice Ao39 t231.length co39 : Value).ownBlock) (.slice Ao39 t231.length co39) t231 t250 t252 t253 w _ ?side1 ?side2 A65.out).mono ?_); (case side1 => repeat (first | (with_reducible first | exact HB.out | apply below_alloc | apply pw_below_drewN | apply below_drew1 | refine below_set ?_ GE211.out | refine below_set ?_ GE225.out | refine below_set ?_ GE230.out | refine below_set ?_ GE239.out) | exact HB.out)); (case side2 => exact Kd.R_tight rfl HO_9.out); rintro e w78 ⟨rfl, hy0, hb, hkp⟩; refine ⟨_, rfl, ?_⟩; replace HO_226001 := mK (Kd.R_mono (ok' := fun k_ => some k_ ≠ (.slice Ao36 t227.length co36 : Value).ownBlock ∧ some k_ ≠ (.slice Ao46 t235.length co46 : Value).ownBlock ∧ some k_ ≠ (.slice Ao69 t242.length co69 : Value).ownBlock) (Kd.R_keptB ((Kd.R_apart' HO_226001.out (Kd.R_typed HO_9.out) (by decide))) hkp (fun k_ hk_ hs_ => (hk_.2) hs_)) (fun k_ hk_ => ⟨hk_.1.1.1, hk_.1.1.2.1, hk_.1.1.2.2⟩)); replace HO_231001 := mK (Kd.R_mono (ok' := fun k_ => some k_ ≠ (.slice Ao29 t221.length co29 : Value).ownBlock ∧ some k_ ≠ (.slice Ao46 t235.length co46 : Value).ownBlock ∧ some k_ ≠ (.slice Ao69 t242.length co69 : Value).ownBlock) (Kd.R_keptB ((Kd.R_apart' HO_231001.out (Kd.R_typed HO_9.out) (by decide))) hkp (fun k_ hk_ hs_ => (hk_.2) hs_)) (fun k_ hk_ => ⟨hk_.1.1.1.1, hk_.1.1.1.2, hk_.1.1.2⟩)); replace HO_240001 := mK (Kd.R_mono (ok' := fun k_ => some k_ ≠ (.slice Ao29 t221.length co29 : Value).ownBlock ∧ some k_ ≠ (.slice Ao36 t227.length co36 : Value).ownBlock ∧ some k_ ≠ (.slice Ao69 t242.length co69 : Value).ownBlock) (Kd.R_keptB ((Kd.R_apart' HO_240001.out (Kd.R_typed HO_9.out) (by decide))) hkp (fun k_ hk_ hs_ => (hk_.2) hs_)) (fun k_ hk_ => ⟨hk_.1.1.1, hk_.1.1.2.1, hk_.1.1.2.2⟩)); replace BK211 := mK (blk_kept (kX BK211) hkp (fun hs_ => (fun e_ => (Kd.R_ne HO_9.out BK211.out (by decide)) e_) hs_)); replace BK225 := mK (blk_kept (kX BK225) hkp (fun hs_ => (fun e_ => (Kd.R_ne HO_9.out BK225.out (by decide)) e_) hs_)); replace BK230 := mK (blk_kept (kX BK230) hkp (fun hs_ => (fun e_ => (Kd.R_ne HO_9.out BK230.out (by decide)) e_) hs_)); replace BK239 := mK (blk_kept (kX BK239) hkp (fun hs_ => (fun e_ => (Kd.R_ne HO_9.out BK239.out (by decide)) e_) hs_)); replace HO244 := mK (Kd.R_mono (ok' := fun k_ => some k_ ≠ (.slice Ao29 t221.length co29 : Value).ownBlock ∧ some k_ ≠ (.slice Ao36 t227.length co36 : Value).ownBlock ∧ some k_ ≠ (.slice Ao46 t235.length co46 : Value).ownBlock) (Kd.R_keptB ((Kd.R_apart' HO244.out (Kd.R_typed HO_9.out) (by decide))) hkp (fun k_ hk_ hs_ => (hk_.2) hs_)) (fun k_ hk_ => ⟨hk_.1.1.1, hk_.1.1.2.1, hk_.1.1.2.2⟩)); replace HO_9 := mK (Kd.R_reok rfl hy0 (fun k_ e_ => HO_9.out.1 k_ e_)); replace HO248 := mK (Kd.R_mono (ok' := fun k_ => some k_ ≠ (.slice Ao39 t231.length co39 : Value).ownBlock) (Kd.R_keptB (HO248.out) hkp (fun k_ hk_ hs_ => (hk_) hs_)) (fun k_ hk_ => hk_.1)); replace HB := mK (hb); (try clear hb); (try clear hkp); (try clear hy0)))
 (try simp only [Act.put, sT, sZ, sU])
 go_cut [80] (fun v80 wc => ∃ (kq : Nat) (x80_65 : Bool), v80 = .bool x80_65 ∧ Aside0 (laws_FnExactFixTimes.j1 kq l1 t224 x80_65 a0_0 l0_1 t220 t221 t234 t235 = some r) ∧ Aside0 (kq ≤ kj15) ∧ Aside0 (Kd.R k47 47 wc w.heap.size (fun k_ => some k_ ≠ ((.slice Ao36 t227.length co36) : Value).ownBlock ∧ some k_ ≠ ((.slice Ao46 t235.length co46) : Value).ownBlock) (.slice Ao29 t221.length co29) t221) ∧ Aside0 (Kd.R k47 47 wc w.heap.size (fun k_ => some k_ ≠ ((.slice Ao29 t221.length co29) : Value).ownBlock ∧ some k_ ≠ ((.slice Ao46 t235.length co46) : Value).ownBlock) (.slice Ao36 t227.length co36) t251) ∧ Aside0 (Kd.R k47 47 wc w.heap.size (fun k_ => some k_ ≠ ((.slice Ao29 t221.length co29) : Value).ownBlock ∧ some k_ ≠ ((.slice Ao36 t227.length co36) : Value).ownBlock) (.slice Ao46 t235.length co46) t235) ∧ Aside0 (wc.heap[gb211]? = some (.cells #[.int .i64 a0_0, (.slice A0_1 l0_1.length c0_1)] 24 (0, 0))) ∧ Aside0 (wc.heap[gb225]? = some (.cells #[.int .i64 t220, (.slice Ao29 t221.length co29)] 29 (0, 0))) ∧ Aside0 (wc.heap[gb230]? = some (.cells #[.int .i64 t226, (.slice Ao36 t227.length co36)] 29 (0, 0))) ∧ Aside0 (wc.heap[gb239]? = some (.cells #[.int .i64 t234, (.slice Ao46 t235.length co46)] 29 (0, 0))) ∧ Aside0 (Below w.heap.size w wc))
 case first => (
 have H := HC66.out
 clear HC66
 by_cases c79 : t252 < 0
 {
 rw [if_pos c79] at H
 have c79b0 : decide (t252 < 0) = true := decide_eq_true c79
 clear c79
 (first | rw [c79b0] | (simp only [i64_w, i32_w]; rw [c79b0]) | skip)
 subst hr_
 exact absurd H (by cases kj15 <;> simp [laws_FnExactFixTimes.j1])
 }
 rw [if_neg c79] at H
 have c79b0 : decide (t252 < 0) = false := decide_eq_false c79
 clear c79
 (first | rw [c79b0] | (simp only [i64_w, i32_w]; rw [c79b0]) | skip)
 replace H := Option.bind_eq_some_iff.mp H
 obtain ⟨t254, A800, H⟩ := H
 replace H : (if t254 = true then (laws_FnExactFixTimes.j1 kj15 l1 t224 (t238 != t224) a0_0 l0_1 t220 t221 t234 t235) else (laws_FnExactFixTimes.j1 kj15 l1 t224 true a0_0 l0_1 t220 t221 t234 t235)) = some r := H
 have A80 := mK A800
 clear A800
 by_cases c81 : t254 = true
 rotate_left
 {
 replace c81 := Bool.eq_false_iff.mpr c81
 subst c81
 rw [if_neg (show ¬ (false = true) by decide)] at H
 subst hr_
 exact absurd H (by cases kj15 <;> simp [laws_FnExactFixTimes.j1])
 }
 subst c81
 rw [if_pos rfl] at H
 have H' := mK H
 clear H
 have hnb82 := NB239_211.out
 have hnc82 := NB211_239.out
 have hnb83 := NB239_225.out
 have hnc83 := NB225_239.out
 have hnb84 := NB239_230.out
 have hnc84 := NB230_239.out
 have hcz85_0 := q0 BK239
 have hcz85_1 := q1 BK239
 have hfz85_0 := fX BK239 0
 have hfz85_1 := fX BK239 1
 have hnb86 := NB225_211.out
 have hnc86 := NB211_225.out
 have hnb87 := NB225_230.out
 have hnc87 := NB230_225.out
 have hcz88_0 := q0 BK225
 have hcz88_1 := q1 BK225
 have hfz88_0 := fX BK225 0
 have hfz88_1 := fX BK225 1
 go_wp2_with (first | (go_at_call 15; (with_reducible refine (laws_eqSimple.calls kj15 t234 _ _ t235 t220 _ _ t221 true _ ?side1 ?side2 ?side3 ?side4 A80.out).mono ?_); (case side1 => repeat (first | exact (Kd.R_reads' HO_240001.out).2.2 | (with_reducible refine Kd.C_alloc ?_ _) | (with_reducible refine Kd.C_drewN ?_ _) | (with_reducible refine Kd.C_drew ?_))); (case side2 => exact (Kd.R_reads' HO_240001.out).2.1); (case side3 => repeat (first | exact (Kd.R_reads' HO_226001.out).2.2 | (with_reducible refine Kd.C_alloc ?_ _) | (with_reducible refine Kd.C_drewN ?_ _) | (with_reducible refine Kd.C_drew ?_))); (case side4 => exact (Kd.R_reads' HO_226001.out).2.1); rintro e w89 ⟨rfl, hb⟩; replace HO_9 := mK (Kd.R_below (rX HO_9) hb); replace HO_226001 := mK (Kd.R_below (rX HO_226001) hb); replace HO_231001 := mK (Kd.R_below (rX HO_231001) hb); replace HO_240001 := mK (Kd.R_below (rX HO_240001) hb); replace HO244 := mK (Kd.R_below (rX HO244) hb); replace HO248 := mK (Kd.R_below (rX HO248) hb); replace BK211 := kB BK211 hb; replace BK225 := kB BK225 hb; replace BK230 := kB BK230 hb; replace BK239 := kB BK239 hb; replace HB := bB HB hb; (try clear hb); (try clear hb2); (try clear hk); (try clear hi)))
 go_meet
 case rel => exact ⟨_, ((t238 != t224)), (by first | rfl | (simp; done) | (simp [*]; done)), H', ⟨by have := HJ15.out; first | omega | exact Nat.le_refl _⟩, ⟨by (with_reducible repeat first|apply rA|apply rN|apply rD); exact Kd.R_mono HO_226001.out (fun _ hk => ⟨hk.1, hk.2.1⟩)⟩, ⟨by (with_reducible repeat first|apply rA|apply rN|apply rD); exact Kd.R_mono HO_231001.out (fun _ hk => ⟨hk.1, hk.2.1⟩)⟩, ⟨by (with_reducible repeat first|apply rA|apply rN|apply rD); exact Kd.R_mono HO_240001.out (fun _ hk => ⟨hk.1, hk.2.1⟩)⟩, ⟨kX BK211⟩, ⟨kX BK225⟩, ⟨kX BK230⟩, ⟨kX BK239⟩, ⟨bX HB⟩⟩
 )
 case rest => (
 clear HC66
 try clear c1
 try clear c2
 try clear p2
 try clear c3
 try clear c3b0
 try clear c3b1
 try clear c4
 try clear c5
 try clear c6
 try clear c6b0
 try clear c7
 try clear c8
 try clear c9
 try clear c11
 try clear c13
 try clear c15
 try clear c17
 try clear c19
 try clear c27
 try clear c33
 try clear c34
 try clear c35
 try clear c36
 try clear c42
 try clear c43
 try clear c44
 try clear c48
 try clear c49
 try clear c50
 try clear c51
 try clear c53
 try clear c54
 try clear c57
 try clear c60
 try clear c63
 try clear c73
 try clear c74
 try clear c75
 try clear c79
 try clear c79b0
 try clear c81
 try clear c82
 try clear c83
 try clear c84
 try clear c86
 try clear c87
 try clear hcz18_0
 try clear hcz18_1
 try clear hcz20_0
 try clear hcz20_1
 try clear hcz28_0
 try clear hcz28_1
 try clear hcz30_0
 try clear hcz30_1
 try clear hcz35_0
 try clear hcz35_1
 try clear hcz38_0
 try clear hcz38_1
 try clear hcz45_0
 try clear hcz45_1
 try clear hcz52_0
 try clear hcz52_1
 try clear hcz55_0
 try clear hcz55_1
 try clear hcz76_0
 try clear hcz76_1
 try clear hcz85_0
 try clear hcz85_1
 try clear hcz88_0
 try clear hcz88_1
 try clear hcz8_0
 try clear hcz8_1
 try clear hfz18_0
 try clear hfz18_1
 try clear hfz20_0
 try clear hfz20_1
 try clear hfz28_0
 try clear hfz28_1
 try clear hfz30_0
 try clear hfz30_1
 try clear hfz35_0
 try clear hfz35_1
 try clear hfz38_0
 try clear hfz38_1
 try clear hfz45_0
 try clear hfz45_1
 try clear hfz52_0
 try clear hfz52_1
 try clear hfz55_0
 try clear hfz55_1
 try clear hfz76_0
 try clear hfz76_1
 try clear hfz85_0
 try clear hfz85_1
 try clear hfz88_0
 try clear hfz88_1
 try clear hfz8_0
 try clear hfz8_1
 try clear p2
 obtain ⟨kq, x80_65, rfl, HA, HJ65, HO_226001, HO_231001, HO_240001, BK211, BK225, BK230, BK239, HB⟩ := hcut
 have hl231001_65 := (Kd.R_reads' HO_231001.out).1
 rw [hl231001_65] at HO_231001
 (try simp only [hl231001_65])
 (try simp only [hl231001_65] at BK211)
 (try simp only [hl231001_65] at BK225)
 (try simp only [hl231001_65] at BK230)
 (try simp only [hl231001_65] at BK239)
 (try simp only [hl231001_65] at HO_226001)
 (try simp only [hl231001_65] at HO_240001)
 cases kq with
 | zero => exact absurd HA.out (by simp [laws_FnExactFixTimes.j1])
 | succ kj65 => (
 have H := HA.out
 clear HA
 simp only [laws_FnExactFixTimes.j1] at H
 by_cases c90 : x80_65 = true
 {
 subst c90
 rw [if_pos rfl] at H
 obtain rfl := Option.some.inj H
 exact absurd hr_ (by decide)
 }
 replace c90 := Bool.eq_false_iff.mpr c90
 subst c90
 rw [if_neg (show ¬ (false = true) by decide)] at H
 replace H := Option.bind_eq_some_iff.mp H
 obtain ⟨⟨t255, t256⟩, A910, H⟩ := H
 replace H : ((laws_heldSimple.f kj65 t234 t256 1).bind fun t257 => (if t257 < 0 then (some false) else (if t257 = t255 then ((laws_toSimple.f kj65 a0_0 l0_1).bind fun bt258 => ((laws_toIntS.f kj65 l1).bind fun t262 => ((impl_FixTimes.f kj65 bt258.1 bt258.2 t262).bind fun bt265 => ((laws_eqSimple.f kj65 bt265.1 bt265.2.1 t220 t221).bind fun t271 => (if t271 = true then (laws_FnExactFixTimes.j2 kj65 t255 (bt265.2.2 != t224) t234 t256) else (laws_FnExactFixTimes.j2 kj65 t255 true t234 t256)))))) else (some false)))) = some r := H
 have A91 := mK A910
 clear A910
 replace H := Option.bind_eq_some_iff.mp H
 obtain ⟨t257, A920, H⟩ := H
 replace H : (if t257 < 0 then (some false) else (if t257 = t255 then ((laws_toSimple.f kj65 a0_0 l0_1).bind fun bt258 => ((laws_toIntS.f kj65 l1).bind fun t262 => ((impl_FixTimes.f kj65 bt258.1 bt258.2 t262).bind fun bt265 => ((laws_eqSimple.f kj65 bt265.1 bt265.2.1 t220 t221).bind fun t271 => (if t271 = true then (laws_FnExactFixTimes.j2 kj65 t255 (bt265.2.2 != t224) t234 t256) else (laws_FnExactFixTimes.j2 kj65 t255 true t234 t256)))))) else (some false))) = some r := H
 have A92 := mK A920
 clear A920
 by_cases c93 : t257 < 0
 {
 rw [if_pos c93] at H
 have c93b0 : decide (t257 < 0) = true := decide_eq_true c93
 clear c93
 obtain rfl := Option.some.inj H
 exact absurd hr_ (by decide)
 }
 rw [if_neg c93] at H
 have c93b0 : decide (t257 < 0) = false := decide_eq_false c93
 clear c93
 by_cases c94 : t257 = t255
 rotate_left
 {
 rw [if_neg c94] at H
 have c94b0 : (t257 == t255) = false := beq_eq_false_iff_ne.mpr c94
 have c94b1 : (t257 != t255) = true := bne_iff_ne.mpr c94
 obtain rfl := Option.some.inj H
 exact absurd hr_ (by decide)
 }
 rw [if_pos c94] at H
 have c94b0 : (t257 == t255) = true := beq_iff_eq.mpr c94
 have c94b1 : (t257 != t255) = false := bne_eq_false_iff_eq.mpr c94
 clear c94
 replace H := Option.bind_eq_some_iff.mp H
 obtain ⟨⟨t258, t259⟩, A950, H⟩ := H
 replace H : ((laws_toIntS.f kj65 l1).bind fun t262 => ((impl_FixTimes.f kj65 t258 t259 t262).bind fun bt265 => ((laws_eqSimple.f kj65 bt265.1 bt265.2.1 t220 t221).bind fun t271 => (if t271 = true then (laws_FnExactFixTimes.j2 kj65 t255 (bt265.2.2 != t224) t234 t256) else (laws_FnExactFixTimes.j2 kj65 t255 true t234 t256))))) = some r := H
 have A95 := mK A950
 clear A950
 replace H := Option.bind_eq_some_iff.mp H
 obtain ⟨t262, A960, H⟩ := H
 replace H : ((impl_FixTimes.f kj65 t258 t259 t262).bind fun bt265 => ((laws_eqSimple.f kj65 bt265.1 bt265.2.1 t220 t221).bind fun t271 => (if t271 = true then (laws_FnExactFixTimes.j2 kj65 t255 (bt265.2.2 != t224) t234 t256) else (laws_FnExactFixTimes.j2 kj65 t255 true t234 t256)))) = some r := H
 have A96 := mK A960
 clear A960
 replace H := Option.bind_eq_some_iff.mp H
 obtain ⟨⟨t265, t266, t269⟩, A970, H⟩ := H
 replace H : ((laws_eqSimple.f kj65 t265 t266 t220 t221).bind fun t271 => (if t271 = true then (laws_FnExactFixTimes.j2 kj65 t255 (t269 != t224) t234 t256) else (laws_FnExactFixTimes.j2 kj65 t255 true t234 t256))) = some r := H
 have A97 := mK A970
 clear A970
 have HC98 := mK H
 clear H
 have hnb99 := NB239_211.out
 have hnc99 := NB211_239.out
 have hnb100 := NB239_225.out
 have hnc100 := NB225_239.out
 have hnb101 := NB239_230.out
 have hnc101 := NB230_239.out
 have hcz102_0 := q0 BK239
 have hcz102_1 := q1 BK239
 have hfz102_0 := fX BK239 0
 have hfz102_1 := fX BK239 1
 (try simp only [hl231001_65] at c3b0)
 (try simp only [hl231001_65] at c3b1)
 go_upto_region 31 with (first | ((with_reducible refine gate_callee (f := 27) rfl ?_); refine gsE (some 83) Try.func27 #[.agg #[.int .i64 t234, .slice Ao46 t235.length co46], .int .i64 1] ?_; (with_reducible refine (laws_markSimple.calls kj65 t234 (fun k_ => some k_ = (.slice Ao46 t235.length co46 : Value).ownBlock) (.slice Ao46 t235.length co46) t235 1 t255 t256 w _ ?side1 ?side2 A91.out).mono ?_); (case side1 => repeat (first | (with_reducible first | exact HB.out | apply below_alloc | apply pw_below_drewN | apply below_drew1 | refine below_set ?_ GE211.out | refine below_set ?_ GE225.out | refine below_set ?_ GE230.out | refine below_set ?_ GE239.out) | exact HB.out)); (case side2 => exact Kd.R_tight rfl HO_240001.out); rintro e w103 ⟨rfl, hy0, hb, hkp⟩; refine ⟨_, rfl, ?_⟩; replace HO_226001 := mK (Kd.R_mono (ok' := fun k_ => some k_ ≠ (.slice Ao36 t251.length co36 : Value).ownBlock ∧ some k_ ≠ (.slice Ao46 t235.length co46 : Value).ownBlock) (Kd.R_keptB (HO_226001.out) hkp (fun k_ hk_ hs_ => (hk_.2) hs_)) (fun k_ hk_ => ⟨hk_.1.1, hk_.1.2⟩)); replace HO_231001 := mK (Kd.R_mono (ok' := fun k_ => some k_ ≠ (.slice Ao29 t221.length co29 : Value).ownBlock ∧ some k_ ≠ (.slice Ao46 t235.length co46 : Value).ownBlock) (Kd.R_keptB (HO_231001.out) hkp (fun k_ hk_ hs_ => (hk_.2) hs_)) (fun k_ hk_ => ⟨hk_.1.1, hk_.1.2⟩)); replace BK211 := mK (blk_kept (kX BK211) hkp (fun hs_ => (fun e_ => (Kd.R_ne HO_240001.out BK211.out (by decide)) e_) hs_)); replace BK225 := mK (blk_kept (kX BK225) hkp (fun hs_ => (fun e_ => (Kd.R_ne HO_240001.out BK225.out (by decide)) e_) hs_)); replace BK230 := mK (blk_kept (kX BK230) hkp (fun hs_ => (fun e_ => (Kd.R_ne HO_240001.out BK230.out (by decide)) e_) hs_)); replace BK239 := mK (blk_kept (kX BK239) hkp (fun hs_ => (fun e_ => (Kd.R_ne HO_240001.out BK239.out (by decide)) e_) hs_)); replace HO_240001 := mK (Kd.R_reok rfl hy0 (fun k_ e_ => HO_240001.out.1 k_ e_)); replace HB := mK (hb); (try clear hb); (try clear hkp); (try clear hy0); have hcz104_0 := q0 BK239; have hcz104_1 := q1 BK239; have hfz104_0 := fX BK239 0; have hfz104_1 := fX BK239 1) | ((with_reducible refine gate_callee (f := 28) rfl ?_); refine goesL_ (some 86) rfl rfl Try.func28 (by kernel_rfl) rfl #[.agg #[.int .i64 t234, .slice Ao46 t256.length co46], .int .i64 1] rfl (by (try simp only [List.map_toArray, List.map_cons, List.map_nil]); first | done | (rw [show t256.length = t235.length from (Kd.R_reads' HO_240001.out).1.symm] <;> rfl) | rfl | (simp only [List.length_drop, List.length_take]; rfl)) ?_; (with_reducible refine (laws_heldSimple.calls kj65 t234 _ _ t256 1 t257 _ ?side1 ?side2 A92.out).mono ?_); (case side1 => repeat (first | exact (Kd.R_reads' HO_240001.out).2.2 | (with_reducible refine Kd.C_alloc ?_ _) | (with_reducible refine Kd.C_drewN ?_ _) | (with_reducible refine Kd.C_drew ?_))); (case side2 => rw [show t256.length = t235.length from (Kd.R_reads' HO_240001.out).1.symm]; exact (Kd.R_reads' HO_240001.out).2.1); rintro e w105 ⟨rfl, hb⟩; refine ⟨_, rfl, ?_⟩; replace HO_226001 := mK (Kd.R_below (rX HO_226001) hb); replace HO_231001 := mK (Kd.R_below (rX HO_231001) hb); replace HO_240001 := mK (Kd.R_below (rX HO_240001) hb); replace BK211 := kB BK211 hb; replace BK225 := kB BK225 hb; replace BK230 := kB BK230 hb; replace BK239 := kB BK239 hb; replace HB := bB HB hb; (try clear hb); (try clear hb2); (try clear hk); (try clear hi); have hnb106 := NB211_225.out; have hnc106 := NB225_211.out; have hnb107 := NB211_230.out; have hnc107 := NB230_211.out; have hcz108_0 := q0 BK211; have hcz108_1 := q1 BK211; have hfz108_0 := fX BK211 0; have hfz108_1 := fX BK211 1) | ((with_reducible refine gate_callee (f := 13) rfl ?_); refine gsE (some 94) Try.func13 #[.agg #[.int .i64 a0_0, .slice A0_1 l0_1.length c0_1]] ?_; (with_reducible refine (laws_toSimple.calls kj65 a0_0 _ _ l0_1 t258 t259 _ ?side1 ?side2 A95.out).mono ?_); (case side1 => exact cX HR0_1 HB); (case side2 => exact HC0_1.out); rintro e w109 ⟨v260, rfl, ho0, hb⟩; refine ⟨_, rfl, ?_⟩; have HO261 := mK (Kd.R_lower (Kd.R_new' (Kd.R_new' (Kd.R_new' ho0 (Kd.R_lt (rX HO_226001))) (Kd.R_lt (rX HO_231001))) (Kd.R_lt (rX HO_240001))) (below_size (bX HB))); replace HO_226001 := mK (Kd.R_elder' (rX HO_226001) (Kd.R_base ho0) hb); replace HO_231001 := mK (Kd.R_elder' (rX HO_231001) (Kd.R_base ho0) hb); replace HO_240001 := mK (Kd.R_elder' (rX HO_240001) (Kd.R_base ho0) hb); replace BK211 := kB BK211 hb; replace BK225 := kB BK225 hb; replace BK230 := kB BK230 hb; replace BK239 := kB BK239 hb; replace HB := bB HB hb; (try clear hb); (try clear hb2); (try clear hk); (try clear hi); (try clear ho0)) | ((with_reducible refine gate_callee (f := 17) rfl ?_); refine gsE (some 96) Try.func17 #[.slice A1 l1.length c1] ?_; (with_reducible refine (laws_toIntS.calls kj65 _ _ l1 t262 _ ?side1 ?side2 A96.out).mono ?_); (case side1 => exact cX HR1 HB); (case side2 => exact HC1.out); rintro e w110 ⟨v263, rfl, ho0, hb⟩; refine ⟨_, rfl, ?_⟩; replace HO_226001 := mK (Kd.R_below (rX HO_226001) hb); replace HO_231001 := mK (Kd.R_below (rX HO_231001) hb); replace HO_240001 := mK (Kd.R_below (rX HO_240001) hb); replace HO261 := mK (Kd.R_below (rX HO261) hb); have HO264 := mK (Kd.R_lower ho0 (below_size (bX HB))); replace BK211 := kB BK211 hb; replace BK225 := kB BK225 hb; replace BK230 := kB BK230 hb; replace BK239 := kB BK239 hb; replace HB := bB HB hb; (try clear hb); (try clear hb2); (try clear hk); (try clear hi); (try clear ho0); obtain ⟨Ao111, co111, eo111⟩ := Kd.R_slice HO261.out; subst eo111; obtain ⟨Ao112, co112, eo112⟩ := Kd.R_slice HO264.out; subst eo112) | ((with_reducible refine gate_callee (f := 35) rfl ?_); refine gsE (some 97) Try.func35 #[.agg #[.int .i64 t258, .slice Ao111 t259.length co111], .slice Ao112 t262.length co112] ?_; (with_reducible refine (impl_FixTimes.calls kj65 t258 _ _ t259 _ _ t262 t265 t266 t269 _ ?side1 ?side2 ?side3 ?side4 A97.out).mono ?_); (case side1 => repeat (first | exact (Kd.R_reads' HO261.out).2.2 | (with_reducible refine Kd.C_alloc ?_ _) | (with_reducible refine Kd.C_drewN ?_ _) | (with_reducible refine Kd.C_drew ?_))); (case side2 => exact (Kd.R_reads' HO261.out).2.1); (case side3 => repeat (first | exact (Kd.R_reads' HO264.out).2.2 | (with_reducible refine Kd.C_alloc ?_ _) | (with_reducible refine Kd.C_drewN ?_ _) | (with_reducible refine Kd.C_drew ?_))); (case side4 => exact (Kd.R_reads' HO264.out).2.1); rintro e w113 ⟨v267, rfl, ho0, hb⟩; refine ⟨_, rfl, ?_⟩; replace HO264 := mK (Kd.R_below (rX HO264) hb); have HO268 := mK (Kd.R_lower (Kd.R_new' (Kd.R_new' (Kd.R_new' (Kd.R_new' ho0 (Kd.R_lt (rX HO_226001))) (Kd.R_lt (rX HO_231001))) (Kd.R_lt (rX HO_240001))) (Kd.R_lt (rX HO261))) (below_size (bX HB))); replace HO_226001 := mK (Kd.R_elder' (rX HO_226001) (Kd.R_base ho0) hb); replace HO_231001 := mK (Kd.R_elder' (rX HO_231001) (Kd.R_base ho0) hb); replace HO_240001 := mK (Kd.R_elder' (rX HO_240001) (Kd.R_base ho0) hb); replace HO261 := mK (Kd.R_elder' (rX HO261) (Kd.R_base ho0) hb); replace BK211 := kB BK211 hb; replace BK225 := kB BK225 hb; replace BK230 := kB BK230 hb; replace BK239 := kB BK239 hb; replace HB := bB HB hb; (try clear hb); (try clear hb2); (try clear hk); (try clear hi); (try clear ho0)) | ((with_reducible refine gate_dst (N := 15) rfl ?_); refine bxE 15 #[.int .i64 0, .slice none 0 0] 29 ?_; intro gb270 hg w114 hbox hb; replace HO_226001 := mK (Kd.R_below (rX HO_226001) hb); replace HO_231001 := mK (Kd.R_below (rX HO_231001) hb); replace HO_240001 := mK (Kd.R_below (rX HO_240001) hb); replace HO261 := mK (Kd.R_below (rX HO261) hb); replace HO264 := mK (Kd.R_below (rX HO264) hb); replace HO268 := mK (Kd.R_below (rX HO268) hb); have BK270 := mK hbox; have GW270 := mK (gX hg HB); have GE270 := mK (gX hg HB); replace HB := bB HB hb; have NB211_270 := mK (lX hg BK211); have NB270_211 := mK (mX hg BK211); replace BK211 := kB BK211 hb; have NB225_270 := mK (lX hg BK225); have NB270_225 := mK (mX hg BK225); replace BK225 := kB BK225 hb; have NB230_270 := mK (lX hg BK230); have NB270_230 := mK (mX hg BK230); replace BK230 := kB BK230 hb; have NB239_270 := mK (lX hg BK239); have NB270_239 := mK (mX hg BK239); replace BK239 := kB BK239 hb; clear hb hbox hg; have hnb115 := NB270_211.out; have hnc115 := NB211_270.out; have hnb116 := NB270_225.out; have hnc116 := NB225_270.out; have hnb117 := NB270_230.out; have hnc117 := NB230_270.out; have hnb118 := NB270_239.out; have hnc118 := NB239_270.out; have hcz119_0 := q0 BK270; have hcz119_1 := q1 BK270; have hfz119_0 := fX BK270 0; have hfz119_1 := fX BK270 1; obtain ⟨Ao120, co120, eo120⟩ := Kd.R_slice HO268.out; subst eo120))
 (try simp only [Act.put, sT, sZ, sU])
 go_cut [108] (fun v108 wc => ∃ (kq : Nat) (x108_97 : Bool), v108 = .bool x108_97 ∧ Aside0 (laws_FnExactFixTimes.j2 kq t255 x108_97 t234 t256 = some r) ∧ Aside0 (kq ≤ kj65) ∧ Aside0 (Kd.R k47 47 wc w.heap.size (fun k_ => some k_ ≠ ((.slice Ao36 t251.length co36) : Value).ownBlock ∧ some k_ ≠ ((.slice Ao46 t235.length co46) : Value).ownBlock ∧ some k_ ≠ ((.slice Ao120 t266.length co120) : Value).ownBlock) (.slice Ao29 t221.length co29) t221) ∧ Aside0 (Kd.R k47 47 wc w.heap.size (fun k_ => some k_ ≠ ((.slice Ao29 t221.length co29) : Value).ownBlock ∧ some k_ ≠ ((.slice Ao46 t235.length co46) : Value).ownBlock ∧ some k_ ≠ ((.slice Ao120 t266.length co120) : Value).ownBlock) (.slice Ao36 t251.length co36) t251) ∧ Aside0 (Kd.R k47 47 wc w.heap.size (fun k_ => some k_ ≠ ((.slice Ao29 t221.length co29) : Value).ownBlock ∧ some k_ ≠ ((.slice Ao36 t251.length co36) : Value).ownBlock ∧ some k_ ≠ ((.slice Ao120 t266.length co120) : Value).ownBlock) (.slice Ao46 t235.length co46) t256) ∧ Aside0 (Kd.R k47 47 wc w.heap.size (fun k_ => some k_ ≠ ((.slice Ao29 t221.length co29) : Value).ownBlock ∧ some k_ ≠ ((.slice Ao36 t251.length co36) : Value).ownBlock ∧ some k_ ≠ ((.slice Ao46 t235.length co46) : Value).ownBlock) (.slice Ao120 t266.length co120) t266) ∧ Aside0 (wc.heap[gb211]? = some (.cells #[.int .i64 a0_0, (.slice A0_1 l0_1.length c0_1)] 24 (0, 0))) ∧ Aside0 (wc.heap[gb225]? = some (.cells #[.int .i64 t220, (.slice Ao29 t221.length co29)] 29 (0, 0))) ∧ Aside0 (wc.heap[gb230]? = some (.cells #[.int .i64 t226, (.slice Ao36 t251.length co36)] 29 (0, 0))) ∧ Aside0 (wc.heap[gb239]? = some (.cells #[.int .i64 t234, (.slice Ao46 t235.length co46)] 29 (0, 0))) ∧ Aside0 (wc.heap[gb270]? = some (.cells #[.int .i64 t265, (.slice Ao120 t266.length co120)] 29 (0, 0))) ∧ Aside0 (Below w.heap.size w wc))
 case first => (
 have H := HC98.out
 clear HC98
 replace H := Option.bind_eq_some_iff.mp H
 obtain ⟨t271, A1210, H⟩ := H
 replace H : (if t271 = true then (laws_FnExactFixTimes.j2 kj65 t255 (t269 != t224) t234 t256) else (laws_FnExactFixTimes.j2 kj65 t255 true t234 t256)) = some r := H
 have A121 := mK A1210
 clear A1210
 by_cases c122 : t271 = true
 rotate_left
 {
 replace c122 := Bool.eq_false_iff.mpr c122
 subst c122
 rw [if_neg (show ¬ (false = true) by decide)] at H
 subst hr_
 exact absurd H (by cases kj65 <;> simp [laws_FnExactFixTimes.j2])
 }
 subst c122
 rw [if_pos rfl] at H
 have H' := mK H
 clear H
 have hnb123 := NB270_211.out
 have hnc123 := NB211_270.out
 have hnb124 := NB270_225.out
 have hnc124 := NB225_270.out
 have hnb125 := NB270_230.out
 have hnc125 := NB230_270.out
 have hnb126 := NB270_239.out
 have hnc126 := NB239_270.out
 have hcz127_0 := q0 BK270
 have hcz127_1 := q1 BK270
 have hfz127_0 := fX BK270 0
 have hfz127_1 := fX BK270 1
 have hnb128 := NB225_211.out
 have hnc128 := NB211_225.out
 have hnb129 := NB225_230.out
 have hnc129 := NB230_225.out
 have hnb130 := NB225_239.out
 have hnc130 := NB239_225.out
 have hcz131_0 := q0 BK225
 have hcz131_1 := q1 BK225
 have hfz131_0 := fX BK225 0
 have hfz131_1 := fX BK225 1
 go_wp2_with (first | ((with_reducible refine gate_callee (f := 15) rfl ?_); refine gsE (some 102) Try.func15 #[.agg #[.int .i64 t265, .slice Ao120 t266.length co120], .agg #[.int .i64 t220, .slice Ao29 t221.length co29]] ?_; (with_reducible refine (laws_eqSimple.calls kj65 t265 _ _ t266 t220 _ _ t221 true _ ?side1 ?side2 ?side3 ?side4 A121.out).mono ?_); (case side1 => refine (Kd.R_reads' (e := 47) (base := w.heap.size) (ok := fun k_ => ((((True ∧ some k_ ≠ (.slice Ao29 t221.length co29 : Value).ownBlock) ∧ some k_ ≠ (.slice Ao36 t251.length co36 : Value).ownBlock) ∧ some k_ ≠ (.slice Ao46 t235.length co46 : Value).ownBlock) ∧ some k_ ≠ (.slice Ao111 t259.length co111 : Value).ownBlock)) (n := t266.length) (c := co120) ?_).2.2; exact (rF2 HO268 BK270)); (case side2 => exact (Kd.R_reads' HO268.out).2.1); (case side3 => refine (Kd.R_reads' (e := 47) (base := w.heap.size) (ok := fun k_ => (((some k_ ≠ (.slice Ao36 t251.length co36 : Value).ownBlock ∧ some k_ ≠ (.slice Ao46 t235.length co46 : Value).ownBlock) ∧ some k_ ≠ (.slice Ao111 t259.length co111 : Value).ownBlock) ∧ some k_ ≠ (.slice Ao120 t266.length co120 : Value).ownBlock)) (n := t221.length) (c := co29) ?_).2.2; exact (rF2 HO_226001 BK270)); (case side4 => exact (Kd.R_reads' HO_226001.out).2.1); rintro e w132 ⟨rfl, hb⟩; refine ⟨_, rfl, ?_⟩; have n0_ := mK (Kd.R_below (rF2 HO_226001 BK270) hb); have n1_ := mK (Kd.R_below (rF2 HO_231001 BK270) hb); have n2_ := mK (Kd.R_below (rF2 HO_240001 BK270) hb); have n3_ := mK (Kd.R_below (rF2 HO261 BK270) hb); have n4_ := mK (Kd.R_below (rF2 HO264 BK270) hb); have n5_ := mK (Kd.R_below (rF2 HO268 BK270) hb); have n6_ := mK (blk_below (g := gb211) (o := .cells #[.int .i64 a0_0, .slice A0_1 l0_1.length c0_1] 24 (0, 0)) (kF BK211 NB211_270) hb); have n7_ := mK (blk_below (g := gb225) (o := .cells #[.int .i64 t220, .slice Ao29 t221.length co29] 29 (0, 0)) (kF BK225 NB225_270) hb); have n8_ := mK (blk_below (g := gb230) (o := .cells #[.int .i64 t226, .slice Ao36 t251.length co36] 29 (0, 0)) (kF BK230 NB230_270) hb); have n9_ := mK (blk_below (g := gb239) (o := .cells #[.int .i64 t234, .slice Ao46 t235.length co46] 29 (0, 0)) (kF BK239 NB239_270) hb); have n10_ := mK (blk_below (g := gb270) (o := .cells #[.int .i64 t265, .slice Ao120 t266.length co120] 29 (0, 0)) (kP2 BK270) hb); have n11_ := bB HB hb; clear HO_226001; clear HO_231001; clear HO_240001; clear HO261; clear HO264; clear HO268; clear BK211; clear BK225; clear BK230; clear BK239; clear BK270; clear HB; have HO_226001 := n0_; have HO_231001 := n1_; have HO_240001 := n2_; have HO261 := n3_; have HO264 := n4_; have HO268 := n5_; have BK211 := n6_; have BK225 := n7_; have BK230 := n8_; have BK239 := n9_; have BK270 := n10_; have HB := n11_; clear n0_ n1_ n2_ n3_ n4_ n5_ n6_ n7_ n8_ n9_ n10_ n11_; (try clear hb); (try clear hb2); (try clear hk); (try clear hi)))
 go_meet
 case rel => exact ⟨_, ((t269 != t224)), (by first | rfl | (simp; done) | (simp [*]; done)), H', ⟨by have := HJ15.out; have := HJ65.out; first | omega | exact Nat.le_refl _⟩, ⟨by (try simp only [hl231001_65]); (with_reducible repeat first|apply rA|apply rN|apply rD); exact Kd.R_mono HO_226001.out (fun _ hk => ⟨hk.1.1.1, ⟨hk.1.1.2, hk.2⟩⟩)⟩, ⟨by (try simp only [hl231001_65]); (with_reducible repeat first|apply rA|apply rN|apply rD); exact Kd.R_mono HO_231001.out (fun _ hk => ⟨hk.1.1.1, ⟨hk.1.1.2, hk.2⟩⟩)⟩, ⟨by (try simp only [hl231001_65]); (with_reducible repeat first|apply rA|apply rN|apply rD); exact Kd.R_mono HO_240001.out (fun _ hk => ⟨hk.1.1.1, ⟨hk.1.1.2, hk.2⟩⟩)⟩, ⟨by (try simp only [hl231001_65]); (with_reducible repeat first|apply rA|apply rN|apply rD); exact Kd.R_mono HO268.out (fun _ hk => ⟨hk.1.1.1.2, ⟨hk.1.1.2, hk.1.2⟩⟩)⟩, ⟨by (try simp only [hl231001_65]); (with_reducible repeat first|apply kN|apply kD|apply kA); exact BK211.out⟩, ⟨by (try simp only [hl231001_65]); (with_reducible repeat first|apply kN|apply kD|apply kA); exact BK225.out⟩, ⟨by (try simp only [hl231001_65]); (with_reducible repeat first|apply kN|apply kD|apply kA); exact BK230.out⟩, ⟨by (try simp only [hl231001_65]); (with_reducible repeat first|apply kN|apply kD|apply kA); exact BK239.out⟩, ⟨by (try simp only [hl231001_65]); (with_reducible repeat first|apply kN|apply kD|apply kA); exact BK270.out⟩, ⟨bX HB⟩⟩
 )
 case rest => (
 clear HC98
 try clear c1
 try clear c2
 try clear p2
 try clear c3
 try clear c3b0
 try clear c3b1
 try clear c4
 try clear c5
 try clear c6
 try clear c6b0
 try clear c7
 try clear c8
 try clear c9
 try clear c10
 try clear c11
 try clear c12
 try clear c13
 try clear c15
 try clear c17
 try clear c19
 try clear c27
 try clear c28
 try clear c33
 try clear c34
 try clear c35
 try clear c36
 try clear c42
 try clear c43
 try clear c44
 try clear c48
 try clear c49
 try clear c50
 try clear c51
 try clear c53
 try clear c54
 try clear c57
 try clear c60
 try clear c63
 try clear c73
 try clear c74
 try clear c75
 try clear c79
 try clear c79b0
 try clear c81
 try clear c82
 try clear c83
 try clear c84
 try clear c86
 try clear c87
 try clear c90
 try clear c93
 try clear c93b0
 try clear c94
 try clear c94b0
 try clear c94b1
 try clear c99
 try clear c100
 try clear c101
 try clear c106
 try clear c107
 try clear c115
 try clear c116
 try clear c117
 try clear c118
 try clear c122
 try clear c123
 try clear c124
 try clear c125
 try clear c126
 try clear c128
 try clear c129
 try clear c130
 try clear hcz102_0
 try clear hcz102_1
 try clear hcz104_0
 try clear hcz104_1
 try clear hcz108_0
 try clear hcz108_1
 try clear hcz119_0
 try clear hcz119_1
 try clear hcz127_0
 try clear hcz127_1
 try clear hcz131_0
 try clear hcz131_1
 try clear hcz18_0
 try clear hcz18_1
 try clear hcz20_0
 try clear hcz20_1
 try clear hcz28_0
 try clear hcz28_1
 try clear hcz30_0
 try clear hcz30_1
 try clear hcz35_0
 try clear hcz35_1
 try clear hcz38_0
 try clear hcz38_1
 try clear hcz45_0
 try clear hcz45_1
 try clear hcz52_0
 try clear hcz52_1
 try clear hcz55_0
 try clear hcz55_1
 try clear hcz76_0
 try clear hcz76_1
 try clear hcz85_0
 try clear hcz85_1
 try clear hcz88_0
 try clear hcz88_1
 try clear hcz8_0
 try clear hcz8_1
 try clear hfz102_0
 try clear hfz102_1
 try clear hfz104_0
 try clear hfz104_1
 try clear hfz108_0
 try clear hfz108_1
 try clear hfz119_0
 try clear hfz119_1
 try clear hfz127_0
 try clear hfz127_1
 try clear hfz131_0
 try clear hfz131_1
 try clear hfz18_0
 try clear hfz18_1
 try clear hfz20_0
 try clear hfz20_1
 try clear hfz28_0
 try clear hfz28_1
 try clear hfz30_0
 try clear hfz30_1
 try clear hfz35_0
 try clear hfz35_1
 try clear hfz38_0
 try clear hfz38_1
 try clear hfz45_0
 try clear hfz45_1
 try clear hfz52_0
 try clear hfz52_1
 try clear hfz55_0
 try clear hfz55_1
 try clear hfz76_0
 try clear hfz76_1
 try clear hfz85_0
 try clear hfz85_1
 try clear hfz88_0
 try clear hfz88_1
 try clear hfz8_0
 try clear hfz8_1
 try clear p2
 obtain ⟨kq, x108_97, rfl, HA, HJ97, HO_226001, HO_231001, HO_240001, HO_271001, BK211, BK225, BK230, BK239, BK270, HB⟩ := hcut
 have hl240001_97 := (Kd.R_reads' HO_240001.out).1
 rw [hl240001_97] at HO_240001
 (try simp only [hl240001_97])
 (try simp only [hl240001_97] at BK211)
 (try simp only [hl240001_97] at BK225)
 (try simp only [hl240001_97] at BK230)
 (try simp only [hl240001_97] at BK239)
 (try simp only [hl240001_97] at BK270)
 (try simp only [hl240001_97] at HO_226001)
 (try simp only [hl240001_97] at HO_231001)
 (try simp only [hl240001_97] at HO_271001)
 cases kq with
 | zero => exact absurd HA.out (by simp [laws_FnExactFixTimes.j2])
 | succ kj97 => (
 have H := HA.out
 clear HA
 simp only [laws_FnExactFixTimes.j2] at H
 by_cases c133 : x108_97 = true
 {
 subst c133
 rw [if_pos rfl] at H
 obtain rfl := Option.some.inj H
 exact absurd hr_ (by decide)
 }
 replace c133 := Bool.eq_false_iff.mpr c133
 subst c133
 rw [if_neg (show ¬ (false = true) by decide)] at H
 replace H := Option.bind_eq_some_iff.mp H
 obtain ⟨t272, A1340, H⟩ := H
 replace H : (if t272 < 0 then (some false) else (if t272 = t255 then (some true) else (some false))) = some r := H
 have A134 := mK A1340
 clear A1340
 by_cases c135 : t272 < 0
 {
 rw [if_pos c135] at H
 have c135b0 : decide (t272 < 0) = true := decide_eq_true c135
 clear c135
 obtain rfl := Option.some.inj H
 exact absurd hr_ (by decide)
 }
 rw [if_neg c135] at H
 have c135b0 : decide (t272 < 0) = false := decide_eq_false c135
 clear c135
 by_cases c136 : t272 = t255
 rotate_left
 {
 rw [if_neg c136] at H
 have c136b0 : (t272 == t255) = false := beq_eq_false_iff_ne.mpr c136
 have c136b1 : (t272 != t255) = true := bne_iff_ne.mpr c136
 obtain rfl := Option.some.inj H
 exact absurd hr_ (by decide)
 }
 rw [if_pos c136] at H
 have c136b0 : (t272 == t255) = true := beq_iff_eq.mpr c136
 have c136b1 : (t272 != t255) = false := bne_eq_false_iff_eq.mpr c136
 clear c136
 obtain rfl := Option.some.inj H
 clear hr_
 have hnb137 := NB239_211.out
 have hnc137 := NB211_239.out
 have hnb138 := NB239_225.out
 have hnc138 := NB225_239.out
 have hnb139 := NB239_230.out
 have hnc139 := NB230_239.out
 have hnb140 := NB239_270.out
 have hnc140 := NB270_239.out
 have hcz141_0 := q0 BK239
 have hcz141_1 := q1 BK239
 have hfz141_0 := fX BK239 0
 have hfz141_1 := fX BK239 1
 (try simp only [hl231001_65, hl240001_97] at c3b0)
 (try simp only [hl231001_65, hl240001_97] at c3b1)
 go_wp2_with (first | ((with_reducible refine gate_callee (f := 28) rfl ?_); refine gsE (some 111) Try.func28 #[.agg #[.int .i64 t234, .slice Ao46 t256.length co46], .int .i64 1] ?_; (with_reducible refine (laws_heldSimple.calls kj97 t234 _ _ t256 1 t272 _ ?side1 ?side2 A134.out).mono ?_); (case side1 => repeat (first | exact (Kd.R_reads' HO_240001.out).2.2 | (with_reducible refine Kd.C_alloc ?_ _) | (with_reducible refine Kd.C_drewN ?_ _) | (with_reducible refine Kd.C_drew ?_))); (case side2 => exact (Kd.R_reads' HO_240001.out).2.1); rintro e w142 ⟨rfl, hb⟩; refine ⟨_, rfl, ?_⟩; replace HO_226001 := mK (Kd.R_below (rX HO_226001) hb); replace HO_231001 := mK (Kd.R_below (rX HO_231001) hb); replace HO_240001 := mK (Kd.R_below (rX HO_240001) hb); replace HO_271001 := mK (Kd.R_below (rX HO_271001) hb); replace BK211 := kB BK211 hb; replace BK225 := kB BK225 hb; replace BK230 := kB BK230 hb; replace BK239 := kB BK239 hb; replace BK270 := kB BK270 hb; replace HB := bB HB hb; (try clear hb); (try clear hb2); (try clear hk); (try clear hi)))
 go_ret
 exact ⟨by first | rfl | (simp [errW_none, errW_some] <;> rfl) | (simp [*, errW_none, errW_some] <;> rfl), bX HB⟩
 )
 )
 )
 )
 )
 )

/-- THE ONE PURE STATEMENT of laws_FnExactFixTimes: yours. -/
def laws_FnExactFixTimes.Pure : Prop := ∀ (a0_0 : Int) (l0_1 : List (S42)) (l1 : List Int), (Lit.int .i64 a0_0).wf = true → l0_1.length ≤ maxLen → (∀ yl0_1 ∈ l0_1, (Lit.int .i64 yl0_1.f0).wf = true ∧ (Lit.int .i64 yl0_1.f1).wf = true ∧ (Lit.int .i64 yl0_1.f2.f0).wf = true ∧ (Lit.int .i64 yl0_1.f2.f1).wf = true) → l1.length ≤ maxLen → (∀ yl1 ∈ l1, (Lit.int .i64 yl1).wf = true) → ∃ k, laws_FnExactFixTimes.f k a0_0 l0_1 l1 = some true
theorem laws_FnExactFixTimes.walk (P : laws_FnExactFixTimes.Pure) (a0_0 : Int) (A0_1 : Option Addr) (c0_1 : Nat) (l0_1 : List (S42)) (A1 : Option Addr) (c1 : Nat) (l1 : List Int) (w : World) (hr0_1 : Kd.C k42 w A0_1 l0_1.length l0_1) (hc0_1 : l0_1.length ≤ c0_1) (hr1 : Kd.C (Kd.int .i64) w A1 l1.length l1) (hc1 : l1.length ≤ c1) (q0_0 : (Lit.int .i64 a0_0).wf = true) (q0_1 : l0_1.length ≤ maxLen) (q0_2 : (∀ yl0_1 ∈ l0_1, (Lit.int .i64 yl0_1.f0).wf = true ∧ (Lit.int .i64 yl0_1.f1).wf = true ∧ (Lit.int .i64 yl0_1.f2.f0).wf = true ∧ (Lit.int .i64 yl0_1.f2.f1).wf = true)) (q1_0 : l1.length ≤ maxLen) (q1_1 : (∀ yl1 ∈ l1, (Lit.int .i64 yl1).wf = true)) :
    Calls Try.prog 9 #[.agg #[.int .i64 a0_0, .slice A0_1 l0_1.length c0_1], .slice A1 l1.length c1] w fun e w' => e = .returned (.bool true) ∧ Below w.heap.size w w' := by
  obtain ⟨k, h⟩ := P a0_0 l0_1 l1 q0_0 q0_1 q0_2 q1_0 q1_1
  refine (laws_FnExactFixTimes.calls k a0_0 A0_1 c0_1 l0_1 A1 c1 l1 true w hr0_1 hc0_1 hr1 hc1 h rfl).mono ?_
  rintro e w' ⟨rfl, hd⟩
  exact ⟨rfl, hd⟩

end Go.Proofs.Ytolecnichpnhnaa.QFnExactFixTimes
