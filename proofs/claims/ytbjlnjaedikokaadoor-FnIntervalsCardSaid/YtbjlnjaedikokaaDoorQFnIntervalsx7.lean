-- Written by this session's program wip/tools/mk.py out of the translation; Lean checks it.
import Derived.Test.YtbjlnjaedikokaaDoorQFnIntervalsx0
import Derived.Test.YtbjlnjaedikokaaDoorQFnIntervalsx1
import Derived.Test.YtbjlnjaedikokaaDoorQFnIntervalsx2
import Derived.Test.YtbjlnjaedikokaaDoorQFnIntervalsx3
import Derived.Test.YtbjlnjaedikokaaDoorQFnIntervalsx4
import Derived.Test.YtbjlnjaedikokaaDoorQFnIntervalsx5
import Derived.Test.YtbjlnjaedikokaaDoorQFnIntervalsx6
namespace Go.Proofs.YtbjlnjaedikokaaDoor.QFnIntervals
open Go.RowKit Go.Proofs.YtbjlnjaedikokaaDoorW.PrintWords Go.Proofs.YtbjlnjaedikokaaDoorW.PrintLast Go.Proofs.YtbjlnjaedikokaaDoorW.PrintMore
attribute [local go_sem] max2_int min2_int max_two min_two max_three min_three max_four min_four   -- for this text's walks alone
set_option linter.unusedVariables false
set_option linter.unusedSimpArgs false
set_option linter.unnecessarySimpa false

attribute [local go_sem high] eqA27
/-! ### laws_FnIntervals: function 8 -/
mutual
def laws_FnIntervals.j0 : Nat → Bool → Int → Int → Int → Int → Option (Bool)
  | 0, _, _, _, _, _ => none
  | k + 1, x47, x196000, x196001, x199000, x199001 => if x47 = true then (some false) else ((impl_AddIntervals.f k x196000 x196001 x199000 x199001).bind fun bt209 => ((impl_Hull.f x196000 x196001 x199000 x199001).bind fun bt212 => ((impl_Intersect.f x196000 x196001 x199000 x199001).bind fun bt216 => ((impl_Contains.f x196000 x196001 (mx x196000 (-20))).bind fun t220 => (if t220 = true then ((impl_Contains.f x199000 x199001 (mx x199000 (-20))).bind fun t221 => (if t221 = true then ((impl_Contains.f bt209.1 bt209.2 (wrap64 ((mx x196000 (-20)) + (mx x199000 (-20))))).bind fun t222 => (if t222 = true then (if bt212.2.2 = true then ((impl_Contains.f bt212.1 bt212.2.1 (mx x196000 (-20))).bind fun t223 => (if t223 = true then ((impl_Contains.f bt212.1 bt212.2.1 (mx x199000 (-20))).bind fun t224 => (laws_FnIntervals.j1 k bt216.2.2 (!t224) x196000 x196001 x199000 x199001 bt216.1 bt216.2.1)) else (laws_FnIntervals.j1 k bt216.2.2 true x196000 x196001 x199000 x199001 bt216.1 bt216.2.1))) else (laws_FnIntervals.j1 k bt216.2.2 true x196000 x196001 x199000 x199001 bt216.1 bt216.2.1)) else (laws_FnIntervals.j1 k bt216.2.2 true x196000 x196001 x199000 x199001 bt216.1 bt216.2.1))) else (laws_FnIntervals.j1 k bt216.2.2 true x196000 x196001 x199000 x199001 bt216.1 bt216.2.1))) else (laws_FnIntervals.j1 k bt216.2.2 true x196000 x196001 x199000 x199001 bt216.1 bt216.2.1))))))
def laws_FnIntervals.j1 : Nat → Bool → Bool → Int → Int → Int → Int → Int → Int → Option (Bool)
  | 0, _, _, _, _, _, _, _, _ => none
  | k + 1, x11, x102, x196000, x196001, x199000, x199001, x220000, x220001 => if x102 = true then (some false) else (laws_FnIntervals.l0 k x11 (-25) x196000 x196001 x199000 x199001 x220000 x220001)
def laws_FnIntervals.l0 : Nat → Bool → Int → Int → Int → Int → Int → Int → Int → Option (Bool)
  | 0, _, _, _, _, _, _, _, _ => none
  | k + 1, x11, x14, x196000, x196001, x199000, x199001, x220000, x220001 => if x14 < 25 then ((impl_Contains.f x196000 x196001 x14).bind fun t227 => (if t227 = true then ((impl_Contains.f x199000 x199001 x14).bind fun t228 => (if x11 = true then ((impl_Contains.f x220000 x220001 x14).bind fun t229 => (if (t228 != t229) = true then (some false) else (laws_FnIntervals.l0 k x11 (wrap64 (x14 + 1)) x196000 x196001 x199000 x199001 x220000 x220001))) else (if (t228 != false) = true then (some false) else (laws_FnIntervals.l0 k x11 (wrap64 (x14 + 1)) x196000 x196001 x199000 x199001 x220000 x220001)))) else (if x11 = true then ((impl_Contains.f x220000 x220001 x14).bind fun t230 => (if (false != t230) = true then (some false) else (laws_FnIntervals.l0 k x11 (wrap64 (x14 + 1)) x196000 x196001 x199000 x199001 x220000 x220001))) else (if (false != false) = true then (some false) else (laws_FnIntervals.l0 k x11 (wrap64 (x14 + 1)) x196000 x196001 x199000 x199001 x220000 x220001))))) else ((impl_AddBounds.f k 1000000 (-5)).bind fun t225 => (if t225 = 1000000 then ((impl_ClampBound.f 1000009).bind fun t226 => (some (t226 == 1000000))) else (some false)))
end
def laws_FnIntervals.f (k : Nat) (l0 : List Int) : Option (Bool) := if (l0.length : Int) > 1048576 then (some true) else ((spec_MakeInterval.f k l0 1).bind fun bt193 => ((spec_MakeInterval.f k l0 9).bind fun bt196 => ((impl_FormatInterval.f bt193.1 bt193.2).bind fun t199 => ((impl_ParseInterval.f t199).bind fun bt200 => (if bt200.2.2 = true then (if (!(bt200.1 == bt193.1) || (!(bt200.2.1 == bt193.2))) = true then (laws_FnIntervals.j0 k true bt193.1 bt193.2 bt196.1 bt196.2) else ((impl_IntervalOk.f bt193.1 bt193.2).bind fun t204 => (if t204 = true then ((impl_ReverseInterval.f bt193.1 bt193.2).bind fun bt205 => ((impl_ReverseInterval.f bt205.1 bt205.2).bind fun bt207 => (laws_FnIntervals.j0 k (!(bt207.1 == bt193.1) || (!(bt207.2 == bt193.2))) bt193.1 bt193.2 bt196.1 bt196.2))) else (laws_FnIntervals.j0 k true bt193.1 bt193.2 bt196.1 bt196.2)))) else (laws_FnIntervals.j0 k true bt193.1 bt193.2 bt196.1 bt196.2))))))
theorem laws_FnIntervals.mono_l : ∀ k, (∀ y0 y1 y2 y3 y4, LeO (laws_FnIntervals.j0 k y0 y1 y2 y3 y4) (laws_FnIntervals.j0 (k + 1) y0 y1 y2 y3 y4)) ∧ (∀ y0 y1 y2 y3 y4 y5 y6 y7, LeO (laws_FnIntervals.j1 k y0 y1 y2 y3 y4 y5 y6 y7) (laws_FnIntervals.j1 (k + 1) y0 y1 y2 y3 y4 y5 y6 y7)) ∧ (∀ y0 y1 y2 y3 y4 y5 y6 y7, LeO (laws_FnIntervals.l0 k y0 y1 y2 y3 y4 y5 y6 y7) (laws_FnIntervals.l0 (k + 1) y0 y1 y2 y3 y4 y5 y6 y7))
  | 0 => ⟨fun _ _ _ _ _ r h => by simp [laws_FnIntervals.j0] at h, fun _ _ _ _ _ _ _ _ r h => by simp [laws_FnIntervals.j1] at h, fun _ _ _ _ _ _ _ _ r h => by simp [laws_FnIntervals.l0] at h⟩
  | k + 1 => by
    obtain ⟨ih0, ih1, ih2⟩ := laws_FnIntervals.mono_l k
    refine ⟨?_, ?_, ?_⟩
    · intro y0 y1 y2 y3 y4
      unfold laws_FnIntervals.j0
      repeat' first
      | (with_reducible exact ih0 _ _ _ _ _)
      | (with_reducible exact ih1 _ _ _ _ _ _ _ _)
      | (with_reducible exact ih2 _ _ _ _ _ _ _ _)
      | (with_reducible exact impl_AddBounds.mono _ _ _)
      | (with_reducible exact impl_AddIntervals.mono _ _ _ _ _)
      | (with_reducible exact spec_MakeInterval.mono _ _ _)
      | (with_reducible exact LeO.refl _)
      | (with_reducible exact LeO.none _)
      | (with_reducible refine LeO.ite ?_ ?_)
      | (with_reducible refine LeO.bind ?_ (fun _ => ?_))
      | exact ih0 _ _ _ _ _
      | exact ih1 _ _ _ _ _ _ _ _
      | exact ih2 _ _ _ _ _ _ _ _
      | exact impl_AddBounds.mono _ _ _
      | exact impl_AddIntervals.mono _ _ _ _ _
      | exact spec_MakeInterval.mono _ _ _
      | exact LeO.none _
      | refine LeO.ite ?_ ?_
      | refine LeO.bind ?_ (fun _ => ?_)
    · intro y0 y1 y2 y3 y4 y5 y6 y7
      unfold laws_FnIntervals.j1
      repeat' first
      | (with_reducible exact ih0 _ _ _ _ _)
      | (with_reducible exact ih1 _ _ _ _ _ _ _ _)
      | (with_reducible exact ih2 _ _ _ _ _ _ _ _)
      | (with_reducible exact impl_AddBounds.mono _ _ _)
      | (with_reducible exact impl_AddIntervals.mono _ _ _ _ _)
      | (with_reducible exact spec_MakeInterval.mono _ _ _)
      | (with_reducible exact LeO.refl _)
      | (with_reducible exact LeO.none _)
      | (with_reducible refine LeO.ite ?_ ?_)
      | (with_reducible refine LeO.bind ?_ (fun _ => ?_))
      | exact ih0 _ _ _ _ _
      | exact ih1 _ _ _ _ _ _ _ _
      | exact ih2 _ _ _ _ _ _ _ _
      | exact impl_AddBounds.mono _ _ _
      | exact impl_AddIntervals.mono _ _ _ _ _
      | exact spec_MakeInterval.mono _ _ _
      | exact LeO.none _
      | refine LeO.ite ?_ ?_
      | refine LeO.bind ?_ (fun _ => ?_)
    · intro y0 y1 y2 y3 y4 y5 y6 y7
      unfold laws_FnIntervals.l0
      repeat' first
      | (with_reducible exact ih0 _ _ _ _ _)
      | (with_reducible exact ih1 _ _ _ _ _ _ _ _)
      | (with_reducible exact ih2 _ _ _ _ _ _ _ _)
      | (with_reducible exact impl_AddBounds.mono _ _ _)
      | (with_reducible exact impl_AddIntervals.mono _ _ _ _ _)
      | (with_reducible exact spec_MakeInterval.mono _ _ _)
      | (with_reducible exact LeO.refl _)
      | (with_reducible exact LeO.none _)
      | (with_reducible refine LeO.ite ?_ ?_)
      | (with_reducible refine LeO.bind ?_ (fun _ => ?_))
      | exact ih0 _ _ _ _ _
      | exact ih1 _ _ _ _ _ _ _ _
      | exact ih2 _ _ _ _ _ _ _ _
      | exact impl_AddBounds.mono _ _ _
      | exact impl_AddIntervals.mono _ _ _ _ _
      | exact spec_MakeInterval.mono _ _ _
      | exact LeO.none _
      | refine LeO.ite ?_ ?_
      | refine LeO.bind ?_ (fun _ => ?_)
theorem laws_FnIntervals.mono : ∀ a0 k, LeO (laws_FnIntervals.f k a0) (laws_FnIntervals.f (k + 1) a0) := by
  intro a0 k
  obtain ⟨ih0, ih1, ih2⟩ := laws_FnIntervals.mono_l k
  unfold laws_FnIntervals.f
  repeat' first
      | (with_reducible exact ih0 _ _ _ _ _)
      | (with_reducible exact ih1 _ _ _ _ _ _ _ _)
      | (with_reducible exact ih2 _ _ _ _ _ _ _ _)
      | (with_reducible exact impl_AddBounds.mono _ _ _)
      | (with_reducible exact impl_AddIntervals.mono _ _ _ _ _)
      | (with_reducible exact spec_MakeInterval.mono _ _ _)
      | (with_reducible exact LeO.refl _)
      | (with_reducible exact LeO.none _)
      | (with_reducible refine LeO.ite ?_ ?_)
      | (with_reducible refine LeO.bind ?_ (fun _ => ?_))
      | exact ih0 _ _ _ _ _
      | exact ih1 _ _ _ _ _ _ _ _
      | exact ih2 _ _ _ _ _ _ _ _
      | exact impl_AddBounds.mono _ _ _
      | exact impl_AddIntervals.mono _ _ _ _ _
      | exact spec_MakeInterval.mono _ _ _
      | exact LeO.none _
      | refine LeO.ite ?_ ?_
      | refine LeO.bind ?_ (fun _ => ?_)
def laws_FnIntervals.T6 : Bool × List (List Nat × List Nat) := (true, [([], []), ([0], [0]), ([1], [1]), ([2], [2]), ([2], [2]), ([3, 4, 2], [2, 3, 4]), ([2, 5], [2, 5]), ([6, 2], [6]), ([7], [7]), ([8, 7, 7], [7, 8]), ([9, 7], [7, 9]), ([7, 10], [7, 10]), ([11, 9], [11]), ([12], [12]), ([13, 12, 12], [12, 13]), ([14, 14, 12], [12, 14]), ([12], [12]), ([15, 16, 12], [12, 15, 16]), ([12, 17], [12, 17])])
def laws_FnIntervals.B6 : List Nat := [0, 1, 3, 7, 7, 31, 63, 127, 255, 511, 1023, 2047, 4095, 8191, 16383, 32767, 8191, 131071, 262143]
theorem laws_FnIntervals.tab6 : rtab .any (opsOf Tryd.f8 6) = laws_FnIntervals.T6 := by kernel_rfl
theorem laws_FnIntervals.bits6 : waitsOk laws_FnIntervals.T6.2 laws_FnIntervals.B6 = true := by kernel_rfl
set_option maxHeartbeats 8000000 in
set_option maxRecDepth 100000 in
theorem laws_FnIntervals.calls (k : Nat) (A0 : Option Addr) (c0 : Nat) (l0 : List Int) (r : Bool) (w : World) (hT : Tb w) (hr0 : Kd.C (Kd.int .u8) w A0 l0.length l0) (hc0 : l0.length ≤ c0) (h : laws_FnIntervals.f k l0 = some r) (hr_ : r = true) :
    Calls Tryd.prog 8 #[.slice A0 l0.length c0] w fun e w' => e = .returned (.bool r) ∧ Below w.heap.size w w' := by
  have hu27 := Tryd.underlying27
  have HR0 := Aside0.mk hr0
  have HC0 := Aside0.mk hc0
  clear hr0 hc0
  have HB := Aside0.mk (Below.refl w.heap.size w)
  have H : (if (l0.length : Int) > 1048576 then (some true) else ((spec_MakeInterval.f k l0 1).bind fun bt193 => ((spec_MakeInterval.f k l0 9).bind fun bt196 => ((impl_FormatInterval.f bt193.1 bt193.2).bind fun t199 => ((impl_ParseInterval.f t199).bind fun bt200 => (if bt200.2.2 = true then (if (!(bt200.1 == bt193.1) || (!(bt200.2.1 == bt193.2))) = true then (laws_FnIntervals.j0 k true bt193.1 bt193.2 bt196.1 bt196.2) else ((impl_IntervalOk.f bt193.1 bt193.2).bind fun t204 => (if t204 = true then ((impl_ReverseInterval.f bt193.1 bt193.2).bind fun bt205 => ((impl_ReverseInterval.f bt205.1 bt205.2).bind fun bt207 => (laws_FnIntervals.j0 k (!(bt207.1 == bt193.1) || (!(bt207.2 == bt193.2))) bt193.1 bt193.2 bt196.1 bt196.2))) else (laws_FnIntervals.j0 k true bt193.1 bt193.2 bt196.1 bt196.2)))) else (laws_FnIntervals.j0 k true bt193.1 bt193.2 bt196.1 bt196.2))))))) = some r := h
  clear h
  by_cases c2 : (l0.length : Int) > 1048576
  · rw [if_pos c2] at H
    have c2b0 : decide (1048576 < (l0.length : Int)) = true := decide_eq_true c2
    have c2b1 : decide (1048576 < l0.length) = true := decide_eq_true (by omega)
    clear c2
    obtain rfl := Option.some.inj H
    clear hr_
    go_enter Tryd.func8, Tryd.ntmps8
    go_wp2
    go_ret
    exact ⟨by first | rfl | (simp [errW_none, errW_some] <;> rfl) | (simp [*, errW_none, errW_some] <;> rfl), by repeat (first | (with_reducible first | exact HB.out | apply below_alloc | apply pw_below_drewN | apply below_drew1) | exact HB.out)⟩
  rw [if_neg c2] at H
  have c2b0 : decide (1048576 < (l0.length : Int)) = false := decide_eq_false c2
  have c2b1 : decide (1048576 < l0.length) = false := decide_eq_false (by omega)
  clear c2
  replace H := Option.bind_eq_some_iff.mp H
  obtain ⟨⟨t193, t194⟩, A30, H⟩ := H
  replace H : ((spec_MakeInterval.f k l0 9).bind fun bt196 => ((impl_FormatInterval.f t193 t194).bind fun t199 => ((impl_ParseInterval.f t199).bind fun bt200 => (if bt200.2.2 = true then (if (!(bt200.1 == t193) || (!(bt200.2.1 == t194))) = true then (laws_FnIntervals.j0 k true t193 t194 bt196.1 bt196.2) else ((impl_IntervalOk.f t193 t194).bind fun t204 => (if t204 = true then ((impl_ReverseInterval.f t193 t194).bind fun bt205 => ((impl_ReverseInterval.f bt205.1 bt205.2).bind fun bt207 => (laws_FnIntervals.j0 k (!(bt207.1 == t193) || (!(bt207.2 == t194))) t193 t194 bt196.1 bt196.2))) else (laws_FnIntervals.j0 k true t193 t194 bt196.1 bt196.2)))) else (laws_FnIntervals.j0 k true t193 t194 bt196.1 bt196.2))))) = some r := H
  have A3 := Aside0.mk A30
  clear A30
  replace H := Option.bind_eq_some_iff.mp H
  obtain ⟨⟨t196, t197⟩, A40, H⟩ := H
  replace H : ((impl_FormatInterval.f t193 t194).bind fun t199 => ((impl_ParseInterval.f t199).bind fun bt200 => (if bt200.2.2 = true then (if (!(bt200.1 == t193) || (!(bt200.2.1 == t194))) = true then (laws_FnIntervals.j0 k true t193 t194 t196 t197) else ((impl_IntervalOk.f t193 t194).bind fun t204 => (if t204 = true then ((impl_ReverseInterval.f t193 t194).bind fun bt205 => ((impl_ReverseInterval.f bt205.1 bt205.2).bind fun bt207 => (laws_FnIntervals.j0 k (!(bt207.1 == t193) || (!(bt207.2 == t194))) t193 t194 t196 t197))) else (laws_FnIntervals.j0 k true t193 t194 t196 t197)))) else (laws_FnIntervals.j0 k true t193 t194 t196 t197)))) = some r := H
  have A4 := Aside0.mk A40
  clear A40
  replace H := Option.bind_eq_some_iff.mp H
  obtain ⟨t199, A50, H⟩ := H
  replace H : ((impl_ParseInterval.f t199).bind fun bt200 => (if bt200.2.2 = true then (if (!(bt200.1 == t193) || (!(bt200.2.1 == t194))) = true then (laws_FnIntervals.j0 k true t193 t194 t196 t197) else ((impl_IntervalOk.f t193 t194).bind fun t204 => (if t204 = true then ((impl_ReverseInterval.f t193 t194).bind fun bt205 => ((impl_ReverseInterval.f bt205.1 bt205.2).bind fun bt207 => (laws_FnIntervals.j0 k (!(bt207.1 == t193) || (!(bt207.2 == t194))) t193 t194 t196 t197))) else (laws_FnIntervals.j0 k true t193 t194 t196 t197)))) else (laws_FnIntervals.j0 k true t193 t194 t196 t197))) = some r := H
  have A5 := Aside0.mk A50
  clear A50
  replace H := Option.bind_eq_some_iff.mp H
  obtain ⟨⟨t200, t201, t202⟩, A60, H⟩ := H
  replace H : (if t202 = true then (if (!(t200 == t193) || (!(t201 == t194))) = true then (laws_FnIntervals.j0 k true t193 t194 t196 t197) else ((impl_IntervalOk.f t193 t194).bind fun t204 => (if t204 = true then ((impl_ReverseInterval.f t193 t194).bind fun bt205 => ((impl_ReverseInterval.f bt205.1 bt205.2).bind fun bt207 => (laws_FnIntervals.j0 k (!(bt207.1 == t193) || (!(bt207.2 == t194))) t193 t194 t196 t197))) else (laws_FnIntervals.j0 k true t193 t194 t196 t197)))) else (laws_FnIntervals.j0 k true t193 t194 t196 t197)) = some r := H
  have A6 := Aside0.mk A60
  clear A60
  have HC7 := Aside0.mk H
  clear H
  go_enter Tryd.func8, Tryd.ntmps8
  go_upto_region 6 with (first | ((with_reducible refine gate_callee (f := 26) rfl ?_); refine goesL_ (some 20) rfl rfl Tryd.func26 (by kernel_rfl) rfl #[.slice A0 l0.length c0, .int .i64 1] rfl (by (try simp only [List.map_toArray, List.map_cons, List.map_nil]); first | done | rfl | (simp only [List.length_drop, List.length_take]; rfl)) ?_; (with_reducible refine (spec_MakeInterval.calls k _ _ l0 1 t193 t194 _ ?side1 ?side2 A3.out).mono ?_); (case side1 => repeat (first | exact HR0.out | (with_reducible refine Kd.C_alloc ?_ _) | (with_reducible refine Kd.C_drewN ?_ _) | (with_reducible refine Kd.C_drew ?_))); (case side2 => exact HC0.out); rintro e w8 ⟨rfl, hb⟩; refine ⟨_, rfl, ?_⟩; have n0_ := Aside0.mk (below_step (by repeat (first | (with_reducible first | exact HB.out | apply below_alloc | apply pw_below_drewN | apply below_drew1) | exact HB.out)) hb); clear HB; have HB := n0_; clear n0_; (try clear hb); (try clear hb2); (try clear hk); (try clear hi)) | ((with_reducible refine gate_dst (N := 3) rfl ?_); refine box_event ?hg (N := 3) ?hd (cs := #[.int .i64 0, .int .i64 0]) (t := 27) ?hr ?_; (case hd => rfl); (case hg => rfl); (case hr => first | (go_simp; done) | (go_simp; rfl)); intro gb195 hg w9 hbox hb; have n0_ := Aside0.mk (below_step (by repeat (first | (with_reducible first | exact HB.out | apply below_alloc | apply pw_below_drewN | apply below_drew1) | exact HB.out)) hb); have n1_ := Aside0.mk (hbox); have n2_ := Aside0.mk ((by rw [hg]; exact (below_size (by repeat (first | (with_reducible first | exact HB.out | apply below_alloc | apply pw_below_drewN | apply below_drew1) | exact HB.out))) : w.heap.size ≤ gb195)); have n3_ := Aside0.mk ((by rw [hg]; exact (below_size (by repeat (first | (with_reducible first | exact HB.out | apply below_alloc | apply pw_below_drewN | apply below_drew1) | exact HB.out))) : w.heap.size ≤ gb195)); clear HB; have HB := n0_; have BK195 := n1_; have GW195 := n2_; have GE195 := n3_; clear n0_ n1_ n2_ n3_; clear hb hbox hg; have hcz10_0 : w9.cell? ⟨gb195, 0, none⟩ = some (.int .i64 0) := (blk_cell BK195.out 0).trans rfl; have hcz10_1 : w9.cell? ⟨gb195, 1, none⟩ = some (.int .i64 0) := (blk_cell BK195.out 1).trans rfl; have hfz10_0 := blk_frozen BK195.out 0; have hfz10_1 := blk_frozen BK195.out 1) | ((with_reducible refine gate_callee (f := 26) rfl ?_); refine goesL_ (some 22) rfl rfl Tryd.func26 (by kernel_rfl) rfl #[.slice A0 l0.length c0, .int .i64 9] rfl (by (try simp only [List.map_toArray, List.map_cons, List.map_nil]); first | done | rfl | (simp only [List.length_drop, List.length_take]; rfl)) ?_; (with_reducible refine (spec_MakeInterval.calls k _ _ l0 9 t196 t197 _ ?side1 ?side2 A4.out).mono ?_); (case side1 => exact Kd.C_below HR0.out (by repeat (first | (with_reducible first | exact HB.out | apply below_alloc | apply pw_below_drewN | apply below_drew1 | refine below_set ?_ GE195.out) | exact HB.out))); (case side2 => exact HC0.out); rintro e w11 ⟨rfl, hb⟩; refine ⟨_, rfl, ?_⟩; have n0_ := Aside0.mk (blk_below (g := gb195) (o := .cells #[.int .i64 t193, .int .i64 t194] 27 (0, 0)) (by (with_reducible repeat (first | refine blk_drewN ?_ _ | refine blk_drew ?_ | refine blk_alloc ?_ _)); refine blk_put (cs := #[.int .i64 t193, .int .i64 0]) ?_ 1 _ rfl; (with_reducible repeat (first | refine blk_drewN ?_ _ | refine blk_drew ?_ | refine blk_alloc ?_ _)); refine blk_put (cs := #[.int .i64 0, .int .i64 0]) ?_ 0 _ rfl; (with_reducible repeat (first | refine blk_drewN ?_ _ | refine blk_drew ?_ | refine blk_alloc ?_ _)); exact BK195.out) hb); have n1_ := Aside0.mk (below_step (by repeat (first | (with_reducible first | exact HB.out | apply below_alloc | apply pw_below_drewN | apply below_drew1 | refine below_set ?_ GE195.out) | exact HB.out)) hb); clear BK195; clear HB; have BK195 := n0_; have HB := n1_; clear n0_ n1_; (try clear hb); (try clear hb2); (try clear hk); (try clear hi)) | ((with_reducible refine gate_dst (N := 4) rfl ?_); refine box_event ?hg (N := 4) ?hd (cs := #[.int .i64 0, .int .i64 0]) (t := 27) ?hr ?_; (case hd => rfl); (case hg => rfl); (case hr => first | (go_simp; done) | (go_simp; rfl)); intro gb198 hg w12 hbox hb; have n0_ := Aside0.mk (blk_below (g := gb195) (o := .cells #[.int .i64 t193, .int .i64 t194] 27 (0, 0)) (by (with_reducible repeat (first | refine blk_drewN ?_ _ | refine blk_drew ?_ | refine blk_alloc ?_ _)); exact BK195.out) hb); have n1_ := Aside0.mk (below_step (by repeat (first | (with_reducible first | exact HB.out | apply below_alloc | apply pw_below_drewN | apply below_drew1 | refine below_set ?_ GE195.out) | exact HB.out)) hb); have n2_ := Aside0.mk (hbox); have n3_ := Aside0.mk ((by rw [hg]; exact (below_size (by repeat (first | (with_reducible first | exact HB.out | apply below_alloc | apply pw_below_drewN | apply below_drew1 | refine below_set ?_ GE195.out) | exact HB.out))) : w.heap.size ≤ gb198)); have n4_ := Aside0.mk ((by rw [hg]; exact (below_size (by repeat (first | (with_reducible first | exact HB.out | apply below_alloc | apply pw_below_drewN | apply below_drew1 | refine below_set ?_ GE195.out) | exact HB.out))) : w.heap.size ≤ gb198)); have n5_ := Aside0.mk ((by rw [hg]; exact Nat.ne_of_lt (blk_lt (g := gb195) (o := .cells #[.int .i64 t193, .int .i64 t194] 27 (0, 0)) (by (with_reducible repeat (first | refine blk_drewN ?_ _ | refine blk_drew ?_ | refine blk_alloc ?_ _)); exact BK195.out)) : gb195 ≠ gb198)); have n6_ := Aside0.mk ((by rw [hg]; exact Nat.ne_of_gt (blk_lt (g := gb195) (o := .cells #[.int .i64 t193, .int .i64 t194] 27 (0, 0)) (by (with_reducible repeat (first | refine blk_drewN ?_ _ | refine blk_drew ?_ | refine blk_alloc ?_ _)); exact BK195.out)) : gb198 ≠ gb195)); clear BK195; clear HB; have BK195 := n0_; have HB := n1_; have BK198 := n2_; have GW198 := n3_; have GE198 := n4_; have NB195_198 := n5_; have NB198_195 := n6_; clear n0_ n1_ n2_ n3_ n4_ n5_ n6_; clear hb hbox hg; have hnb13 := NB198_195.out; have hnc13 := NB195_198.out; have hcz14_0 : w12.cell? ⟨gb198, 0, none⟩ = some (.int .i64 0) := (blk_cell BK198.out 0).trans rfl; have hcz14_1 : w12.cell? ⟨gb198, 1, none⟩ = some (.int .i64 0) := (blk_cell BK198.out 1).trans rfl; have hfz14_0 := blk_frozen BK198.out 0; have hfz14_1 := blk_frozen BK198.out 1; have hcz15_0 : w12.cell? ⟨gb195, 0, none⟩ = some (.int .i64 t193) := (blk_cell BK195.out 0).trans rfl; have hcz15_1 : w12.cell? ⟨gb195, 1, none⟩ = some (.int .i64 t194) := (blk_cell BK195.out 1).trans rfl; have hfz15_0 := blk_frozen BK195.out 0; have hfz15_1 := blk_frozen BK195.out 1) | ((with_reducible refine gate_callee (f := 13) rfl ?_); refine goesL_ (some 25) rfl rfl Tryd.func13 (by kernel_rfl) rfl #[.agg #[.int .i64 t193, .int .i64 t194]] rfl (by (try simp only [List.map_toArray, List.map_cons, List.map_nil]); first | done | rfl | (simp only [List.length_drop, List.length_take]; rfl)) ?_; (with_reducible refine (impl_FormatInterval.calls t193 t194 t199 _ (Tb.below hT ?side1) A5.out).mono ?_); (case side1 => repeat (first | (with_reducible first | exact HB.out | apply below_alloc | apply pw_below_drewN | apply below_drew1 | refine below_set ?_ GE195.out | refine below_set ?_ GE198.out) | exact HB.out)); rintro e w16 ⟨rfl, hb⟩; refine ⟨_, rfl, ?_⟩; have n0_ := Aside0.mk (blk_below (g := gb195) (o := .cells #[.int .i64 t193, .int .i64 t194] 27 (0, 0)) (by (with_reducible repeat (first | refine blk_drewN ?_ _ | refine blk_drew ?_ | refine blk_alloc ?_ _)); refine blk_far ?_ NB195_198.out _; (with_reducible repeat (first | refine blk_drewN ?_ _ | refine blk_drew ?_ | refine blk_alloc ?_ _)); refine blk_far ?_ NB195_198.out _; (with_reducible repeat (first | refine blk_drewN ?_ _ | refine blk_drew ?_ | refine blk_alloc ?_ _)); exact BK195.out) hb); have n1_ := Aside0.mk (blk_below (g := gb198) (o := .cells #[.int .i64 t196, .int .i64 t197] 27 (0, 0)) (by (with_reducible repeat (first | refine blk_drewN ?_ _ | refine blk_drew ?_ | refine blk_alloc ?_ _)); refine blk_put (cs := #[.int .i64 t196, .int .i64 0]) ?_ 1 _ rfl; (with_reducible repeat (first | refine blk_drewN ?_ _ | refine blk_drew ?_ | refine blk_alloc ?_ _)); refine blk_put (cs := #[.int .i64 0, .int .i64 0]) ?_ 0 _ rfl; (with_reducible repeat (first | refine blk_drewN ?_ _ | refine blk_drew ?_ | refine blk_alloc ?_ _)); exact BK198.out) hb); have n2_ := Aside0.mk (below_step (by repeat (first | (with_reducible first | exact HB.out | apply below_alloc | apply pw_below_drewN | apply below_drew1 | refine below_set ?_ GE195.out | refine below_set ?_ GE198.out) | exact HB.out)) hb); clear BK195; clear BK198; clear HB; have BK195 := n0_; have BK198 := n1_; have HB := n2_; clear n0_ n1_ n2_; (try clear hb); (try clear hb2); (try clear hk); (try clear hi)) | ((with_reducible refine gate_callee (f := 17) rfl ?_); refine goesL_ (some 26) rfl rfl Tryd.func17 (by kernel_rfl) rfl #[.string t199] rfl (by (try simp only [List.map_toArray, List.map_cons, List.map_nil]); first | done | rfl | (simp only [List.length_drop, List.length_take]; rfl)) ?_; (with_reducible refine (impl_ParseInterval.calls t199 t200 t201 t202 _ (Tb.below hT ?side1) A6.out).mono ?_); (case side1 => repeat (first | (with_reducible first | exact HB.out | apply below_alloc | apply pw_below_drewN | apply below_drew1 | refine below_set ?_ GE195.out | refine below_set ?_ GE198.out) | exact HB.out)); rintro e w17 ⟨rfl, hb⟩; refine ⟨_, rfl, ?_⟩; have n0_ := Aside0.mk (blk_below (g := gb195) (o := .cells #[.int .i64 t193, .int .i64 t194] 27 (0, 0)) (by (with_reducible repeat (first | refine blk_drewN ?_ _ | refine blk_drew ?_ | refine blk_alloc ?_ _)); exact BK195.out) hb); have n1_ := Aside0.mk (blk_below (g := gb198) (o := .cells #[.int .i64 t196, .int .i64 t197] 27 (0, 0)) (by (with_reducible repeat (first | refine blk_drewN ?_ _ | refine blk_drew ?_ | refine blk_alloc ?_ _)); exact BK198.out) hb); have n2_ := Aside0.mk (below_step (by repeat (first | (with_reducible first | exact HB.out | apply below_alloc | apply pw_below_drewN | apply below_drew1 | refine below_set ?_ GE195.out | refine below_set ?_ GE198.out) | exact HB.out)) hb); clear BK195; clear BK198; clear HB; have BK195 := n0_; have BK198 := n1_; have HB := n2_; clear n0_ n1_ n2_; (try clear hb); (try clear hb2); (try clear hk); (try clear hi)) | ((with_reducible refine gate_dst (N := 5) rfl ?_); refine box_event ?hg (N := 5) ?hd (cs := #[.int .i64 0, .int .i64 0]) (t := 27) ?hr ?_; (case hd => rfl); (case hg => rfl); (case hr => first | (go_simp; done) | (go_simp; rfl)); intro gb203 hg w18 hbox hb; have n0_ := Aside0.mk (blk_below (g := gb195) (o := .cells #[.int .i64 t193, .int .i64 t194] 27 (0, 0)) (by (with_reducible repeat (first | refine blk_drewN ?_ _ | refine blk_drew ?_ | refine blk_alloc ?_ _)); exact BK195.out) hb); have n1_ := Aside0.mk (blk_below (g := gb198) (o := .cells #[.int .i64 t196, .int .i64 t197] 27 (0, 0)) (by (with_reducible repeat (first | refine blk_drewN ?_ _ | refine blk_drew ?_ | refine blk_alloc ?_ _)); exact BK198.out) hb); have n2_ := Aside0.mk (below_step (by repeat (first | (with_reducible first | exact HB.out | apply below_alloc | apply pw_below_drewN | apply below_drew1 | refine below_set ?_ GE195.out | refine below_set ?_ GE198.out) | exact HB.out)) hb); have n3_ := Aside0.mk (hbox); have n4_ := Aside0.mk ((by rw [hg]; exact (below_size (by repeat (first | (with_reducible first | exact HB.out | apply below_alloc | apply pw_below_drewN | apply below_drew1 | refine below_set ?_ GE195.out | refine below_set ?_ GE198.out) | exact HB.out))) : w.heap.size ≤ gb203)); have n5_ := Aside0.mk ((by rw [hg]; exact (below_size (by repeat (first | (with_reducible first | exact HB.out | apply below_alloc | apply pw_below_drewN | apply below_drew1 | refine below_set ?_ GE195.out | refine below_set ?_ GE198.out) | exact HB.out))) : w.heap.size ≤ gb203)); have n6_ := Aside0.mk ((by rw [hg]; exact Nat.ne_of_lt (blk_lt (g := gb195) (o := .cells #[.int .i64 t193, .int .i64 t194] 27 (0, 0)) (by (with_reducible repeat (first | refine blk_drewN ?_ _ | refine blk_drew ?_ | refine blk_alloc ?_ _)); exact BK195.out)) : gb195 ≠ gb203)); have n7_ := Aside0.mk ((by rw [hg]; exact Nat.ne_of_gt (blk_lt (g := gb195) (o := .cells #[.int .i64 t193, .int .i64 t194] 27 (0, 0)) (by (with_reducible repeat (first | refine blk_drewN ?_ _ | refine blk_drew ?_ | refine blk_alloc ?_ _)); exact BK195.out)) : gb203 ≠ gb195)); have n8_ := Aside0.mk ((by rw [hg]; exact Nat.ne_of_lt (blk_lt (g := gb198) (o := .cells #[.int .i64 t196, .int .i64 t197] 27 (0, 0)) (by (with_reducible repeat (first | refine blk_drewN ?_ _ | refine blk_drew ?_ | refine blk_alloc ?_ _)); exact BK198.out)) : gb198 ≠ gb203)); have n9_ := Aside0.mk ((by rw [hg]; exact Nat.ne_of_gt (blk_lt (g := gb198) (o := .cells #[.int .i64 t196, .int .i64 t197] 27 (0, 0)) (by (with_reducible repeat (first | refine blk_drewN ?_ _ | refine blk_drew ?_ | refine blk_alloc ?_ _)); exact BK198.out)) : gb203 ≠ gb198)); clear BK195; clear BK198; clear HB; have BK195 := n0_; have BK198 := n1_; have HB := n2_; have BK203 := n3_; have GW203 := n4_; have GE203 := n5_; have NB195_203 := n6_; have NB203_195 := n7_; have NB198_203 := n8_; have NB203_198 := n9_; clear n0_ n1_ n2_ n3_ n4_ n5_ n6_ n7_ n8_ n9_; clear hb hbox hg; have hnb19 := NB203_195.out; have hnc19 := NB195_203.out; have hnb20 := NB203_198.out; have hnc20 := NB198_203.out; have hcz21_0 : w18.cell? ⟨gb203, 0, none⟩ = some (.int .i64 0) := (blk_cell BK203.out 0).trans rfl; have hcz21_1 : w18.cell? ⟨gb203, 1, none⟩ = some (.int .i64 0) := (blk_cell BK203.out 1).trans rfl; have hfz21_0 := blk_frozen BK203.out 0; have hfz21_1 := blk_frozen BK203.out 1))
  (try simp only [Act.put, List.setIfInBounds_toArray, List.set_cons_zero, List.set_cons_succ])
  go_cut [47] (fun v47 wc => ∃ (kq : Nat) (x47_6 : Bool), v47 = .bool x47_6 ∧ Aside0 (laws_FnIntervals.j0 kq x47_6 t193 t194 t196 t197 = some r) ∧ Aside0 (kq ≤ k) ∧ Aside0 (wc.heap[gb195]? = some (.cells #[.int .i64 t193, .int .i64 t194] 27 (0, 0))) ∧ Aside0 (wc.heap[gb198]? = some (.cells #[.int .i64 t196, .int .i64 t197] 27 (0, 0))) ∧ Aside0 (wc.heap[gb203]? = some (.cells #[.int .i64 t200, .int .i64 t201] 27 (0, 0))) ∧ Aside0 (Below w.heap.size w wc))
  case first =>
   have H := HC7.out
   clear HC7
   by_cases c22 : t202 = true
   rotate_left
   · replace c22 := Bool.eq_false_iff.mpr c22
     subst c22
     have H1 : (laws_FnIntervals.j0 k true t193 t194 t196 t197) = some r := by rw [if_neg (show ¬ (false = true) by decide)] at H; exact H
     clear H
     have H := H1
     clear H1
     subst hr_
     exact absurd H (by cases k <;> simp [laws_FnIntervals.j0])
   subst c22
   have H1 : (if (!(t200 == t193) || (!(t201 == t194))) = true then (laws_FnIntervals.j0 k true t193 t194 t196 t197) else ((impl_IntervalOk.f t193 t194).bind fun t204 => (if t204 = true then ((impl_ReverseInterval.f t193 t194).bind fun bt205 => ((impl_ReverseInterval.f bt205.1 bt205.2).bind fun bt207 => (laws_FnIntervals.j0 k (!(bt207.1 == t193) || (!(bt207.2 == t194))) t193 t194 t196 t197))) else (laws_FnIntervals.j0 k true t193 t194 t196 t197)))) = some r := by rw [if_pos rfl] at H; exact H
   clear H
   have H := H1
   clear H1
   by_cases c23 : (!(t200 == t193) || (!(t201 == t194))) = true
   · rw [if_pos c23] at H
     have c23b0 : (!(t200 == t193) || (!(t201 == t194))) = true := c23
     clear c23
     (first | rw [c23b0] | (simp only [i64_w, i32_w]; rw [c23b0]) | skip)
     subst hr_
     exact absurd H (by cases k <;> simp [laws_FnIntervals.j0])
   rw [if_neg c23] at H
   have c23b0 : (!(t200 == t193) || (!(t201 == t194))) = false := by simpa using c23
   clear c23
   (first | rw [c23b0] | (simp only [i64_w, i32_w]; rw [c23b0]) | skip)
   replace H := Option.bind_eq_some_iff.mp H
   obtain ⟨t204, A240, H⟩ := H
   replace H : (if t204 = true then ((impl_ReverseInterval.f t193 t194).bind fun bt205 => ((impl_ReverseInterval.f bt205.1 bt205.2).bind fun bt207 => (laws_FnIntervals.j0 k (!(bt207.1 == t193) || (!(bt207.2 == t194))) t193 t194 t196 t197))) else (laws_FnIntervals.j0 k true t193 t194 t196 t197)) = some r := H
   have A24 := Aside0.mk A240
   clear A240
   by_cases c25 : t204 = true
   rotate_left
   · replace c25 := Bool.eq_false_iff.mpr c25
     subst c25
     have H1 : (laws_FnIntervals.j0 k true t193 t194 t196 t197) = some r := by rw [if_neg (show ¬ (false = true) by decide)] at H; exact H
     clear H
     have H := H1
     clear H1
     subst hr_
     exact absurd H (by cases k <;> simp [laws_FnIntervals.j0])
   subst c25
   have H1 : ((impl_ReverseInterval.f t193 t194).bind fun bt205 => ((impl_ReverseInterval.f bt205.1 bt205.2).bind fun bt207 => (laws_FnIntervals.j0 k (!(bt207.1 == t193) || (!(bt207.2 == t194))) t193 t194 t196 t197))) = some r := by rw [if_pos rfl] at H; exact H
   clear H
   have H := H1
   clear H1
   replace H := Option.bind_eq_some_iff.mp H
   obtain ⟨⟨t205, t206⟩, A260, H⟩ := H
   replace H : ((impl_ReverseInterval.f t205 t206).bind fun bt207 => (laws_FnIntervals.j0 k (!(bt207.1 == t193) || (!(bt207.2 == t194))) t193 t194 t196 t197)) = some r := H
   have A26 := Aside0.mk A260
   clear A260
   replace H := Option.bind_eq_some_iff.mp H
   obtain ⟨⟨t207, t208⟩, A270, H⟩ := H
   replace H : (laws_FnIntervals.j0 k (!(t207 == t193) || (!(t208 == t194))) t193 t194 t196 t197) = some r := H
   have A27 := Aside0.mk A270
   clear A270
   have H' := Aside0.mk H
   clear H
   try go_wp2
   have n0_ : Aside0 (((w18.setCell ⟨gb203, 0, none⟩ (.int .i64 t200)).setCell ⟨gb203, 1, none⟩ (.int .i64 t201)).heap[gb195]? = some (.cells #[.int .i64 t193, .int .i64 t194] 27 (0, 0))) := ⟨by (with_reducible repeat (first | refine blk_drewN ?_ _ | refine blk_drew ?_ | refine blk_alloc ?_ _)); refine blk_far ?_ NB195_203.out _; (with_reducible repeat (first | refine blk_drewN ?_ _ | refine blk_drew ?_ | refine blk_alloc ?_ _)); refine blk_far ?_ NB195_203.out _; (with_reducible repeat (first | refine blk_drewN ?_ _ | refine blk_drew ?_ | refine blk_alloc ?_ _)); exact BK195.out⟩
   have n1_ : Aside0 (((w18.setCell ⟨gb203, 0, none⟩ (.int .i64 t200)).setCell ⟨gb203, 1, none⟩ (.int .i64 t201)).heap[gb198]? = some (.cells #[.int .i64 t196, .int .i64 t197] 27 (0, 0))) := ⟨by (with_reducible repeat (first | refine blk_drewN ?_ _ | refine blk_drew ?_ | refine blk_alloc ?_ _)); refine blk_far ?_ NB198_203.out _; (with_reducible repeat (first | refine blk_drewN ?_ _ | refine blk_drew ?_ | refine blk_alloc ?_ _)); refine blk_far ?_ NB198_203.out _; (with_reducible repeat (first | refine blk_drewN ?_ _ | refine blk_drew ?_ | refine blk_alloc ?_ _)); exact BK198.out⟩
   have n2_ : Aside0 (((w18.setCell ⟨gb203, 0, none⟩ (.int .i64 t200)).setCell ⟨gb203, 1, none⟩ (.int .i64 t201)).heap[gb203]? = some (.cells #[.int .i64 t200, .int .i64 t201] 27 (0, 0))) := ⟨by (with_reducible repeat (first | refine blk_drewN ?_ _ | refine blk_drew ?_ | refine blk_alloc ?_ _)); refine blk_put (cs := #[.int .i64 t200, .int .i64 0]) ?_ 1 _ rfl; (with_reducible repeat (first | refine blk_drewN ?_ _ | refine blk_drew ?_ | refine blk_alloc ?_ _)); refine blk_put (cs := #[.int .i64 0, .int .i64 0]) ?_ 0 _ rfl; (with_reducible repeat (first | refine blk_drewN ?_ _ | refine blk_drew ?_ | refine blk_alloc ?_ _)); exact BK203.out⟩
   have n3_ : Aside0 (Below w.heap.size w ((w18.setCell ⟨gb203, 0, none⟩ (.int .i64 t200)).setCell ⟨gb203, 1, none⟩ (.int .i64 t201))) := ⟨by repeat (first | (with_reducible first | exact HB.out | apply below_alloc | apply pw_below_drewN | apply below_drew1 | refine below_set ?_ GE195.out | refine below_set ?_ GE198.out | refine below_set ?_ GE203.out) | exact HB.out)⟩
   (try clear BK195)
   (try clear BK198)
   (try clear BK203)
   (try clear HB)
   generalize ((w18.setCell ⟨gb203, 0, none⟩ (.int .i64 t200)).setCell ⟨gb203, 1, none⟩ (.int .i64 t201)) = w28 at n0_ n1_ n2_ n3_ ⊢
   have BK195 := n0_
   have BK198 := n1_
   have BK203 := n2_
   have HB := n3_
   clear n0_ n1_ n2_ n3_
   have n0_ := Aside0.mk (blk_drew BK195.out)
   have n1_ := Aside0.mk (blk_drew BK198.out)
   have n2_ := Aside0.mk (blk_drew BK203.out)
   have n3_ := Aside0.mk (below_drew1 HB.out)
   clear BK195
   clear BK198
   clear BK203
   clear HB
   have BK195 := n0_
   have BK198 := n1_
   have BK203 := n2_
   have HB := n3_
   clear n0_ n1_ n2_ n3_
   refine start_ (n := 19) (S := fun w' => w'.cell? ⟨gb203, 0, none⟩ = some (.int .i64 t200) ∧ w'.cell? ⟨gb203, 1, none⟩ = some (.int .i64 t201) ∧ w'.cell? ⟨gb195, 0, none⟩ = some (.int .i64 t193) ∧ w'.cell? ⟨gb195, 1, none⟩ = some (.int .i64 t194)) (ds := []) #[false, false, false, false, false, false, false, false, false, false, false, false, false, false, false, false, false, false, false] (by kernel_rfl) rfl rfl ⟨(blk_cell BK203.out 0).trans rfl, (blk_cell BK203.out 1).trans rfl, (blk_cell BK195.out 0).trans rfl, (blk_cell BK195.out 1).trans rfl⟩ (fun hHeld => ?_); refine with_tabW laws_FnIntervals.tab6 laws_FnIntervals.bits6 (fun HT_ HW_ => ?_)
   generalize w28.drew = w29 at BK195 BK198 BK203 HB hHeld ⊢
   refine pure_ (i := 0) (N := some 29) (v := ?_) (a' := ?_) #[true, false, false, false, false, false, false, false, false, false, false, false, false, false, false, false, false, false, false] rfl rfl (any_of HT_.out (by kernel_rfl)) (fun _ _ _ h => h) (Or.inl ⟨by rfl, ?_⟩) ?_ ?_
   rotate_left
   · intro w'
     go_simp
     with_reducible rfl
   rotate_left
   · simp only [Act.put, List.setIfInBounds_toArray, List.set_cons_zero, List.set_cons_succ, i64_w, i32_w]
     rfl
   refine pure_ (i := 1) (N := some 30) (v := ?_) (a' := ?_) #[true, true, false, false, false, false, false, false, false, false, false, false, false, false, false, false, false, false, false] rfl rfl (any_of HT_.out (by kernel_rfl)) (fun _ _ _ h => h) (Or.inl ⟨by rfl, ?_⟩) ?_ ?_
   rotate_left
   · intro w'
     go_simp
     with_reducible rfl
   rotate_left
   · simp only [Act.put, List.setIfInBounds_toArray, List.set_cons_zero, List.set_cons_succ, i64_w, i32_w]
     rfl
   refine pure_ (i := 2) (N := some 31) (v := ?_) (a' := ?_) #[true, true, true, false, false, false, false, false, false, false, false, false, false, false, false, false, false, false, false] rfl rfl (any_of HT_.out (by kernel_rfl)) (fun _ _ _ h => h) (Or.inl ⟨by rfl, ?_⟩) ?_ ?_
   rotate_left
   · intro w'
     go_simp
     with_reducible rfl
   rotate_left
   · simp only [Act.put, List.setIfInBounds_toArray, List.set_cons_zero, List.set_cons_succ, i64_w, i32_w]
     rfl
   refine take_ (i := 3) (N := some 32) (v := ?_) (a' := ?_) #[true, true, true, true, false, false, false, false, false, false, false, false, false, false, false, false, false, false, false] rfl rfl (take_ofW HT_.out HW_.out (by kernel_rfl)) (fun _ _ _ h => h) (Or.inl ⟨by rfl, ?_⟩) hHeld ?_ ?_
   rotate_left
   · rintro w' ⟨s0, s1, s2, s3⟩
     go_simp
     with_reducible rfl
   rotate_left
   · simp only [Act.put, List.setIfInBounds_toArray, List.set_cons_zero, List.set_cons_succ, i64_w, i32_w]
     rfl
   refine take_ (i := 4) (N := some 33) (v := ?_) (a' := ?_) #[true, true, true, true, true, false, false, false, false, false, false, false, false, false, false, false, false, false, false] rfl rfl (take_ofW HT_.out HW_.out (by kernel_rfl)) (fun _ _ _ h => h) (Or.inl ⟨by rfl, ?_⟩) hHeld ?_ ?_
   rotate_left
   · rintro w' ⟨s0, s1, s2, s3⟩
     go_simp
     with_reducible rfl
   rotate_left
   · simp only [Act.put, List.setIfInBounds_toArray, List.set_cons_zero, List.set_cons_succ, i64_w, i32_w]
     rfl
   refine pure_ (i := 5) (N := some 34) (v := ?_) (a' := ?_) #[true, true, true, true, true, true, false, false, false, false, false, false, false, false, false, false, false, false, false] rfl rfl (any_of HT_.out (by kernel_rfl)) (fun _ _ _ h => h) (Or.inl ⟨by rfl, ?_⟩) ?_ ?_
   rotate_left
   · intro w'
     go_simp
     with_reducible rfl
   rotate_left
   · simp only [Act.put, List.setIfInBounds_toArray, List.set_cons_zero, List.set_cons_succ, i64_w, i32_w]
     rfl
   refine pure_ (i := 6) (N := some 35) (v := ?_) (a' := ?_) #[true, true, true, true, true, true, true, false, false, false, false, false, false, false, false, false, false, false, false] rfl rfl (any_of HT_.out (by kernel_rfl)) (fun _ _ _ h => h) (Or.inl ⟨by rfl, ?_⟩) ?_ ?_
   rotate_left
   · intro w'
     go_simp
     with_reducible rfl
   rotate_left
   · simp only [Act.put, List.setIfInBounds_toArray, List.set_cons_zero, List.set_cons_succ, i64_w, i32_w]
     rfl
   refine pure_ (i := 7) (N := some 36) (v := ?_) (a' := ?_) #[true, true, true, true, true, true, true, true, false, false, false, false, false, false, false, false, false, false, false] rfl rfl (any_of HT_.out (by kernel_rfl)) (fun _ _ _ h => h) (Or.inl ⟨by rfl, ?_⟩) ?_ ?_
   rotate_left
   · intro w'
     go_simp
     with_reducible rfl
   rotate_left
   · simp only [Act.put, List.setIfInBounds_toArray, List.set_cons_zero, List.set_cons_succ, i64_w, i32_w]
     rfl
   refine take_ (i := 8) (N := some 37) (v := ?_) (a' := ?_) #[true, true, true, true, true, true, true, true, true, false, false, false, false, false, false, false, false, false, false] rfl rfl (take_ofW HT_.out HW_.out (by kernel_rfl)) (fun _ _ _ h => h) (Or.inl ⟨by rfl, ?_⟩) hHeld ?_ ?_
   rotate_left
   · rintro w' ⟨s0, s1, s2, s3⟩
     go_simp
     with_reducible rfl
   rotate_left
   · simp only [Act.put, List.setIfInBounds_toArray, List.set_cons_zero, List.set_cons_succ, i64_w, i32_w]
     rfl
   refine one_ (i := 9) (N := some 38) #[true, true, true, true, true, true, true, true, true, true, false, false, false, false, false, false, false, false, false] rfl rfl (one_of HT_.out (by kernel_rfl)) (by decide) (fun K hK => ?_)
   refine goes_ Tryd.func27 (by kernel_rfl) rfl #[.agg #[.int .i64 t193, .int .i64 t194]] (by rfl) rfl rfl (by (try simp only [List.map_toArray, List.map_cons, List.map_nil]); first | done | rfl | (simp only [List.length_drop, List.length_take]; rfl)) ?_
   with_reducible refine (impl_IntervalOk.calls t193 t194 true _ A24.out).mono ?_
   rintro e w30 ⟨rfl, hb⟩
   refine ⟨_, rfl, ?_⟩
   have n0_ := Aside0.mk (blk_below (g := gb195) (o := .cells #[.int .i64 t193, .int .i64 t194] 27 (0, 0)) (by (with_reducible repeat (first | refine blk_drewN ?_ _ | refine blk_drew ?_ | refine blk_alloc ?_ _)); exact BK195.out) hb)
   have n1_ := Aside0.mk (blk_below (g := gb198) (o := .cells #[.int .i64 t196, .int .i64 t197] 27 (0, 0)) (by (with_reducible repeat (first | refine blk_drewN ?_ _ | refine blk_drew ?_ | refine blk_alloc ?_ _)); exact BK198.out) hb)
   have n2_ := Aside0.mk (blk_below (g := gb203) (o := .cells #[.int .i64 t200, .int .i64 t201] 27 (0, 0)) (by (with_reducible repeat (first | refine blk_drewN ?_ _ | refine blk_drew ?_ | refine blk_alloc ?_ _)); exact BK203.out) hb)
   have n3_ := Aside0.mk (below_step (by repeat (first | (with_reducible first | exact HB.out | apply below_alloc | apply pw_below_drewN | apply below_drew1 | refine below_set ?_ GE195.out | refine below_set ?_ GE198.out | refine below_set ?_ GE203.out) | exact HB.out)) hb)
   clear BK195
   clear BK198
   clear BK203
   clear HB
   have BK195 := n0_
   have BK198 := n1_
   have BK203 := n2_
   have HB := n3_
   clear n0_ n1_ n2_ n3_
   (try clear hb)
   (try clear hb2)
   (try clear hk)
   (try clear hi)
   refine hK.out _ _ ⟨(blk_cell BK203.out 0).trans rfl, (blk_cell BK203.out 1).trans rfl, (blk_cell BK195.out 0).trans rfl, (blk_cell BK195.out 1).trans rfl⟩ (fun hHeld => ?_)
   clear hK K
   refine norm_ (a' := ?_) ?_ ?_
   rotate_left
   · show Act.put _ (some 38) _ = _
     simp only [Act.put, List.setIfInBounds_toArray, List.set_cons_zero, List.set_cons_succ, i64_w, i32_w]
     rfl
   refine pure_ (i := 10) (N := some 39) (v := ?_) (a' := ?_) #[true, true, true, true, true, true, true, true, true, true, true, false, false, false, false, false, false, false, false] rfl rfl (any_of HT_.out (by kernel_rfl)) (fun _ _ _ h => h) (Or.inl ⟨by rfl, ?_⟩) ?_ ?_
   rotate_left
   · intro w'
     go_simp
     with_reducible rfl
   rotate_left
   · simp only [Act.put, List.setIfInBounds_toArray, List.set_cons_zero, List.set_cons_succ, i64_w, i32_w]
     rfl
   refine pure_ (i := 11) (N := some 40) (v := ?_) (a' := ?_) #[true, true, true, true, true, true, true, true, true, true, true, true, false, false, false, false, false, false, false] rfl rfl (any_of HT_.out (by kernel_rfl)) (fun _ _ _ h => h) (Or.inl ⟨by rfl, ?_⟩) ?_ ?_
   rotate_left
   · intro w'
     go_simp
     with_reducible rfl
   rotate_left
   · simp only [Act.put, List.setIfInBounds_toArray, List.set_cons_zero, List.set_cons_succ, i64_w, i32_w]
     rfl
   refine pure_ (i := 12) (N := some 41) (v := ?_) (a' := ?_) #[true, true, true, true, true, true, true, true, true, true, true, true, true, false, false, false, false, false, false] rfl rfl (any_of HT_.out (by kernel_rfl)) (fun _ _ _ h => h) (Or.inl ⟨by rfl, ?_⟩) ?_ ?_
   rotate_left
   · intro w'
     go_simp
     with_reducible rfl
   rotate_left
   · simp only [Act.put, List.setIfInBounds_toArray, List.set_cons_zero, List.set_cons_succ, i64_w, i32_w]
     rfl
   refine take_ (i := 13) (N := some 42) (v := ?_) (a' := ?_) #[true, true, true, true, true, true, true, true, true, true, true, true, true, true, false, false, false, false, false] rfl rfl (take_ofW HT_.out HW_.out (by kernel_rfl)) (fun _ _ _ h => h) (Or.inl ⟨by rfl, ?_⟩) hHeld ?_ ?_
   rotate_left
   · rintro w' ⟨s0, s1, s2, s3⟩
     go_simp
     with_reducible rfl
   rotate_left
   · simp only [Act.put, List.setIfInBounds_toArray, List.set_cons_zero, List.set_cons_succ, i64_w, i32_w]
     rfl
   refine take_ (i := 16) (N := some 45) (v := ?_) (a' := ?_) #[true, true, true, true, true, true, true, true, true, true, true, true, true, true, false, false, true, false, false] rfl rfl (take_ofW HT_.out HW_.out (by kernel_rfl)) (fun _ _ _ h => h) (Or.inl ⟨by rfl, ?_⟩) hHeld ?_ ?_
   rotate_left
   · rintro w' ⟨s0, s1, s2, s3⟩
     go_simp
     with_reducible rfl
   rotate_left
   · simp only [Act.put, List.setIfInBounds_toArray, List.set_cons_zero, List.set_cons_succ, i64_w, i32_w]
     rfl
   refine one_ (i := 14) (N := some 43) #[true, true, true, true, true, true, true, true, true, true, true, true, true, true, true, false, true, false, false] rfl rfl (one_of HT_.out (by kernel_rfl)) (by decide) (fun K hK => ?_)
   refine goes_ Tryd.func28 (by kernel_rfl) rfl #[.agg #[.int .i64 t193, .int .i64 t194]] (by rfl) rfl rfl (by (try simp only [List.map_toArray, List.map_cons, List.map_nil]); first | done | rfl | (simp only [List.length_drop, List.length_take]; rfl)) ?_
   with_reducible refine (impl_ReverseInterval.calls t193 t194 t205 t206 _ A26.out).mono ?_
   rintro e w31 ⟨rfl, hb⟩
   refine ⟨_, rfl, ?_⟩
   have n0_ := Aside0.mk (blk_below (g := gb195) (o := .cells #[.int .i64 t193, .int .i64 t194] 27 (0, 0)) (by (with_reducible repeat (first | refine blk_drewN ?_ _ | refine blk_drew ?_ | refine blk_alloc ?_ _)); exact BK195.out) hb)
   have n1_ := Aside0.mk (blk_below (g := gb198) (o := .cells #[.int .i64 t196, .int .i64 t197] 27 (0, 0)) (by (with_reducible repeat (first | refine blk_drewN ?_ _ | refine blk_drew ?_ | refine blk_alloc ?_ _)); exact BK198.out) hb)
   have n2_ := Aside0.mk (blk_below (g := gb203) (o := .cells #[.int .i64 t200, .int .i64 t201] 27 (0, 0)) (by (with_reducible repeat (first | refine blk_drewN ?_ _ | refine blk_drew ?_ | refine blk_alloc ?_ _)); exact BK203.out) hb)
   have n3_ := Aside0.mk (below_step (by repeat (first | (with_reducible first | exact HB.out | apply below_alloc | apply pw_below_drewN | apply below_drew1 | refine below_set ?_ GE195.out | refine below_set ?_ GE198.out | refine below_set ?_ GE203.out) | exact HB.out)) hb)
   clear BK195
   clear BK198
   clear BK203
   clear HB
   have BK195 := n0_
   have BK198 := n1_
   have BK203 := n2_
   have HB := n3_
   clear n0_ n1_ n2_ n3_
   (try clear hb)
   (try clear hb2)
   (try clear hk)
   (try clear hi)
   refine hK.out _ _ ⟨(blk_cell BK203.out 0).trans rfl, (blk_cell BK203.out 1).trans rfl, (blk_cell BK195.out 0).trans rfl, (blk_cell BK195.out 1).trans rfl⟩ (fun hHeld => ?_)
   clear hK K
   refine norm_ (a' := ?_) ?_ ?_
   rotate_left
   · show Act.put _ (some 43) _ = _
     simp only [Act.put, List.setIfInBounds_toArray, List.set_cons_zero, List.set_cons_succ, i64_w, i32_w]
     rfl
   refine one_ (i := 15) (N := some 44) #[true, true, true, true, true, true, true, true, true, true, true, true, true, true, true, true, true, false, false] rfl rfl (one_of HT_.out (by kernel_rfl)) (by decide) (fun K hK => ?_)
   refine goes_ Tryd.func28 (by kernel_rfl) rfl #[.agg #[.int .i64 t205, .int .i64 t206]] (by rfl) rfl rfl (by (try simp only [List.map_toArray, List.map_cons, List.map_nil]); first | done | rfl | (simp only [List.length_drop, List.length_take]; rfl)) ?_
   with_reducible refine (impl_ReverseInterval.calls t205 t206 t207 t208 _ A27.out).mono ?_
   rintro e w32 ⟨rfl, hb⟩
   refine ⟨_, rfl, ?_⟩
   have n0_ := Aside0.mk (blk_below (g := gb195) (o := .cells #[.int .i64 t193, .int .i64 t194] 27 (0, 0)) (by (with_reducible repeat (first | refine blk_drewN ?_ _ | refine blk_drew ?_ | refine blk_alloc ?_ _)); exact BK195.out) hb)
   have n1_ := Aside0.mk (blk_below (g := gb198) (o := .cells #[.int .i64 t196, .int .i64 t197] 27 (0, 0)) (by (with_reducible repeat (first | refine blk_drewN ?_ _ | refine blk_drew ?_ | refine blk_alloc ?_ _)); exact BK198.out) hb)
   have n2_ := Aside0.mk (blk_below (g := gb203) (o := .cells #[.int .i64 t200, .int .i64 t201] 27 (0, 0)) (by (with_reducible repeat (first | refine blk_drewN ?_ _ | refine blk_drew ?_ | refine blk_alloc ?_ _)); exact BK203.out) hb)
   have n3_ := Aside0.mk (below_step (by repeat (first | (with_reducible first | exact HB.out | apply below_alloc | apply pw_below_drewN | apply below_drew1 | refine below_set ?_ GE195.out | refine below_set ?_ GE198.out | refine below_set ?_ GE203.out) | exact HB.out)) hb)
   clear BK195
   clear BK198
   clear BK203
   clear HB
   have BK195 := n0_
   have BK198 := n1_
   have BK203 := n2_
   have HB := n3_
   clear n0_ n1_ n2_ n3_
   (try clear hb)
   (try clear hb2)
   (try clear hk)
   (try clear hi)
   refine hK.out _ _ ⟨(blk_cell BK203.out 0).trans rfl, (blk_cell BK203.out 1).trans rfl, (blk_cell BK195.out 0).trans rfl, (blk_cell BK195.out 1).trans rfl⟩ (fun hHeld => ?_)
   clear hK K
   refine norm_ (a' := ?_) ?_ ?_
   rotate_left
   · show Act.put _ (some 44) _ = _
     simp only [Act.put, List.setIfInBounds_toArray, List.set_cons_zero, List.set_cons_succ, i64_w, i32_w]
     rfl
   refine pure_ (i := 17) (N := some 46) (v := ?_) (a' := ?_) #[true, true, true, true, true, true, true, true, true, true, true, true, true, true, true, true, true, true, false] rfl rfl (any_of HT_.out (by kernel_rfl)) (fun _ _ _ h => h) (Or.inl ⟨by rfl, ?_⟩) ?_ ?_
   rotate_left
   · intro w'
     go_simp
     with_reducible rfl
   rotate_left
   · simp only [Act.put, List.setIfInBounds_toArray, List.set_cons_zero, List.set_cons_succ, i64_w, i32_w]
     rfl
   refine pure_ (i := 18) (N := some 47) (v := ?_) (a' := ?_) #[true, true, true, true, true, true, true, true, true, true, true, true, true, true, true, true, true, true, true] rfl rfl (any_of HT_.out (by kernel_rfl)) (fun _ _ _ h => h) (Or.inl ⟨by rfl, ?_⟩) ?_ ?_
   rotate_left
   · intro w'
     go_simp
     with_reducible rfl
   rotate_left
   · simp only [Act.put, List.setIfInBounds_toArray, List.set_cons_zero, List.set_cons_succ, i64_w, i32_w]
     rfl
   refine done_ (done_of HT_.out (by kernel_rfl)) ?_
   try go_wp2
   go_meet
   case rel => exact ⟨_, ((!(t207 == t193) || (!(t208 == t194)))), (by first | rfl | (simp; done) | (simp [*]; done)), H', ⟨by first | omega | exact Nat.le_refl _⟩, ⟨by (with_reducible repeat (first | refine blk_drewN ?_ _ | refine blk_drew ?_ | refine blk_alloc ?_ _)); exact BK195.out⟩, ⟨by (with_reducible repeat (first | refine blk_drewN ?_ _ | refine blk_drew ?_ | refine blk_alloc ?_ _)); exact BK198.out⟩, ⟨by (with_reducible repeat (first | refine blk_drewN ?_ _ | refine blk_drew ?_ | refine blk_alloc ?_ _)); exact BK203.out⟩, ⟨by repeat (first | (with_reducible first | exact HB.out | apply below_alloc | apply pw_below_drewN | apply below_drew1 | refine below_set ?_ GE195.out | refine below_set ?_ GE198.out | refine below_set ?_ GE203.out) | exact HB.out)⟩⟩
  case rest =>
   clear HC7
   try clear c1
   try clear c2
   try clear c2b0
   try clear c2b1
   try clear p2
   try clear c8
   try clear c13
   try clear c17
   try clear c19
   try clear c20
   try clear c22
   try clear c23
   try clear c23b0
   try clear c25
   try clear c26
   try clear c27
   try clear c28
   try clear hcz10_0
   try clear hcz10_1
   try clear hcz14_0
   try clear hcz14_1
   try clear hcz15_0
   try clear hcz15_1
   try clear hcz21_0
   try clear hcz21_1
   try clear hfz10_0
   try clear hfz10_1
   try clear hfz14_0
   try clear hfz14_1
   try clear hfz15_0
   try clear hfz15_1
   try clear hfz21_0
   try clear hfz21_1
   obtain ⟨kq, x47_6, rfl, HA, HJ6, BK195, BK198, BK203, HB⟩ := hcut
   cases kq with
   | zero => exact absurd HA.out (by simp [laws_FnIntervals.j0])
   | succ kj6 =>
    have H := HA.out
    clear HA
    simp only [laws_FnIntervals.j0] at H
    by_cases c33 : x47_6 = true
    · subst c33
      have H1 : (some false) = some r := by rw [if_pos rfl] at H; exact H
      clear H
      have H := H1
      clear H1
      obtain rfl := Option.some.inj H
      exact absurd hr_ (by decide)
    replace c33 := Bool.eq_false_iff.mpr c33
    subst c33
    have H1 : ((impl_AddIntervals.f kj6 t193 t194 t196 t197).bind fun bt209 => ((impl_Hull.f t193 t194 t196 t197).bind fun bt212 => ((impl_Intersect.f t193 t194 t196 t197).bind fun bt216 => ((impl_Contains.f t193 t194 (mx t193 (-20))).bind fun t220 => (if t220 = true then ((impl_Contains.f t196 t197 (mx t196 (-20))).bind fun t221 => (if t221 = true then ((impl_Contains.f bt209.1 bt209.2 (wrap64 ((mx t193 (-20)) + (mx t196 (-20))))).bind fun t222 => (if t222 = true then (if bt212.2.2 = true then ((impl_Contains.f bt212.1 bt212.2.1 (mx t193 (-20))).bind fun t223 => (if t223 = true then ((impl_Contains.f bt212.1 bt212.2.1 (mx t196 (-20))).bind fun t224 => (laws_FnIntervals.j1 kj6 bt216.2.2 (!t224) t193 t194 t196 t197 bt216.1 bt216.2.1)) else (laws_FnIntervals.j1 kj6 bt216.2.2 true t193 t194 t196 t197 bt216.1 bt216.2.1))) else (laws_FnIntervals.j1 kj6 bt216.2.2 true t193 t194 t196 t197 bt216.1 bt216.2.1)) else (laws_FnIntervals.j1 kj6 bt216.2.2 true t193 t194 t196 t197 bt216.1 bt216.2.1))) else (laws_FnIntervals.j1 kj6 bt216.2.2 true t193 t194 t196 t197 bt216.1 bt216.2.1))) else (laws_FnIntervals.j1 kj6 bt216.2.2 true t193 t194 t196 t197 bt216.1 bt216.2.1)))))) = some r := by rw [if_neg (show ¬ (false = true) by decide)] at H; exact H
    clear H
    have H := H1
    clear H1
    replace H := Option.bind_eq_some_iff.mp H
    obtain ⟨⟨t209, t210⟩, A340, H⟩ := H
    replace H : ((impl_Hull.f t193 t194 t196 t197).bind fun bt212 => ((impl_Intersect.f t193 t194 t196 t197).bind fun bt216 => ((impl_Contains.f t193 t194 (mx t193 (-20))).bind fun t220 => (if t220 = true then ((impl_Contains.f t196 t197 (mx t196 (-20))).bind fun t221 => (if t221 = true then ((impl_Contains.f t209 t210 (wrap64 ((mx t193 (-20)) + (mx t196 (-20))))).bind fun t222 => (if t222 = true then (if bt212.2.2 = true then ((impl_Contains.f bt212.1 bt212.2.1 (mx t193 (-20))).bind fun t223 => (if t223 = true then ((impl_Contains.f bt212.1 bt212.2.1 (mx t196 (-20))).bind fun t224 => (laws_FnIntervals.j1 kj6 bt216.2.2 (!t224) t193 t194 t196 t197 bt216.1 bt216.2.1)) else (laws_FnIntervals.j1 kj6 bt216.2.2 true t193 t194 t196 t197 bt216.1 bt216.2.1))) else (laws_FnIntervals.j1 kj6 bt216.2.2 true t193 t194 t196 t197 bt216.1 bt216.2.1)) else (laws_FnIntervals.j1 kj6 bt216.2.2 true t193 t194 t196 t197 bt216.1 bt216.2.1))) else (laws_FnIntervals.j1 kj6 bt216.2.2 true t193 t194 t196 t197 bt216.1 bt216.2.1))) else (laws_FnIntervals.j1 kj6 bt216.2.2 true t193 t194 t196 t197 bt216.1 bt216.2.1))))) = some r := H
    have A34 := Aside0.mk A340
    clear A340
    replace H := Option.bind_eq_some_iff.mp H
    obtain ⟨⟨t212, t213, t214⟩, A350, H⟩ := H
    replace H : ((impl_Intersect.f t193 t194 t196 t197).bind fun bt216 => ((impl_Contains.f t193 t194 (mx t193 (-20))).bind fun t220 => (if t220 = true then ((impl_Contains.f t196 t197 (mx t196 (-20))).bind fun t221 => (if t221 = true then ((impl_Contains.f t209 t210 (wrap64 ((mx t193 (-20)) + (mx t196 (-20))))).bind fun t222 => (if t222 = true then (if t214 = true then ((impl_Contains.f t212 t213 (mx t193 (-20))).bind fun t223 => (if t223 = true then ((impl_Contains.f t212 t213 (mx t196 (-20))).bind fun t224 => (laws_FnIntervals.j1 kj6 bt216.2.2 (!t224) t193 t194 t196 t197 bt216.1 bt216.2.1)) else (laws_FnIntervals.j1 kj6 bt216.2.2 true t193 t194 t196 t197 bt216.1 bt216.2.1))) else (laws_FnIntervals.j1 kj6 bt216.2.2 true t193 t194 t196 t197 bt216.1 bt216.2.1)) else (laws_FnIntervals.j1 kj6 bt216.2.2 true t193 t194 t196 t197 bt216.1 bt216.2.1))) else (laws_FnIntervals.j1 kj6 bt216.2.2 true t193 t194 t196 t197 bt216.1 bt216.2.1))) else (laws_FnIntervals.j1 kj6 bt216.2.2 true t193 t194 t196 t197 bt216.1 bt216.2.1)))) = some r := H
    have A35 := Aside0.mk A350
    clear A350
    replace H := Option.bind_eq_some_iff.mp H
    obtain ⟨⟨t216, t217, t218⟩, A360, H⟩ := H
    replace H : ((impl_Contains.f t193 t194 (mx t193 (-20))).bind fun t220 => (if t220 = true then ((impl_Contains.f t196 t197 (mx t196 (-20))).bind fun t221 => (if t221 = true then ((impl_Contains.f t209 t210 (wrap64 ((mx t193 (-20)) + (mx t196 (-20))))).bind fun t222 => (if t222 = true then (if t214 = true then ((impl_Contains.f t212 t213 (mx t193 (-20))).bind fun t223 => (if t223 = true then ((impl_Contains.f t212 t213 (mx t196 (-20))).bind fun t224 => (laws_FnIntervals.j1 kj6 t218 (!t224) t193 t194 t196 t197 t216 t217)) else (laws_FnIntervals.j1 kj6 t218 true t193 t194 t196 t197 t216 t217))) else (laws_FnIntervals.j1 kj6 t218 true t193 t194 t196 t197 t216 t217)) else (laws_FnIntervals.j1 kj6 t218 true t193 t194 t196 t197 t216 t217))) else (laws_FnIntervals.j1 kj6 t218 true t193 t194 t196 t197 t216 t217))) else (laws_FnIntervals.j1 kj6 t218 true t193 t194 t196 t197 t216 t217))) = some r := H
    have A36 := Aside0.mk A360
    clear A360
    obtain ⟨ji37, hji37⟩ : ∃ j_ : Int, (mx t193 (-20)) = j_ := ⟨_, rfl⟩
    replace H : ((impl_Contains.f t193 t194 (ji37)).bind fun t220 => (if t220 = true then ((impl_Contains.f t196 t197 (mx t196 (-20))).bind fun t221 => (if t221 = true then ((impl_Contains.f t209 t210 (wrap64 ((ji37) + (mx t196 (-20))))).bind fun t222 => (if t222 = true then (if t214 = true then ((impl_Contains.f t212 t213 (ji37)).bind fun t223 => (if t223 = true then ((impl_Contains.f t212 t213 (mx t196 (-20))).bind fun t224 => (laws_FnIntervals.j1 kj6 t218 (!t224) t193 t194 t196 t197 t216 t217)) else (laws_FnIntervals.j1 kj6 t218 true t193 t194 t196 t197 t216 t217))) else (laws_FnIntervals.j1 kj6 t218 true t193 t194 t196 t197 t216 t217)) else (laws_FnIntervals.j1 kj6 t218 true t193 t194 t196 t197 t216 t217))) else (laws_FnIntervals.j1 kj6 t218 true t193 t194 t196 t197 t216 t217))) else (laws_FnIntervals.j1 kj6 t218 true t193 t194 t196 t197 t216 t217))) = some r := by first | (rw [hji37] at H; exact H) | (simp only [hji37] at H ⊢; exact H)
    (try rw [hji37] at A34)
    (try rw [hji37] at A35)
    (try rw [hji37] at A36)
    have hji37_ : (if t193 < (-20) then (-20) else t193) = ji37 := hji37
    obtain ⟨ji38, hji38⟩ : ∃ j_ : Int, (mx t196 (-20)) = j_ := ⟨_, rfl⟩
    replace H : ((impl_Contains.f t193 t194 (ji37)).bind fun t220 => (if t220 = true then ((impl_Contains.f t196 t197 (ji38)).bind fun t221 => (if t221 = true then ((impl_Contains.f t209 t210 (wrap64 ((ji37) + (ji38)))).bind fun t222 => (if t222 = true then (if t214 = true then ((impl_Contains.f t212 t213 (ji37)).bind fun t223 => (if t223 = true then ((impl_Contains.f t212 t213 (ji38)).bind fun t224 => (laws_FnIntervals.j1 kj6 t218 (!t224) t193 t194 t196 t197 t216 t217)) else (laws_FnIntervals.j1 kj6 t218 true t193 t194 t196 t197 t216 t217))) else (laws_FnIntervals.j1 kj6 t218 true t193 t194 t196 t197 t216 t217)) else (laws_FnIntervals.j1 kj6 t218 true t193 t194 t196 t197 t216 t217))) else (laws_FnIntervals.j1 kj6 t218 true t193 t194 t196 t197 t216 t217))) else (laws_FnIntervals.j1 kj6 t218 true t193 t194 t196 t197 t216 t217))) = some r := by first | (rw [hji38] at H; exact H) | (simp only [hji38] at H ⊢; exact H)
    (try rw [hji38] at A34)
    (try rw [hji38] at A35)
    (try rw [hji38] at A36)
    have hji38_ : (if t196 < (-20) then (-20) else t196) = ji38 := hji38
    have HC39 := Aside0.mk H
    clear H
    have hnb40 := NB195_198.out
    have hnc40 := NB198_195.out
    have hnb41 := NB195_203.out
    have hnc41 := NB203_195.out
    have hcz42_0 : wc.cell? ⟨gb195, 0, none⟩ = some (.int .i64 t193) := (blk_cell BK195.out 0).trans rfl
    have hcz42_1 : wc.cell? ⟨gb195, 1, none⟩ = some (.int .i64 t194) := (blk_cell BK195.out 1).trans rfl
    have hfz42_0 := blk_frozen BK195.out 0
    have hfz42_1 := blk_frozen BK195.out 1
    have hnb43 := NB198_203.out
    have hnc43 := NB203_198.out
    have hcz44_0 : wc.cell? ⟨gb198, 0, none⟩ = some (.int .i64 t196) := (blk_cell BK198.out 0).trans rfl
    have hcz44_1 : wc.cell? ⟨gb198, 1, none⟩ = some (.int .i64 t197) := (blk_cell BK198.out 1).trans rfl
    have hfz44_0 := blk_frozen BK198.out 0
    have hfz44_1 := blk_frozen BK198.out 1
    go_upto_region 13 with (first | ((with_reducible refine gate_callee (f := 29) rfl ?_); refine goesL_ (some 50) rfl rfl Tryd.func29 (by kernel_rfl) rfl #[.agg #[.int .i64 t193, .int .i64 t194], .agg #[.int .i64 t196, .int .i64 t197]] rfl (by (try simp only [List.map_toArray, List.map_cons, List.map_nil]); first | done | rfl | (simp only [List.length_drop, List.length_take]; rfl)) ?_; (with_reducible refine (impl_AddIntervals.calls kj6 t193 t194 t196 t197 t209 t210 _ A34.out).mono ?_); rintro e w45 ⟨rfl, hb⟩; refine ⟨_, rfl, ?_⟩; have n0_ := Aside0.mk (blk_below (g := gb195) (o := .cells #[.int .i64 t193, .int .i64 t194] 27 (0, 0)) (by (with_reducible repeat (first | refine blk_drewN ?_ _ | refine blk_drew ?_ | refine blk_alloc ?_ _)); exact BK195.out) hb); have n1_ := Aside0.mk (blk_below (g := gb198) (o := .cells #[.int .i64 t196, .int .i64 t197] 27 (0, 0)) (by (with_reducible repeat (first | refine blk_drewN ?_ _ | refine blk_drew ?_ | refine blk_alloc ?_ _)); exact BK198.out) hb); have n2_ := Aside0.mk (blk_below (g := gb203) (o := .cells #[.int .i64 t200, .int .i64 t201] 27 (0, 0)) (by (with_reducible repeat (first | refine blk_drewN ?_ _ | refine blk_drew ?_ | refine blk_alloc ?_ _)); exact BK203.out) hb); have n3_ := Aside0.mk (below_step (by repeat (first | (with_reducible first | exact HB.out | apply below_alloc | apply pw_below_drewN | apply below_drew1 | refine below_set ?_ GE195.out | refine below_set ?_ GE198.out | refine below_set ?_ GE203.out) | exact HB.out)) hb); clear BK195; clear BK198; clear BK203; clear HB; have BK195 := n0_; have BK198 := n1_; have BK203 := n2_; have HB := n3_; clear n0_ n1_ n2_ n3_; (try clear hb); (try clear hb2); (try clear hk); (try clear hi)) | ((with_reducible refine gate_dst (N := 7) rfl ?_); refine box_event ?hg (N := 7) ?hd (cs := #[.int .i64 0, .int .i64 0]) (t := 27) ?hr ?_; (case hd => rfl); (case hg => rfl); (case hr => first | (go_simp; done) | (go_simp; rfl)); intro gb211 hg w46 hbox hb; have n0_ := Aside0.mk (blk_below (g := gb195) (o := .cells #[.int .i64 t193, .int .i64 t194] 27 (0, 0)) (by (with_reducible repeat (first | refine blk_drewN ?_ _ | refine blk_drew ?_ | refine blk_alloc ?_ _)); exact BK195.out) hb); have n1_ := Aside0.mk (blk_below (g := gb198) (o := .cells #[.int .i64 t196, .int .i64 t197] 27 (0, 0)) (by (with_reducible repeat (first | refine blk_drewN ?_ _ | refine blk_drew ?_ | refine blk_alloc ?_ _)); exact BK198.out) hb); have n2_ := Aside0.mk (blk_below (g := gb203) (o := .cells #[.int .i64 t200, .int .i64 t201] 27 (0, 0)) (by (with_reducible repeat (first | refine blk_drewN ?_ _ | refine blk_drew ?_ | refine blk_alloc ?_ _)); exact BK203.out) hb); have n3_ := Aside0.mk (below_step (by repeat (first | (with_reducible first | exact HB.out | apply below_alloc | apply pw_below_drewN | apply below_drew1 | refine below_set ?_ GE195.out | refine below_set ?_ GE198.out | refine below_set ?_ GE203.out) | exact HB.out)) hb); have n4_ := Aside0.mk (hbox); have n5_ := Aside0.mk ((by rw [hg]; exact (below_size (by repeat (first | (with_reducible first | exact HB.out | apply below_alloc | apply pw_below_drewN | apply below_drew1 | refine below_set ?_ GE195.out | refine below_set ?_ GE198.out | refine below_set ?_ GE203.out) | exact HB.out))) : w.heap.size ≤ gb211)); have n6_ := Aside0.mk ((by rw [hg]; exact (below_size (by repeat (first | (with_reducible first | exact HB.out | apply below_alloc | apply pw_below_drewN | apply below_drew1 | refine below_set ?_ GE195.out | refine below_set ?_ GE198.out | refine below_set ?_ GE203.out) | exact HB.out))) : w.heap.size ≤ gb211)); have n7_ := Aside0.mk ((by rw [hg]; exact Nat.ne_of_lt (blk_lt (g := gb195) (o := .cells #[.int .i64 t193, .int .i64 t194] 27 (0, 0)) (by (with_reducible repeat (first | refine blk_drewN ?_ _ | refine blk_drew ?_ | refine blk_alloc ?_ _)); exact BK195.out)) : gb195 ≠ gb211)); have n8_ := Aside0.mk ((by rw [hg]; exact Nat.ne_of_gt (blk_lt (g := gb195) (o := .cells #[.int .i64 t193, .int .i64 t194] 27 (0, 0)) (by (with_reducible repeat (first | refine blk_drewN ?_ _ | refine blk_drew ?_ | refine blk_alloc ?_ _)); exact BK195.out)) : gb211 ≠ gb195)); have n9_ := Aside0.mk ((by rw [hg]; exact Nat.ne_of_lt (blk_lt (g := gb198) (o := .cells #[.int .i64 t196, .int .i64 t197] 27 (0, 0)) (by (with_reducible repeat (first | refine blk_drewN ?_ _ | refine blk_drew ?_ | refine blk_alloc ?_ _)); exact BK198.out)) : gb198 ≠ gb211)); have n10_ := Aside0.mk ((by rw [hg]; exact Nat.ne_of_gt (blk_lt (g := gb198) (o := .cells #[.int .i64 t196, .int .i64 t197] 27 (0, 0)) (by (with_reducible repeat (first | refine blk_drewN ?_ _ | refine blk_drew ?_ | refine blk_alloc ?_ _)); exact BK198.out)) : gb211 ≠ gb198)); have n11_ := Aside0.mk ((by rw [hg]; exact Nat.ne_of_lt (blk_lt (g := gb203) (o := .cells #[.int .i64 t200, .int .i64 t201] 27 (0, 0)) (by (with_reducible repeat (first | refine blk_drewN ?_ _ | refine blk_drew ?_ | refine blk_alloc ?_ _)); exact BK203.out)) : gb203 ≠ gb211)); have n12_ := Aside0.mk ((by rw [hg]; exact Nat.ne_of_gt (blk_lt (g := gb203) (o := .cells #[.int .i64 t200, .int .i64 t201] 27 (0, 0)) (by (with_reducible repeat (first | refine blk_drewN ?_ _ | refine blk_drew ?_ | refine blk_alloc ?_ _)); exact BK203.out)) : gb211 ≠ gb203)); clear BK195; clear BK198; clear BK203; clear HB; have BK195 := n0_; have BK198 := n1_; have BK203 := n2_; have HB := n3_; have BK211 := n4_; have GW211 := n5_; have GE211 := n6_; have NB195_211 := n7_; have NB211_195 := n8_; have NB198_211 := n9_; have NB211_198 := n10_; have NB203_211 := n11_; have NB211_203 := n12_; clear n0_ n1_ n2_ n3_ n4_ n5_ n6_ n7_ n8_ n9_ n10_ n11_ n12_; clear hb hbox hg; have hnb47 := NB211_195.out; have hnc47 := NB195_211.out; have hnb48 := NB211_198.out; have hnc48 := NB198_211.out; have hnb49 := NB211_203.out; have hnc49 := NB203_211.out; have hcz50_0 : w46.cell? ⟨gb211, 0, none⟩ = some (.int .i64 0) := (blk_cell BK211.out 0).trans rfl; have hcz50_1 : w46.cell? ⟨gb211, 1, none⟩ = some (.int .i64 0) := (blk_cell BK211.out 1).trans rfl; have hfz50_0 := blk_frozen BK211.out 0; have hfz50_1 := blk_frozen BK211.out 1; have hcz51_0 : w46.cell? ⟨gb195, 0, none⟩ = some (.int .i64 t193) := (blk_cell BK195.out 0).trans rfl; have hcz51_1 : w46.cell? ⟨gb195, 1, none⟩ = some (.int .i64 t194) := (blk_cell BK195.out 1).trans rfl; have hfz51_0 := blk_frozen BK195.out 0; have hfz51_1 := blk_frozen BK195.out 1; have hcz52_0 : w46.cell? ⟨gb198, 0, none⟩ = some (.int .i64 t196) := (blk_cell BK198.out 0).trans rfl; have hcz52_1 : w46.cell? ⟨gb198, 1, none⟩ = some (.int .i64 t197) := (blk_cell BK198.out 1).trans rfl; have hfz52_0 := blk_frozen BK198.out 0; have hfz52_1 := blk_frozen BK198.out 1) | ((with_reducible refine gate_callee (f := 30) rfl ?_); refine goesL_ (some 54) rfl rfl Tryd.func30 (by kernel_rfl) rfl #[.agg #[.int .i64 t193, .int .i64 t194], .agg #[.int .i64 t196, .int .i64 t197]] rfl (by (try simp only [List.map_toArray, List.map_cons, List.map_nil]); first | done | rfl | (simp only [List.length_drop, List.length_take]; rfl)) ?_; (with_reducible refine (impl_Hull.calls t193 t194 t196 t197 t212 t213 t214 _ A35.out).mono ?_); rintro e w53 ⟨rfl, hb⟩; refine ⟨_, rfl, ?_⟩; have n0_ := Aside0.mk (blk_below (g := gb195) (o := .cells #[.int .i64 t193, .int .i64 t194] 27 (0, 0)) (by (with_reducible repeat (first | refine blk_drewN ?_ _ | refine blk_drew ?_ | refine blk_alloc ?_ _)); refine blk_far ?_ NB195_211.out _; (with_reducible repeat (first | refine blk_drewN ?_ _ | refine blk_drew ?_ | refine blk_alloc ?_ _)); refine blk_far ?_ NB195_211.out _; (with_reducible repeat (first | refine blk_drewN ?_ _ | refine blk_drew ?_ | refine blk_alloc ?_ _)); exact BK195.out) hb); have n1_ := Aside0.mk (blk_below (g := gb198) (o := .cells #[.int .i64 t196, .int .i64 t197] 27 (0, 0)) (by (with_reducible repeat (first | refine blk_drewN ?_ _ | refine blk_drew ?_ | refine blk_alloc ?_ _)); refine blk_far ?_ NB198_211.out _; (with_reducible repeat (first | refine blk_drewN ?_ _ | refine blk_drew ?_ | refine blk_alloc ?_ _)); refine blk_far ?_ NB198_211.out _; (with_reducible repeat (first | refine blk_drewN ?_ _ | refine blk_drew ?_ | refine blk_alloc ?_ _)); exact BK198.out) hb); have n2_ := Aside0.mk (blk_below (g := gb203) (o := .cells #[.int .i64 t200, .int .i64 t201] 27 (0, 0)) (by (with_reducible repeat (first | refine blk_drewN ?_ _ | refine blk_drew ?_ | refine blk_alloc ?_ _)); refine blk_far ?_ NB203_211.out _; (with_reducible repeat (first | refine blk_drewN ?_ _ | refine blk_drew ?_ | refine blk_alloc ?_ _)); refine blk_far ?_ NB203_211.out _; (with_reducible repeat (first | refine blk_drewN ?_ _ | refine blk_drew ?_ | refine blk_alloc ?_ _)); exact BK203.out) hb); have n3_ := Aside0.mk (blk_below (g := gb211) (o := .cells #[.int .i64 t209, .int .i64 t210] 27 (0, 0)) (by (with_reducible repeat (first | refine blk_drewN ?_ _ | refine blk_drew ?_ | refine blk_alloc ?_ _)); refine blk_put (cs := #[.int .i64 t209, .int .i64 0]) ?_ 1 _ rfl; (with_reducible repeat (first | refine blk_drewN ?_ _ | refine blk_drew ?_ | refine blk_alloc ?_ _)); refine blk_put (cs := #[.int .i64 0, .int .i64 0]) ?_ 0 _ rfl; (with_reducible repeat (first | refine blk_drewN ?_ _ | refine blk_drew ?_ | refine blk_alloc ?_ _)); exact BK211.out) hb); have n4_ := Aside0.mk (below_step (by repeat (first | (with_reducible first | exact HB.out | apply below_alloc | apply pw_below_drewN | apply below_drew1 | refine below_set ?_ GE195.out | refine below_set ?_ GE198.out | refine below_set ?_ GE203.out | refine below_set ?_ GE211.out) | exact HB.out)) hb); clear BK195; clear BK198; clear BK203; clear BK211; clear HB; have BK195 := n0_; have BK198 := n1_; have BK203 := n2_; have BK211 := n3_; have HB := n4_; clear n0_ n1_ n2_ n3_ n4_; (try clear hb); (try clear hb2); (try clear hk); (try clear hi)) | ((with_reducible refine gate_dst (N := 8) rfl ?_); refine box_event ?hg (N := 8) ?hd (cs := #[.int .i64 0, .int .i64 0]) (t := 27) ?hr ?_; (case hd => rfl); (case hg => rfl); (case hr => first | (go_simp; done) | (go_simp; rfl)); intro gb215 hg w54 hbox hb; have n0_ := Aside0.mk (blk_below (g := gb195) (o := .cells #[.int .i64 t193, .int .i64 t194] 27 (0, 0)) (by (with_reducible repeat (first | refine blk_drewN ?_ _ | refine blk_drew ?_ | refine blk_alloc ?_ _)); exact BK195.out) hb); have n1_ := Aside0.mk (blk_below (g := gb198) (o := .cells #[.int .i64 t196, .int .i64 t197] 27 (0, 0)) (by (with_reducible repeat (first | refine blk_drewN ?_ _ | refine blk_drew ?_ | refine blk_alloc ?_ _)); exact BK198.out) hb); have n2_ := Aside0.mk (blk_below (g := gb203) (o := .cells #[.int .i64 t200, .int .i64 t201] 27 (0, 0)) (by (with_reducible repeat (first | refine blk_drewN ?_ _ | refine blk_drew ?_ | refine blk_alloc ?_ _)); exact BK203.out) hb); have n3_ := Aside0.mk (blk_below (g := gb211) (o := .cells #[.int .i64 t209, .int .i64 t210] 27 (0, 0)) (by (with_reducible repeat (first | refine blk_drewN ?_ _ | refine blk_drew ?_ | refine blk_alloc ?_ _)); exact BK211.out) hb); have n4_ := Aside0.mk (below_step (by repeat (first | (with_reducible first | exact HB.out | apply below_alloc | apply pw_below_drewN | apply below_drew1 | refine below_set ?_ GE195.out | refine below_set ?_ GE198.out | refine below_set ?_ GE203.out | refine below_set ?_ GE211.out) | exact HB.out)) hb); have n5_ := Aside0.mk (hbox); have n6_ := Aside0.mk ((by rw [hg]; exact (below_size (by repeat (first | (with_reducible first | exact HB.out | apply below_alloc | apply pw_below_drewN | apply below_drew1 | refine below_set ?_ GE195.out | refine below_set ?_ GE198.out | refine below_set ?_ GE203.out | refine below_set ?_ GE211.out) | exact HB.out))) : w.heap.size ≤ gb215)); have n7_ := Aside0.mk ((by rw [hg]; exact (below_size (by repeat (first | (with_reducible first | exact HB.out | apply below_alloc | apply pw_below_drewN | apply below_drew1 | refine below_set ?_ GE195.out | refine below_set ?_ GE198.out | refine below_set ?_ GE203.out | refine below_set ?_ GE211.out) | exact HB.out))) : w.heap.size ≤ gb215)); have n8_ := Aside0.mk ((by rw [hg]; exact Nat.ne_of_lt (blk_lt (g := gb195) (o := .cells #[.int .i64 t193, .int .i64 t194] 27 (0, 0)) (by (with_reducible repeat (first | refine blk_drewN ?_ _ | refine blk_drew ?_ | refine blk_alloc ?_ _)); exact BK195.out)) : gb195 ≠ gb215)); have n9_ := Aside0.mk ((by rw [hg]; exact Nat.ne_of_gt (blk_lt (g := gb195) (o := .cells #[.int .i64 t193, .int .i64 t194] 27 (0, 0)) (by (with_reducible repeat (first | refine blk_drewN ?_ _ | refine blk_drew ?_ | refine blk_alloc ?_ _)); exact BK195.out)) : gb215 ≠ gb195)); have n10_ := Aside0.mk ((by rw [hg]; exact Nat.ne_of_lt (blk_lt (g := gb198) (o := .cells #[.int .i64 t196, .int .i64 t197] 27 (0, 0)) (by (with_reducible repeat (first | refine blk_drewN ?_ _ | refine blk_drew ?_ | refine blk_alloc ?_ _)); exact BK198.out)) : gb198 ≠ gb215)); have n11_ := Aside0.mk ((by rw [hg]; exact Nat.ne_of_gt (blk_lt (g := gb198) (o := .cells #[.int .i64 t196, .int .i64 t197] 27 (0, 0)) (by (with_reducible repeat (first | refine blk_drewN ?_ _ | refine blk_drew ?_ | refine blk_alloc ?_ _)); exact BK198.out)) : gb215 ≠ gb198)); have n12_ := Aside0.mk ((by rw [hg]; exact Nat.ne_of_lt (blk_lt (g := gb203) (o := .cells #[.int .i64 t200, .int .i64 t201] 27 (0, 0)) (by (with_reducible repeat (first | refine blk_drewN ?_ _ | refine blk_drew ?_ | refine blk_alloc ?_ _)); exact BK203.out)) : gb203 ≠ gb215)); have n13_ := Aside0.mk ((by rw [hg]; exact Nat.ne_of_gt (blk_lt (g := gb203) (o := .cells #[.int .i64 t200, .int .i64 t201] 27 (0, 0)) (by (with_reducible repeat (first | refine blk_drewN ?_ _ | refine blk_drew ?_ | refine blk_alloc ?_ _)); exact BK203.out)) : gb215 ≠ gb203)); have n14_ := Aside0.mk ((by rw [hg]; exact Nat.ne_of_lt (blk_lt (g := gb211) (o := .cells #[.int .i64 t209, .int .i64 t210] 27 (0, 0)) (by (with_reducible repeat (first | refine blk_drewN ?_ _ | refine blk_drew ?_ | refine blk_alloc ?_ _)); exact BK211.out)) : gb211 ≠ gb215)); have n15_ := Aside0.mk ((by rw [hg]; exact Nat.ne_of_gt (blk_lt (g := gb211) (o := .cells #[.int .i64 t209, .int .i64 t210] 27 (0, 0)) (by (with_reducible repeat (first | refine blk_drewN ?_ _ | refine blk_drew ?_ | refine blk_alloc ?_ _)); exact BK211.out)) : gb215 ≠ gb211)); clear BK195; clear BK198; clear BK203; clear BK211; clear HB; have BK195 := n0_; have BK198 := n1_; have BK203 := n2_; have BK211 := n3_; have HB := n4_; have BK215 := n5_; have GW215 := n6_; have GE215 := n7_; have NB195_215 := n8_; have NB215_195 := n9_; have NB198_215 := n10_; have NB215_198 := n11_; have NB203_215 := n12_; have NB215_203 := n13_; have NB211_215 := n14_; have NB215_211 := n15_; clear n0_ n1_ n2_ n3_ n4_ n5_ n6_ n7_ n8_ n9_ n10_ n11_ n12_ n13_ n14_ n15_; clear hb hbox hg; have hnb55 := NB215_195.out; have hnc55 := NB195_215.out; have hnb56 := NB215_198.out; have hnc56 := NB198_215.out; have hnb57 := NB215_203.out; have hnc57 := NB203_215.out; have hnb58 := NB215_211.out; have hnc58 := NB211_215.out; have hcz59_0 : w54.cell? ⟨gb215, 0, none⟩ = some (.int .i64 0) := (blk_cell BK215.out 0).trans rfl; have hcz59_1 : w54.cell? ⟨gb215, 1, none⟩ = some (.int .i64 0) := (blk_cell BK215.out 1).trans rfl; have hfz59_0 := blk_frozen BK215.out 0; have hfz59_1 := blk_frozen BK215.out 1; have hcz60_0 : w54.cell? ⟨gb195, 0, none⟩ = some (.int .i64 t193) := (blk_cell BK195.out 0).trans rfl; have hcz60_1 : w54.cell? ⟨gb195, 1, none⟩ = some (.int .i64 t194) := (blk_cell BK195.out 1).trans rfl; have hfz60_0 := blk_frozen BK195.out 0; have hfz60_1 := blk_frozen BK195.out 1; have hcz61_0 : w54.cell? ⟨gb198, 0, none⟩ = some (.int .i64 t196) := (blk_cell BK198.out 0).trans rfl; have hcz61_1 : w54.cell? ⟨gb198, 1, none⟩ = some (.int .i64 t197) := (blk_cell BK198.out 1).trans rfl; have hfz61_0 := blk_frozen BK198.out 0; have hfz61_1 := blk_frozen BK198.out 1) | ((with_reducible refine gate_callee (f := 31) rfl ?_); refine goesL_ (some 60) rfl rfl Tryd.func31 (by kernel_rfl) rfl #[.agg #[.int .i64 t193, .int .i64 t194], .agg #[.int .i64 t196, .int .i64 t197]] rfl (by (try simp only [List.map_toArray, List.map_cons, List.map_nil]); first | done | rfl | (simp only [List.length_drop, List.length_take]; rfl)) ?_; (with_reducible refine (impl_Intersect.calls t193 t194 t196 t197 t216 t217 t218 _ A36.out).mono ?_); rintro e w62 ⟨rfl, hb⟩; refine ⟨_, rfl, ?_⟩; have n0_ := Aside0.mk (blk_below (g := gb195) (o := .cells #[.int .i64 t193, .int .i64 t194] 27 (0, 0)) (by (with_reducible repeat (first | refine blk_drewN ?_ _ | refine blk_drew ?_ | refine blk_alloc ?_ _)); refine blk_far ?_ NB195_215.out _; (with_reducible repeat (first | refine blk_drewN ?_ _ | refine blk_drew ?_ | refine blk_alloc ?_ _)); refine blk_far ?_ NB195_215.out _; (with_reducible repeat (first | refine blk_drewN ?_ _ | refine blk_drew ?_ | refine blk_alloc ?_ _)); exact BK195.out) hb); have n1_ := Aside0.mk (blk_below (g := gb198) (o := .cells #[.int .i64 t196, .int .i64 t197] 27 (0, 0)) (by (with_reducible repeat (first | refine blk_drewN ?_ _ | refine blk_drew ?_ | refine blk_alloc ?_ _)); refine blk_far ?_ NB198_215.out _; (with_reducible repeat (first | refine blk_drewN ?_ _ | refine blk_drew ?_ | refine blk_alloc ?_ _)); refine blk_far ?_ NB198_215.out _; (with_reducible repeat (first | refine blk_drewN ?_ _ | refine blk_drew ?_ | refine blk_alloc ?_ _)); exact BK198.out) hb); have n2_ := Aside0.mk (blk_below (g := gb203) (o := .cells #[.int .i64 t200, .int .i64 t201] 27 (0, 0)) (by (with_reducible repeat (first | refine blk_drewN ?_ _ | refine blk_drew ?_ | refine blk_alloc ?_ _)); refine blk_far ?_ NB203_215.out _; (with_reducible repeat (first | refine blk_drewN ?_ _ | refine blk_drew ?_ | refine blk_alloc ?_ _)); refine blk_far ?_ NB203_215.out _; (with_reducible repeat (first | refine blk_drewN ?_ _ | refine blk_drew ?_ | refine blk_alloc ?_ _)); exact BK203.out) hb); have n3_ := Aside0.mk (blk_below (g := gb211) (o := .cells #[.int .i64 t209, .int .i64 t210] 27 (0, 0)) (by (with_reducible repeat (first | refine blk_drewN ?_ _ | refine blk_drew ?_ | refine blk_alloc ?_ _)); refine blk_far ?_ NB211_215.out _; (with_reducible repeat (first | refine blk_drewN ?_ _ | refine blk_drew ?_ | refine blk_alloc ?_ _)); refine blk_far ?_ NB211_215.out _; (with_reducible repeat (first | refine blk_drewN ?_ _ | refine blk_drew ?_ | refine blk_alloc ?_ _)); exact BK211.out) hb); have n4_ := Aside0.mk (blk_below (g := gb215) (o := .cells #[.int .i64 t212, .int .i64 t213] 27 (0, 0)) (by (with_reducible repeat (first | refine blk_drewN ?_ _ | refine blk_drew ?_ | refine blk_alloc ?_ _)); refine blk_put (cs := #[.int .i64 t212, .int .i64 0]) ?_ 1 _ rfl; (with_reducible repeat (first | refine blk_drewN ?_ _ | refine blk_drew ?_ | refine blk_alloc ?_ _)); refine blk_put (cs := #[.int .i64 0, .int .i64 0]) ?_ 0 _ rfl; (with_reducible repeat (first | refine blk_drewN ?_ _ | refine blk_drew ?_ | refine blk_alloc ?_ _)); exact BK215.out) hb); have n5_ := Aside0.mk (below_step (by repeat (first | (with_reducible first | exact HB.out | apply below_alloc | apply pw_below_drewN | apply below_drew1 | refine below_set ?_ GE195.out | refine below_set ?_ GE198.out | refine below_set ?_ GE203.out | refine below_set ?_ GE211.out | refine below_set ?_ GE215.out) | exact HB.out)) hb); clear BK195; clear BK198; clear BK203; clear BK211; clear BK215; clear HB; have BK195 := n0_; have BK198 := n1_; have BK203 := n2_; have BK211 := n3_; have BK215 := n4_; have HB := n5_; clear n0_ n1_ n2_ n3_ n4_ n5_; (try clear hb); (try clear hb2); (try clear hk); (try clear hi)) | ((with_reducible refine gate_dst (N := 10) rfl ?_); refine box_event ?hg (N := 10) ?hd (cs := #[.int .i64 0, .int .i64 0]) (t := 27) ?hr ?_; (case hd => rfl); (case hg => rfl); (case hr => first | (go_simp; done) | (go_simp; rfl)); intro gb219 hg w63 hbox hb; have n0_ := Aside0.mk (blk_below (g := gb195) (o := .cells #[.int .i64 t193, .int .i64 t194] 27 (0, 0)) (by (with_reducible repeat (first | refine blk_drewN ?_ _ | refine blk_drew ?_ | refine blk_alloc ?_ _)); exact BK195.out) hb); have n1_ := Aside0.mk (blk_below (g := gb198) (o := .cells #[.int .i64 t196, .int .i64 t197] 27 (0, 0)) (by (with_reducible repeat (first | refine blk_drewN ?_ _ | refine blk_drew ?_ | refine blk_alloc ?_ _)); exact BK198.out) hb); have n2_ := Aside0.mk (blk_below (g := gb203) (o := .cells #[.int .i64 t200, .int .i64 t201] 27 (0, 0)) (by (with_reducible repeat (first | refine blk_drewN ?_ _ | refine blk_drew ?_ | refine blk_alloc ?_ _)); exact BK203.out) hb); have n3_ := Aside0.mk (blk_below (g := gb211) (o := .cells #[.int .i64 t209, .int .i64 t210] 27 (0, 0)) (by (with_reducible repeat (first | refine blk_drewN ?_ _ | refine blk_drew ?_ | refine blk_alloc ?_ _)); exact BK211.out) hb); have n4_ := Aside0.mk (blk_below (g := gb215) (o := .cells #[.int .i64 t212, .int .i64 t213] 27 (0, 0)) (by (with_reducible repeat (first | refine blk_drewN ?_ _ | refine blk_drew ?_ | refine blk_alloc ?_ _)); exact BK215.out) hb); have n5_ := Aside0.mk (below_step (by repeat (first | (with_reducible first | exact HB.out | apply below_alloc | apply pw_below_drewN | apply below_drew1 | refine below_set ?_ GE195.out | refine below_set ?_ GE198.out | refine below_set ?_ GE203.out | refine below_set ?_ GE211.out | refine below_set ?_ GE215.out) | exact HB.out)) hb); have n6_ := Aside0.mk (hbox); have n7_ := Aside0.mk ((by rw [hg]; exact (below_size (by repeat (first | (with_reducible first | exact HB.out | apply below_alloc | apply pw_below_drewN | apply below_drew1 | refine below_set ?_ GE195.out | refine below_set ?_ GE198.out | refine below_set ?_ GE203.out | refine below_set ?_ GE211.out | refine below_set ?_ GE215.out) | exact HB.out))) : w.heap.size ≤ gb219)); have n8_ := Aside0.mk ((by rw [hg]; exact (below_size (by repeat (first | (with_reducible first | exact HB.out | apply below_alloc | apply pw_below_drewN | apply below_drew1 | refine below_set ?_ GE195.out | refine below_set ?_ GE198.out | refine below_set ?_ GE203.out | refine below_set ?_ GE211.out | refine below_set ?_ GE215.out) | exact HB.out))) : w.heap.size ≤ gb219)); have n9_ := Aside0.mk ((by rw [hg]; exact Nat.ne_of_lt (blk_lt (g := gb195) (o := .cells #[.int .i64 t193, .int .i64 t194] 27 (0, 0)) (by (with_reducible repeat (first | refine blk_drewN ?_ _ | refine blk_drew ?_ | refine blk_alloc ?_ _)); exact BK195.out)) : gb195 ≠ gb219)); have n10_ := Aside0.mk ((by rw [hg]; exact Nat.ne_of_gt (blk_lt (g := gb195) (o := .cells #[.int .i64 t193, .int .i64 t194] 27 (0, 0)) (by (with_reducible repeat (first | refine blk_drewN ?_ _ | refine blk_drew ?_ | refine blk_alloc ?_ _)); exact BK195.out)) : gb219 ≠ gb195)); have n11_ := Aside0.mk ((by rw [hg]; exact Nat.ne_of_lt (blk_lt (g := gb198) (o := .cells #[.int .i64 t196, .int .i64 t197] 27 (0, 0)) (by (with_reducible repeat (first | refine blk_drewN ?_ _ | refine blk_drew ?_ | refine blk_alloc ?_ _)); exact BK198.out)) : gb198 ≠ gb219)); have n12_ := Aside0.mk ((by rw [hg]; exact Nat.ne_of_gt (blk_lt (g := gb198) (o := .cells #[.int .i64 t196, .int .i64 t197] 27 (0, 0)) (by (with_reducible repeat (first | refine blk_drewN ?_ _ | refine blk_drew ?_ | refine blk_alloc ?_ _)); exact BK198.out)) : gb219 ≠ gb198)); have n13_ := Aside0.mk ((by rw [hg]; exact Nat.ne_of_lt (blk_lt (g := gb203) (o := .cells #[.int .i64 t200, .int .i64 t201] 27 (0, 0)) (by (with_reducible repeat (first | refine blk_drewN ?_ _ | refine blk_drew ?_ | refine blk_alloc ?_ _)); exact BK203.out)) : gb203 ≠ gb219)); have n14_ := Aside0.mk ((by rw [hg]; exact Nat.ne_of_gt (blk_lt (g := gb203) (o := .cells #[.int .i64 t200, .int .i64 t201] 27 (0, 0)) (by (with_reducible repeat (first | refine blk_drewN ?_ _ | refine blk_drew ?_ | refine blk_alloc ?_ _)); exact BK203.out)) : gb219 ≠ gb203)); have n15_ := Aside0.mk ((by rw [hg]; exact Nat.ne_of_lt (blk_lt (g := gb211) (o := .cells #[.int .i64 t209, .int .i64 t210] 27 (0, 0)) (by (with_reducible repeat (first | refine blk_drewN ?_ _ | refine blk_drew ?_ | refine blk_alloc ?_ _)); exact BK211.out)) : gb211 ≠ gb219)); have n16_ := Aside0.mk ((by rw [hg]; exact Nat.ne_of_gt (blk_lt (g := gb211) (o := .cells #[.int .i64 t209, .int .i64 t210] 27 (0, 0)) (by (with_reducible repeat (first | refine blk_drewN ?_ _ | refine blk_drew ?_ | refine blk_alloc ?_ _)); exact BK211.out)) : gb219 ≠ gb211)); have n17_ := Aside0.mk ((by rw [hg]; exact Nat.ne_of_lt (blk_lt (g := gb215) (o := .cells #[.int .i64 t212, .int .i64 t213] 27 (0, 0)) (by (with_reducible repeat (first | refine blk_drewN ?_ _ | refine blk_drew ?_ | refine blk_alloc ?_ _)); exact BK215.out)) : gb215 ≠ gb219)); have n18_ := Aside0.mk ((by rw [hg]; exact Nat.ne_of_gt (blk_lt (g := gb215) (o := .cells #[.int .i64 t212, .int .i64 t213] 27 (0, 0)) (by (with_reducible repeat (first | refine blk_drewN ?_ _ | refine blk_drew ?_ | refine blk_alloc ?_ _)); exact BK215.out)) : gb219 ≠ gb215)); clear BK195; clear BK198; clear BK203; clear BK211; clear BK215; clear HB; have BK195 := n0_; have BK198 := n1_; have BK203 := n2_; have BK211 := n3_; have BK215 := n4_; have HB := n5_; have BK219 := n6_; have GW219 := n7_; have GE219 := n8_; have NB195_219 := n9_; have NB219_195 := n10_; have NB198_219 := n11_; have NB219_198 := n12_; have NB203_219 := n13_; have NB219_203 := n14_; have NB211_219 := n15_; have NB219_211 := n16_; have NB215_219 := n17_; have NB219_215 := n18_; clear n0_ n1_ n2_ n3_ n4_ n5_ n6_ n7_ n8_ n9_ n10_ n11_ n12_ n13_ n14_ n15_ n16_ n17_ n18_; clear hb hbox hg; have hnb64 := NB219_195.out; have hnc64 := NB195_219.out; have hnb65 := NB219_198.out; have hnc65 := NB198_219.out; have hnb66 := NB219_203.out; have hnc66 := NB203_219.out; have hnb67 := NB219_211.out; have hnc67 := NB211_219.out; have hnb68 := NB219_215.out; have hnc68 := NB215_219.out; have hcz69_0 : w63.cell? ⟨gb219, 0, none⟩ = some (.int .i64 0) := (blk_cell BK219.out 0).trans rfl; have hcz69_1 : w63.cell? ⟨gb219, 1, none⟩ = some (.int .i64 0) := (blk_cell BK219.out 1).trans rfl; have hfz69_0 := blk_frozen BK219.out 0; have hfz69_1 := blk_frozen BK219.out 1; have hcz70_0 : w63.cell? ⟨gb195, 0, none⟩ = some (.int .i64 t193) := (blk_cell BK195.out 0).trans rfl; have hcz70_1 : w63.cell? ⟨gb195, 1, none⟩ = some (.int .i64 t194) := (blk_cell BK195.out 1).trans rfl; have hfz70_0 := blk_frozen BK195.out 0; have hfz70_1 := blk_frozen BK195.out 1; have hcz71_0 : w63.cell? ⟨gb198, 0, none⟩ = some (.int .i64 t196) := (blk_cell BK198.out 0).trans rfl; have hcz71_1 : w63.cell? ⟨gb198, 1, none⟩ = some (.int .i64 t197) := (blk_cell BK198.out 1).trans rfl; have hfz71_0 := blk_frozen BK198.out 0; have hfz71_1 := blk_frozen BK198.out 1))
    (try simp only [Act.put, List.setIfInBounds_toArray, List.set_cons_zero, List.set_cons_succ])
    go_cut [102] (fun v102 wc => ∃ (kq : Nat) (x102_38 : Bool), v102 = .bool x102_38 ∧ Aside0 (laws_FnIntervals.j1 kq t218 x102_38 t193 t194 t196 t197 t216 t217 = some r) ∧ Aside0 (kq ≤ kj6) ∧ Aside0 (wc.heap[gb195]? = some (.cells #[.int .i64 t193, .int .i64 t194] 27 (0, 0))) ∧ Aside0 (wc.heap[gb198]? = some (.cells #[.int .i64 t196, .int .i64 t197] 27 (0, 0))) ∧ Aside0 (wc.heap[gb203]? = some (.cells #[.int .i64 t200, .int .i64 t201] 27 (0, 0))) ∧ Aside0 (wc.heap[gb211]? = some (.cells #[.int .i64 t209, .int .i64 t210] 27 (0, 0))) ∧ Aside0 (wc.heap[gb215]? = some (.cells #[.int .i64 t212, .int .i64 t213] 27 (0, 0))) ∧ Aside0 (wc.heap[gb219]? = some (.cells #[.int .i64 t216, .int .i64 t217] 27 (0, 0))) ∧ Aside0 (Below w.heap.size w wc))
    case first =>
     have H := HC39.out
     clear HC39
     replace H := Option.bind_eq_some_iff.mp H
     obtain ⟨t220, A720, H⟩ := H
     replace H : (if t220 = true then ((impl_Contains.f t196 t197 (ji38)).bind fun t221 => (if t221 = true then ((impl_Contains.f t209 t210 (wrap64 ((ji37) + (ji38)))).bind fun t222 => (if t222 = true then (if t214 = true then ((impl_Contains.f t212 t213 (ji37)).bind fun t223 => (if t223 = true then ((impl_Contains.f t212 t213 (ji38)).bind fun t224 => (laws_FnIntervals.j1 kj6 t218 (!t224) t193 t194 t196 t197 t216 t217)) else (laws_FnIntervals.j1 kj6 t218 true t193 t194 t196 t197 t216 t217))) else (laws_FnIntervals.j1 kj6 t218 true t193 t194 t196 t197 t216 t217)) else (laws_FnIntervals.j1 kj6 t218 true t193 t194 t196 t197 t216 t217))) else (laws_FnIntervals.j1 kj6 t218 true t193 t194 t196 t197 t216 t217))) else (laws_FnIntervals.j1 kj6 t218 true t193 t194 t196 t197 t216 t217)) = some r := H
     have A72 := Aside0.mk A720
     clear A720
     by_cases c73 : t220 = true
     rotate_left
     · replace c73 := Bool.eq_false_iff.mpr c73
       subst c73
       have H1 : (laws_FnIntervals.j1 kj6 t218 true t193 t194 t196 t197 t216 t217) = some r := by rw [if_neg (show ¬ (false = true) by decide)] at H; exact H
       clear H
       have H := H1
       clear H1
       subst hr_
       exact absurd H (by cases kj6 <;> simp [laws_FnIntervals.j1])
     subst c73
     have H1 : ((impl_Contains.f t196 t197 (ji38)).bind fun t221 => (if t221 = true then ((impl_Contains.f t209 t210 (wrap64 ((ji37) + (ji38)))).bind fun t222 => (if t222 = true then (if t214 = true then ((impl_Contains.f t212 t213 (ji37)).bind fun t223 => (if t223 = true then ((impl_Contains.f t212 t213 (ji38)).bind fun t224 => (laws_FnIntervals.j1 kj6 t218 (!t224) t193 t194 t196 t197 t216 t217)) else (laws_FnIntervals.j1 kj6 t218 true t193 t194 t196 t197 t216 t217))) else (laws_FnIntervals.j1 kj6 t218 true t193 t194 t196 t197 t216 t217)) else (laws_FnIntervals.j1 kj6 t218 true t193 t194 t196 t197 t216 t217))) else (laws_FnIntervals.j1 kj6 t218 true t193 t194 t196 t197 t216 t217))) = some r := by rw [if_pos rfl] at H; exact H
     clear H
     have H := H1
     clear H1
     replace H := Option.bind_eq_some_iff.mp H
     obtain ⟨t221, A740, H⟩ := H
     replace H : (if t221 = true then ((impl_Contains.f t209 t210 (wrap64 ((ji37) + (ji38)))).bind fun t222 => (if t222 = true then (if t214 = true then ((impl_Contains.f t212 t213 (ji37)).bind fun t223 => (if t223 = true then ((impl_Contains.f t212 t213 (ji38)).bind fun t224 => (laws_FnIntervals.j1 kj6 t218 (!t224) t193 t194 t196 t197 t216 t217)) else (laws_FnIntervals.j1 kj6 t218 true t193 t194 t196 t197 t216 t217))) else (laws_FnIntervals.j1 kj6 t218 true t193 t194 t196 t197 t216 t217)) else (laws_FnIntervals.j1 kj6 t218 true t193 t194 t196 t197 t216 t217))) else (laws_FnIntervals.j1 kj6 t218 true t193 t194 t196 t197 t216 t217)) = some r := H
     have A74 := Aside0.mk A740
     clear A740
     by_cases c75 : t221 = true
     rotate_left
     · replace c75 := Bool.eq_false_iff.mpr c75
       subst c75
       have H1 : (laws_FnIntervals.j1 kj6 t218 true t193 t194 t196 t197 t216 t217) = some r := by rw [if_neg (show ¬ (false = true) by decide)] at H; exact H
       clear H
       have H := H1
       clear H1
       subst hr_
       exact absurd H (by cases kj6 <;> simp [laws_FnIntervals.j1])
     subst c75
     have H1 : ((impl_Contains.f t209 t210 (wrap64 ((ji37) + (ji38)))).bind fun t222 => (if t222 = true then (if t214 = true then ((impl_Contains.f t212 t213 (ji37)).bind fun t223 => (if t223 = true then ((impl_Contains.f t212 t213 (ji38)).bind fun t224 => (laws_FnIntervals.j1 kj6 t218 (!t224) t193 t194 t196 t197 t216 t217)) else (laws_FnIntervals.j1 kj6 t218 true t193 t194 t196 t197 t216 t217))) else (laws_FnIntervals.j1 kj6 t218 true t193 t194 t196 t197 t216 t217)) else (laws_FnIntervals.j1 kj6 t218 true t193 t194 t196 t197 t216 t217))) = some r := by rw [if_pos rfl] at H; exact H
     clear H
     have H := H1
     clear H1
     replace H := Option.bind_eq_some_iff.mp H
     obtain ⟨t222, A760, H⟩ := H
     replace H : (if t222 = true then (if t214 = true then ((impl_Contains.f t212 t213 (ji37)).bind fun t223 => (if t223 = true then ((impl_Contains.f t212 t213 (ji38)).bind fun t224 => (laws_FnIntervals.j1 kj6 t218 (!t224) t193 t194 t196 t197 t216 t217)) else (laws_FnIntervals.j1 kj6 t218 true t193 t194 t196 t197 t216 t217))) else (laws_FnIntervals.j1 kj6 t218 true t193 t194 t196 t197 t216 t217)) else (laws_FnIntervals.j1 kj6 t218 true t193 t194 t196 t197 t216 t217)) = some r := H
     have A76 := Aside0.mk A760
     clear A760
     by_cases c77 : t222 = true
     rotate_left
     · replace c77 := Bool.eq_false_iff.mpr c77
       subst c77
       have H1 : (laws_FnIntervals.j1 kj6 t218 true t193 t194 t196 t197 t216 t217) = some r := by rw [if_neg (show ¬ (false = true) by decide)] at H; exact H
       clear H
       have H := H1
       clear H1
       subst hr_
       exact absurd H (by cases kj6 <;> simp [laws_FnIntervals.j1])
     subst c77
     have H1 : (if t214 = true then ((impl_Contains.f t212 t213 (ji37)).bind fun t223 => (if t223 = true then ((impl_Contains.f t212 t213 (ji38)).bind fun t224 => (laws_FnIntervals.j1 kj6 t218 (!t224) t193 t194 t196 t197 t216 t217)) else (laws_FnIntervals.j1 kj6 t218 true t193 t194 t196 t197 t216 t217))) else (laws_FnIntervals.j1 kj6 t218 true t193 t194 t196 t197 t216 t217)) = some r := by rw [if_pos rfl] at H; exact H
     clear H
     have H := H1
     clear H1
     by_cases c78 : t214 = true
     rotate_left
     · replace c78 := Bool.eq_false_iff.mpr c78
       subst c78
       have H1 : (laws_FnIntervals.j1 kj6 t218 true t193 t194 t196 t197 t216 t217) = some r := by rw [if_neg (show ¬ (false = true) by decide)] at H; exact H
       clear H
       have H := H1
       clear H1
       subst hr_
       exact absurd H (by cases kj6 <;> simp [laws_FnIntervals.j1])
     subst c78
     have H1 : ((impl_Contains.f t212 t213 (ji37)).bind fun t223 => (if t223 = true then ((impl_Contains.f t212 t213 (ji38)).bind fun t224 => (laws_FnIntervals.j1 kj6 t218 (!t224) t193 t194 t196 t197 t216 t217)) else (laws_FnIntervals.j1 kj6 t218 true t193 t194 t196 t197 t216 t217))) = some r := by rw [if_pos rfl] at H; exact H
     clear H
     have H := H1
     clear H1
     replace H := Option.bind_eq_some_iff.mp H
     obtain ⟨t223, A790, H⟩ := H
     replace H : (if t223 = true then ((impl_Contains.f t212 t213 (ji38)).bind fun t224 => (laws_FnIntervals.j1 kj6 t218 (!t224) t193 t194 t196 t197 t216 t217)) else (laws_FnIntervals.j1 kj6 t218 true t193 t194 t196 t197 t216 t217)) = some r := H
     have A79 := Aside0.mk A790
     clear A790
     by_cases c80 : t223 = true
     rotate_left
     · replace c80 := Bool.eq_false_iff.mpr c80
       subst c80
       have H1 : (laws_FnIntervals.j1 kj6 t218 true t193 t194 t196 t197 t216 t217) = some r := by rw [if_neg (show ¬ (false = true) by decide)] at H; exact H
       clear H
       have H := H1
       clear H1
       subst hr_
       exact absurd H (by cases kj6 <;> simp [laws_FnIntervals.j1])
     subst c80
     have H1 : ((impl_Contains.f t212 t213 (ji38)).bind fun t224 => (laws_FnIntervals.j1 kj6 t218 (!t224) t193 t194 t196 t197 t216 t217)) = some r := by rw [if_pos rfl] at H; exact H
     clear H
     have H := H1
     clear H1
     replace H := Option.bind_eq_some_iff.mp H
     obtain ⟨t224, A810, H⟩ := H
     replace H : (laws_FnIntervals.j1 kj6 t218 (!t224) t193 t194 t196 t197 t216 t217) = some r := H
     have A81 := Aside0.mk A810
     clear A810
     have H' := Aside0.mk H
     clear H
     have hnb82 := NB195_198.out
     have hnc82 := NB198_195.out
     have hnb83 := NB195_203.out
     have hnc83 := NB203_195.out
     have hnb84 := NB195_211.out
     have hnc84 := NB211_195.out
     have hnb85 := NB195_215.out
     have hnc85 := NB215_195.out
     have hnb86 := NB195_219.out
     have hnc86 := NB219_195.out
     have hcz87_0 : w63.cell? ⟨gb195, 0, none⟩ = some (.int .i64 t193) := (blk_cell BK195.out 0).trans rfl
     have hcz87_1 : w63.cell? ⟨gb195, 1, none⟩ = some (.int .i64 t194) := (blk_cell BK195.out 1).trans rfl
     have hfz87_0 := blk_frozen BK195.out 0
     have hfz87_1 := blk_frozen BK195.out 1
     go_wp2_with (first | ((with_reducible refine gate_callee (f := 32) rfl ?_); refine goesL_ (some 71) rfl rfl Tryd.func32 (by kernel_rfl) rfl #[.agg #[.int .i64 t193, .int .i64 t194], .int .i64 ji37] rfl (by (try simp only [List.map_toArray, List.map_cons, List.map_nil]); first | done | (simp only [hji37]; rfl) | rfl | (simp only [List.length_drop, List.length_take]; rfl)) ?_; (with_reducible refine (impl_Contains.calls t193 t194 ji37 true _ A72.out).mono ?_); rintro e w88 ⟨rfl, hb⟩; refine ⟨_, rfl, ?_⟩; have n0_ := Aside0.mk (blk_below (g := gb195) (o := .cells #[.int .i64 t193, .int .i64 t194] 27 (0, 0)) (by (with_reducible repeat (first | refine blk_drewN ?_ _ | refine blk_drew ?_ | refine blk_alloc ?_ _)); refine blk_far ?_ NB195_219.out _; (with_reducible repeat (first | refine blk_drewN ?_ _ | refine blk_drew ?_ | refine blk_alloc ?_ _)); refine blk_far ?_ NB195_219.out _; (with_reducible repeat (first | refine blk_drewN ?_ _ | refine blk_drew ?_ | refine blk_alloc ?_ _)); exact BK195.out) hb); have n1_ := Aside0.mk (blk_below (g := gb198) (o := .cells #[.int .i64 t196, .int .i64 t197] 27 (0, 0)) (by (with_reducible repeat (first | refine blk_drewN ?_ _ | refine blk_drew ?_ | refine blk_alloc ?_ _)); refine blk_far ?_ NB198_219.out _; (with_reducible repeat (first | refine blk_drewN ?_ _ | refine blk_drew ?_ | refine blk_alloc ?_ _)); refine blk_far ?_ NB198_219.out _; (with_reducible repeat (first | refine blk_drewN ?_ _ | refine blk_drew ?_ | refine blk_alloc ?_ _)); exact BK198.out) hb); have n2_ := Aside0.mk (blk_below (g := gb203) (o := .cells #[.int .i64 t200, .int .i64 t201] 27 (0, 0)) (by (with_reducible repeat (first | refine blk_drewN ?_ _ | refine blk_drew ?_ | refine blk_alloc ?_ _)); refine blk_far ?_ NB203_219.out _; (with_reducible repeat (first | refine blk_drewN ?_ _ | refine blk_drew ?_ | refine blk_alloc ?_ _)); refine blk_far ?_ NB203_219.out _; (with_reducible repeat (first | refine blk_drewN ?_ _ | refine blk_drew ?_ | refine blk_alloc ?_ _)); exact BK203.out) hb); have n3_ := Aside0.mk (blk_below (g := gb211) (o := .cells #[.int .i64 t209, .int .i64 t210] 27 (0, 0)) (by (with_reducible repeat (first | refine blk_drewN ?_ _ | refine blk_drew ?_ | refine blk_alloc ?_ _)); refine blk_far ?_ NB211_219.out _; (with_reducible repeat (first | refine blk_drewN ?_ _ | refine blk_drew ?_ | refine blk_alloc ?_ _)); refine blk_far ?_ NB211_219.out _; (with_reducible repeat (first | refine blk_drewN ?_ _ | refine blk_drew ?_ | refine blk_alloc ?_ _)); exact BK211.out) hb); have n4_ := Aside0.mk (blk_below (g := gb215) (o := .cells #[.int .i64 t212, .int .i64 t213] 27 (0, 0)) (by (with_reducible repeat (first | refine blk_drewN ?_ _ | refine blk_drew ?_ | refine blk_alloc ?_ _)); refine blk_far ?_ NB215_219.out _; (with_reducible repeat (first | refine blk_drewN ?_ _ | refine blk_drew ?_ | refine blk_alloc ?_ _)); refine blk_far ?_ NB215_219.out _; (with_reducible repeat (first | refine blk_drewN ?_ _ | refine blk_drew ?_ | refine blk_alloc ?_ _)); exact BK215.out) hb); have n5_ := Aside0.mk (blk_below (g := gb219) (o := .cells #[.int .i64 t216, .int .i64 t217] 27 (0, 0)) (by (with_reducible repeat (first | refine blk_drewN ?_ _ | refine blk_drew ?_ | refine blk_alloc ?_ _)); refine blk_put (cs := #[.int .i64 t216, .int .i64 0]) ?_ 1 _ rfl; (with_reducible repeat (first | refine blk_drewN ?_ _ | refine blk_drew ?_ | refine blk_alloc ?_ _)); refine blk_put (cs := #[.int .i64 0, .int .i64 0]) ?_ 0 _ rfl; (with_reducible repeat (first | refine blk_drewN ?_ _ | refine blk_drew ?_ | refine blk_alloc ?_ _)); exact BK219.out) hb); have n6_ := Aside0.mk (below_step (by repeat (first | (with_reducible first | exact HB.out | apply below_alloc | apply pw_below_drewN | apply below_drew1 | refine below_set ?_ GE195.out | refine below_set ?_ GE198.out | refine below_set ?_ GE203.out | refine below_set ?_ GE211.out | refine below_set ?_ GE215.out | refine below_set ?_ GE219.out) | exact HB.out)) hb); clear BK195; clear BK198; clear BK203; clear BK211; clear BK215; clear BK219; clear HB; have BK195 := n0_; have BK198 := n1_; have BK203 := n2_; have BK211 := n3_; have BK215 := n4_; have BK219 := n5_; have HB := n6_; clear n0_ n1_ n2_ n3_ n4_ n5_ n6_; (try clear hb); (try clear hb2); (try clear hk); (try clear hi); have hnb89 := NB198_203.out; have hnc89 := NB203_198.out; have hnb90 := NB198_211.out; have hnc90 := NB211_198.out; have hnb91 := NB198_215.out; have hnc91 := NB215_198.out; have hnb92 := NB198_219.out; have hnc92 := NB219_198.out; have hcz93_0 : w88.cell? ⟨gb198, 0, none⟩ = some (.int .i64 t196) := (blk_cell BK198.out 0).trans rfl; have hcz93_1 : w88.cell? ⟨gb198, 1, none⟩ = some (.int .i64 t197) := (blk_cell BK198.out 1).trans rfl; have hfz93_0 := blk_frozen BK198.out 0; have hfz93_1 := blk_frozen BK198.out 1) | (go_at_call 32; (with_reducible refine (impl_Contains.calls t196 t197 ji38 true _ A74.out).mono ?_); rintro e w94 ⟨rfl, hb⟩; have n0_ := Aside0.mk (blk_below (g := gb195) (o := .cells #[.int .i64 t193, .int .i64 t194] 27 (0, 0)) (by (with_reducible repeat (first | refine blk_drewN ?_ _ | refine blk_drew ?_ | refine blk_alloc ?_ _)); exact BK195.out) hb); have n1_ := Aside0.mk (blk_below (g := gb198) (o := .cells #[.int .i64 t196, .int .i64 t197] 27 (0, 0)) (by (with_reducible repeat (first | refine blk_drewN ?_ _ | refine blk_drew ?_ | refine blk_alloc ?_ _)); exact BK198.out) hb); have n2_ := Aside0.mk (blk_below (g := gb203) (o := .cells #[.int .i64 t200, .int .i64 t201] 27 (0, 0)) (by (with_reducible repeat (first | refine blk_drewN ?_ _ | refine blk_drew ?_ | refine blk_alloc ?_ _)); exact BK203.out) hb); have n3_ := Aside0.mk (blk_below (g := gb211) (o := .cells #[.int .i64 t209, .int .i64 t210] 27 (0, 0)) (by (with_reducible repeat (first | refine blk_drewN ?_ _ | refine blk_drew ?_ | refine blk_alloc ?_ _)); exact BK211.out) hb); have n4_ := Aside0.mk (blk_below (g := gb215) (o := .cells #[.int .i64 t212, .int .i64 t213] 27 (0, 0)) (by (with_reducible repeat (first | refine blk_drewN ?_ _ | refine blk_drew ?_ | refine blk_alloc ?_ _)); exact BK215.out) hb); have n5_ := Aside0.mk (blk_below (g := gb219) (o := .cells #[.int .i64 t216, .int .i64 t217] 27 (0, 0)) (by (with_reducible repeat (first | refine blk_drewN ?_ _ | refine blk_drew ?_ | refine blk_alloc ?_ _)); exact BK219.out) hb); have n6_ := Aside0.mk (below_step (by repeat (first | (with_reducible first | exact HB.out | apply below_alloc | apply pw_below_drewN | apply below_drew1 | refine below_set ?_ GE195.out | refine below_set ?_ GE198.out | refine below_set ?_ GE203.out | refine below_set ?_ GE211.out | refine below_set ?_ GE215.out | refine below_set ?_ GE219.out) | exact HB.out)) hb); clear BK195; clear BK198; clear BK203; clear BK211; clear BK215; clear BK219; clear HB; have BK195 := n0_; have BK198 := n1_; have BK203 := n2_; have BK211 := n3_; have BK215 := n4_; have BK219 := n5_; have HB := n6_; clear n0_ n1_ n2_ n3_ n4_ n5_ n6_; (try clear hb); (try clear hb2); (try clear hk); (try clear hi); have hnb95 := NB211_203.out; have hnc95 := NB203_211.out; have hnb96 := NB211_215.out; have hnc96 := NB215_211.out; have hnb97 := NB211_219.out; have hnc97 := NB219_211.out; have hcz98_0 : w94.cell? ⟨gb211, 0, none⟩ = some (.int .i64 t209) := (blk_cell BK211.out 0).trans rfl; have hcz98_1 : w94.cell? ⟨gb211, 1, none⟩ = some (.int .i64 t210) := (blk_cell BK211.out 1).trans rfl; have hfz98_0 := blk_frozen BK211.out 0; have hfz98_1 := blk_frozen BK211.out 1) | (go_at_call 32; (with_reducible refine (impl_Contains.calls t209 t210 (wrap64 ((ji37) + (ji38))) true _ A76.out).mono ?_); rintro e w99 ⟨rfl, hb⟩; have n0_ := Aside0.mk (blk_below (g := gb195) (o := .cells #[.int .i64 t193, .int .i64 t194] 27 (0, 0)) (by (with_reducible repeat (first | refine blk_drewN ?_ _ | refine blk_drew ?_ | refine blk_alloc ?_ _)); exact BK195.out) hb); have n1_ := Aside0.mk (blk_below (g := gb198) (o := .cells #[.int .i64 t196, .int .i64 t197] 27 (0, 0)) (by (with_reducible repeat (first | refine blk_drewN ?_ _ | refine blk_drew ?_ | refine blk_alloc ?_ _)); exact BK198.out) hb); have n2_ := Aside0.mk (blk_below (g := gb203) (o := .cells #[.int .i64 t200, .int .i64 t201] 27 (0, 0)) (by (with_reducible repeat (first | refine blk_drewN ?_ _ | refine blk_drew ?_ | refine blk_alloc ?_ _)); exact BK203.out) hb); have n3_ := Aside0.mk (blk_below (g := gb211) (o := .cells #[.int .i64 t209, .int .i64 t210] 27 (0, 0)) (by (with_reducible repeat (first | refine blk_drewN ?_ _ | refine blk_drew ?_ | refine blk_alloc ?_ _)); exact BK211.out) hb); have n4_ := Aside0.mk (blk_below (g := gb215) (o := .cells #[.int .i64 t212, .int .i64 t213] 27 (0, 0)) (by (with_reducible repeat (first | refine blk_drewN ?_ _ | refine blk_drew ?_ | refine blk_alloc ?_ _)); exact BK215.out) hb); have n5_ := Aside0.mk (blk_below (g := gb219) (o := .cells #[.int .i64 t216, .int .i64 t217] 27 (0, 0)) (by (with_reducible repeat (first | refine blk_drewN ?_ _ | refine blk_drew ?_ | refine blk_alloc ?_ _)); exact BK219.out) hb); have n6_ := Aside0.mk (below_step (by repeat (first | (with_reducible first | exact HB.out | apply below_alloc | apply pw_below_drewN | apply below_drew1 | refine below_set ?_ GE195.out | refine below_set ?_ GE198.out | refine below_set ?_ GE203.out | refine below_set ?_ GE211.out | refine below_set ?_ GE215.out | refine below_set ?_ GE219.out) | exact HB.out)) hb); clear BK195; clear BK198; clear BK203; clear BK211; clear BK215; clear BK219; clear HB; have BK195 := n0_; have BK198 := n1_; have BK203 := n2_; have BK211 := n3_; have BK215 := n4_; have BK219 := n5_; have HB := n6_; clear n0_ n1_ n2_ n3_ n4_ n5_ n6_; (try clear hb); (try clear hb2); (try clear hk); (try clear hi); have hnb100 := NB215_203.out; have hnc100 := NB203_215.out; have hnb101 := NB215_219.out; have hnc101 := NB219_215.out; have hcz102_0 : w99.cell? ⟨gb215, 0, none⟩ = some (.int .i64 t212) := (blk_cell BK215.out 0).trans rfl; have hcz102_1 : w99.cell? ⟨gb215, 1, none⟩ = some (.int .i64 t213) := (blk_cell BK215.out 1).trans rfl; have hfz102_0 := blk_frozen BK215.out 0; have hfz102_1 := blk_frozen BK215.out 1) | (go_at_call 32; (with_reducible refine (impl_Contains.calls t212 t213 ji37 true _ A79.out).mono ?_); rintro e w103 ⟨rfl, hb⟩; have n0_ := Aside0.mk (blk_below (g := gb195) (o := .cells #[.int .i64 t193, .int .i64 t194] 27 (0, 0)) (by (with_reducible repeat (first | refine blk_drewN ?_ _ | refine blk_drew ?_ | refine blk_alloc ?_ _)); exact BK195.out) hb); have n1_ := Aside0.mk (blk_below (g := gb198) (o := .cells #[.int .i64 t196, .int .i64 t197] 27 (0, 0)) (by (with_reducible repeat (first | refine blk_drewN ?_ _ | refine blk_drew ?_ | refine blk_alloc ?_ _)); exact BK198.out) hb); have n2_ := Aside0.mk (blk_below (g := gb203) (o := .cells #[.int .i64 t200, .int .i64 t201] 27 (0, 0)) (by (with_reducible repeat (first | refine blk_drewN ?_ _ | refine blk_drew ?_ | refine blk_alloc ?_ _)); exact BK203.out) hb); have n3_ := Aside0.mk (blk_below (g := gb211) (o := .cells #[.int .i64 t209, .int .i64 t210] 27 (0, 0)) (by (with_reducible repeat (first | refine blk_drewN ?_ _ | refine blk_drew ?_ | refine blk_alloc ?_ _)); exact BK211.out) hb); have n4_ := Aside0.mk (blk_below (g := gb215) (o := .cells #[.int .i64 t212, .int .i64 t213] 27 (0, 0)) (by (with_reducible repeat (first | refine blk_drewN ?_ _ | refine blk_drew ?_ | refine blk_alloc ?_ _)); exact BK215.out) hb); have n5_ := Aside0.mk (blk_below (g := gb219) (o := .cells #[.int .i64 t216, .int .i64 t217] 27 (0, 0)) (by (with_reducible repeat (first | refine blk_drewN ?_ _ | refine blk_drew ?_ | refine blk_alloc ?_ _)); exact BK219.out) hb); have n6_ := Aside0.mk (below_step (by repeat (first | (with_reducible first | exact HB.out | apply below_alloc | apply pw_below_drewN | apply below_drew1 | refine below_set ?_ GE195.out | refine below_set ?_ GE198.out | refine below_set ?_ GE203.out | refine below_set ?_ GE211.out | refine below_set ?_ GE215.out | refine below_set ?_ GE219.out) | exact HB.out)) hb); clear BK195; clear BK198; clear BK203; clear BK211; clear BK215; clear BK219; clear HB; have BK195 := n0_; have BK198 := n1_; have BK203 := n2_; have BK211 := n3_; have BK215 := n4_; have BK219 := n5_; have HB := n6_; clear n0_ n1_ n2_ n3_ n4_ n5_ n6_; (try clear hb); (try clear hb2); (try clear hk); (try clear hi); have hcz104_0 : w103.cell? ⟨gb215, 0, none⟩ = some (.int .i64 t212) := (blk_cell BK215.out 0).trans rfl; have hcz104_1 : w103.cell? ⟨gb215, 1, none⟩ = some (.int .i64 t213) := (blk_cell BK215.out 1).trans rfl; have hfz104_0 := blk_frozen BK215.out 0; have hfz104_1 := blk_frozen BK215.out 1) | (go_at_call 32; (with_reducible refine (impl_Contains.calls t212 t213 ji38 t224 _ A81.out).mono ?_); rintro e w105 ⟨rfl, hb⟩; have n0_ := Aside0.mk (blk_below (g := gb195) (o := .cells #[.int .i64 t193, .int .i64 t194] 27 (0, 0)) (by (with_reducible repeat (first | refine blk_drewN ?_ _ | refine blk_drew ?_ | refine blk_alloc ?_ _)); exact BK195.out) hb); have n1_ := Aside0.mk (blk_below (g := gb198) (o := .cells #[.int .i64 t196, .int .i64 t197] 27 (0, 0)) (by (with_reducible repeat (first | refine blk_drewN ?_ _ | refine blk_drew ?_ | refine blk_alloc ?_ _)); exact BK198.out) hb); have n2_ := Aside0.mk (blk_below (g := gb203) (o := .cells #[.int .i64 t200, .int .i64 t201] 27 (0, 0)) (by (with_reducible repeat (first | refine blk_drewN ?_ _ | refine blk_drew ?_ | refine blk_alloc ?_ _)); exact BK203.out) hb); have n3_ := Aside0.mk (blk_below (g := gb211) (o := .cells #[.int .i64 t209, .int .i64 t210] 27 (0, 0)) (by (with_reducible repeat (first | refine blk_drewN ?_ _ | refine blk_drew ?_ | refine blk_alloc ?_ _)); exact BK211.out) hb); have n4_ := Aside0.mk (blk_below (g := gb215) (o := .cells #[.int .i64 t212, .int .i64 t213] 27 (0, 0)) (by (with_reducible repeat (first | refine blk_drewN ?_ _ | refine blk_drew ?_ | refine blk_alloc ?_ _)); exact BK215.out) hb); have n5_ := Aside0.mk (blk_below (g := gb219) (o := .cells #[.int .i64 t216, .int .i64 t217] 27 (0, 0)) (by (with_reducible repeat (first | refine blk_drewN ?_ _ | refine blk_drew ?_ | refine blk_alloc ?_ _)); exact BK219.out) hb); have n6_ := Aside0.mk (below_step (by repeat (first | (with_reducible first | exact HB.out | apply below_alloc | apply pw_below_drewN | apply below_drew1 | refine below_set ?_ GE195.out | refine below_set ?_ GE198.out | refine below_set ?_ GE203.out | refine below_set ?_ GE211.out | refine below_set ?_ GE215.out | refine below_set ?_ GE219.out) | exact HB.out)) hb); clear BK195; clear BK198; clear BK203; clear BK211; clear BK215; clear BK219; clear HB; have BK195 := n0_; have BK198 := n1_; have BK203 := n2_; have BK211 := n3_; have BK215 := n4_; have BK219 := n5_; have HB := n6_; clear n0_ n1_ n2_ n3_ n4_ n5_ n6_; (try clear hb); (try clear hb2); (try clear hk); (try clear hi)))
     go_meet
     case rel => exact ⟨_, (!t224), (by first | rfl | (simp; done) | (simp [*]; done)), H', ⟨by have := HJ6.out; first | omega | exact Nat.le_refl _⟩, ⟨by (with_reducible repeat (first | refine blk_drewN ?_ _ | refine blk_drew ?_ | refine blk_alloc ?_ _)); exact BK195.out⟩, ⟨by (with_reducible repeat (first | refine blk_drewN ?_ _ | refine blk_drew ?_ | refine blk_alloc ?_ _)); exact BK198.out⟩, ⟨by (with_reducible repeat (first | refine blk_drewN ?_ _ | refine blk_drew ?_ | refine blk_alloc ?_ _)); exact BK203.out⟩, ⟨by (with_reducible repeat (first | refine blk_drewN ?_ _ | refine blk_drew ?_ | refine blk_alloc ?_ _)); exact BK211.out⟩, ⟨by (with_reducible repeat (first | refine blk_drewN ?_ _ | refine blk_drew ?_ | refine blk_alloc ?_ _)); exact BK215.out⟩, ⟨by (with_reducible repeat (first | refine blk_drewN ?_ _ | refine blk_drew ?_ | refine blk_alloc ?_ _)); exact BK219.out⟩, ⟨by repeat (first | (with_reducible first | exact HB.out | apply below_alloc | apply pw_below_drewN | apply below_drew1 | refine below_set ?_ GE195.out | refine below_set ?_ GE198.out | refine below_set ?_ GE203.out | refine below_set ?_ GE211.out | refine below_set ?_ GE215.out | refine below_set ?_ GE219.out) | exact HB.out)⟩⟩
    case rest =>
     clear HC39
     try clear c1
     try clear c2
     try clear c2b0
     try clear c2b1
     try clear p2
     try clear c3
     try clear c4
     try clear c5
     try clear c6
     try clear p6
     try clear c7
     try clear c8
     try clear c9
     try clear c10
     try clear c13
     try clear c17
     try clear c19
     try clear c20
     try clear c22
     try clear c23
     try clear c23b0
     try clear c25
     try clear c26
     try clear c27
     try clear c28
     try clear c29
     try clear c30
     try clear c31
     try clear c32
     try clear c33
     try clear c40
     try clear c41
     try clear c43
     try clear c47
     try clear c48
     try clear c49
     try clear c55
     try clear c56
     try clear c57
     try clear c58
     try clear c64
     try clear p64
     try clear c65
     try clear c66
     try clear c67
     try clear c68
     try clear c73
     try clear c75
     try clear c77
     try clear c78
     try clear c80
     try clear c82
     try clear c83
     try clear c84
     try clear c85
     try clear c86
     try clear c89
     try clear c90
     try clear c91
     try clear c92
     try clear c95
     try clear c96
     try clear c97
     try clear c100
     try clear c101
     try clear hcz102_0
     try clear hcz102_1
     try clear hcz104_0
     try clear hcz104_1
     try clear hcz10_0
     try clear hcz10_1
     try clear hcz14_0
     try clear hcz14_1
     try clear hcz15_0
     try clear hcz15_1
     try clear hcz21_0
     try clear hcz21_1
     try clear hcz42_0
     try clear hcz42_1
     try clear hcz44_0
     try clear hcz44_1
     try clear hcz50_0
     try clear hcz50_1
     try clear hcz51_0
     try clear hcz51_1
     try clear hcz52_0
     try clear hcz52_1
     try clear hcz59_0
     try clear hcz59_1
     try clear hcz60_0
     try clear hcz60_1
     try clear hcz61_0
     try clear hcz61_1
     try clear hcz69_0
     try clear hcz69_1
     try clear hcz70_0
     try clear hcz70_1
     try clear hcz71_0
     try clear hcz71_1
     try clear hcz87_0
     try clear hcz87_1
     try clear hcz93_0
     try clear hcz93_1
     try clear hcz98_0
     try clear hcz98_1
     try clear hfz102_0
     try clear hfz102_1
     try clear hfz104_0
     try clear hfz104_1
     try clear hfz10_0
     try clear hfz10_1
     try clear hfz14_0
     try clear hfz14_1
     try clear hfz15_0
     try clear hfz15_1
     try clear hfz21_0
     try clear hfz21_1
     try clear hfz42_0
     try clear hfz42_1
     try clear hfz44_0
     try clear hfz44_1
     try clear hfz50_0
     try clear hfz50_1
     try clear hfz51_0
     try clear hfz51_1
     try clear hfz52_0
     try clear hfz52_1
     try clear hfz59_0
     try clear hfz59_1
     try clear hfz60_0
     try clear hfz60_1
     try clear hfz61_0
     try clear hfz61_1
     try clear hfz69_0
     try clear hfz69_1
     try clear hfz70_0
     try clear hfz70_1
     try clear hfz71_0
     try clear hfz71_1
     try clear hfz87_0
     try clear hfz87_1
     try clear hfz93_0
     try clear hfz93_1
     try clear hfz98_0
     try clear hfz98_1
     try clear p2
     obtain ⟨kq, x102_38, rfl, HA, HJ38, BK195, BK198, BK203, BK211, BK215, BK219, HB⟩ := hcut
     cases kq with
     | zero => exact absurd HA.out (by simp [laws_FnIntervals.j1])
     | succ kj38 =>
      have H := HA.out
      clear HA
      simp only [laws_FnIntervals.j1] at H
      by_cases c106 : x102_38 = true
      · subst c106
        have H1 : (some false) = some r := by rw [if_pos rfl] at H; exact H
        clear H
        have H := H1
        clear H1
        obtain rfl := Option.some.inj H
        exact absurd hr_ (by decide)
      replace c106 := Bool.eq_false_iff.mpr c106
      subst c106
      have H1 : (laws_FnIntervals.l0 kj38 t218 (-25) t193 t194 t196 t197 t216 t217) = some r := by rw [if_neg (show ¬ (false = true) by decide)] at H; exact H
      clear H
      have H := H1
      clear H1
      have H' := Aside0.mk H
      clear H
      go_wp2
      go_loopg [14] kj38 (fun kq v14 w' => ∃ (x14_3 : Int), v14 = .int .i64 x14_3 ∧ Aside0 (laws_FnIntervals.l0 kq t218 x14_3 t193 t194 t196 t197 t216 t217 = some r) ∧ Aside0 (kq ≤ kj38) ∧ Aside0 (w'.heap[gb195]? = some (.cells #[.int .i64 t193, .int .i64 t194] 27 (0, 0))) ∧ Aside0 (w'.heap[gb198]? = some (.cells #[.int .i64 t196, .int .i64 t197] 27 (0, 0))) ∧ Aside0 (w'.heap[gb203]? = some (.cells #[.int .i64 t200, .int .i64 t201] 27 (0, 0))) ∧ Aside0 (w'.heap[gb211]? = some (.cells #[.int .i64 t209, .int .i64 t210] 27 (0, 0))) ∧ Aside0 (w'.heap[gb215]? = some (.cells #[.int .i64 t212, .int .i64 t213] 27 (0, 0))) ∧ Aside0 (w'.heap[gb219]? = some (.cells #[.int .i64 t216, .int .i64 t217] 27 (0, 0))) ∧ Aside0 (Below w.heap.size w w'))
      case atStart => exact ⟨((-25)), (by first | rfl | (simp; done) | (simp [*]; done)), H', ⟨Nat.le_refl _⟩, ⟨by (with_reducible repeat (first | refine blk_drewN ?_ _ | refine blk_drew ?_ | refine blk_alloc ?_ _)); exact BK195.out⟩, ⟨by (with_reducible repeat (first | refine blk_drewN ?_ _ | refine blk_drew ?_ | refine blk_alloc ?_ _)); exact BK198.out⟩, ⟨by (with_reducible repeat (first | refine blk_drewN ?_ _ | refine blk_drew ?_ | refine blk_alloc ?_ _)); exact BK203.out⟩, ⟨by (with_reducible repeat (first | refine blk_drewN ?_ _ | refine blk_drew ?_ | refine blk_alloc ?_ _)); exact BK211.out⟩, ⟨by (with_reducible repeat (first | refine blk_drewN ?_ _ | refine blk_drew ?_ | refine blk_alloc ?_ _)); exact BK215.out⟩, ⟨by (with_reducible repeat (first | refine blk_drewN ?_ _ | refine blk_drew ?_ | refine blk_alloc ?_ _)); exact BK219.out⟩, ⟨by repeat (first | (with_reducible first | exact HB.out | apply below_alloc | apply pw_below_drewN | apply below_drew1 | refine below_set ?_ GE195.out | refine below_set ?_ GE198.out | refine below_set ?_ GE203.out | refine below_set ?_ GE211.out | refine below_set ?_ GE215.out | refine below_set ?_ GE219.out) | exact HB.out)⟩⟩
      case round =>
       clear H'
       try clear c1
       try clear c2
       try clear c2b0
       try clear c2b1
       try clear p2
       try clear c3
       try clear c4
       try clear c5
       try clear c6
       try clear p6
       try clear c7
       try clear c8
       try clear c9
       try clear c10
       try clear c13
       try clear c17
       try clear c19
       try clear c20
       try clear c22
       try clear c23
       try clear c23b0
       try clear c25
       try clear c26
       try clear c27
       try clear c28
       try clear c29
       try clear c30
       try clear c31
       try clear c32
       try clear c33
       try clear c40
       try clear c41
       try clear c43
       try clear c47
       try clear c48
       try clear c49
       try clear c55
       try clear c56
       try clear c57
       try clear c58
       try clear c64
       try clear p64
       try clear c65
       try clear c66
       try clear c67
       try clear c68
       try clear c73
       try clear c75
       try clear c77
       try clear c78
       try clear c80
       try clear c82
       try clear c83
       try clear c84
       try clear c85
       try clear c86
       try clear c89
       try clear c90
       try clear c91
       try clear c92
       try clear c95
       try clear c96
       try clear c97
       try clear c100
       try clear c101
       try clear c106
       try clear hcz102_0
       try clear hcz102_1
       try clear hcz104_0
       try clear hcz104_1
       try clear hcz10_0
       try clear hcz10_1
       try clear hcz14_0
       try clear hcz14_1
       try clear hcz15_0
       try clear hcz15_1
       try clear hcz21_0
       try clear hcz21_1
       try clear hcz42_0
       try clear hcz42_1
       try clear hcz44_0
       try clear hcz44_1
       try clear hcz50_0
       try clear hcz50_1
       try clear hcz51_0
       try clear hcz51_1
       try clear hcz52_0
       try clear hcz52_1
       try clear hcz59_0
       try clear hcz59_1
       try clear hcz60_0
       try clear hcz60_1
       try clear hcz61_0
       try clear hcz61_1
       try clear hcz69_0
       try clear hcz69_1
       try clear hcz70_0
       try clear hcz70_1
       try clear hcz71_0
       try clear hcz71_1
       try clear hcz87_0
       try clear hcz87_1
       try clear hcz93_0
       try clear hcz93_1
       try clear hcz98_0
       try clear hcz98_1
       try clear hfz102_0
       try clear hfz102_1
       try clear hfz104_0
       try clear hfz104_1
       try clear hfz10_0
       try clear hfz10_1
       try clear hfz14_0
       try clear hfz14_1
       try clear hfz15_0
       try clear hfz15_1
       try clear hfz21_0
       try clear hfz21_1
       try clear hfz42_0
       try clear hfz42_1
       try clear hfz44_0
       try clear hfz44_1
       try clear hfz50_0
       try clear hfz50_1
       try clear hfz51_0
       try clear hfz51_1
       try clear hfz52_0
       try clear hfz52_1
       try clear hfz59_0
       try clear hfz59_1
       try clear hfz60_0
       try clear hfz60_1
       try clear hfz61_0
       try clear hfz61_1
       try clear hfz69_0
       try clear hfz69_1
       try clear hfz70_0
       try clear hfz70_1
       try clear hfz71_0
       try clear hfz71_1
       try clear hfz87_0
       try clear hfz87_1
       try clear hfz93_0
       try clear hfz93_1
       try clear hfz98_0
       try clear hfz98_1
       try clear p2
       try clear p6
       try clear p64
       obtain ⟨x14_3, rfl, HA, HK3, BK195, BK198, BK203, BK211, BK215, BK219, HB⟩ := hrel
       cases gk with
       | zero => exact absurd HA.out (by simp [laws_FnIntervals.l0])
       | succ k3 =>
        have H := HA.out
        clear HA
        simp only [laws_FnIntervals.l0] at H
        by_cases c107 : x14_3 < 25
        rotate_left
        · rw [if_neg c107] at H
          have c107b0 : decide (x14_3 < 25) = false := decide_eq_false c107
          clear c107
          replace H := Option.bind_eq_some_iff.mp H
          obtain ⟨t225, A1700, H⟩ := H
          replace H : (if t225 = 1000000 then ((impl_ClampBound.f 1000009).bind fun t226 => (some (t226 == 1000000))) else (some false)) = some r := H
          have A170 := Aside0.mk A1700
          clear A1700
          by_cases c171 : t225 = 1000000
          rotate_left
          · rw [if_neg c171] at H
            have c171b0 : (t225 == 1000000) = false := beq_eq_false_iff_ne.mpr c171
            have c171b1 : (t225 != 1000000) = true := bne_iff_ne.mpr c171
            obtain rfl := Option.some.inj H
            exact absurd hr_ (by decide)
          rw [if_pos c171] at H
          have c171b0 : (t225 == 1000000) = true := beq_iff_eq.mpr c171
          have c171b1 : (t225 != 1000000) = false := bne_eq_false_iff_eq.mpr c171
          clear c171
          replace H := Option.bind_eq_some_iff.mp H
          obtain ⟨t226, A1720, H⟩ := H
          replace H : (some (t226 == 1000000)) = some r := H
          have A172 := Aside0.mk A1720
          clear A1720
          obtain rfl := Option.some.inj H
          clear hr_
          go_wp2_with (first | ((with_reducible refine gate_callee (f := 33) rfl ?_); refine goesL_ (some 123) rfl rfl Tryd.func33 (by kernel_rfl) rfl #[.int .i64 1000000, .int .i64 (-5)] rfl (by (try simp only [List.map_toArray, List.map_cons, List.map_nil]); first | done | rfl | (simp only [List.length_drop, List.length_take]; rfl)) ?_; (with_reducible refine (impl_AddBounds.calls k3 1000000 (-5) t225 _ A170.out).mono ?_); rintro e w173 ⟨rfl, hb⟩; refine ⟨_, rfl, ?_⟩; have n0_ := Aside0.mk (blk_below (g := gb195) (o := .cells #[.int .i64 t193, .int .i64 t194] 27 (0, 0)) (by (with_reducible repeat (first | refine blk_drewN ?_ _ | refine blk_drew ?_ | refine blk_alloc ?_ _)); exact BK195.out) hb); have n1_ := Aside0.mk (blk_below (g := gb198) (o := .cells #[.int .i64 t196, .int .i64 t197] 27 (0, 0)) (by (with_reducible repeat (first | refine blk_drewN ?_ _ | refine blk_drew ?_ | refine blk_alloc ?_ _)); exact BK198.out) hb); have n2_ := Aside0.mk (blk_below (g := gb203) (o := .cells #[.int .i64 t200, .int .i64 t201] 27 (0, 0)) (by (with_reducible repeat (first | refine blk_drewN ?_ _ | refine blk_drew ?_ | refine blk_alloc ?_ _)); exact BK203.out) hb); have n3_ := Aside0.mk (blk_below (g := gb211) (o := .cells #[.int .i64 t209, .int .i64 t210] 27 (0, 0)) (by (with_reducible repeat (first | refine blk_drewN ?_ _ | refine blk_drew ?_ | refine blk_alloc ?_ _)); exact BK211.out) hb); have n4_ := Aside0.mk (blk_below (g := gb215) (o := .cells #[.int .i64 t212, .int .i64 t213] 27 (0, 0)) (by (with_reducible repeat (first | refine blk_drewN ?_ _ | refine blk_drew ?_ | refine blk_alloc ?_ _)); exact BK215.out) hb); have n5_ := Aside0.mk (blk_below (g := gb219) (o := .cells #[.int .i64 t216, .int .i64 t217] 27 (0, 0)) (by (with_reducible repeat (first | refine blk_drewN ?_ _ | refine blk_drew ?_ | refine blk_alloc ?_ _)); exact BK219.out) hb); have n6_ := Aside0.mk (below_step (by repeat (first | (with_reducible first | exact HB.out | apply below_alloc | apply pw_below_drewN | apply below_drew1 | refine below_set ?_ GE195.out | refine below_set ?_ GE198.out | refine below_set ?_ GE203.out | refine below_set ?_ GE211.out | refine below_set ?_ GE215.out | refine below_set ?_ GE219.out) | exact HB.out)) hb); clear BK195; clear BK198; clear BK203; clear BK211; clear BK215; clear BK219; clear HB; have BK195 := n0_; have BK198 := n1_; have BK203 := n2_; have BK211 := n3_; have BK215 := n4_; have BK219 := n5_; have HB := n6_; clear n0_ n1_ n2_ n3_ n4_ n5_ n6_; (try clear hb); (try clear hb2); (try clear hk); (try clear hi)) | (go_at_call 34; (with_reducible refine (impl_ClampBound.calls 1000009 t226 _ A172.out).mono ?_); rintro e w174 ⟨rfl, hb⟩; have n0_ := Aside0.mk (blk_below (g := gb195) (o := .cells #[.int .i64 t193, .int .i64 t194] 27 (0, 0)) (by (with_reducible repeat (first | refine blk_drewN ?_ _ | refine blk_drew ?_ | refine blk_alloc ?_ _)); exact BK195.out) hb); have n1_ := Aside0.mk (blk_below (g := gb198) (o := .cells #[.int .i64 t196, .int .i64 t197] 27 (0, 0)) (by (with_reducible repeat (first | refine blk_drewN ?_ _ | refine blk_drew ?_ | refine blk_alloc ?_ _)); exact BK198.out) hb); have n2_ := Aside0.mk (blk_below (g := gb203) (o := .cells #[.int .i64 t200, .int .i64 t201] 27 (0, 0)) (by (with_reducible repeat (first | refine blk_drewN ?_ _ | refine blk_drew ?_ | refine blk_alloc ?_ _)); exact BK203.out) hb); have n3_ := Aside0.mk (blk_below (g := gb211) (o := .cells #[.int .i64 t209, .int .i64 t210] 27 (0, 0)) (by (with_reducible repeat (first | refine blk_drewN ?_ _ | refine blk_drew ?_ | refine blk_alloc ?_ _)); exact BK211.out) hb); have n4_ := Aside0.mk (blk_below (g := gb215) (o := .cells #[.int .i64 t212, .int .i64 t213] 27 (0, 0)) (by (with_reducible repeat (first | refine blk_drewN ?_ _ | refine blk_drew ?_ | refine blk_alloc ?_ _)); exact BK215.out) hb); have n5_ := Aside0.mk (blk_below (g := gb219) (o := .cells #[.int .i64 t216, .int .i64 t217] 27 (0, 0)) (by (with_reducible repeat (first | refine blk_drewN ?_ _ | refine blk_drew ?_ | refine blk_alloc ?_ _)); exact BK219.out) hb); have n6_ := Aside0.mk (below_step (by repeat (first | (with_reducible first | exact HB.out | apply below_alloc | apply pw_below_drewN | apply below_drew1 | refine below_set ?_ GE195.out | refine below_set ?_ GE198.out | refine below_set ?_ GE203.out | refine below_set ?_ GE211.out | refine below_set ?_ GE215.out | refine below_set ?_ GE219.out) | exact HB.out)) hb); clear BK195; clear BK198; clear BK203; clear BK211; clear BK215; clear BK219; clear HB; have BK195 := n0_; have BK198 := n1_; have BK203 := n2_; have BK211 := n3_; have BK215 := n4_; have BK219 := n5_; have HB := n6_; clear n0_ n1_ n2_ n3_ n4_ n5_ n6_; (try clear hb); (try clear hb2); (try clear hk); (try clear hi)))
          go_ret
          exact ⟨by first | rfl | (simp [errW_none, errW_some] <;> rfl) | (simp only [← hji37, ← hji38]; first | rfl | (simp [errW_none, errW_some] <;> rfl)) | (simp [*, errW_none, errW_some] <;> rfl), by repeat (first | (with_reducible first | exact HB.out | apply below_alloc | apply pw_below_drewN | apply below_drew1 | refine below_set ?_ GE195.out | refine below_set ?_ GE198.out | refine below_set ?_ GE203.out | refine below_set ?_ GE211.out | refine below_set ?_ GE215.out | refine below_set ?_ GE219.out) | exact HB.out)⟩
        rw [if_pos c107] at H
        have c107b0 : decide (x14_3 < 25) = true := decide_eq_true c107
        clear c107
        replace H := Option.bind_eq_some_iff.mp H
        obtain ⟨t227, A1080, H⟩ := H
        replace H : (if t227 = true then ((impl_Contains.f t196 t197 x14_3).bind fun t228 => (if t218 = true then ((impl_Contains.f t216 t217 x14_3).bind fun t229 => (if (t228 != t229) = true then (some false) else (laws_FnIntervals.l0 k3 t218 (wrap64 (x14_3 + 1)) t193 t194 t196 t197 t216 t217))) else (if (t228 != false) = true then (some false) else (laws_FnIntervals.l0 k3 t218 (wrap64 (x14_3 + 1)) t193 t194 t196 t197 t216 t217)))) else (if t218 = true then ((impl_Contains.f t216 t217 x14_3).bind fun t230 => (if (false != t230) = true then (some false) else (laws_FnIntervals.l0 k3 t218 (wrap64 (x14_3 + 1)) t193 t194 t196 t197 t216 t217))) else (if (false != false) = true then (some false) else (laws_FnIntervals.l0 k3 t218 (wrap64 (x14_3 + 1)) t193 t194 t196 t197 t216 t217)))) = some r := H
        have A108 := Aside0.mk A1080
        clear A1080
        by_cases c109 : t227 = true
        rotate_left
        · replace c109 := Bool.eq_false_iff.mpr c109
          subst c109
          have H1 : (if t218 = true then ((impl_Contains.f t216 t217 x14_3).bind fun t230 => (if (false != t230) = true then (some false) else (laws_FnIntervals.l0 k3 t218 (wrap64 (x14_3 + 1)) t193 t194 t196 t197 t216 t217))) else (if (false != false) = true then (some false) else (laws_FnIntervals.l0 k3 t218 (wrap64 (x14_3 + 1)) t193 t194 t196 t197 t216 t217))) = some r := by rw [if_neg (show ¬ (false = true) by decide)] at H; exact H
          clear H
          have H := H1
          clear H1
          by_cases c146 : t218 = true
          rotate_left
          · replace c146 := Bool.eq_false_iff.mpr c146
            subst c146
            have H1 : (if (false != false) = true then (some false) else (laws_FnIntervals.l0 k3 false (wrap64 (x14_3 + 1)) t193 t194 t196 t197 t216 t217)) = some r := by rw [if_neg (show ¬ (false = true) by decide)] at H; exact H
            clear H
            have H := H1
            clear H1
            by_cases c162 : (false != false) = true
            · rw [if_pos c162] at H
              have c162b0 : (false != false) = true := c162
              (try (have c162b1 : decide (false = false) = false := by simpa using c162))
              (try (have c162b2 : (false == false) = false := by simpa using c162))
              (try (have c162b3 : ¬ (false = false) := by simpa using c162))
              clear c162
              obtain rfl := Option.some.inj H
              exact absurd hr_ (by decide)
            rw [if_neg c162] at H
            have c162b0 : (false != false) = false := by simpa using c162
            (try (have c162b1 : decide (false = false) = true := by simpa using c162))
            (try (have c162b2 : (false == false) = true := by simpa using c162))
            clear c162
            have H' := Aside0.mk H
            clear H
            have hnb163 := NB195_198.out
            have hnc163 := NB198_195.out
            have hnb164 := NB195_203.out
            have hnc164 := NB203_195.out
            have hnb165 := NB195_211.out
            have hnc165 := NB211_195.out
            have hnb166 := NB195_215.out
            have hnc166 := NB215_195.out
            have hnb167 := NB195_219.out
            have hnc167 := NB219_195.out
            have hcz168_0 : wr.cell? ⟨gb195, 0, none⟩ = some (.int .i64 t193) := (blk_cell BK195.out 0).trans rfl
            have hcz168_1 : wr.cell? ⟨gb195, 1, none⟩ = some (.int .i64 t194) := (blk_cell BK195.out 1).trans rfl
            have hfz168_0 := blk_frozen BK195.out 0
            have hfz168_1 := blk_frozen BK195.out 1
            go_wp2_with (first | ((with_reducible refine gate_callee (f := 32) rfl ?_); refine goesL_ (some 109) rfl rfl Tryd.func32 (by kernel_rfl) rfl #[.agg #[.int .i64 t193, .int .i64 t194], .int .i64 x14_3] rfl (by (try simp only [List.map_toArray, List.map_cons, List.map_nil]); first | done | rfl | (simp only [List.length_drop, List.length_take]; rfl)) ?_; (with_reducible refine (impl_Contains.calls t193 t194 x14_3 false _ A108.out).mono ?_); rintro e w169 ⟨rfl, hb⟩; refine ⟨_, rfl, ?_⟩; have n0_ := Aside0.mk (blk_below (g := gb195) (o := .cells #[.int .i64 t193, .int .i64 t194] 27 (0, 0)) (by (with_reducible repeat (first | refine blk_drewN ?_ _ | refine blk_drew ?_ | refine blk_alloc ?_ _)); exact BK195.out) hb); have n1_ := Aside0.mk (blk_below (g := gb198) (o := .cells #[.int .i64 t196, .int .i64 t197] 27 (0, 0)) (by (with_reducible repeat (first | refine blk_drewN ?_ _ | refine blk_drew ?_ | refine blk_alloc ?_ _)); exact BK198.out) hb); have n2_ := Aside0.mk (blk_below (g := gb203) (o := .cells #[.int .i64 t200, .int .i64 t201] 27 (0, 0)) (by (with_reducible repeat (first | refine blk_drewN ?_ _ | refine blk_drew ?_ | refine blk_alloc ?_ _)); exact BK203.out) hb); have n3_ := Aside0.mk (blk_below (g := gb211) (o := .cells #[.int .i64 t209, .int .i64 t210] 27 (0, 0)) (by (with_reducible repeat (first | refine blk_drewN ?_ _ | refine blk_drew ?_ | refine blk_alloc ?_ _)); exact BK211.out) hb); have n4_ := Aside0.mk (blk_below (g := gb215) (o := .cells #[.int .i64 t212, .int .i64 t213] 27 (0, 0)) (by (with_reducible repeat (first | refine blk_drewN ?_ _ | refine blk_drew ?_ | refine blk_alloc ?_ _)); exact BK215.out) hb); have n5_ := Aside0.mk (blk_below (g := gb219) (o := .cells #[.int .i64 t216, .int .i64 t217] 27 (0, 0)) (by (with_reducible repeat (first | refine blk_drewN ?_ _ | refine blk_drew ?_ | refine blk_alloc ?_ _)); exact BK219.out) hb); have n6_ := Aside0.mk (below_step (by repeat (first | (with_reducible first | exact HB.out | apply below_alloc | apply pw_below_drewN | apply below_drew1 | refine below_set ?_ GE195.out | refine below_set ?_ GE198.out | refine below_set ?_ GE203.out | refine below_set ?_ GE211.out | refine below_set ?_ GE215.out | refine below_set ?_ GE219.out) | exact HB.out)) hb); clear BK195; clear BK198; clear BK203; clear BK211; clear BK215; clear BK219; clear HB; have BK195 := n0_; have BK198 := n1_; have BK203 := n2_; have BK211 := n3_; have BK215 := n4_; have BK219 := n5_; have HB := n6_; clear n0_ n1_ n2_ n3_ n4_ n5_ n6_; (try clear hb); (try clear hb2); (try clear hk); (try clear hi)))
            go_roundg k3
            case measure => have := HJ6.out; have := HJ38.out; have := HK3.out; omega
            case rel => exact ⟨(wrap64 (x14_3 + 1)), (by first | rfl | (simp; done) | (simp [*]; done)), H', ⟨by have := HJ6.out; have := HJ38.out; have := HK3.out; omega⟩, ⟨by (with_reducible repeat (first | refine blk_drewN ?_ _ | refine blk_drew ?_ | refine blk_alloc ?_ _)); exact BK195.out⟩, ⟨by (with_reducible repeat (first | refine blk_drewN ?_ _ | refine blk_drew ?_ | refine blk_alloc ?_ _)); exact BK198.out⟩, ⟨by (with_reducible repeat (first | refine blk_drewN ?_ _ | refine blk_drew ?_ | refine blk_alloc ?_ _)); exact BK203.out⟩, ⟨by (with_reducible repeat (first | refine blk_drewN ?_ _ | refine blk_drew ?_ | refine blk_alloc ?_ _)); exact BK211.out⟩, ⟨by (with_reducible repeat (first | refine blk_drewN ?_ _ | refine blk_drew ?_ | refine blk_alloc ?_ _)); exact BK215.out⟩, ⟨by (with_reducible repeat (first | refine blk_drewN ?_ _ | refine blk_drew ?_ | refine blk_alloc ?_ _)); exact BK219.out⟩, ⟨by repeat (first | (with_reducible first | exact HB.out | apply below_alloc | apply pw_below_drewN | apply below_drew1 | refine below_set ?_ GE195.out | refine below_set ?_ GE198.out | refine below_set ?_ GE203.out | refine below_set ?_ GE211.out | refine below_set ?_ GE215.out | refine below_set ?_ GE219.out) | exact HB.out)⟩⟩
          subst c146
          have H1 : ((impl_Contains.f t216 t217 x14_3).bind fun t230 => (if (false != t230) = true then (some false) else (laws_FnIntervals.l0 k3 true (wrap64 (x14_3 + 1)) t193 t194 t196 t197 t216 t217))) = some r := by rw [if_pos rfl] at H; exact H
          clear H
          have H := H1
          clear H1
          replace H := Option.bind_eq_some_iff.mp H
          obtain ⟨t230, A1470, H⟩ := H
          replace H : (if (false != t230) = true then (some false) else (laws_FnIntervals.l0 k3 true (wrap64 (x14_3 + 1)) t193 t194 t196 t197 t216 t217)) = some r := H
          have A147 := Aside0.mk A1470
          clear A1470
          by_cases c148 : (false != t230) = true
          · rw [if_pos c148] at H
            have c148b0 : (false != t230) = true := c148
            (try (have c148b1 : decide (false = t230) = false := by simpa using c148))
            (try (have c148b2 : (false == t230) = false := by simpa using c148))
            (try (have c148b3 : ¬ (false = t230) := by simpa using c148))
            clear c148
            obtain rfl := Option.some.inj H
            exact absurd hr_ (by decide)
          rw [if_neg c148] at H
          have c148b0 : (false != t230) = false := by simpa using c148
          (try (have c148b1 : decide (false = t230) = true := by simpa using c148))
          (try (have c148b2 : (false == t230) = true := by simpa using c148))
          clear c148
          have H' := Aside0.mk H
          clear H
          have hnb149 := NB195_198.out
          have hnc149 := NB198_195.out
          have hnb150 := NB195_203.out
          have hnc150 := NB203_195.out
          have hnb151 := NB195_211.out
          have hnc151 := NB211_195.out
          have hnb152 := NB195_215.out
          have hnc152 := NB215_195.out
          have hnb153 := NB195_219.out
          have hnc153 := NB219_195.out
          have hcz154_0 : wr.cell? ⟨gb195, 0, none⟩ = some (.int .i64 t193) := (blk_cell BK195.out 0).trans rfl
          have hcz154_1 : wr.cell? ⟨gb195, 1, none⟩ = some (.int .i64 t194) := (blk_cell BK195.out 1).trans rfl
          have hfz154_0 := blk_frozen BK195.out 0
          have hfz154_1 := blk_frozen BK195.out 1
          go_wp2_with (first | ((with_reducible refine gate_callee (f := 32) rfl ?_); refine goesL_ (some 109) rfl rfl Tryd.func32 (by kernel_rfl) rfl #[.agg #[.int .i64 t193, .int .i64 t194], .int .i64 x14_3] rfl (by (try simp only [List.map_toArray, List.map_cons, List.map_nil]); first | done | rfl | (simp only [List.length_drop, List.length_take]; rfl)) ?_; (with_reducible refine (impl_Contains.calls t193 t194 x14_3 false _ A108.out).mono ?_); rintro e w155 ⟨rfl, hb⟩; refine ⟨_, rfl, ?_⟩; have n0_ := Aside0.mk (blk_below (g := gb195) (o := .cells #[.int .i64 t193, .int .i64 t194] 27 (0, 0)) (by (with_reducible repeat (first | refine blk_drewN ?_ _ | refine blk_drew ?_ | refine blk_alloc ?_ _)); exact BK195.out) hb); have n1_ := Aside0.mk (blk_below (g := gb198) (o := .cells #[.int .i64 t196, .int .i64 t197] 27 (0, 0)) (by (with_reducible repeat (first | refine blk_drewN ?_ _ | refine blk_drew ?_ | refine blk_alloc ?_ _)); exact BK198.out) hb); have n2_ := Aside0.mk (blk_below (g := gb203) (o := .cells #[.int .i64 t200, .int .i64 t201] 27 (0, 0)) (by (with_reducible repeat (first | refine blk_drewN ?_ _ | refine blk_drew ?_ | refine blk_alloc ?_ _)); exact BK203.out) hb); have n3_ := Aside0.mk (blk_below (g := gb211) (o := .cells #[.int .i64 t209, .int .i64 t210] 27 (0, 0)) (by (with_reducible repeat (first | refine blk_drewN ?_ _ | refine blk_drew ?_ | refine blk_alloc ?_ _)); exact BK211.out) hb); have n4_ := Aside0.mk (blk_below (g := gb215) (o := .cells #[.int .i64 t212, .int .i64 t213] 27 (0, 0)) (by (with_reducible repeat (first | refine blk_drewN ?_ _ | refine blk_drew ?_ | refine blk_alloc ?_ _)); exact BK215.out) hb); have n5_ := Aside0.mk (blk_below (g := gb219) (o := .cells #[.int .i64 t216, .int .i64 t217] 27 (0, 0)) (by (with_reducible repeat (first | refine blk_drewN ?_ _ | refine blk_drew ?_ | refine blk_alloc ?_ _)); exact BK219.out) hb); have n6_ := Aside0.mk (below_step (by repeat (first | (with_reducible first | exact HB.out | apply below_alloc | apply pw_below_drewN | apply below_drew1 | refine below_set ?_ GE195.out | refine below_set ?_ GE198.out | refine below_set ?_ GE203.out | refine below_set ?_ GE211.out | refine below_set ?_ GE215.out | refine below_set ?_ GE219.out) | exact HB.out)) hb); clear BK195; clear BK198; clear BK203; clear BK211; clear BK215; clear BK219; clear HB; have BK195 := n0_; have BK198 := n1_; have BK203 := n2_; have BK211 := n3_; have BK215 := n4_; have BK219 := n5_; have HB := n6_; clear n0_ n1_ n2_ n3_ n4_ n5_ n6_; (try clear hb); (try clear hb2); (try clear hk); (try clear hi); have hnb156 := NB219_198.out; have hnc156 := NB198_219.out; have hnb157 := NB219_203.out; have hnc157 := NB203_219.out; have hnb158 := NB219_211.out; have hnc158 := NB211_219.out; have hnb159 := NB219_215.out; have hnc159 := NB215_219.out; have hcz160_0 : w155.cell? ⟨gb219, 0, none⟩ = some (.int .i64 t216) := (blk_cell BK219.out 0).trans rfl; have hcz160_1 : w155.cell? ⟨gb219, 1, none⟩ = some (.int .i64 t217) := (blk_cell BK219.out 1).trans rfl; have hfz160_0 := blk_frozen BK219.out 0; have hfz160_1 := blk_frozen BK219.out 1) | (go_at_call 32; (with_reducible refine (impl_Contains.calls t216 t217 x14_3 t230 _ A147.out).mono ?_); rintro e w161 ⟨rfl, hb⟩; have n0_ := Aside0.mk (blk_below (g := gb195) (o := .cells #[.int .i64 t193, .int .i64 t194] 27 (0, 0)) (by (with_reducible repeat (first | refine blk_drewN ?_ _ | refine blk_drew ?_ | refine blk_alloc ?_ _)); exact BK195.out) hb); have n1_ := Aside0.mk (blk_below (g := gb198) (o := .cells #[.int .i64 t196, .int .i64 t197] 27 (0, 0)) (by (with_reducible repeat (first | refine blk_drewN ?_ _ | refine blk_drew ?_ | refine blk_alloc ?_ _)); exact BK198.out) hb); have n2_ := Aside0.mk (blk_below (g := gb203) (o := .cells #[.int .i64 t200, .int .i64 t201] 27 (0, 0)) (by (with_reducible repeat (first | refine blk_drewN ?_ _ | refine blk_drew ?_ | refine blk_alloc ?_ _)); exact BK203.out) hb); have n3_ := Aside0.mk (blk_below (g := gb211) (o := .cells #[.int .i64 t209, .int .i64 t210] 27 (0, 0)) (by (with_reducible repeat (first | refine blk_drewN ?_ _ | refine blk_drew ?_ | refine blk_alloc ?_ _)); exact BK211.out) hb); have n4_ := Aside0.mk (blk_below (g := gb215) (o := .cells #[.int .i64 t212, .int .i64 t213] 27 (0, 0)) (by (with_reducible repeat (first | refine blk_drewN ?_ _ | refine blk_drew ?_ | refine blk_alloc ?_ _)); exact BK215.out) hb); have n5_ := Aside0.mk (blk_below (g := gb219) (o := .cells #[.int .i64 t216, .int .i64 t217] 27 (0, 0)) (by (with_reducible repeat (first | refine blk_drewN ?_ _ | refine blk_drew ?_ | refine blk_alloc ?_ _)); exact BK219.out) hb); have n6_ := Aside0.mk (below_step (by repeat (first | (with_reducible first | exact HB.out | apply below_alloc | apply pw_below_drewN | apply below_drew1 | refine below_set ?_ GE195.out | refine below_set ?_ GE198.out | refine below_set ?_ GE203.out | refine below_set ?_ GE211.out | refine below_set ?_ GE215.out | refine below_set ?_ GE219.out) | exact HB.out)) hb); clear BK195; clear BK198; clear BK203; clear BK211; clear BK215; clear BK219; clear HB; have BK195 := n0_; have BK198 := n1_; have BK203 := n2_; have BK211 := n3_; have BK215 := n4_; have BK219 := n5_; have HB := n6_; clear n0_ n1_ n2_ n3_ n4_ n5_ n6_; (try clear hb); (try clear hb2); (try clear hk); (try clear hi)))
          go_roundg k3
          case measure => have := HJ6.out; have := HJ38.out; have := HK3.out; omega
          case rel => exact ⟨(wrap64 (x14_3 + 1)), (by first | rfl | (simp; done) | (simp [*]; done)), H', ⟨by have := HJ6.out; have := HJ38.out; have := HK3.out; omega⟩, ⟨by (with_reducible repeat (first | refine blk_drewN ?_ _ | refine blk_drew ?_ | refine blk_alloc ?_ _)); exact BK195.out⟩, ⟨by (with_reducible repeat (first | refine blk_drewN ?_ _ | refine blk_drew ?_ | refine blk_alloc ?_ _)); exact BK198.out⟩, ⟨by (with_reducible repeat (first | refine blk_drewN ?_ _ | refine blk_drew ?_ | refine blk_alloc ?_ _)); exact BK203.out⟩, ⟨by (with_reducible repeat (first | refine blk_drewN ?_ _ | refine blk_drew ?_ | refine blk_alloc ?_ _)); exact BK211.out⟩, ⟨by (with_reducible repeat (first | refine blk_drewN ?_ _ | refine blk_drew ?_ | refine blk_alloc ?_ _)); exact BK215.out⟩, ⟨by (with_reducible repeat (first | refine blk_drewN ?_ _ | refine blk_drew ?_ | refine blk_alloc ?_ _)); exact BK219.out⟩, ⟨by repeat (first | (with_reducible first | exact HB.out | apply below_alloc | apply pw_below_drewN | apply below_drew1 | refine below_set ?_ GE195.out | refine below_set ?_ GE198.out | refine below_set ?_ GE203.out | refine below_set ?_ GE211.out | refine below_set ?_ GE215.out | refine below_set ?_ GE219.out) | exact HB.out)⟩⟩
        subst c109
        have H1 : ((impl_Contains.f t196 t197 x14_3).bind fun t228 => (if t218 = true then ((impl_Contains.f t216 t217 x14_3).bind fun t229 => (if (t228 != t229) = true then (some false) else (laws_FnIntervals.l0 k3 t218 (wrap64 (x14_3 + 1)) t193 t194 t196 t197 t216 t217))) else (if (t228 != false) = true then (some false) else (laws_FnIntervals.l0 k3 t218 (wrap64 (x14_3 + 1)) t193 t194 t196 t197 t216 t217)))) = some r := by rw [if_pos rfl] at H; exact H
        clear H
        have H := H1
        clear H1
        replace H := Option.bind_eq_some_iff.mp H
        obtain ⟨t228, A1100, H⟩ := H
        replace H : (if t218 = true then ((impl_Contains.f t216 t217 x14_3).bind fun t229 => (if (t228 != t229) = true then (some false) else (laws_FnIntervals.l0 k3 t218 (wrap64 (x14_3 + 1)) t193 t194 t196 t197 t216 t217))) else (if (t228 != false) = true then (some false) else (laws_FnIntervals.l0 k3 t218 (wrap64 (x14_3 + 1)) t193 t194 t196 t197 t216 t217))) = some r := H
        have A110 := Aside0.mk A1100
        clear A1100
        by_cases c111 : t218 = true
        rotate_left
        · replace c111 := Bool.eq_false_iff.mpr c111
          subst c111
          have H1 : (if (t228 != false) = true then (some false) else (laws_FnIntervals.l0 k3 false (wrap64 (x14_3 + 1)) t193 t194 t196 t197 t216 t217)) = some r := by rw [if_neg (show ¬ (false = true) by decide)] at H; exact H
          clear H
          have H := H1
          clear H1
          by_cases c132 : (t228 != false) = true
          · rw [if_pos c132] at H
            have c132b0 : (t228 != false) = true := c132
            (try (have c132b1 : decide (t228 = false) = false := by simpa using c132))
            (try (have c132b2 : (t228 == false) = false := by simpa using c132))
            (try (have c132b3 : ¬ (t228 = false) := by simpa using c132))
            clear c132
            obtain rfl := Option.some.inj H
            exact absurd hr_ (by decide)
          rw [if_neg c132] at H
          have c132b0 : (t228 != false) = false := by simpa using c132
          (try (have c132b1 : decide (t228 = false) = true := by simpa using c132))
          (try (have c132b2 : (t228 == false) = true := by simpa using c132))
          clear c132
          have H' := Aside0.mk H
          clear H
          have hnb133 := NB195_198.out
          have hnc133 := NB198_195.out
          have hnb134 := NB195_203.out
          have hnc134 := NB203_195.out
          have hnb135 := NB195_211.out
          have hnc135 := NB211_195.out
          have hnb136 := NB195_215.out
          have hnc136 := NB215_195.out
          have hnb137 := NB195_219.out
          have hnc137 := NB219_195.out
          have hcz138_0 : wr.cell? ⟨gb195, 0, none⟩ = some (.int .i64 t193) := (blk_cell BK195.out 0).trans rfl
          have hcz138_1 : wr.cell? ⟨gb195, 1, none⟩ = some (.int .i64 t194) := (blk_cell BK195.out 1).trans rfl
          have hfz138_0 := blk_frozen BK195.out 0
          have hfz138_1 := blk_frozen BK195.out 1
          go_wp2_with (first | ((with_reducible refine gate_callee (f := 32) rfl ?_); refine goesL_ (some 109) rfl rfl Tryd.func32 (by kernel_rfl) rfl #[.agg #[.int .i64 t193, .int .i64 t194], .int .i64 x14_3] rfl (by (try simp only [List.map_toArray, List.map_cons, List.map_nil]); first | done | rfl | (simp only [List.length_drop, List.length_take]; rfl)) ?_; (with_reducible refine (impl_Contains.calls t193 t194 x14_3 true _ A108.out).mono ?_); rintro e w139 ⟨rfl, hb⟩; refine ⟨_, rfl, ?_⟩; have n0_ := Aside0.mk (blk_below (g := gb195) (o := .cells #[.int .i64 t193, .int .i64 t194] 27 (0, 0)) (by (with_reducible repeat (first | refine blk_drewN ?_ _ | refine blk_drew ?_ | refine blk_alloc ?_ _)); exact BK195.out) hb); have n1_ := Aside0.mk (blk_below (g := gb198) (o := .cells #[.int .i64 t196, .int .i64 t197] 27 (0, 0)) (by (with_reducible repeat (first | refine blk_drewN ?_ _ | refine blk_drew ?_ | refine blk_alloc ?_ _)); exact BK198.out) hb); have n2_ := Aside0.mk (blk_below (g := gb203) (o := .cells #[.int .i64 t200, .int .i64 t201] 27 (0, 0)) (by (with_reducible repeat (first | refine blk_drewN ?_ _ | refine blk_drew ?_ | refine blk_alloc ?_ _)); exact BK203.out) hb); have n3_ := Aside0.mk (blk_below (g := gb211) (o := .cells #[.int .i64 t209, .int .i64 t210] 27 (0, 0)) (by (with_reducible repeat (first | refine blk_drewN ?_ _ | refine blk_drew ?_ | refine blk_alloc ?_ _)); exact BK211.out) hb); have n4_ := Aside0.mk (blk_below (g := gb215) (o := .cells #[.int .i64 t212, .int .i64 t213] 27 (0, 0)) (by (with_reducible repeat (first | refine blk_drewN ?_ _ | refine blk_drew ?_ | refine blk_alloc ?_ _)); exact BK215.out) hb); have n5_ := Aside0.mk (blk_below (g := gb219) (o := .cells #[.int .i64 t216, .int .i64 t217] 27 (0, 0)) (by (with_reducible repeat (first | refine blk_drewN ?_ _ | refine blk_drew ?_ | refine blk_alloc ?_ _)); exact BK219.out) hb); have n6_ := Aside0.mk (below_step (by repeat (first | (with_reducible first | exact HB.out | apply below_alloc | apply pw_below_drewN | apply below_drew1 | refine below_set ?_ GE195.out | refine below_set ?_ GE198.out | refine below_set ?_ GE203.out | refine below_set ?_ GE211.out | refine below_set ?_ GE215.out | refine below_set ?_ GE219.out) | exact HB.out)) hb); clear BK195; clear BK198; clear BK203; clear BK211; clear BK215; clear BK219; clear HB; have BK195 := n0_; have BK198 := n1_; have BK203 := n2_; have BK211 := n3_; have BK215 := n4_; have BK219 := n5_; have HB := n6_; clear n0_ n1_ n2_ n3_ n4_ n5_ n6_; (try clear hb); (try clear hb2); (try clear hk); (try clear hi); have hnb140 := NB198_203.out; have hnc140 := NB203_198.out; have hnb141 := NB198_211.out; have hnc141 := NB211_198.out; have hnb142 := NB198_215.out; have hnc142 := NB215_198.out; have hnb143 := NB198_219.out; have hnc143 := NB219_198.out; have hcz144_0 : w139.cell? ⟨gb198, 0, none⟩ = some (.int .i64 t196) := (blk_cell BK198.out 0).trans rfl; have hcz144_1 : w139.cell? ⟨gb198, 1, none⟩ = some (.int .i64 t197) := (blk_cell BK198.out 1).trans rfl; have hfz144_0 := blk_frozen BK198.out 0; have hfz144_1 := blk_frozen BK198.out 1) | (go_at_call 32; (with_reducible refine (impl_Contains.calls t196 t197 x14_3 t228 _ A110.out).mono ?_); rintro e w145 ⟨rfl, hb⟩; have n0_ := Aside0.mk (blk_below (g := gb195) (o := .cells #[.int .i64 t193, .int .i64 t194] 27 (0, 0)) (by (with_reducible repeat (first | refine blk_drewN ?_ _ | refine blk_drew ?_ | refine blk_alloc ?_ _)); exact BK195.out) hb); have n1_ := Aside0.mk (blk_below (g := gb198) (o := .cells #[.int .i64 t196, .int .i64 t197] 27 (0, 0)) (by (with_reducible repeat (first | refine blk_drewN ?_ _ | refine blk_drew ?_ | refine blk_alloc ?_ _)); exact BK198.out) hb); have n2_ := Aside0.mk (blk_below (g := gb203) (o := .cells #[.int .i64 t200, .int .i64 t201] 27 (0, 0)) (by (with_reducible repeat (first | refine blk_drewN ?_ _ | refine blk_drew ?_ | refine blk_alloc ?_ _)); exact BK203.out) hb); have n3_ := Aside0.mk (blk_below (g := gb211) (o := .cells #[.int .i64 t209, .int .i64 t210] 27 (0, 0)) (by (with_reducible repeat (first | refine blk_drewN ?_ _ | refine blk_drew ?_ | refine blk_alloc ?_ _)); exact BK211.out) hb); have n4_ := Aside0.mk (blk_below (g := gb215) (o := .cells #[.int .i64 t212, .int .i64 t213] 27 (0, 0)) (by (with_reducible repeat (first | refine blk_drewN ?_ _ | refine blk_drew ?_ | refine blk_alloc ?_ _)); exact BK215.out) hb); have n5_ := Aside0.mk (blk_below (g := gb219) (o := .cells #[.int .i64 t216, .int .i64 t217] 27 (0, 0)) (by (with_reducible repeat (first | refine blk_drewN ?_ _ | refine blk_drew ?_ | refine blk_alloc ?_ _)); exact BK219.out) hb); have n6_ := Aside0.mk (below_step (by repeat (first | (with_reducible first | exact HB.out | apply below_alloc | apply pw_below_drewN | apply below_drew1 | refine below_set ?_ GE195.out | refine below_set ?_ GE198.out | refine below_set ?_ GE203.out | refine below_set ?_ GE211.out | refine below_set ?_ GE215.out | refine below_set ?_ GE219.out) | exact HB.out)) hb); clear BK195; clear BK198; clear BK203; clear BK211; clear BK215; clear BK219; clear HB; have BK195 := n0_; have BK198 := n1_; have BK203 := n2_; have BK211 := n3_; have BK215 := n4_; have BK219 := n5_; have HB := n6_; clear n0_ n1_ n2_ n3_ n4_ n5_ n6_; (try clear hb); (try clear hb2); (try clear hk); (try clear hi)))
          go_roundg k3
          case measure => have := HJ6.out; have := HJ38.out; have := HK3.out; omega
          case rel => exact ⟨(wrap64 (x14_3 + 1)), (by first | rfl | (simp; done) | (simp [*]; done)), H', ⟨by have := HJ6.out; have := HJ38.out; have := HK3.out; omega⟩, ⟨by (with_reducible repeat (first | refine blk_drewN ?_ _ | refine blk_drew ?_ | refine blk_alloc ?_ _)); exact BK195.out⟩, ⟨by (with_reducible repeat (first | refine blk_drewN ?_ _ | refine blk_drew ?_ | refine blk_alloc ?_ _)); exact BK198.out⟩, ⟨by (with_reducible repeat (first | refine blk_drewN ?_ _ | refine blk_drew ?_ | refine blk_alloc ?_ _)); exact BK203.out⟩, ⟨by (with_reducible repeat (first | refine blk_drewN ?_ _ | refine blk_drew ?_ | refine blk_alloc ?_ _)); exact BK211.out⟩, ⟨by (with_reducible repeat (first | refine blk_drewN ?_ _ | refine blk_drew ?_ | refine blk_alloc ?_ _)); exact BK215.out⟩, ⟨by (with_reducible repeat (first | refine blk_drewN ?_ _ | refine blk_drew ?_ | refine blk_alloc ?_ _)); exact BK219.out⟩, ⟨by repeat (first | (with_reducible first | exact HB.out | apply below_alloc | apply pw_below_drewN | apply below_drew1 | refine below_set ?_ GE195.out | refine below_set ?_ GE198.out | refine below_set ?_ GE203.out | refine below_set ?_ GE211.out | refine below_set ?_ GE215.out | refine below_set ?_ GE219.out) | exact HB.out)⟩⟩
        subst c111
        have H1 : ((impl_Contains.f t216 t217 x14_3).bind fun t229 => (if (t228 != t229) = true then (some false) else (laws_FnIntervals.l0 k3 true (wrap64 (x14_3 + 1)) t193 t194 t196 t197 t216 t217))) = some r := by rw [if_pos rfl] at H; exact H
        clear H
        have H := H1
        clear H1
        replace H := Option.bind_eq_some_iff.mp H
        obtain ⟨t229, A1120, H⟩ := H
        replace H : (if (t228 != t229) = true then (some false) else (laws_FnIntervals.l0 k3 true (wrap64 (x14_3 + 1)) t193 t194 t196 t197 t216 t217)) = some r := H
        have A112 := Aside0.mk A1120
        clear A1120
        by_cases c113 : (t228 != t229) = true
        · rw [if_pos c113] at H
          have c113b0 : (t228 != t229) = true := c113
          (try (have c113b1 : decide (t228 = t229) = false := by simpa using c113))
          (try (have c113b2 : (t228 == t229) = false := by simpa using c113))
          (try (have c113b3 : ¬ (t228 = t229) := by simpa using c113))
          clear c113
          obtain rfl := Option.some.inj H
          exact absurd hr_ (by decide)
        rw [if_neg c113] at H
        have c113b0 : (t228 != t229) = false := by simpa using c113
        (try (have c113b1 : decide (t228 = t229) = true := by simpa using c113))
        (try (have c113b2 : (t228 == t229) = true := by simpa using c113))
        clear c113
        have H' := Aside0.mk H
        clear H
        have hnb114 := NB195_198.out
        have hnc114 := NB198_195.out
        have hnb115 := NB195_203.out
        have hnc115 := NB203_195.out
        have hnb116 := NB195_211.out
        have hnc116 := NB211_195.out
        have hnb117 := NB195_215.out
        have hnc117 := NB215_195.out
        have hnb118 := NB195_219.out
        have hnc118 := NB219_195.out
        have hcz119_0 : wr.cell? ⟨gb195, 0, none⟩ = some (.int .i64 t193) := (blk_cell BK195.out 0).trans rfl
        have hcz119_1 : wr.cell? ⟨gb195, 1, none⟩ = some (.int .i64 t194) := (blk_cell BK195.out 1).trans rfl
        have hfz119_0 := blk_frozen BK195.out 0
        have hfz119_1 := blk_frozen BK195.out 1
        go_wp2_with (first | ((with_reducible refine gate_callee (f := 32) rfl ?_); refine goesL_ (some 109) rfl rfl Tryd.func32 (by kernel_rfl) rfl #[.agg #[.int .i64 t193, .int .i64 t194], .int .i64 x14_3] rfl (by (try simp only [List.map_toArray, List.map_cons, List.map_nil]); first | done | rfl | (simp only [List.length_drop, List.length_take]; rfl)) ?_; (with_reducible refine (impl_Contains.calls t193 t194 x14_3 true _ A108.out).mono ?_); rintro e w120 ⟨rfl, hb⟩; refine ⟨_, rfl, ?_⟩; have n0_ := Aside0.mk (blk_below (g := gb195) (o := .cells #[.int .i64 t193, .int .i64 t194] 27 (0, 0)) (by (with_reducible repeat (first | refine blk_drewN ?_ _ | refine blk_drew ?_ | refine blk_alloc ?_ _)); exact BK195.out) hb); have n1_ := Aside0.mk (blk_below (g := gb198) (o := .cells #[.int .i64 t196, .int .i64 t197] 27 (0, 0)) (by (with_reducible repeat (first | refine blk_drewN ?_ _ | refine blk_drew ?_ | refine blk_alloc ?_ _)); exact BK198.out) hb); have n2_ := Aside0.mk (blk_below (g := gb203) (o := .cells #[.int .i64 t200, .int .i64 t201] 27 (0, 0)) (by (with_reducible repeat (first | refine blk_drewN ?_ _ | refine blk_drew ?_ | refine blk_alloc ?_ _)); exact BK203.out) hb); have n3_ := Aside0.mk (blk_below (g := gb211) (o := .cells #[.int .i64 t209, .int .i64 t210] 27 (0, 0)) (by (with_reducible repeat (first | refine blk_drewN ?_ _ | refine blk_drew ?_ | refine blk_alloc ?_ _)); exact BK211.out) hb); have n4_ := Aside0.mk (blk_below (g := gb215) (o := .cells #[.int .i64 t212, .int .i64 t213] 27 (0, 0)) (by (with_reducible repeat (first | refine blk_drewN ?_ _ | refine blk_drew ?_ | refine blk_alloc ?_ _)); exact BK215.out) hb); have n5_ := Aside0.mk (blk_below (g := gb219) (o := .cells #[.int .i64 t216, .int .i64 t217] 27 (0, 0)) (by (with_reducible repeat (first | refine blk_drewN ?_ _ | refine blk_drew ?_ | refine blk_alloc ?_ _)); exact BK219.out) hb); have n6_ := Aside0.mk (below_step (by repeat (first | (with_reducible first | exact HB.out | apply below_alloc | apply pw_below_drewN | apply below_drew1 | refine below_set ?_ GE195.out | refine below_set ?_ GE198.out | refine below_set ?_ GE203.out | refine below_set ?_ GE211.out | refine below_set ?_ GE215.out | refine below_set ?_ GE219.out) | exact HB.out)) hb); clear BK195; clear BK198; clear BK203; clear BK211; clear BK215; clear BK219; clear HB; have BK195 := n0_; have BK198 := n1_; have BK203 := n2_; have BK211 := n3_; have BK215 := n4_; have BK219 := n5_; have HB := n6_; clear n0_ n1_ n2_ n3_ n4_ n5_ n6_; (try clear hb); (try clear hb2); (try clear hk); (try clear hi); have hnb121 := NB198_203.out; have hnc121 := NB203_198.out; have hnb122 := NB198_211.out; have hnc122 := NB211_198.out; have hnb123 := NB198_215.out; have hnc123 := NB215_198.out; have hnb124 := NB198_219.out; have hnc124 := NB219_198.out; have hcz125_0 : w120.cell? ⟨gb198, 0, none⟩ = some (.int .i64 t196) := (blk_cell BK198.out 0).trans rfl; have hcz125_1 : w120.cell? ⟨gb198, 1, none⟩ = some (.int .i64 t197) := (blk_cell BK198.out 1).trans rfl; have hfz125_0 := blk_frozen BK198.out 0; have hfz125_1 := blk_frozen BK198.out 1) | (go_at_call 32; (with_reducible refine (impl_Contains.calls t196 t197 x14_3 t228 _ A110.out).mono ?_); rintro e w126 ⟨rfl, hb⟩; have n0_ := Aside0.mk (blk_below (g := gb195) (o := .cells #[.int .i64 t193, .int .i64 t194] 27 (0, 0)) (by (with_reducible repeat (first | refine blk_drewN ?_ _ | refine blk_drew ?_ | refine blk_alloc ?_ _)); exact BK195.out) hb); have n1_ := Aside0.mk (blk_below (g := gb198) (o := .cells #[.int .i64 t196, .int .i64 t197] 27 (0, 0)) (by (with_reducible repeat (first | refine blk_drewN ?_ _ | refine blk_drew ?_ | refine blk_alloc ?_ _)); exact BK198.out) hb); have n2_ := Aside0.mk (blk_below (g := gb203) (o := .cells #[.int .i64 t200, .int .i64 t201] 27 (0, 0)) (by (with_reducible repeat (first | refine blk_drewN ?_ _ | refine blk_drew ?_ | refine blk_alloc ?_ _)); exact BK203.out) hb); have n3_ := Aside0.mk (blk_below (g := gb211) (o := .cells #[.int .i64 t209, .int .i64 t210] 27 (0, 0)) (by (with_reducible repeat (first | refine blk_drewN ?_ _ | refine blk_drew ?_ | refine blk_alloc ?_ _)); exact BK211.out) hb); have n4_ := Aside0.mk (blk_below (g := gb215) (o := .cells #[.int .i64 t212, .int .i64 t213] 27 (0, 0)) (by (with_reducible repeat (first | refine blk_drewN ?_ _ | refine blk_drew ?_ | refine blk_alloc ?_ _)); exact BK215.out) hb); have n5_ := Aside0.mk (blk_below (g := gb219) (o := .cells #[.int .i64 t216, .int .i64 t217] 27 (0, 0)) (by (with_reducible repeat (first | refine blk_drewN ?_ _ | refine blk_drew ?_ | refine blk_alloc ?_ _)); exact BK219.out) hb); have n6_ := Aside0.mk (below_step (by repeat (first | (with_reducible first | exact HB.out | apply below_alloc | apply pw_below_drewN | apply below_drew1 | refine below_set ?_ GE195.out | refine below_set ?_ GE198.out | refine below_set ?_ GE203.out | refine below_set ?_ GE211.out | refine below_set ?_ GE215.out | refine below_set ?_ GE219.out) | exact HB.out)) hb); clear BK195; clear BK198; clear BK203; clear BK211; clear BK215; clear BK219; clear HB; have BK195 := n0_; have BK198 := n1_; have BK203 := n2_; have BK211 := n3_; have BK215 := n4_; have BK219 := n5_; have HB := n6_; clear n0_ n1_ n2_ n3_ n4_ n5_ n6_; (try clear hb); (try clear hb2); (try clear hk); (try clear hi); have hnb127 := NB219_203.out; have hnc127 := NB203_219.out; have hnb128 := NB219_211.out; have hnc128 := NB211_219.out; have hnb129 := NB219_215.out; have hnc129 := NB215_219.out; have hcz130_0 : w126.cell? ⟨gb219, 0, none⟩ = some (.int .i64 t216) := (blk_cell BK219.out 0).trans rfl; have hcz130_1 : w126.cell? ⟨gb219, 1, none⟩ = some (.int .i64 t217) := (blk_cell BK219.out 1).trans rfl; have hfz130_0 := blk_frozen BK219.out 0; have hfz130_1 := blk_frozen BK219.out 1) | (go_at_call 32; (with_reducible refine (impl_Contains.calls t216 t217 x14_3 t229 _ A112.out).mono ?_); rintro e w131 ⟨rfl, hb⟩; have n0_ := Aside0.mk (blk_below (g := gb195) (o := .cells #[.int .i64 t193, .int .i64 t194] 27 (0, 0)) (by (with_reducible repeat (first | refine blk_drewN ?_ _ | refine blk_drew ?_ | refine blk_alloc ?_ _)); exact BK195.out) hb); have n1_ := Aside0.mk (blk_below (g := gb198) (o := .cells #[.int .i64 t196, .int .i64 t197] 27 (0, 0)) (by (with_reducible repeat (first | refine blk_drewN ?_ _ | refine blk_drew ?_ | refine blk_alloc ?_ _)); exact BK198.out) hb); have n2_ := Aside0.mk (blk_below (g := gb203) (o := .cells #[.int .i64 t200, .int .i64 t201] 27 (0, 0)) (by (with_reducible repeat (first | refine blk_drewN ?_ _ | refine blk_drew ?_ | refine blk_alloc ?_ _)); exact BK203.out) hb); have n3_ := Aside0.mk (blk_below (g := gb211) (o := .cells #[.int .i64 t209, .int .i64 t210] 27 (0, 0)) (by (with_reducible repeat (first | refine blk_drewN ?_ _ | refine blk_drew ?_ | refine blk_alloc ?_ _)); exact BK211.out) hb); have n4_ := Aside0.mk (blk_below (g := gb215) (o := .cells #[.int .i64 t212, .int .i64 t213] 27 (0, 0)) (by (with_reducible repeat (first | refine blk_drewN ?_ _ | refine blk_drew ?_ | refine blk_alloc ?_ _)); exact BK215.out) hb); have n5_ := Aside0.mk (blk_below (g := gb219) (o := .cells #[.int .i64 t216, .int .i64 t217] 27 (0, 0)) (by (with_reducible repeat (first | refine blk_drewN ?_ _ | refine blk_drew ?_ | refine blk_alloc ?_ _)); exact BK219.out) hb); have n6_ := Aside0.mk (below_step (by repeat (first | (with_reducible first | exact HB.out | apply below_alloc | apply pw_below_drewN | apply below_drew1 | refine below_set ?_ GE195.out | refine below_set ?_ GE198.out | refine below_set ?_ GE203.out | refine below_set ?_ GE211.out | refine below_set ?_ GE215.out | refine below_set ?_ GE219.out) | exact HB.out)) hb); clear BK195; clear BK198; clear BK203; clear BK211; clear BK215; clear BK219; clear HB; have BK195 := n0_; have BK198 := n1_; have BK203 := n2_; have BK211 := n3_; have BK215 := n4_; have BK219 := n5_; have HB := n6_; clear n0_ n1_ n2_ n3_ n4_ n5_ n6_; (try clear hb); (try clear hb2); (try clear hk); (try clear hi)))
        go_roundg k3
        case measure => have := HJ6.out; have := HJ38.out; have := HK3.out; omega
        case rel => exact ⟨(wrap64 (x14_3 + 1)), (by first | rfl | (simp; done) | (simp [*]; done)), H', ⟨by have := HJ6.out; have := HJ38.out; have := HK3.out; omega⟩, ⟨by (with_reducible repeat (first | refine blk_drewN ?_ _ | refine blk_drew ?_ | refine blk_alloc ?_ _)); exact BK195.out⟩, ⟨by (with_reducible repeat (first | refine blk_drewN ?_ _ | refine blk_drew ?_ | refine blk_alloc ?_ _)); exact BK198.out⟩, ⟨by (with_reducible repeat (first | refine blk_drewN ?_ _ | refine blk_drew ?_ | refine blk_alloc ?_ _)); exact BK203.out⟩, ⟨by (with_reducible repeat (first | refine blk_drewN ?_ _ | refine blk_drew ?_ | refine blk_alloc ?_ _)); exact BK211.out⟩, ⟨by (with_reducible repeat (first | refine blk_drewN ?_ _ | refine blk_drew ?_ | refine blk_alloc ?_ _)); exact BK215.out⟩, ⟨by (with_reducible repeat (first | refine blk_drewN ?_ _ | refine blk_drew ?_ | refine blk_alloc ?_ _)); exact BK219.out⟩, ⟨by repeat (first | (with_reducible first | exact HB.out | apply below_alloc | apply pw_below_drewN | apply below_drew1 | refine below_set ?_ GE195.out | refine below_set ?_ GE198.out | refine below_set ?_ GE203.out | refine below_set ?_ GE211.out | refine below_set ?_ GE215.out | refine below_set ?_ GE219.out) | exact HB.out)⟩⟩

/-- THE ONE PURE STATEMENT of laws_FnIntervals: yours. -/
def laws_FnIntervals.Pure : Prop := ∀ (l0 : List Int), l0.length ≤ maxLen → (∀ yl0 ∈ l0, (Lit.int .u8 yl0).wf = true) → ∃ k, laws_FnIntervals.f k l0 = some true
theorem laws_FnIntervals.walk (P : laws_FnIntervals.Pure) (A0 : Option Addr) (c0 : Nat) (l0 : List Int) (w : World) (hT : Tb w) (hr0 : Kd.C (Kd.int .u8) w A0 l0.length l0) (hc0 : l0.length ≤ c0) (q0_0 : l0.length ≤ maxLen) (q0_1 : (∀ yl0 ∈ l0, (Lit.int .u8 yl0).wf = true)) :
    Calls Tryd.prog 8 #[.slice A0 l0.length c0] w fun e w' => e = .returned (.bool true) ∧ Below w.heap.size w w' := by
  obtain ⟨k, h⟩ := P l0 q0_0 q0_1
  refine (laws_FnIntervals.calls k A0 c0 l0 true w hT hr0 hc0 h rfl).mono ?_
  rintro e w' ⟨rfl, hd⟩
  exact ⟨rfl, hd⟩

end Go.Proofs.YtbjlnjaedikokaaDoor.QFnIntervals
