-- Written by this session's program wip/tools/mk.py out of the translation; Lean checks it.
import Derived.Test.YtegkkbncnmakaaaQFnExactShortestFromx0
import Derived.Test.YtegkkbncnmakaaaQFnExactShortestFromx2
import Derived.Test.YtegkkbncnmakaaaQFnExactShortestFromx3
namespace Go.Proofs.Ytegkkbncnmakaaa.QFnExactShortestFrom
open Go.RowKit Go.Proofs.YtegkkbncnmakaaaW.PrintWords Go.Proofs.YtegkkbncnmakaaaW.PrintLast Go.Proofs.YtegkkbncnmakaaaW.PrintMore
attribute [local go_sem] max2_int min2_int max_two min_two max_three min_three max_four min_four   -- for this text's walks alone
set_option linter.unusedVariables false
set_option linter.unusedSimpArgs false

/-! ### spec_ShortestFrom: function 52 -/
mutual
def spec_ShortestFrom.j0 : Nat → Int → Bool → Int → List (S39) → Option (List Int × Bool)
  | 0, _, _, _, _ => none
  | k + 1, x1, x21, x153000, x153001 => if x21 = true then (some (([] : List Int), false)) else (if 0 ≤ x153000 then (if (x153000 : Int).toNat ≤ 35184372088832 then (if (x153000 : Int).toNat ≤ 281474976710656 then ((some (List.replicate (x153000 : Int).toNat false : List Bool)).bind fun y161 => (if 0 ≤ x1 then (if x1 < (y161.length : Int) then (spec_ShortestFrom.l0 k (List.replicate (x153000 : Int).toNat 0) (List.replicate (x153000 : Int).toNat 0) (y161.set (x1 : Int).toNat true) 0 x153000 x153001) else (none)) else (none))) else (none)) else (none)) else (none))
def spec_ShortestFrom.l0 : Nat → List Int → List Int → List Bool → Int → Int → List (S39) → Option (List Int × Bool)
  | 0, _, _, _, _, _, _ => none
  | k + 1, x6, x7, x8, x9, x153000, x153001 => if x9 < x153000 then ((spec_l03Round.f k x153000 x153001 x6 x7 x8).bind fun bt165 => (if bt165.1 < 0 then (spec_ShortestFrom.l1 k bt165.2.1 bt165.2.2.2 (x6.length : Int) 0) else (spec_ShortestFrom.l0 k bt165.2.1 bt165.2.2.1 bt165.2.2.2 (wrap64 (x9 + 1)) x153000 x153001))) else (some (([] : List Int), false))
def spec_ShortestFrom.l1 : Nat → List Int → List Bool → Int → Int → Option (List Int × Bool)
  | 0, _, _, _, _ => none
  | k + 1, x6, x8, x47, x48 => if x48 < x47 then (if 0 ≤ x48 then (if x48 < (x8.length : Int) then (if rdOf false x8 x48 = true then (if x48 < (x6.length : Int) then (if (rd x6 x48) > 1000000 then (spec_ShortestFrom.l1 k (x6.set (x48 : Int).toNat 1000000) x8 x47 (wrap64 (x48 + 1))) else (spec_ShortestFrom.l1 k x6 x8 x47 (wrap64 (x48 + 1)))) else (none)) else (if x48 < (x6.length : Int) then (spec_ShortestFrom.l1 k (x6.set (x48 : Int).toNat 1000000) x8 x47 (wrap64 (x48 + 1))) else (none))) else (none)) else (none)) else (some (x6, true))
end
def spec_ShortestFrom.f (k : Nat) (a0_0 : Int) (l0_1 : List (S39)) (a1 : Int) : Option (List Int × Bool) := (spec_GraphOk.f k a0_0 l0_1).bind fun t153 => (if t153 = true then ((spec_l01In.f a1 0 (wrap64 (a0_0 - 1))).bind fun t154 => (spec_ShortestFrom.j0 k a1 (!t154) a0_0 l0_1)) else (spec_ShortestFrom.j0 k a1 true a0_0 l0_1))
theorem spec_ShortestFrom.mono_l : ∀ k, (∀ y0 y1 y2 y3, LeO (spec_ShortestFrom.j0 k y0 y1 y2 y3) (spec_ShortestFrom.j0 (k + 1) y0 y1 y2 y3)) ∧ (∀ y0 y1 y2 y3 y4 y5, LeO (spec_ShortestFrom.l0 k y0 y1 y2 y3 y4 y5) (spec_ShortestFrom.l0 (k + 1) y0 y1 y2 y3 y4 y5)) ∧ (∀ y0 y1 y2 y3, LeO (spec_ShortestFrom.l1 k y0 y1 y2 y3) (spec_ShortestFrom.l1 (k + 1) y0 y1 y2 y3))
  | 0 => ⟨fun _ _ _ _ r h => by simp [spec_ShortestFrom.j0] at h, fun _ _ _ _ _ _ r h => by simp [spec_ShortestFrom.l0] at h, fun _ _ _ _ r h => by simp [spec_ShortestFrom.l1] at h⟩
  | k + 1 => by
    obtain ⟨ih0, ih1, ih2⟩ := spec_ShortestFrom.mono_l k
    refine ⟨?_, ?_, ?_⟩
    · intro y0 y1 y2 y3
      unfold spec_ShortestFrom.j0
      repeat' first
      | (with_reducible exact ih0 _ _ _ _)
      | (with_reducible exact ih1 _ _ _ _ _ _)
      | (with_reducible exact ih2 _ _ _ _)
      | (with_reducible exact spec_GraphOk.mono _ _ _)
      | (with_reducible exact spec_l03Round.mono _ _ _ _ _ _)
      | (with_reducible exact LeO.refl _)
      | (with_reducible exact LeO.none _)
      | (with_reducible refine LeO.ite ?_ ?_)
      | (with_reducible refine LeO.bind ?_ (fun _ => ?_))
      | exact ih0 _ _ _ _
      | exact ih1 _ _ _ _ _ _
      | exact ih2 _ _ _ _
      | exact spec_GraphOk.mono _ _ _
      | exact spec_l03Round.mono _ _ _ _ _ _
      | exact LeO.none _
      | refine LeO.ite ?_ ?_
      | refine LeO.bind ?_ (fun _ => ?_)
    · intro y0 y1 y2 y3 y4 y5
      unfold spec_ShortestFrom.l0
      repeat' first
      | (with_reducible exact ih0 _ _ _ _)
      | (with_reducible exact ih1 _ _ _ _ _ _)
      | (with_reducible exact ih2 _ _ _ _)
      | (with_reducible exact spec_GraphOk.mono _ _ _)
      | (with_reducible exact spec_l03Round.mono _ _ _ _ _ _)
      | (with_reducible exact LeO.refl _)
      | (with_reducible exact LeO.none _)
      | (with_reducible refine LeO.ite ?_ ?_)
      | (with_reducible refine LeO.bind ?_ (fun _ => ?_))
      | exact ih0 _ _ _ _
      | exact ih1 _ _ _ _ _ _
      | exact ih2 _ _ _ _
      | exact spec_GraphOk.mono _ _ _
      | exact spec_l03Round.mono _ _ _ _ _ _
      | exact LeO.none _
      | refine LeO.ite ?_ ?_
      | refine LeO.bind ?_ (fun _ => ?_)
    · intro y0 y1 y2 y3
      unfold spec_ShortestFrom.l1
      repeat' first
      | (with_reducible exact ih0 _ _ _ _)
      | (with_reducible exact ih1 _ _ _ _ _ _)
      | (with_reducible exact ih2 _ _ _ _)
      | (with_reducible exact spec_GraphOk.mono _ _ _)
      | (with_reducible exact spec_l03Round.mono _ _ _ _ _ _)
      | (with_reducible exact LeO.refl _)
      | (with_reducible exact LeO.none _)
      | (with_reducible refine LeO.ite ?_ ?_)
      | (with_reducible refine LeO.bind ?_ (fun _ => ?_))
      | exact ih0 _ _ _ _
      | exact ih1 _ _ _ _ _ _
      | exact ih2 _ _ _ _
      | exact spec_GraphOk.mono _ _ _
      | exact spec_l03Round.mono _ _ _ _ _ _
      | exact LeO.none _
      | refine LeO.ite ?_ ?_
      | refine LeO.bind ?_ (fun _ => ?_)
theorem spec_ShortestFrom.mono : ∀ a0 a1 a2 k, LeO (spec_ShortestFrom.f k a0 a1 a2) (spec_ShortestFrom.f (k + 1) a0 a1 a2) := by
  intro a0 a1 a2 k
  obtain ⟨ih0, ih1, ih2⟩ := spec_ShortestFrom.mono_l k
  unfold spec_ShortestFrom.f
  repeat' first
      | (with_reducible exact ih0 _ _ _ _)
      | (with_reducible exact ih1 _ _ _ _ _ _)
      | (with_reducible exact ih2 _ _ _ _)
      | (with_reducible exact spec_GraphOk.mono _ _ _)
      | (with_reducible exact spec_l03Round.mono _ _ _ _ _ _)
      | (with_reducible exact LeO.refl _)
      | (with_reducible exact LeO.none _)
      | (with_reducible refine LeO.ite ?_ ?_)
      | (with_reducible refine LeO.bind ?_ (fun _ => ?_))
      | exact ih0 _ _ _ _
      | exact ih1 _ _ _ _ _ _
      | exact ih2 _ _ _ _
      | exact spec_GraphOk.mono _ _ _
      | exact spec_l03Round.mono _ _ _ _ _ _
      | exact LeO.none _
      | refine LeO.ite ?_ ?_
      | refine LeO.bind ?_ (fun _ => ?_)
set_option maxHeartbeats 8000000 in
set_option maxRecDepth 100000 in
theorem spec_ShortestFrom.calls (k : Nat) (a0_0 : Int) (A0_1 : Option Addr) (c0_1 : Nat) (l0_1 : List (S39)) (a1 : Int) (r1 : List Int) (r2 : Bool) (w : World) (hr0_1 : Kd.C k39 w A0_1 l0_1.length l0_1) (hc0_1 : l0_1.length ≤ c0_1) (h : spec_ShortestFrom.f k a0_0 l0_1 a1 = some (r1, r2)) :
    Calls Try.prog 52 #[.agg #[.int .i64 a0_0, .slice A0_1 l0_1.length c0_1], .int .i64 a1] w fun e w' => ∃ v0_ : Value, e = .returned (.tuple #[v0_, .bool r2]) ∧ Kd.R (Kd.int .i64) 3 w' w.heap.size (fun _ => True) v0_ r1 ∧ Below w.heap.size w w' := by
  have hu25 := Try.underlying25
  have HR0_1 := Aside0.mk hr0_1
  have HC0_1 := Aside0.mk hc0_1
  clear hr0_1 hc0_1
  have HB := Aside0.mk (Below.refl w.heap.size w)
  have H : ((spec_GraphOk.f k a0_0 l0_1).bind fun t153 => (if t153 = true then ((spec_l01In.f a1 0 (wrap64 (a0_0 - 1))).bind fun t154 => (spec_ShortestFrom.j0 k a1 (!t154) a0_0 l0_1)) else (spec_ShortestFrom.j0 k a1 true a0_0 l0_1))) = some (r1, r2) := h
  clear h
  have HC3 := Aside0.mk H
  clear H
  go_enter Try.func52, Try.ntmps52
  go_upto_region 1 with (first | ((with_reducible refine gate_dst (N := 2) rfl ?_); refine box_event ?hg (N := 2) ?hd (cs := #[.int .i64 a0_0, .slice A0_1 l0_1.length c0_1]) (t := 25) ?hr ?_; (case hd => rfl); (case hg => rfl); (case hr => first | (go_simp; done) | (go_simp; rfl)); intro gb152 hg w4 hbox hb; have n0_ := Aside0.mk (below_step (by repeat (first | (with_reducible first | exact HB.out | apply below_alloc | apply pw_below_drewN | apply below_drew1) | exact HB.out)) hb); have n1_ := Aside0.mk (hbox); have n2_ := Aside0.mk ((by rw [hg]; exact (below_size (by repeat (first | (with_reducible first | exact HB.out | apply below_alloc | apply pw_below_drewN | apply below_drew1) | exact HB.out))) : w.heap.size ≤ gb152)); have n3_ := Aside0.mk ((by rw [hg]; exact (below_size (by repeat (first | (with_reducible first | exact HB.out | apply below_alloc | apply pw_below_drewN | apply below_drew1) | exact HB.out))) : w.heap.size ≤ gb152)); clear HB; have HB := n0_; have BK152 := n1_; have GW152 := n2_; have GE152 := n3_; clear n0_ n1_ n2_ n3_; clear hb hbox hg))
  (try simp only [Act.put, List.setIfInBounds_toArray, List.set_cons_zero, List.set_cons_succ])
  go_cut [21] (fun v21 wc => ∃ (kq : Nat) (x21_2 : Bool), v21 = .bool x21_2 ∧ Aside0 (spec_ShortestFrom.j0 kq a1 x21_2 a0_0 l0_1 = some (r1, r2)) ∧ Aside0 (kq ≤ k) ∧ Aside0 (wc.heap[gb152]? = some (.cells #[.int .i64 a0_0, (.slice A0_1 l0_1.length c0_1)] 25 (0, 0))) ∧ Aside0 (Below w.heap.size w wc))
  case first =>
   have H := HC3.out
   clear HC3
   replace H := Option.bind_eq_some_iff.mp H
   obtain ⟨t153, A50, H⟩ := H
   replace H : (if t153 = true then ((spec_l01In.f a1 0 (wrap64 (a0_0 - 1))).bind fun t154 => (spec_ShortestFrom.j0 k a1 (!t154) a0_0 l0_1)) else (spec_ShortestFrom.j0 k a1 true a0_0 l0_1)) = some (r1, r2) := H
   have A5 := Aside0.mk A50
   clear A50
   by_cases c6 : t153 = true
   rotate_left
   · replace c6 := Bool.eq_false_iff.mpr c6
     subst c6
     have H1 : (spec_ShortestFrom.j0 k a1 true a0_0 l0_1) = some (r1, r2) := by rw [if_neg (show ¬ (false = true) by decide)] at H; exact H
     clear H
     have H := H1
     clear H1
     have H' := Aside0.mk H
     clear H
     have hcz11_0 : w4.cell? ⟨gb152, 0, none⟩ = some (.int .i64 a0_0) := (blk_cell BK152.out 0).trans rfl
     have hcz11_1 : w4.cell? ⟨gb152, 1, none⟩ = some (.slice A0_1 l0_1.length c0_1) := (blk_cell BK152.out 1).trans rfl
     have hfz11_0 := blk_frozen BK152.out 0
     have hfz11_1 := blk_frozen BK152.out 1
     go_wp2_with (first | ((with_reducible refine gate_callee (f := 30) rfl ?_); refine goesL_ (some 12) rfl rfl Try.func30 (by kernel_rfl) rfl #[.agg #[.int .i64 a0_0, .slice A0_1 l0_1.length c0_1]] rfl (by (try simp only [List.map_toArray, List.map_cons, List.map_nil]); first | done | rfl | (simp only [List.length_drop, List.length_take]; rfl)) ?_; (with_reducible refine (spec_GraphOk.calls k a0_0 _ _ l0_1 false _ ?side1 ?side2 A5.out).mono ?_); (case side1 => repeat (first | exact (Kd.C_below HR0_1.out HB.out) | (with_reducible refine Kd.C_alloc ?_ _) | (with_reducible refine Kd.C_drewN ?_ _) | (with_reducible refine Kd.C_drew ?_))); (case side2 => exact HC0_1.out); rintro e w12 ⟨rfl, hb⟩; refine ⟨_, rfl, ?_⟩; have n0_ := Aside0.mk (blk_below (g := gb152) (o := .cells #[.int .i64 a0_0, .slice A0_1 l0_1.length c0_1] 25 (0, 0)) (by (with_reducible repeat (first | refine blk_drewN ?_ _ | refine blk_drew ?_ | refine blk_alloc ?_ _)); exact BK152.out) hb); have n1_ := Aside0.mk (below_step (by repeat (first | (with_reducible first | exact HB.out | apply below_alloc | apply pw_below_drewN | apply below_drew1 | refine below_set ?_ GE152.out) | exact HB.out)) hb); clear BK152; clear HB; have BK152 := n0_; have HB := n1_; clear n0_ n1_; (try clear hb); (try clear hb2); (try clear hk); (try clear hi)))
     go_meet
     case rel => exact ⟨_, (true), (by first | rfl | (simp; done) | (simp [*]; done)), H', ⟨by first | omega | exact Nat.le_refl _⟩, ⟨by (with_reducible repeat (first | refine blk_drewN ?_ _ | refine blk_drew ?_ | refine blk_alloc ?_ _)); exact BK152.out⟩, ⟨by repeat (first | (with_reducible first | exact HB.out | apply below_alloc | apply pw_below_drewN | apply below_drew1 | refine below_set ?_ GE152.out) | exact HB.out)⟩⟩
   subst c6
   have H1 : ((spec_l01In.f a1 0 (wrap64 (a0_0 - 1))).bind fun t154 => (spec_ShortestFrom.j0 k a1 (!t154) a0_0 l0_1)) = some (r1, r2) := by rw [if_pos rfl] at H; exact H
   clear H
   have H := H1
   clear H1
   replace H := Option.bind_eq_some_iff.mp H
   obtain ⟨t154, A70, H⟩ := H
   replace H : (spec_ShortestFrom.j0 k a1 (!t154) a0_0 l0_1) = some (r1, r2) := H
   have A7 := Aside0.mk A70
   clear A70
   have H' := Aside0.mk H
   clear H
   have hcz8_0 : w4.cell? ⟨gb152, 0, none⟩ = some (.int .i64 a0_0) := (blk_cell BK152.out 0).trans rfl
   have hcz8_1 : w4.cell? ⟨gb152, 1, none⟩ = some (.slice A0_1 l0_1.length c0_1) := (blk_cell BK152.out 1).trans rfl
   have hfz8_0 := blk_frozen BK152.out 0
   have hfz8_1 := blk_frozen BK152.out 1
   go_wp2_with (first | ((with_reducible refine gate_callee (f := 30) rfl ?_); refine goesL_ (some 12) rfl rfl Try.func30 (by kernel_rfl) rfl #[.agg #[.int .i64 a0_0, .slice A0_1 l0_1.length c0_1]] rfl (by (try simp only [List.map_toArray, List.map_cons, List.map_nil]); first | done | rfl | (simp only [List.length_drop, List.length_take]; rfl)) ?_; (with_reducible refine (spec_GraphOk.calls k a0_0 _ _ l0_1 true _ ?side1 ?side2 A5.out).mono ?_); (case side1 => repeat (first | exact (Kd.C_below HR0_1.out HB.out) | (with_reducible refine Kd.C_alloc ?_ _) | (with_reducible refine Kd.C_drewN ?_ _) | (with_reducible refine Kd.C_drew ?_))); (case side2 => exact HC0_1.out); rintro e w9 ⟨rfl, hb⟩; refine ⟨_, rfl, ?_⟩; have n0_ := Aside0.mk (blk_below (g := gb152) (o := .cells #[.int .i64 a0_0, .slice A0_1 l0_1.length c0_1] 25 (0, 0)) (by (with_reducible repeat (first | refine blk_drewN ?_ _ | refine blk_drew ?_ | refine blk_alloc ?_ _)); exact BK152.out) hb); have n1_ := Aside0.mk (below_step (by repeat (first | (with_reducible first | exact HB.out | apply below_alloc | apply pw_below_drewN | apply below_drew1 | refine below_set ?_ GE152.out) | exact HB.out)) hb); clear BK152; clear HB; have BK152 := n0_; have HB := n1_; clear n0_ n1_; (try clear hb); (try clear hb2); (try clear hk); (try clear hi); have hcz10_0 : w9.cell? ⟨gb152, 0, none⟩ = some (.int .i64 a0_0) := (blk_cell BK152.out 0).trans rfl; have hcz10_1 : w9.cell? ⟨gb152, 1, none⟩ = some (.slice A0_1 l0_1.length c0_1) := (blk_cell BK152.out 1).trans rfl; have hfz10_0 := blk_frozen BK152.out 0; have hfz10_1 := blk_frozen BK152.out 1) | (go_at_call 72; (with_reducible refine (spec_l01In.calls a1 0 (wrap64 (a0_0 - 1)) t154 _ A7.out).mono ?_); rintro e w' ⟨rfl, ⟨nd, rfl⟩⟩))
   go_meet
   case rel => exact ⟨_, (!t154), (by first | rfl | (simp; done) | (simp [*]; done)), H', ⟨by first | omega | exact Nat.le_refl _⟩, ⟨by (with_reducible repeat (first | refine blk_drewN ?_ _ | refine blk_drew ?_ | refine blk_alloc ?_ _)); exact BK152.out⟩, ⟨by repeat (first | (with_reducible first | exact HB.out | apply below_alloc | apply pw_below_drewN | apply below_drew1 | refine below_set ?_ GE152.out) | exact HB.out)⟩⟩
  case rest =>
   clear HC3
   try clear p2
   try clear c3
   try clear c5
   try clear c6
   try clear p6
   try clear hcz10_0
   try clear hcz10_1
   try clear hcz11_0
   try clear hcz11_1
   try clear hcz8_0
   try clear hcz8_1
   try clear hfz10_0
   try clear hfz10_1
   try clear hfz11_0
   try clear hfz11_1
   try clear hfz8_0
   try clear hfz8_1
   obtain ⟨kq, x21_2, rfl, HA, HJ2, BK152, HB⟩ := hcut
   cases kq with
   | zero => exact absurd HA.out (by simp [spec_ShortestFrom.j0])
   | succ kj2 =>
    have H := HA.out
    clear HA
    simp only [spec_ShortestFrom.j0] at H
    by_cases c13 : x21_2 = true
    · subst c13
      have H1 : (some (([] : List Int), false)) = some (r1, r2) := by rw [if_pos rfl] at H; exact H
      clear H
      have H := H1
      clear H1
      simp only [Option.some.injEq, Prod.mk.injEq] at H
      obtain ⟨rfl, rfl⟩ := H
      go_wp2
      go_ret2
      exact ⟨_, by first | rfl | (simp [errW_none, errW_some] <;> rfl) | (simp [*, errW_none, errW_some] <;> rfl), by first | exact Kd.R_nil _ _ _ _ _ | exact Kd.N_nil _ _ _ _ _ | exact Kd.V_nil _ _ _ _ _ | exact Kd.Q_nil _ _ _ _ _ | exact Kd.S_nil _ _ _ _ _, by repeat (first | (with_reducible first | exact HB.out | apply below_alloc | apply pw_below_drewN | apply below_drew1 | refine below_set ?_ GE152.out) | exact HB.out)⟩
    replace c13 := Bool.eq_false_iff.mpr c13
    subst c13
    have H1 : (if 0 ≤ a0_0 then (if (a0_0 : Int).toNat ≤ 35184372088832 then (if (a0_0 : Int).toNat ≤ 281474976710656 then ((some (List.replicate (a0_0 : Int).toNat false : List Bool)).bind fun y161 => (if 0 ≤ a1 then (if a1 < (y161.length : Int) then (spec_ShortestFrom.l0 kj2 (List.replicate (a0_0 : Int).toNat 0) (List.replicate (a0_0 : Int).toNat 0) (y161.set (a1 : Int).toNat true) 0 a0_0 l0_1) else (none)) else (none))) else (none)) else (none)) else (none)) = some (r1, r2) := by rw [if_neg (show ¬ (false = true) by decide)] at H; exact H
    clear H
    have H := H1
    clear H1
    by_cases c14 : 0 ≤ a0_0
    rotate_left
    · rw [if_neg c14] at H
      exact absurd H (by simp)
    rw [if_pos c14] at H
    have c14b0 := eq_true c14
    have c14b1 : decide (0 ≤ a0_0) = true := decide_eq_true c14
    clear c14
    by_cases c15 : (a0_0 : Int).toNat ≤ 35184372088832
    rotate_left
    · rw [if_neg c15] at H
      exact absurd H (by simp)
    rw [if_pos c15] at H
    have c15b0 := eq_true c15
    have c15b1 : decide ((a0_0 : Int).toNat ≤ 35184372088832) = true := decide_eq_true c15
    clear c15
    obtain ⟨y155, hy155⟩ : ∃ y_ : List Int, y_ = (List.replicate (a0_0 : Int).toNat 0) := ⟨_, rfl⟩
    replace H : (if (a0_0 : Int).toNat ≤ 281474976710656 then ((some (List.replicate (a0_0 : Int).toNat false : List Bool)).bind fun y161 => (if 0 ≤ a1 then (if a1 < (y161.length : Int) then (spec_ShortestFrom.l0 kj2 y155 (List.replicate (a0_0 : Int).toNat 0) (y161.set (a1 : Int).toNat true) 0 a0_0 l0_1) else (none)) else (none))) else (none)) = some (r1, r2) := by first | (rw [hy155]; with_reducible exact H) | (have H2_ := (Option.bind_some _ _).symm.trans H; rw [hy155]; with_reducible exact H2_) | (have H2_ := (Option.bind_some _ _).symm.trans H; with_reducible exact H2_) | with_reducible exact H | (rw [hy155]; exact H) | exact H
    have Ny155 := Aside0.mk hy155
    clear hy155
    obtain ⟨y158, hy158⟩ : ∃ y_ : List Int, y_ = (List.replicate (a0_0 : Int).toNat 0) := ⟨_, rfl⟩
    replace H : (if (a0_0 : Int).toNat ≤ 281474976710656 then ((some (List.replicate (a0_0 : Int).toNat false : List Bool)).bind fun y161 => (if 0 ≤ a1 then (if a1 < (y161.length : Int) then (spec_ShortestFrom.l0 kj2 y155 y158 (y161.set (a1 : Int).toNat true) 0 a0_0 l0_1) else (none)) else (none))) else (none)) = some (r1, r2) := by first | (rw [hy158]; with_reducible exact H) | (have H2_ := (Option.bind_some _ _).symm.trans H; rw [hy158]; with_reducible exact H2_) | (have H2_ := (Option.bind_some _ _).symm.trans H; with_reducible exact H2_) | with_reducible exact H | (rw [hy158]; exact H) | exact H
    have Ny158 := Aside0.mk hy158
    clear hy158
    by_cases c16 : (a0_0 : Int).toNat ≤ 281474976710656
    rotate_left
    · rw [if_neg c16] at H
      exact absurd H (by simp)
    rw [if_pos c16] at H
    have c16b0 := eq_true c16
    have c16b1 : decide ((a0_0 : Int).toNat ≤ 281474976710656) = true := decide_eq_true c16
    clear c16
    obtain ⟨y161, hy161⟩ : ∃ y_ : List Bool, y_ = (List.replicate (a0_0 : Int).toNat false) := ⟨_, rfl⟩
    replace H : (if 0 ≤ a1 then (if a1 < (y161.length : Int) then (spec_ShortestFrom.l0 kj2 y155 y158 (y161.set (a1 : Int).toNat true) 0 a0_0 l0_1) else (none)) else (none)) = some (r1, r2) := by first | (rw [hy161]; with_reducible exact H) | (have H2_ := (Option.bind_some _ _).symm.trans H; rw [hy161]; with_reducible exact H2_) | (have H2_ := (Option.bind_some _ _).symm.trans H; with_reducible exact H2_) | with_reducible exact H | (rw [hy161]; exact H) | exact H
    have Ny161 := Aside0.mk hy161
    clear hy161
    by_cases c17 : 0 ≤ a1
    rotate_left
    · rw [if_neg c17] at H
      exact absurd H (by simp)
    rw [if_pos c17] at H
    have c17b0 : decide (0 ≤ a1) = true := decide_eq_true c17
    clear c17
    by_cases c18 : a1 < (y161.length : Int)
    rotate_left
    · rw [if_neg c18] at H
      exact absurd H (by simp)
    rw [if_pos c18] at H
    have c18b0 : decide (a1 < (y161.length : Int)) = true := decide_eq_true c18
    clear c18
    obtain ⟨y164, hy164⟩ : ∃ y_ : List Bool, y_ = (y161.set (a1 : Int).toNat true) := ⟨_, rfl⟩
    replace H : (spec_ShortestFrom.l0 kj2 y155 y158 y164 0 a0_0 l0_1) = some (r1, r2) := by first | (rw [hy164]; with_reducible exact H) | (have H2_ := (Option.bind_some _ _).symm.trans H; rw [hy164]; with_reducible exact H2_) | (have H2_ := (Option.bind_some _ _).symm.trans H; with_reducible exact H2_) | with_reducible exact H | (rw [hy164]; exact H) | exact H
    have Ny164 := Aside0.mk hy164
    clear hy164
    have H' := Aside0.mk H
    clear H
    have hcz20_0 : wc.cell? ⟨gb152, 0, none⟩ = some (.int .i64 a0_0) := (blk_cell BK152.out 0).trans rfl
    have hcz20_1 : wc.cell? ⟨gb152, 1, none⟩ = some (.slice A0_1 l0_1.length c0_1) := (blk_cell BK152.out 1).trans rfl
    have hfz20_0 := blk_frozen BK152.out 0
    have hfz20_1 := blk_frozen BK152.out 1
    go_wp2_with (first | ((with_reducible refine gate_dst (N := 24) rfl ?_); refine Kd.R_make (Kd.int .i64) _ 3 rfl (N := 24) rfl 27 _ _ rfl a0_0 rfl rfl Try.underlying27 (.int .i64 0) 8 info3 rfl (by decide) (by omega) 0 (ok := fun _ => True) (okp := fun _ => True) rfl (fun _ hk => hk) trivial (of_decide_eq_true (by first | (with_reducible assumption) | assumption)) (Nat.le_trans (Nat.mul_le_mul_right _ (of_decide_eq_true (by first | (with_reducible assumption) | assumption) : a0_0.toNat ≤ 35184372088832)) (by omega)) (Below.refl _ _) (Nat.le_refl _) ?_; intro v156 w21 ho22 hb hg_ hnew_; clear hg_ hnew_; (first | rw [← Ny155.out] at ho22 | (simp only [Int.reduceToNat] at ho22; rw [← Ny155.out] at ho22)); have n0_ := Aside0.mk (Kd.R_lower ho22 (below_size (by repeat (first | (with_reducible first | exact HB.out | apply below_alloc | apply pw_below_drewN | apply below_drew1 | refine below_set ?_ GE152.out) | exact HB.out)))); have n1_ := Aside0.mk (blk_below (g := gb152) (o := .cells #[.int .i64 a0_0, .slice A0_1 l0_1.length c0_1] 25 (0, 0)) (by (with_reducible repeat (first | refine blk_drewN ?_ _ | refine blk_drew ?_ | refine blk_alloc ?_ _)); exact BK152.out) hb); have n2_ := Aside0.mk (below_step (by repeat (first | (with_reducible first | exact HB.out | apply below_alloc | apply pw_below_drewN | apply below_drew1 | refine below_set ?_ GE152.out) | exact HB.out)) hb); clear BK152; clear HB; have HO157 := n0_; have BK152 := n1_; have HB := n2_; clear n0_ n1_ n2_; clear hb ho22; have hcz23_0 : w21.cell? ⟨gb152, 0, none⟩ = some (.int .i64 a0_0) := (blk_cell BK152.out 0).trans rfl; have hcz23_1 : w21.cell? ⟨gb152, 1, none⟩ = some (.slice A0_1 l0_1.length c0_1) := (blk_cell BK152.out 1).trans rfl; have hfz23_0 := blk_frozen BK152.out 0; have hfz23_1 := blk_frozen BK152.out 1) | ((with_reducible refine gate_dst (N := 27) rfl ?_); refine Kd.R_make (Kd.int .i64) _ 3 rfl (N := 27) rfl 27 _ _ rfl a0_0 rfl rfl Try.underlying27 (.int .i64 0) 8 info3 rfl (by decide) (by omega) 0 (ok := fun _ => True) (okp := fun _ => True) rfl (fun _ hk => hk) trivial (of_decide_eq_true (by first | (with_reducible assumption) | assumption)) (Nat.le_trans (Nat.mul_le_mul_right _ (of_decide_eq_true (by first | (with_reducible assumption) | assumption) : a0_0.toNat ≤ 35184372088832)) (by omega)) (Below.refl _ _) (Nat.le_refl _) ?_; intro v159 w24 ho25 hb hg_ hnew_; clear hg_ hnew_; (first | rw [← Ny158.out] at ho25 | (simp only [Int.reduceToNat] at ho25; rw [← Ny158.out] at ho25)); have n0_ := Aside0.mk (Kd.R_elder' (by (with_reducible repeat (first | apply Kd.R_alloc | apply Kd.R_drewN | apply Kd.R_drew)); exact HO157.out) (Kd.R_base ho25) hb); have n1_ := Aside0.mk (Kd.R_lower (Kd.R_new' ho25 (Kd.R_lt (by (with_reducible repeat (first | apply Kd.R_alloc | apply Kd.R_drewN | apply Kd.R_drew)); exact HO157.out))) (below_size (by repeat (first | (with_reducible first | exact HB.out | apply below_alloc | apply pw_below_drewN | apply below_drew1 | refine below_set ?_ GE152.out) | exact HB.out)))); have n2_ := Aside0.mk (blk_below (g := gb152) (o := .cells #[.int .i64 a0_0, .slice A0_1 l0_1.length c0_1] 25 (0, 0)) (by (with_reducible repeat (first | refine blk_drewN ?_ _ | refine blk_drew ?_ | refine blk_alloc ?_ _)); exact BK152.out) hb); have n3_ := Aside0.mk (below_step (by repeat (first | (with_reducible first | exact HB.out | apply below_alloc | apply pw_below_drewN | apply below_drew1 | refine below_set ?_ GE152.out) | exact HB.out)) hb); clear HO157; clear BK152; clear HB; have HO157 := n0_; have HO160 := n1_; have BK152 := n2_; have HB := n3_; clear n0_ n1_ n2_ n3_; clear hb ho25; have hcz26_0 : w24.cell? ⟨gb152, 0, none⟩ = some (.int .i64 a0_0) := (blk_cell BK152.out 0).trans rfl; have hcz26_1 : w24.cell? ⟨gb152, 1, none⟩ = some (.slice A0_1 l0_1.length c0_1) := (blk_cell BK152.out 1).trans rfl; have hfz26_0 := blk_frozen BK152.out 0; have hfz26_1 := blk_frozen BK152.out 1) | ((with_reducible refine gate_dst (N := 30) rfl ?_); refine Kd.R_make Kd.bool _ 4 rfl (N := 30) rfl 94 _ _ rfl a0_0 rfl rfl Try.underlying94 (.bool false) 1 info4 rfl (by decide) (by omega) false (ok := fun _ => True) (okp := fun _ => True) rfl (fun _ hk => hk) trivial (of_decide_eq_true (by first | (with_reducible assumption) | assumption)) (Nat.le_trans (Nat.mul_le_mul_right _ (of_decide_eq_true (by first | (with_reducible assumption) | assumption) : a0_0.toNat ≤ 281474976710656)) (by omega)) (Below.refl _ _) (Nat.le_refl _) ?_; intro v162 w27 ho28 hb hg_ hnew_; clear hg_ hnew_; (first | rw [← Ny161.out] at ho28 | (simp only [Int.reduceToNat] at ho28; rw [← Ny161.out] at ho28)); have n0_ := Aside0.mk (Kd.R_below (by (with_reducible repeat (first | apply Kd.R_alloc | apply Kd.R_drewN | apply Kd.R_drew)); exact HO157.out) hb); have n1_ := Aside0.mk (Kd.R_below (by (with_reducible repeat (first | apply Kd.R_alloc | apply Kd.R_drewN | apply Kd.R_drew)); exact HO160.out) hb); have n2_ := Aside0.mk (Kd.R_lower ho28 (below_size (by repeat (first | (with_reducible first | exact HB.out | apply below_alloc | apply pw_below_drewN | apply below_drew1 | refine below_set ?_ GE152.out) | exact HB.out)))); have n3_ := Aside0.mk (blk_below (g := gb152) (o := .cells #[.int .i64 a0_0, .slice A0_1 l0_1.length c0_1] 25 (0, 0)) (by (with_reducible repeat (first | refine blk_drewN ?_ _ | refine blk_drew ?_ | refine blk_alloc ?_ _)); exact BK152.out) hb); have n4_ := Aside0.mk (below_step (by repeat (first | (with_reducible first | exact HB.out | apply below_alloc | apply pw_below_drewN | apply below_drew1 | refine below_set ?_ GE152.out) | exact HB.out)) hb); clear HO157; clear HO160; clear BK152; clear HB; have HO157 := n0_; have HO160 := n1_; have HO163 := n2_; have BK152 := n3_; have HB := n4_; clear n0_ n1_ n2_ n3_ n4_; clear hb ho28; have p19 : 0 ≤ (a1 : Int) := of_decide_eq_true (by first | (with_reducible assumption) | assumption); have q19 : (a1 : Int) < ((y161.length : Int) : Int) := of_decide_eq_true (by first | (with_reducible assumption) | assumption); obtain ⟨go19, co19, eo19, gb19, gl19, cl19, HG19⟩ := Kd.R_form HO163.out (by omega); (first | cases eo19 | (injection eo19 with ea_ en_ ec_; (first | subst ea_ | (injection ea_ with ea_; subst ea_)); subst ec_; clear en_)); have GB19 := Aside0.mk gb19; have GG19 := Aside0.mk HG19; clear gb19 gl19 HG19; obtain ⟨hx19_0, hf19_0⟩ := Kd.R_celln false HO163.out (a1 : Int) p19 q19; replace p19 := eq_true p19; replace q19 := eq_true q19; obtain ⟨hy29_, hz29_⟩ := Kd.R_celln false HO163.out (a1 : Int) (of_decide_eq_true (by first | (with_reducible assumption) | assumption)) (of_decide_eq_true (by first | (with_reducible assumption) | assumption)); have HP29 := Kd.R_putg HO163.out (a1 : Int) true) | ((with_reducible refine gate_store (t := 4) (p := 33) rfl ?_); refine store_event (t := 4) (p := 33) (v := ?vo_w30) (w1 := (w27.setCell ⟨go19, (a1 : Int).toNat, none⟩ (.bool true))) ?hg ?ho ?hn ?hr ?_; (case ho => rfl); (case hg => rfl); (case hn => rfl); (case hr => first | (go_simp; done) | (go_simp; rfl)); intro w30 hw; have hg : w27.grownBy w30 (some go19) := (by rw [hw]; exact HP29.2); have hp_ : Kd.R Kd.bool 4 w30 w.heap.size (fun _ => True) (.slice (some ⟨go19, 0, none⟩) y161.length co19) y164 := (by rw [hw, Ny164.out]; exact HP29.1); clear HP29; have n0_ := Aside0.mk (blk_grown (g := gb152) (o := .cells #[.int .i64 a0_0, .slice A0_1 l0_1.length c0_1] 25 (0, 0)) (by (with_reducible repeat (first | refine blk_drewN ?_ _ | refine blk_drew ?_ | refine blk_alloc ?_ _)); exact BK152.out) hg (Kd.R_ne HO163.out BK152.out (by decide))); have n1_ := Aside0.mk (Kd.R_over' (v := (.slice (some ⟨go19, 0, none⟩) y161.length co19)) (by (with_reducible repeat (first | apply Kd.R_alloc | apply Kd.R_drewN | apply Kd.R_drew)); exact HO157.out) (Kd.R_typed HO163.out) (by decide) hg); have n2_ := Aside0.mk (Kd.R_over' (v := (.slice (some ⟨go19, 0, none⟩) y161.length co19)) (by (with_reducible repeat (first | apply Kd.R_alloc | apply Kd.R_drewN | apply Kd.R_drew)); exact HO160.out) (Kd.R_typed HO163.out) (by decide) hg); have n3_ := Aside0.mk (hp_); have n4_ := Aside0.mk ((by rw [hw]; exact below_set (HB.out) GB19.out : Below w.heap.size w w30)); clear BK152; clear HO157; clear HO160; clear HO163; clear HB; have BK152 := n0_; have HO157 := n1_; have HO160 := n2_; have HO163 := n3_; have HB := n4_; clear n0_ n1_ n2_ n3_ n4_; clear hg hw hp_))
    go_loopg [9] kj2 (fun kq v9 w' => ∃ (x6_2 : List Int) (x7_2 : List Int) (x8_2 : List Bool) (x9_2 : Int), v9 = .int .i64 x9_2 ∧ Aside0 (spec_ShortestFrom.l0 kq x6_2 x7_2 x8_2 x9_2 a0_0 l0_1 = some (r1, r2)) ∧ Aside0 (kq ≤ kj2) ∧ Aside0 (Kd.R (Kd.int .i64) 3 w' w.heap.size (fun k_ => some k_ ≠ (v159 : Value).ownBlock) v156 x6_2) ∧ Aside0 (Kd.R (Kd.int .i64) 3 w' w.heap.size (fun k_ => some k_ ≠ (v156 : Value).ownBlock) v159 x7_2) ∧ Aside0 (Kd.R Kd.bool 4 w' w.heap.size (fun _ => True) (.slice (some ⟨go19, 0, none⟩) y161.length co19) x8_2) ∧ Aside0 (w'.heap[gb152]? = some (.cells #[.int .i64 a0_0, (.slice A0_1 l0_1.length c0_1)] 25 (0, 0))) ∧ Aside0 (Below w.heap.size w w'))
    case atStart => exact ⟨(y155), (y158), (y164), (0), (by first | rfl | (simp; done) | (simp [*]; done)), H', ⟨Nat.le_refl _⟩, ⟨by (with_reducible repeat (first | apply Kd.R_alloc | apply Kd.R_drewN | apply Kd.R_drew)); exact Kd.R_mono HO157.out (fun _ hk => hk.2)⟩, ⟨by (with_reducible repeat (first | apply Kd.R_alloc | apply Kd.R_drewN | apply Kd.R_drew)); exact Kd.R_mono HO160.out (fun _ hk => hk.2)⟩, ⟨by (with_reducible repeat (first | apply Kd.R_alloc | apply Kd.R_drewN | apply Kd.R_drew)); exact HO163.out⟩, ⟨by (with_reducible repeat (first | refine blk_drewN ?_ _ | refine blk_drew ?_ | refine blk_alloc ?_ _)); exact BK152.out⟩, ⟨by repeat (first | (with_reducible first | exact HB.out | apply below_alloc | apply pw_below_drewN | apply below_drew1 | refine below_set ?_ GE152.out) | exact HB.out)⟩⟩
    case round =>
     clear H'
     try clear c1
     try clear p1
     try clear q1
     try clear hx1
     try clear p2
     try clear c3
     try clear c5
     try clear c6
     try clear p6
     try clear c13
     try clear c14
     try clear c14b0
     try clear c14b1
     try clear c15
     try clear c15b0
     try clear c15b1
     try clear c16
     try clear c16b0
     try clear c16b1
     try clear c17
     try clear c17b0
     try clear c18
     try clear c18b0
     try clear p19
     try clear q19
     try clear hx19
     try clear hf19
     try clear c30
     try clear hcz10_0
     try clear hcz10_1
     try clear hcz11_0
     try clear hcz11_1
     try clear hcz20_0
     try clear hcz20_1
     try clear hcz23_0
     try clear hcz23_1
     try clear hcz26_0
     try clear hcz26_1
     try clear hcz8_0
     try clear hcz8_1
     try clear hfz10_0
     try clear hfz10_1
     try clear hfz11_0
     try clear hfz11_1
     try clear hfz20_0
     try clear hfz20_1
     try clear hfz23_0
     try clear hfz23_1
     try clear hfz26_0
     try clear hfz26_1
     try clear hfz8_0
     try clear hfz8_1
     try clear hx19_0
     try clear p19
     try clear p2
     try clear p6
     try clear q19
     obtain ⟨x6_2, x7_2, x8_2, x9_2, rfl, HA, HK2, HO_6, HO_7, HO_8, BK152, HB⟩ := hrel
     have hl8_2 := (Kd.R_reads' HO_8.out).1
     rw [hl8_2] at HO_8
     (try simp only [hl8_2])
     (try simp only [hl8_2] at BK152)
     (try simp only [hl8_2] at HO_6)
     (try simp only [hl8_2] at HO_7)
     cases gk with
     | zero => exact absurd HA.out (by simp [spec_ShortestFrom.l0])
     | succ k2 =>
      have H := HA.out
      clear HA
      simp only [spec_ShortestFrom.l0] at H
      by_cases c31 : x9_2 < a0_0
      rotate_left
      · rw [if_neg c31] at H
        have c31b0 : decide (x9_2 < a0_0) = false := decide_eq_false c31
        clear c31
        simp only [Option.some.injEq, Prod.mk.injEq] at H
        obtain ⟨rfl, rfl⟩ := H
        have hcz56_0 : wr.cell? ⟨gb152, 0, none⟩ = some (.int .i64 a0_0) := (blk_cell BK152.out 0).trans rfl
        have hcz56_1 : wr.cell? ⟨gb152, 1, none⟩ = some (.slice A0_1 l0_1.length c0_1) := (blk_cell BK152.out 1).trans rfl
        have hfz56_0 := blk_frozen BK152.out 0
        have hfz56_1 := blk_frozen BK152.out 1
        (try simp only [hl8_2] at c18b0)
        go_wp2
        go_ret2
        exact ⟨_, by first | rfl | (simp [errW_none, errW_some] <;> rfl) | (simp [*, errW_none, errW_some] <;> rfl), by first | exact Kd.R_nil _ _ _ _ _ | exact Kd.N_nil _ _ _ _ _ | exact Kd.V_nil _ _ _ _ _ | exact Kd.Q_nil _ _ _ _ _ | exact Kd.S_nil _ _ _ _ _, by repeat (first | (with_reducible first | exact HB.out | apply below_alloc | apply pw_below_drewN | apply below_drew1 | refine below_set ?_ GE152.out) | exact HB.out)⟩
      rw [if_pos c31] at H
      have c31b0 : decide (x9_2 < a0_0) = true := decide_eq_true c31
      clear c31
      replace H := Option.bind_eq_some_iff.mp H
      obtain ⟨⟨t165, t166, t167, t168⟩, A320, H⟩ := H
      replace H : (if t165 < 0 then (spec_ShortestFrom.l1 k2 t166 t168 (x6_2.length : Int) 0) else (spec_ShortestFrom.l0 k2 t166 t167 t168 (wrap64 (x9_2 + 1)) a0_0 l0_1)) = some (r1, r2) := H
      have A32 := Aside0.mk A320
      clear A320
      by_cases c33 : t165 < 0
      rotate_left
      · rw [if_neg c33] at H
        have c33b0 : decide (t165 < 0) = false := decide_eq_false c33
        clear c33
        have H' := Aside0.mk H
        clear H
        have hcz52_0 : wr.cell? ⟨gb152, 0, none⟩ = some (.int .i64 a0_0) := (blk_cell BK152.out 0).trans rfl
        have hcz52_1 : wr.cell? ⟨gb152, 1, none⟩ = some (.slice A0_1 l0_1.length c0_1) := (blk_cell BK152.out 1).trans rfl
        have hfz52_0 := blk_frozen BK152.out 0
        have hfz52_1 := blk_frozen BK152.out 1
        obtain ⟨Ao53, co53, eo53⟩ := Kd.R_slice HO_6.out
        subst eo53
        obtain ⟨Ao54, co54, eo54⟩ := Kd.R_slice HO_7.out
        subst eo54
        go_wp2_with (first | ((with_reducible refine gate_callee (f := 80) rfl ?_); refine goesL_ (some 44) rfl rfl Try.func80 (by kernel_rfl) rfl #[.agg #[.int .i64 a0_0, .slice A0_1 l0_1.length c0_1], .slice Ao53 x6_2.length co53, .slice Ao54 x7_2.length co54, .slice (some ⟨go19, 0, none⟩) x8_2.length co19] rfl (by (try simp only [List.map_toArray, List.map_cons, List.map_nil]); first | done | rfl | (simp only [List.length_drop, List.length_take]; rfl)) ?_; (with_reducible refine (spec_l03Round.calls k2 a0_0 _ _ l0_1 (fun k_ => some k_ = (.slice Ao53 x6_2.length co53 : Value).ownBlock) (.slice Ao53 x6_2.length co53) x6_2 (fun k_ => some k_ = (.slice Ao54 x7_2.length co54 : Value).ownBlock) (.slice Ao54 x7_2.length co54) x7_2 (fun k_ => some k_ = (.slice (some ⟨go19, 0, none⟩) x8_2.length co19 : Value).ownBlock) (.slice (some ⟨go19, 0, none⟩) x8_2.length co19) x8_2 t165 t166 t167 t168 w _ ?side1 ?side2 ?side3 ?side4 ?side5 ?side6 ?side7 ?side8 A32.out).mono ?_); (case side1 => repeat (first | (with_reducible first | exact HB.out | apply below_alloc | apply pw_below_drewN | apply below_drew1 | refine below_set ?_ GE152.out) | exact HB.out)); (case side2 => exact Kd.C_kept_came k39_heap HR0_1.out (by repeat (first | (with_reducible first | exact HB.out | apply below_alloc | apply pw_below_drewN | apply below_drew1 | refine below_set ?_ GE152.out) | exact HB.out)) (fun k_ hs_ => Or.elim hs_ (fun e_ => (fun e_ => Kd.R_base HO_6.out k_ e_.symm) e_) (fun e_ => Or.elim e_ (fun e_ => (fun e_ => Kd.R_base HO_7.out k_ e_.symm) e_) (fun e_ => (fun e_ => Kd.R_base HO_8.out k_ e_.symm) e_)))); (case side3 => exact HC0_1.out); (case side4 => exact Kd.R_tight rfl HO_6.out); (case side5 => exact fun k_ e_ => (HO_6.out.1 k_ e_.symm)); (case side6 => exact Kd.R_tight rfl HO_7.out); (case side7 => exact fun k_ e_ => (HO_7.out.1 k_ e_.symm)); (case side8 => exact Kd.R_tight rfl HO_8.out); rintro e w55 ⟨rfl, hy0, hy1, hy2, hb, hkp⟩; refine ⟨_, rfl, ?_⟩; have n0_ := Aside0.mk (Kd.R_reok rfl hy0 (fun k_ e_ => HO_6.out.1 k_ e_)); have n1_ := Aside0.mk (Kd.R_reok rfl hy1 (fun k_ e_ => HO_7.out.1 k_ e_)); have n2_ := Aside0.mk (Kd.R_reok rfl hy2 (fun k_ e_ => HO_8.out.1 k_ e_)); have n3_ := Aside0.mk (blk_kept (by (with_reducible repeat (first | refine blk_drewN ?_ _ | refine blk_drew ?_ | refine blk_alloc ?_ _)); exact BK152.out) hkp (fun hs_ => Or.elim hs_ (fun e_ => (fun e_ => (Kd.R_ne HO_6.out BK152.out (by decide)) e_) e_) (fun e_ => Or.elim e_ (fun e_ => (fun e_ => (Kd.R_ne HO_7.out BK152.out (by decide)) e_) e_) (fun e_ => (fun e_ => (Kd.R_ne HO_8.out BK152.out (by decide)) e_) e_)))); have n4_ := Aside0.mk (hb); clear HO_6; clear HO_7; clear HO_8; clear BK152; clear HB; have HO_6 := n0_; have HO_7 := n1_; have HO_8 := n2_; have BK152 := n3_; have HB := n4_; clear n0_ n1_ n2_ n3_ n4_; (try clear hb); (try clear hkp); (try clear hy0); (try clear hy1); (try clear hy2)))
        (try simp only [← hl8_2])
        go_roundg k2
        case measure => have := HJ2.out; have := HK2.out; omega
        case rel => exact ⟨(t166), (t167), (t168), (wrap64 (x9_2 + 1)), (by first | rfl | (simp; done) | (simp [*]; done)), H', ⟨by have := HJ2.out; have := HK2.out; omega⟩, ⟨by (try simp only [hl8_2]); (with_reducible repeat (first | apply Kd.R_alloc | apply Kd.R_drewN | apply Kd.R_drew)); exact HO_6.out⟩, ⟨by (try simp only [hl8_2]); (with_reducible repeat (first | apply Kd.R_alloc | apply Kd.R_drewN | apply Kd.R_drew)); exact HO_7.out⟩, ⟨by (try simp only [hl8_2]); (with_reducible repeat (first | apply Kd.R_alloc | apply Kd.R_drewN | apply Kd.R_drew)); exact HO_8.out⟩, ⟨by (try simp only [hl8_2]); (with_reducible repeat (first | refine blk_drewN ?_ _ | refine blk_drew ?_ | refine blk_alloc ?_ _)); exact BK152.out⟩, ⟨by repeat (first | (with_reducible first | exact HB.out | apply below_alloc | apply pw_below_drewN | apply below_drew1 | refine below_set ?_ GE152.out) | exact HB.out)⟩⟩
      rw [if_pos c33] at H
      have c33b0 : decide (t165 < 0) = true := decide_eq_true c33
      clear c33
      have H' := Aside0.mk H
      clear H
      have hcz34_0 : wr.cell? ⟨gb152, 0, none⟩ = some (.int .i64 a0_0) := (blk_cell BK152.out 0).trans rfl
      have hcz34_1 : wr.cell? ⟨gb152, 1, none⟩ = some (.slice A0_1 l0_1.length c0_1) := (blk_cell BK152.out 1).trans rfl
      have hfz34_0 := blk_frozen BK152.out 0
      have hfz34_1 := blk_frozen BK152.out 1
      obtain ⟨Ao35, co35, eo35⟩ := Kd.R_slice HO_6.out
      subst eo35
      obtain ⟨Ao36, co36, eo36⟩ := Kd.R_slice HO_7.out
      subst eo36
      go_wp2_with (first | ((with_reducible refine gate_callee (f := 80) rfl ?_); refine goesL_ (some 44) rfl rfl Try.func80 (by kernel_rfl) rfl #[.agg #[.int .i64 a0_0, .slice A0_1 l0_1.length c0_1], .slice Ao35 x6_2.length co35, .slice Ao36 x7_2.length co36, .slice (some ⟨go19, 0, none⟩) x8_2.length co19] rfl (by (try simp only [List.map_toArray, List.map_cons, List.map_nil]); first | done | rfl | (simp only [List.length_drop, List.length_take]; rfl)) ?_; (with_reducible refine (spec_l03Round.calls k2 a0_0 _ _ l0_1 (fun k_ => some k_ = (.slice Ao35 x6_2.length co35 : Value).ownBlock) (.slice Ao35 x6_2.length co35) x6_2 (fun k_ => some k_ = (.slice Ao36 x7_2.length co36 : Value).ownBlock) (.slice Ao36 x7_2.length co36) x7_2 (fun k_ => some k_ = (.slice (some ⟨go19, 0, none⟩) x8_2.length co19 : Value).ownBlock) (.slice (some ⟨go19, 0, none⟩) x8_2.length co19) x8_2 t165 t166 t167 t168 w _ ?side1 ?side2 ?side3 ?side4 ?side5 ?side6 ?side7 ?side8 A32.out).mono ?_); (case side1 => repeat (first | (with_reducible first | exact HB.out | apply below_alloc | apply pw_below_drewN | apply below_drew1 | refine below_set ?_ GE152.out) | exact HB.out)); (case side2 => exact Kd.C_kept_came k39_heap HR0_1.out (by repeat (first | (with_reducible first | exact HB.out | apply below_alloc | apply pw_below_drewN | apply below_drew1 | refine below_set ?_ GE152.out) | exact HB.out)) (fun k_ hs_ => Or.elim hs_ (fun e_ => (fun e_ => Kd.R_base HO_6.out k_ e_.symm) e_) (fun e_ => Or.elim e_ (fun e_ => (fun e_ => Kd.R_base HO_7.out k_ e_.symm) e_) (fun e_ => (fun e_ => Kd.R_base HO_8.out k_ e_.symm) e_)))); (case side3 => exact HC0_1.out); (case side4 => exact Kd.R_tight rfl HO_6.out); (case side5 => exact fun k_ e_ => (HO_6.out.1 k_ e_.symm)); (case side6 => exact Kd.R_tight rfl HO_7.out); (case side7 => exact fun k_ e_ => (HO_7.out.1 k_ e_.symm)); (case side8 => exact Kd.R_tight rfl HO_8.out); rintro e w37 ⟨rfl, hy0, hy1, hy2, hb, hkp⟩; refine ⟨_, rfl, ?_⟩; have n0_ := Aside0.mk (Kd.R_reok rfl hy0 (fun k_ e_ => HO_6.out.1 k_ e_)); have n1_ := Aside0.mk (Kd.R_reok rfl hy1 (fun k_ e_ => HO_7.out.1 k_ e_)); have n2_ := Aside0.mk (Kd.R_reok rfl hy2 (fun k_ e_ => HO_8.out.1 k_ e_)); have n3_ := Aside0.mk (blk_kept (by (with_reducible repeat (first | refine blk_drewN ?_ _ | refine blk_drew ?_ | refine blk_alloc ?_ _)); exact BK152.out) hkp (fun hs_ => Or.elim hs_ (fun e_ => (fun e_ => (Kd.R_ne HO_6.out BK152.out (by decide)) e_) e_) (fun e_ => Or.elim e_ (fun e_ => (fun e_ => (Kd.R_ne HO_7.out BK152.out (by decide)) e_) e_) (fun e_ => (fun e_ => (Kd.R_ne HO_8.out BK152.out (by decide)) e_) e_)))); have n4_ := Aside0.mk (hb); clear HO_6; clear HO_7; clear HO_8; clear BK152; clear HB; have HO_6 := n0_; have HO_7 := n1_; have HO_8 := n2_; have BK152 := n3_; have HB := n4_; clear n0_ n1_ n2_ n3_ n4_; (try clear hb); (try clear hkp); (try clear hy0); (try clear hy1); (try clear hy2)))
      go_loopg [48] k2 (fun kq v48 w' => ∃ (x6_3 : List Int) (x48_3 : Int), v48 = .int .i64 x48_3 ∧ Aside0 (spec_ShortestFrom.l1 kq x6_3 t168 (x6_2.length : Int) x48_3 = some (r1, r2)) ∧ Aside0 (kq ≤ k2) ∧ Aside0 (Kd.R (Kd.int .i64) 3 w' w.heap.size (fun _ => True) (.slice Ao35 x6_2.length co35) x6_3) ∧ Aside0 (Kd.R Kd.bool 4 w' w.heap.size (fun _ => True) (.slice (some ⟨go19, 0, none⟩) x8_2.length co19) t168) ∧ Aside0 (w'.heap[gb152]? = some (.cells #[.int .i64 a0_0, (.slice A0_1 l0_1.length c0_1)] 25 (0, 0))) ∧ Aside0 (Below w.heap.size w w'))
      case atStart => exact ⟨(t166), (0), (by first | rfl | (simp; done) | (simp [*]; done)), H', ⟨Nat.le_refl _⟩, ⟨by (try simp only [hl8_2]); (with_reducible repeat (first | apply Kd.R_alloc | apply Kd.R_drewN | apply Kd.R_drew)); exact Kd.R_mono HO_6.out (fun _ hk => trivial)⟩, ⟨by (try simp only [hl8_2]); (with_reducible repeat (first | apply Kd.R_alloc | apply Kd.R_drewN | apply Kd.R_drew)); exact HO_8.out⟩, ⟨by (try simp only [hl8_2]); (with_reducible repeat (first | refine blk_drewN ?_ _ | refine blk_drew ?_ | refine blk_alloc ?_ _)); exact BK152.out⟩, ⟨by repeat (first | (with_reducible first | exact HB.out | apply below_alloc | apply pw_below_drewN | apply below_drew1 | refine below_set ?_ GE152.out) | exact HB.out)⟩⟩
      case round =>
       clear H'
       try clear c1
       try clear p1
       try clear q1
       try clear hx1
       try clear p2
       try clear c3
       try clear c5
       try clear c6
       try clear p6
       try clear c8
       try clear c13
       try clear c14
       try clear c14b0
       try clear c14b1
       try clear c15
       try clear c15b0
       try clear c15b1
       try clear c16
       try clear c16b0
       try clear c16b1
       try clear c17
       try clear c17b0
       try clear c18
       try clear c18b0
       try clear p19
       try clear q19
       try clear hx19
       try clear hf19
       try clear c30
       try clear c31
       try clear c31b0
       try clear c33
       try clear c33b0
       try clear hcz10_0
       try clear hcz10_1
       try clear hcz11_0
       try clear hcz11_1
       try clear hcz20_0
       try clear hcz20_1
       try clear hcz23_0
       try clear hcz23_1
       try clear hcz26_0
       try clear hcz26_1
       try clear hcz34_0
       try clear hcz34_1
       try clear hcz8_0
       try clear hcz8_1
       try clear hfz10_0
       try clear hfz10_1
       try clear hfz11_0
       try clear hfz11_1
       try clear hfz20_0
       try clear hfz20_1
       try clear hfz23_0
       try clear hfz23_1
       try clear hfz26_0
       try clear hfz26_1
       try clear hfz34_0
       try clear hfz34_1
       try clear hfz8_0
       try clear hfz8_1
       try clear hx19_0
       try clear p1
       try clear p19
       try clear p2
       try clear p6
       try clear q1
       try clear q19
       obtain ⟨x6_3, x48_3, rfl, HA, HK3, HO_6, HO_8, BK152, HB⟩ := hrel
       have hl6_3 := (Kd.R_reads' HO_6.out).1
       rw [hl6_3] at HO_6
       (try simp only [hl6_3])
       (try simp only [hl6_3] at BK152)
       (try simp only [hl6_3] at HO_8)
       have hl8_3 := (Kd.R_reads' HO_8.out).1
       rw [hl8_3] at HO_8
       (try simp only [hl8_3])
       (try simp only [hl8_3] at BK152)
       (try simp only [hl8_3] at HO_6)
       cases gk with
       | zero => exact absurd HA.out (by simp [spec_ShortestFrom.l1])
       | succ k3 =>
        have H := HA.out
        clear HA
        simp only [spec_ShortestFrom.l1] at H
        by_cases c38 : x48_3 < (x6_2.length : Int)
        rotate_left
        · rw [if_neg c38] at H
          have c38b0 : decide (x48_3 < (x6_2.length : Int)) = false := decide_eq_false c38
          clear c38
          simp only [Option.some.injEq, Prod.mk.injEq] at H
          obtain ⟨rfl, rfl⟩ := H
          (try simp only [hl8_2, hl6_3, hl8_3] at c18b0)
          (try simp only [hl8_2, hl6_3, hl8_3] at c38b0)
          go_wp2
          go_ret2
          exact ⟨_, by first | rfl | (simp [errW_none, errW_some] <;> rfl) | (simp [*, errW_none, errW_some] <;> rfl), by (with_reducible repeat (first | apply Kd.R_alloc | apply Kd.R_drewN | apply Kd.R_drew)); exact HO_6.out, by repeat (first | (with_reducible first | exact HB.out | apply below_alloc | apply pw_below_drewN | apply below_drew1 | refine below_set ?_ GE152.out) | exact HB.out)⟩
        rw [if_pos c38] at H
        have c38b0 : decide (x48_3 < (x6_2.length : Int)) = true := decide_eq_true c38
        clear c38
        by_cases c39 : 0 ≤ x48_3
        rotate_left
        · rw [if_neg c39] at H
          exact absurd H (by simp)
        rw [if_pos c39] at H
        have c39b0 : decide (0 ≤ x48_3) = true := decide_eq_true c39
        clear c39
        by_cases c40 : x48_3 < (t168.length : Int)
        rotate_left
        · rw [if_neg c40] at H
          exact absurd H (by simp)
        rw [if_pos c40] at H
        have c40b0 : decide (x48_3 < (t168.length : Int)) = true := decide_eq_true c40
        clear c40
        obtain ⟨bq41, hbq41⟩ : ∃ b_ : Bool, b_ = (rdOf false t168 x48_3) := ⟨_, rfl⟩
        replace H : (if bq41 = true then (if x48_3 < (x6_3.length : Int) then (if (rd x6_3 x48_3) > 1000000 then (spec_ShortestFrom.l1 k3 (x6_3.set (x48_3 : Int).toNat 1000000) t168 (x6_2.length : Int) (wrap64 (x48_3 + 1))) else (spec_ShortestFrom.l1 k3 x6_3 t168 (x6_2.length : Int) (wrap64 (x48_3 + 1)))) else (none)) else (if x48_3 < (x6_3.length : Int) then (spec_ShortestFrom.l1 k3 (x6_3.set (x48_3 : Int).toNat 1000000) t168 (x6_2.length : Int) (wrap64 (x48_3 + 1))) else (none))) = some (r1, r2) := by rw [← hbq41] at H; exact H
        have Nbq41 := Aside0.mk hbq41
        clear hbq41
        by_cases c42 : bq41 = true
        rotate_left
        · replace c42 := Bool.eq_false_iff.mpr c42
          subst c42
          have H1 : (if x48_3 < (x6_3.length : Int) then (spec_ShortestFrom.l1 k3 (x6_3.set (x48_3 : Int).toNat 1000000) t168 (x6_2.length : Int) (wrap64 (x48_3 + 1))) else (none)) = some (r1, r2) := by rw [if_neg (show ¬ (false = true) by decide)] at H; exact H
          clear H
          have H := H1
          clear H1
          by_cases c48 : x48_3 < (x6_3.length : Int)
          rotate_left
          · rw [if_neg c48] at H
            exact absurd H (by simp)
          rw [if_pos c48] at H
          have c48b0 : decide (x48_3 < (x6_3.length : Int)) = true := decide_eq_true c48
          clear c48
          obtain ⟨y172, hy172⟩ : ∃ y_ : List Int, y_ = (x6_3.set (x48_3 : Int).toNat 1000000) := ⟨_, rfl⟩
          replace H : (spec_ShortestFrom.l1 k3 y172 t168 (x6_2.length : Int) (wrap64 (x48_3 + 1))) = some (r1, r2) := by first | (rw [hy172]; with_reducible exact H) | (have H2_ := (Option.bind_some _ _).symm.trans H; rw [hy172]; with_reducible exact H2_) | (have H2_ := (Option.bind_some _ _).symm.trans H; with_reducible exact H2_) | with_reducible exact H | (rw [hy172]; exact H) | exact H
          have Ny172 := Aside0.mk hy172
          clear hy172
          have H' := Aside0.mk H
          clear H
          have p169 : 0 ≤ (x48_3 : Int) := of_decide_eq_true (by first | (with_reducible assumption) | assumption)
          have q169 : x48_3 < (t168.length : Int) := of_decide_eq_true (by first | (with_reducible assumption) | assumption)
          obtain ⟨ad169, e169, hx169_0⟩ := Kd.at_bool (Kd.R_reads' HO_8.out).2.2 x48_3 p169 q169
          (try rw [← Nbq41.out] at hx169_0)
          obtain rfl : (⟨go19, 0, none⟩ : Addr) = ad169 := (by injection e169)
          (first | simp only [add_plain] at hx169_0 | simp only [add_at] at hx169_0 | simp only [Addr.add, Nat.zero_add] at hx169_0 | skip)
          replace p169 := eq_true p169
          replace q169 := eq_true q169
          have p49 : 0 ≤ (x48_3 : Int) := of_decide_eq_true (by first | (with_reducible assumption) | assumption)
          have q49 : (x48_3 : Int) < ((x6_3.length : Int) : Int) := of_decide_eq_true (by first | (with_reducible assumption) | assumption)
          obtain ⟨go49, co49, eo49, gb49, gl49, cl49, HG49⟩ := Kd.R_form HO_6.out (by omega)
          (first | cases eo49 | (injection eo49 with ea_ en_ ec_; (first | subst ea_ | (injection ea_ with ea_; subst ea_)); subst ec_; clear en_))
          have GB49 := Aside0.mk gb49
          have GG49 := Aside0.mk HG49
          clear gb49 gl49 HG49
          obtain ⟨hx49_0, hf49_0⟩ := Kd.R_celln 0 HO_6.out (x48_3 : Int) p49 q49
          replace p49 := eq_true p49
          replace q49 := eq_true q49
          have HP50 := Kd.R_putg HO_6.out (x48_3 : Int) 1000000
          go_wp2_with (first | ((with_reducible refine gate_store (t := 3) (p := 65) rfl ?_); refine store_event (t := 3) (p := 65) (v := ?vo_w51) (w1 := (wr.setCell ⟨go49, (x48_3 : Int).toNat, none⟩ (.int .i64 1000000))) ?hg ?ho ?hn ?hr ?_; (case ho => rfl); (case hg => rfl); (case hn => rfl); (case hr => first | (go_simp; done) | (go_simp; rfl)); intro w51 hw; have hg : wr.grownBy w51 (some go49) := (by rw [hw]; exact HP50.2); have hp_ : Kd.R (Kd.int .i64) 3 w51 w.heap.size (fun _ => True) (.slice (some ⟨go49, 0, none⟩) x6_3.length co35) y172 := (by rw [hw, Ny172.out]; exact HP50.1); clear HP50; have n0_ := Aside0.mk (hp_); have n1_ := Aside0.mk (Kd.R_over' (v := (.slice (some ⟨go49, 0, none⟩) x6_3.length co35)) (by (with_reducible repeat (first | apply Kd.R_alloc | apply Kd.R_drewN | apply Kd.R_drew)); exact HO_8.out) (Kd.R_typed HO_6.out) (by decide) hg); have n2_ := Aside0.mk (blk_grown (g := gb152) (o := .cells #[.int .i64 a0_0, .slice A0_1 l0_1.length c0_1] 25 (0, 0)) (by (with_reducible repeat (first | refine blk_drewN ?_ _ | refine blk_drew ?_ | refine blk_alloc ?_ _)); exact BK152.out) hg (Kd.R_ne HO_6.out BK152.out (by decide))); have n3_ := Aside0.mk ((by rw [hw]; exact below_set (HB.out) GB49.out : Below w.heap.size w w51)); clear HO_6; clear HO_8; clear BK152; clear HB; have HO_6 := n0_; have HO_8 := n1_; have BK152 := n2_; have HB := n3_; clear n0_ n1_ n2_ n3_; clear hg hw hp_))
          (try simp only [← hl6_3, ← hl8_3])
          go_roundg k3
          case measure => have := HJ2.out; have := HK2.out; have := HK3.out; omega
          case rel => exact ⟨(y172), (wrap64 (x48_3 + 1)), (by first | rfl | (simp; done) | (simp [*]; done)), H', ⟨by have := HJ2.out; have := HK2.out; have := HK3.out; omega⟩, ⟨by (try simp only [hl8_2]); (try simp only [hl6_3]); (try simp only [hl8_3]); (with_reducible repeat (first | apply Kd.R_alloc | apply Kd.R_drewN | apply Kd.R_drew)); exact HO_6.out⟩, ⟨by (try simp only [hl8_2]); (try simp only [hl6_3]); (try simp only [hl8_3]); (with_reducible repeat (first | apply Kd.R_alloc | apply Kd.R_drewN | apply Kd.R_drew)); exact HO_8.out⟩, ⟨by (try simp only [hl8_2]); (try simp only [hl6_3]); (try simp only [hl8_3]); (with_reducible repeat (first | refine blk_drewN ?_ _ | refine blk_drew ?_ | refine blk_alloc ?_ _)); exact BK152.out⟩, ⟨by repeat (first | (with_reducible first | exact HB.out | apply below_alloc | apply pw_below_drewN | apply below_drew1 | refine below_set ?_ GE152.out) | exact HB.out)⟩⟩
        subst c42
        have H1 : (if x48_3 < (x6_3.length : Int) then (if (rd x6_3 x48_3) > 1000000 then (spec_ShortestFrom.l1 k3 (x6_3.set (x48_3 : Int).toNat 1000000) t168 (x6_2.length : Int) (wrap64 (x48_3 + 1))) else (spec_ShortestFrom.l1 k3 x6_3 t168 (x6_2.length : Int) (wrap64 (x48_3 + 1)))) else (none)) = some (r1, r2) := by rw [if_pos rfl] at H; exact H
        clear H
        have H := H1
        clear H1
        by_cases c43 : x48_3 < (x6_3.length : Int)
        rotate_left
        · rw [if_neg c43] at H
          exact absurd H (by simp)
        rw [if_pos c43] at H
        have c43b0 : decide (x48_3 < (x6_3.length : Int)) = true := decide_eq_true c43
        clear c43
        by_cases c44 : (rd x6_3 x48_3) > 1000000
        rotate_left
        · rw [if_neg c44] at H
          have c44b0 : decide (1000000 < (rd x6_3 x48_3)) = false := decide_eq_false c44
          clear c44
          have H' := Aside0.mk H
          clear H
          have p169 : 0 ≤ (x48_3 : Int) := of_decide_eq_true (by first | (with_reducible assumption) | assumption)
          have q169 : x48_3 < (t168.length : Int) := of_decide_eq_true (by first | (with_reducible assumption) | assumption)
          obtain ⟨ad169, e169, hx169_0⟩ := Kd.at_bool (Kd.R_reads' HO_8.out).2.2 x48_3 p169 q169
          (try rw [← Nbq41.out] at hx169_0)
          obtain rfl : (⟨go19, 0, none⟩ : Addr) = ad169 := (by injection e169)
          (first | simp only [add_plain] at hx169_0 | simp only [add_at] at hx169_0 | simp only [Addr.add, Nat.zero_add] at hx169_0 | skip)
          replace p169 := eq_true p169
          replace q169 := eq_true q169
          have p170 : 0 ≤ (x48_3 : Int) := of_decide_eq_true (by first | (with_reducible assumption) | assumption)
          have q170 : x48_3 < (x6_3.length : Int) := of_decide_eq_true (by first | (with_reducible assumption) | assumption)
          obtain ⟨ad170, e170, hx170_0⟩ := Kd.at_int (Kd.R_reads' HO_6.out).2.2 x48_3 p170 q170
          cases e170
          replace p170 := eq_true p170
          replace q170 := eq_true q170
          go_wp2
          (try simp only [← hl6_3, ← hl8_3])
          go_roundg k3
          case measure => have := HJ2.out; have := HK2.out; have := HK3.out; omega
          case rel => exact ⟨(x6_3), (wrap64 (x48_3 + 1)), (by first | rfl | (simp; done) | (simp [*]; done)), H', ⟨by have := HJ2.out; have := HK2.out; have := HK3.out; omega⟩, ⟨by (try simp only [hl8_2]); (try simp only [hl6_3]); (try simp only [hl8_3]); (with_reducible repeat (first | apply Kd.R_alloc | apply Kd.R_drewN | apply Kd.R_drew)); exact HO_6.out⟩, ⟨by (try simp only [hl8_2]); (try simp only [hl6_3]); (try simp only [hl8_3]); (with_reducible repeat (first | apply Kd.R_alloc | apply Kd.R_drewN | apply Kd.R_drew)); exact HO_8.out⟩, ⟨by (try simp only [hl8_2]); (try simp only [hl6_3]); (try simp only [hl8_3]); (with_reducible repeat (first | refine blk_drewN ?_ _ | refine blk_drew ?_ | refine blk_alloc ?_ _)); exact BK152.out⟩, ⟨by repeat (first | (with_reducible first | exact HB.out | apply below_alloc | apply pw_below_drewN | apply below_drew1 | refine below_set ?_ GE152.out) | exact HB.out)⟩⟩
        rw [if_pos c44] at H
        have c44b0 : decide (1000000 < (rd x6_3 x48_3)) = true := decide_eq_true c44
        clear c44
        obtain ⟨y171, hy171⟩ : ∃ y_ : List Int, y_ = (x6_3.set (x48_3 : Int).toNat 1000000) := ⟨_, rfl⟩
        replace H : (spec_ShortestFrom.l1 k3 y171 t168 (x6_2.length : Int) (wrap64 (x48_3 + 1))) = some (r1, r2) := by first | (rw [hy171]; with_reducible exact H) | (have H2_ := (Option.bind_some _ _).symm.trans H; rw [hy171]; with_reducible exact H2_) | (have H2_ := (Option.bind_some _ _).symm.trans H; with_reducible exact H2_) | with_reducible exact H | (rw [hy171]; exact H) | exact H
        have Ny171 := Aside0.mk hy171
        clear hy171
        have H' := Aside0.mk H
        clear H
        have p169 : 0 ≤ (x48_3 : Int) := of_decide_eq_true (by first | (with_reducible assumption) | assumption)
        have q169 : x48_3 < (t168.length : Int) := of_decide_eq_true (by first | (with_reducible assumption) | assumption)
        obtain ⟨ad169, e169, hx169_0⟩ := Kd.at_bool (Kd.R_reads' HO_8.out).2.2 x48_3 p169 q169
        (try rw [← Nbq41.out] at hx169_0)
        obtain rfl : (⟨go19, 0, none⟩ : Addr) = ad169 := (by injection e169)
        (first | simp only [add_plain] at hx169_0 | simp only [add_at] at hx169_0 | simp only [Addr.add, Nat.zero_add] at hx169_0 | skip)
        replace p169 := eq_true p169
        replace q169 := eq_true q169
        have p170 : 0 ≤ (x48_3 : Int) := of_decide_eq_true (by first | (with_reducible assumption) | assumption)
        have q170 : x48_3 < (x6_3.length : Int) := of_decide_eq_true (by first | (with_reducible assumption) | assumption)
        obtain ⟨ad170, e170, hx170_0⟩ := Kd.at_int (Kd.R_reads' HO_6.out).2.2 x48_3 p170 q170
        cases e170
        replace p170 := eq_true p170
        replace q170 := eq_true q170
        have p45 : 0 ≤ (x48_3 : Int) := of_decide_eq_true (by first | (with_reducible assumption) | assumption)
        have q45 : (x48_3 : Int) < ((x6_3.length : Int) : Int) := of_decide_eq_true (by first | (with_reducible assumption) | assumption)
        obtain ⟨go45, co45, eo45, gb45, gl45, cl45, HG45⟩ := Kd.R_form HO_6.out (by omega)
        (first | cases eo45 | (injection eo45 with ea_ en_ ec_; (first | subst ea_ | (injection ea_ with ea_; subst ea_)); subst ec_; clear en_))
        have GB45 := Aside0.mk gb45
        have GG45 := Aside0.mk HG45
        clear gb45 gl45 HG45
        (first | simp only [add_plain] at hx170_0 | skip)
        obtain ⟨hx45_0, hf45_0⟩ := Kd.R_celln 0 HO_6.out (x48_3 : Int) p45 q45
        replace p45 := eq_true p45
        replace q45 := eq_true q45
        have HP46 := Kd.R_putg HO_6.out (x48_3 : Int) 1000000
        go_wp2_with (first | ((with_reducible refine gate_store (t := 3) (p := 65) rfl ?_); refine store_event (t := 3) (p := 65) (v := ?vo_w47) (w1 := (wr.setCell ⟨go45, (x48_3 : Int).toNat, none⟩ (.int .i64 1000000))) ?hg ?ho ?hn ?hr ?_; (case ho => rfl); (case hg => rfl); (case hn => rfl); (case hr => first | (go_simp; done) | (go_simp; rfl)); intro w47 hw; have hg : wr.grownBy w47 (some go45) := (by rw [hw]; exact HP46.2); have hp_ : Kd.R (Kd.int .i64) 3 w47 w.heap.size (fun _ => True) (.slice (some ⟨go45, 0, none⟩) x6_3.length co35) y171 := (by rw [hw, Ny171.out]; exact HP46.1); clear HP46; have n0_ := Aside0.mk (hp_); have n1_ := Aside0.mk (Kd.R_over' (v := (.slice (some ⟨go45, 0, none⟩) x6_3.length co35)) (by (with_reducible repeat (first | apply Kd.R_alloc | apply Kd.R_drewN | apply Kd.R_drew)); exact HO_8.out) (Kd.R_typed HO_6.out) (by decide) hg); have n2_ := Aside0.mk (blk_grown (g := gb152) (o := .cells #[.int .i64 a0_0, .slice A0_1 l0_1.length c0_1] 25 (0, 0)) (by (with_reducible repeat (first | refine blk_drewN ?_ _ | refine blk_drew ?_ | refine blk_alloc ?_ _)); exact BK152.out) hg (Kd.R_ne HO_6.out BK152.out (by decide))); have n3_ := Aside0.mk ((by rw [hw]; exact below_set (HB.out) GB45.out : Below w.heap.size w w47)); clear HO_6; clear HO_8; clear BK152; clear HB; have HO_6 := n0_; have HO_8 := n1_; have BK152 := n2_; have HB := n3_; clear n0_ n1_ n2_ n3_; clear hg hw hp_))
        (try simp only [← hl6_3, ← hl8_3])
        go_roundg k3
        case measure => have := HJ2.out; have := HK2.out; have := HK3.out; omega
        case rel => exact ⟨(y171), (wrap64 (x48_3 + 1)), (by first | rfl | (simp; done) | (simp [*]; done)), H', ⟨by have := HJ2.out; have := HK2.out; have := HK3.out; omega⟩, ⟨by (try simp only [hl8_2]); (try simp only [hl6_3]); (try simp only [hl8_3]); (with_reducible repeat (first | apply Kd.R_alloc | apply Kd.R_drewN | apply Kd.R_drew)); exact HO_6.out⟩, ⟨by (try simp only [hl8_2]); (try simp only [hl6_3]); (try simp only [hl8_3]); (with_reducible repeat (first | apply Kd.R_alloc | apply Kd.R_drewN | apply Kd.R_drew)); exact HO_8.out⟩, ⟨by (try simp only [hl8_2]); (try simp only [hl6_3]); (try simp only [hl8_3]); (with_reducible repeat (first | refine blk_drewN ?_ _ | refine blk_drew ?_ | refine blk_alloc ?_ _)); exact BK152.out⟩, ⟨by repeat (first | (with_reducible first | exact HB.out | apply below_alloc | apply pw_below_drewN | apply below_drew1 | refine below_set ?_ GE152.out) | exact HB.out)⟩⟩

/-! ### impl_Edge_84: function 84 -/
section
open Go.Shelf Go.Lib
instance : Inhabited S39 := ⟨z39⟩
def encEdge (x : S39) : List Value := [.int .i64 x.f0, .int .i64 x.f1, .int .i64 x.f2]
set_option maxHeartbeats 2000000 in
theorem idxEdge_calls (p : S39 → Bool) (g : Nat) (lb : Array Value) (eg : ∀ args w, (callFunc g args).run Try.prog w = .ok (.enter g args) w) (b off n c : Nat) (zs : List S39) (w : World)
    (hp : ∀ (W : World) (x : S39), x ∈ zs → Below w.heap.size w W → Calls Try.prog g (#[(.agg #[.int .i64 x.f0, .int .i64 x.f1, .int .i64 x.f2])] ++ lb) W fun e w' => e = .returned (.bool (p x)) ∧ Below w.heap.size w w') (hz : n ≤ zs.length) (hbig : n ≤ 9223372036854775807) (hb : b < w.heap.size)
    (hc : ∀ j, j < zs.length → ∀ i v, (encEdge zs[j]!)[i]? = some v → w.cell? ⟨b, off + j * 3 + i, none⟩ = some v) :
    Calls Try.prog 84 #[.slice (some ⟨b, off, none⟩) n c, .func (.func g) #[] lb] w fun e w' => e = .returned (.int .i64 (Lib.idxBy (fun _ y => p y) (zs.take n) default)) ∧ Below w.heap.size w w' := by
  have hrow : ∀ (W : World), Below w.heap.size w W → ∀ j, j < zs.length → W.cell? ⟨b, off + j * 3, none⟩ = some (.int .i64 zs[j]!.f0) ∧ W.cell? ⟨b, off + j * 3 + 1, none⟩ = some (.int .i64 zs[j]!.f1) ∧ W.cell? ⟨b, off + j * 3 + 2, none⟩ = some (.int .i64 zs[j]!.f2) := fun W hW j hj =>
   ⟨(hW.cell (p := ⟨b, off + j * 3, none⟩) hb).trans (hc j hj 0 _ rfl), (hW.cell (p := ⟨b, off + j * 3 + 1, none⟩) hb).trans (hc j hj 1 _ rfl), (hW.cell (p := ⟨b, off + j * 3 + 2, none⟩) hb).trans (hc j hj 2 _ rfl)⟩
  clear hc
  go_enter Try.func84, Try.ntmps84
  go_wp2
  go_loopg [5, 8] n (fun gg _ s8 wr => ∃ kk : Nat, kk ≤ n ∧ n - kk ≤ gg ∧ s8 = .int .i64 kk ∧ Aside (Below w.heap.size w wr) ∧ Aside (∀ j, j < kk → p zs[j]! = false))
  case atStart => exact ⟨0, Nat.zero_le _, by omega, rfl, Below.refl _ w, fun j hj => absurd hj (Nat.not_lt_zero _)⟩
  case round =>
   obtain ⟨kk, hkk, hg, rfl, BW, A⟩ := hrel
   by_cases hlt : kk < n
   rotate_left
   · have hltz : ¬ (kk : Int) < (n : Int) := by omega
     have : kk = n := by omega
     subst this
     go_wp2
     go_ret
     refine ⟨?_, BW.out⟩
     rw [Lib.idxBy_miss (fun _ y => p y) zs kk default A.out]
     rfl
   have hltz : (kk : Int) < (n : Int) := by omega
   obtain ⟨l0, l1, l2⟩ := hrow wr BW.out kk (by omega)
   have hcall := hp wr zs[kk]! (by rw [getElem!_pos zs kk (by omega)]; exact List.getElem_mem _) BW.out
   clear hrow hp
   generalize hy : zs[kk]! = y at l0 l1 l2 hcall
   have B : Aside (zs[kk]! = y) := hy
   clear hy
   cases hq : p y with
   | true =>
    rw [hq] at hcall
    go_wp2_with (go_at_fn g; refine hcall.mono ?_; rintro e w' ⟨rfl, hb'⟩)
    go_ret
    refine ⟨?_, hb'⟩
    rw [Lib.idxBy_hit (fun _ y => p y) zs n kk default hlt hz (by show p zs[kk]! = true; rw [B.out]; exact hq) A.out]
    rfl
   | false =>
    rw [hq] at hcall
    go_wp2_with (go_at_fn g; refine hcall.mono ?_; rintro e w' ⟨rfl, hb'⟩)
    go_roundg (n - (kk + 1))
    case measure => omega
    case rel =>
     refine ⟨kk + 1, by omega, by omega, by go_num, hb', (show Aside _ from fun j hj => ?_)⟩
     by_cases e : j = kk
     rotate_left
     · exact A.out j (by omega)
     subst e
     rw [B.out]; exact hq
theorem idxEdge_empty (a : Option Addr) (c : Nat) (fv : Value) (w : World) :
    Calls Try.prog 84 #[.slice a 0 c, fv] w fun e w' => e = .returned (.int .i64 (-1)) ∧ w' = w := by
  go_enter Try.func84, Try.ntmps84
  go_wp2
  go_loopg [5, 8] 0 (fun _ _ s8 wr => s8 = .int .i64 0 ∧ wr = w)
  case atStart => exact ⟨rfl, rfl⟩
  case round =>
   obtain ⟨rfl, rfl⟩ := hrel
   go_wp2
   go_ret
   exact ⟨rfl, rfl⟩
theorem addrEdge_of {W : World} {a : Addr} {v : Value} (h : W.cell? a = some v) : ∃ b o, a = ⟨b, o, none⟩ ∧ b < W.heap.size := by
  obtain ⟨b, o, s⟩ := a
  have hlt := World.block_lt_of_cell? W _ h
  cases s with
  | none => exact ⟨b, o, rfl, hlt⟩
  | some s =>
   unfold World.cell? at h
   split at h
   · simp at h
   · simp at h
theorem idxEdge_at (p : S39 → Bool) (g : Nat) (lb : Array Value) (eg : ∀ args w, (callFunc g args).run Try.prog w = .ok (.enter g args) w) (A : Option Addr) (c : Nat) (l : List S39) (w : World)
    (hp : ∀ (W : World) (x : S39), x ∈ l → Below w.heap.size w W → Calls Try.prog g (#[(.agg #[.int .i64 x.f0, .int .i64 x.f1, .int .i64 x.f2])] ++ lb) W fun e w' => e = .returned (.bool (p x)) ∧ Below w.heap.size w w') (hr : Kd.C k39 w A l.length l) :
    Calls Try.prog 84 #[.slice A l.length c, .func (.func g) #[] lb] w fun e w' => e = .returned (.int .i64 (Lib.idxBy (fun _ y => p y) l default)) ∧ Below w.heap.size w w' := by
  cases l with
  | nil => exact (idxEdge_empty A c _ w).mono fun e w' ⟨he, hw⟩ => by subst hw; exact ⟨he, Below.refl _ _⟩
  | cons x l' =>
   have hrow : ∀ j, j < (x :: l').length → ∃ ad, A = some ad ∧ ∀ i v, (encEdge (x :: l')[j]!)[i]? = some v → w.cell? (ad.add (j * 3 + i)) = some v := by
    intro j hj
    obtain ⟨ad, cs, e, _, hK, hc0⟩ := Kd.C_get hr z39 j (by omega) (by omega)
    have hcs : cs = encEdge ((x :: l').getD j z39) := k39_open (by simpa using hK)
    refine ⟨ad, e, fun i v hi => ?_⟩
    have e1 : (x :: l')[j]! = (x :: l').getD j z39 := by rw [List.getD_eq_getElem?_getD, List.getElem!_eq_getElem?_getD]; rfl
    have := hc0 i v (by rw [hcs, ← e1]; exact hi)
    simpa [k39, Kd.iso, Kd.pair, Kd.int, Kd.scalar] using this
   obtain ⟨ad, rfl, h0⟩ := hrow 0 (by simp)
   obtain ⟨b, o, rfl, hb⟩ := addrEdge_of (h0 0 _ rfl)
   have hcon := idxEdge_calls p g lb eg b o (x :: l').length c (x :: l') w
     hp (Nat.le_refl _) (Kd.C_max hr) hb (fun j hj i v hi => by
       obtain ⟨ad', e, h⟩ := hrow j hj
       obtain rfl := Option.some.inj e
       have := h i v hi
       rw [Addr.add_lit] at this
       rw [← this, Nat.add_assoc])
   rw [List.take_length] at hcon
   exact hcon
end

/-! ### impl_Edge_62: function 62 -/
section
open Go.Shelf Go.Lib
theorem anyEdge_at (p : S39 → Bool) (g : Nat) (lb : Array Value) (eg : ∀ args w, (callFunc g args).run Try.prog w = .ok (.enter g args) w) (A : Option Addr) (c : Nat) (l : List S39) (w : World)
    (hp : ∀ (W : World) (x : S39), x ∈ l → Below w.heap.size w W → Calls Try.prog g (#[(.agg #[.int .i64 x.f0, .int .i64 x.f1, .int .i64 x.f2])] ++ lb) W fun e w' => e = .returned (.bool (p x)) ∧ Below w.heap.size w w') (hr : Kd.C k39 w A l.length l) :
    Calls Try.prog 62 #[.slice A l.length c, .func (.func g) #[] lb] w fun e w' => e = .returned (.bool (l.any p)) ∧ Below w.heap.size w w' := by
  rw [show l.any p = decide (0 ≤ Lib.idxBy (fun _ y => p y) l default) from (Lib.idxBy_nonneg_iff (fun _ y => p y) l default).symm]
  have hcon := idxEdge_at p g lb eg A c l w hp hr
  generalize Lib.idxBy (fun _ y => p y) l default = r at hcon ⊢
  go_enter Try.func62, Try.ntmps62
  go_wp2_with (go_at_call 84; refine hcon.mono ?_; rintro e w' ⟨rfl, hb'⟩)
  go_ret
  exact ⟨by simp, hb'⟩
end

/-! ### impl_isNode: function 64 -/
def impl_isNode.f (a0 : Int) (a1 : Int) : Option (Bool) := if a1 ≥ 0 then (some (decide (a1 < a0))) else (some false)
set_option maxHeartbeats 8000000 in
set_option maxRecDepth 100000 in
theorem impl_isNode.calls (a0 : Int) (a1 : Int) (r : Bool) (w : World) (h : impl_isNode.f a0 a1 = some r) :
    Calls Try.prog 64 #[.int .i64 a0, .int .i64 a1] w fun e w' => e = .returned (.bool r) ∧ Drawn0 w w' := by
  have H : (if a1 ≥ 0 then (some (decide (a1 < a0))) else (some false)) = some r := h
  clear h
  by_cases c3 : a1 ≥ 0
  · rw [if_pos c3] at H
    have c3b0 : decide (0 ≤ a1) = true := decide_eq_true c3
    clear c3
    obtain rfl := Option.some.inj H
    go_enter Try.func64, Try.ntmps64
    go_wp2
    go_ret
    exact ⟨by first | rfl | (simp; done) | (simp [*]; done), by repeat (first | exact Drawn0.refl _ | apply Drawn0.step)⟩
  rw [if_neg c3] at H
  have c3b0 : decide (0 ≤ a1) = false := decide_eq_false c3
  clear c3
  obtain rfl := Option.some.inj H
  go_enter Try.func64, Try.ntmps64
  go_wp2
  go_ret
  exact ⟨by first | rfl | (simp; done) | (simp [*]; done), by repeat (first | exact Drawn0.refl _ | apply Drawn0.step)⟩

/-! ### impl_isWeight: function 65 -/
def impl_isWeight.f (a0 : Int) : Option (Bool) := if a0 > (-1000000) then (some (decide (a0 < 1000000))) else (some false)
set_option maxHeartbeats 8000000 in
set_option maxRecDepth 100000 in
theorem impl_isWeight.calls (a0 : Int) (r : Bool) (w : World) (h : impl_isWeight.f a0 = some r) :
    Calls Try.prog 65 #[.int .i64 a0] w fun e w' => e = .returned (.bool r) ∧ Drawn0 w w' := by
  have H : (if a0 > (-1000000) then (some (decide (a0 < 1000000))) else (some false)) = some r := h
  clear h
  by_cases c2 : a0 > (-1000000)
  · rw [if_pos c2] at H
    have c2b0 : decide ((-1000000) < a0) = true := decide_eq_true c2
    clear c2
    obtain rfl := Option.some.inj H
    go_enter Try.func65, Try.ntmps65
    go_wp2
    go_ret
    exact ⟨by first | rfl | (simp; done) | (simp [*]; done), by repeat (first | exact Drawn0.refl _ | apply Drawn0.step)⟩
  rw [if_neg c2] at H
  have c2b0 : decide ((-1000000) < a0) = false := decide_eq_false c2
  clear c2
  obtain rfl := Option.some.inj H
  go_enter Try.func65, Try.ntmps65
  go_wp2
  go_ret
  exact ⟨by first | rfl | (simp; done) | (simp [*]; done), by repeat (first | exact Drawn0.refl _ | apply Drawn0.step)⟩

/-! ### impl_GraphOk: function 17 -/
section
open Go.Shelf Go.Lib
def gNodeB (n x : Int) : Bool := decide (0 ≤ x ∧ x < n)
theorem gNodeB_calls (n x : Int) (w : World) : Calls Try.prog 64 #[.int .i64 n, .int .i64 x] w fun e w' => e = .returned (.bool (gNodeB n x)) ∧ w = w' := by
  by_cases h1 : 0 ≤ x
  rotate_left
  · rw [show gNodeB n x = false from decide_eq_false (fun h => h1 h.1)]
    go_enter Try.func64, Try.ntmps64
    go_wp2
    go_ret
    exact ⟨by simp, rfl⟩
  by_cases h2 : x < n
  · rw [show gNodeB n x = true from decide_eq_true ⟨h1, h2⟩]
    go_enter Try.func64, Try.ntmps64
    go_wp2
    go_ret
    exact ⟨by simp, rfl⟩
  rw [show gNodeB n x = false from decide_eq_false (fun h => h2 h.2)]
  go_enter Try.func64, Try.ntmps64
  go_wp2
  go_ret
  exact ⟨by simp, rfl⟩
def gWeightB (x : Int) : Bool := decide (-1000000 < x ∧ x < 1000000)
theorem gWeightB_calls (x : Int) (w : World) : Calls Try.prog 65 #[.int .i64 x] w fun e w' => e = .returned (.bool (gWeightB x)) ∧ w = w' := by
  by_cases h1 : -1000000 < x
  rotate_left
  · rw [show gWeightB x = false from decide_eq_false (fun h => h1 h.1)]
    go_enter Try.func65, Try.ntmps65
    go_wp2
    go_ret
    exact ⟨by simp, rfl⟩
  by_cases h2 : x < 1000000
  · rw [show gWeightB x = true from decide_eq_true ⟨h1, h2⟩]
    go_enter Try.func65, Try.ntmps65
    go_wp2
    go_ret
    exact ⟨by simp, rfl⟩
  rw [show gWeightB x = false from decide_eq_false (fun h => h2 h.2)]
  go_enter Try.func65, Try.ntmps65
  go_wp2
  go_ret
  exact ⟨by simp, rfl⟩
def badEdge (n : Int) (e : S39) : Bool := !gNodeB n e.f0 || (!gNodeB n e.f1 || !gWeightB e.f2)
theorem badEdge_calls (n : Int) (B : Nat) (x : S39) (W : World) (hBW : B < W.heap.size) (hc : W.cell? ⟨B, 0, none⟩ = some (.int .i64 n)) :
    Calls Try.prog 63 #[.agg #[.int .i64 x.f0, .int .i64 x.f1, .int .i64 x.f2], .pointer (some ⟨B, 0, none⟩)] W fun e w' => e = .returned (.bool (badEdge n x)) ∧ Below W.heap.size W w' := by
  have hne : B ≠ W.heap.size := by omega
  obtain ⟨a, b, c⟩ := x
  show Calls Try.prog 63 #[.agg #[.int .i64 a, .int .i64 b, .int .i64 c], .pointer (some ⟨B, 0, none⟩)] W _
  obtain ⟨r1, h1⟩ : ∃ r, gNodeB n a = r := ⟨_, rfl⟩
  obtain ⟨r2, h2⟩ : ∃ r, gNodeB n b = r := ⟨_, rfl⟩
  obtain ⟨r3, h3⟩ : ∃ r, gWeightB c = r := ⟨_, rfl⟩
  have k1 := gNodeB_calls n a
  have k2 := gNodeB_calls n b
  have k3 := gWeightB_calls c
  rw [show badEdge n ⟨a, b, c⟩ = (!r1 || (!r2 || !r3)) by simp [badEdge, h1, h2, h3]]
  rw [h1] at k1
  rw [h2] at k2
  rw [h3] at k3
  clear h1 h2 h3
  cases r1 <;> cases r2 <;> cases r3
  all_goals
    go_enter Try.func63, Try.ntmps63
    go_wp2_with (first | (go_at_call 64; (with_reducible refine (k1 _).mono ?_); rintro e w' ⟨rfl, rfl⟩) | (go_at_call 64; (with_reducible refine (k2 _).mono ?_); rintro e w' ⟨rfl, rfl⟩) | (go_at_call 65; (with_reducible refine (k3 _).mono ?_); rintro e w' ⟨rfl, rfl⟩))
    go_ret
    exact ⟨by simp, (Below.refl _ W).alloc (Nat.le_refl _) _⟩
def impl_GraphOk.f (a0_0 : Int) (l0_1 : List (S39)) : Option (Bool) := some (if a0_0 < 0 then false else if a0_0 > 8 then false else if (l0_1.length : Int) > 80 then false else !(l0_1.any (badEdge a0_0)))
theorem impl_GraphOk.calls (a0_0 : Int) (A0_1 : Option Addr) (c0_1 : Nat) (l0_1 : List (S39)) (r : Bool) (w : World) (hr0_1 : Kd.C k39 w A0_1 l0_1.length l0_1) (hc0_1 : l0_1.length ≤ c0_1) (h : impl_GraphOk.f a0_0 l0_1 = some r) :
    Calls Try.prog 17 #[.agg #[.int .i64 a0_0, .slice A0_1 l0_1.length c0_1]] w fun e w' => e = .returned (.bool r) ∧ Below w.heap.size w w' := by
  obtain rfl := Option.some.inj h
  clear h
  by_cases h0 : a0_0 < 0
  · rw [if_pos h0]
    have h0 : decide (a0_0 < 0) = true := decide_eq_true h0
    go_enter Try.func17, Try.ntmps17
    go_wp2
    go_ret
    exact ⟨by simp, (Below.refl _ w).alloc (Nat.le_refl _) _⟩
  rw [if_neg h0]
  replace h0 : decide (a0_0 < 0) = false := decide_eq_false h0
  by_cases h1 : a0_0 > 8
  · rw [if_pos h1]
    have h1 : decide (8 < a0_0) = true := decide_eq_true h1
    go_enter Try.func17, Try.ntmps17
    go_wp2
    go_ret
    exact ⟨by simp, (Below.refl _ w).alloc (Nat.le_refl _) _⟩
  rw [if_neg h1]
  replace h1 : decide (8 < a0_0) = false := decide_eq_false h1
  by_cases h2 : (l0_1.length : Int) > 80
  · rw [if_pos h2]
    have h2 : decide (80 < (l0_1.length : Int)) = true := decide_eq_true h2
    go_enter Try.func17, Try.ntmps17
    go_wp2
    go_ret
    exact ⟨by simp, (Below.refl _ w).alloc (Nat.le_refl _) _⟩
  rw [if_neg h2]
  replace h2 : decide (80 < (l0_1.length : Int)) = false := decide_eq_false h2
  have eg : ∀ args w, (callFunc 63 args).run Try.prog w = .ok (.enter 63 args) w := enters_of Try.func63 (by kernel_rfl) rfl
  have hcon := anyEdge_at (badEdge a0_0) 63 #[.pointer (some ⟨w.heap.size, 0, none⟩)] eg A0_1 c0_1 l0_1 (w.alloc (.cells #[.int .i64 a0_0, .slice A0_1 l0_1.length c0_1] 25))
    (fun W x _ hb => (badEdge_calls a0_0 w.heap.size x W (Nat.lt_of_lt_of_le (by simp) hb.size) ((hb.cell (p := ⟨w.heap.size, 0, none⟩) (by simp)).trans (by simp))).mono fun e w' ⟨he, h⟩ => ⟨he, hb.trans (h.mono hb.size)⟩) (Kd.C_alloc hr0_1 _)
  generalize l0_1.any (badEdge a0_0) = r at hcon ⊢
  go_enter Try.func17, Try.ntmps17
  go_wp2_with (go_at_call 62; refine hcon.mono ?_; rintro e w' ⟨rfl, hb'⟩)
  go_ret
  exact ⟨by simp, ((Below.refl _ w).alloc (Nat.le_refl _) _).trans (hb'.mono (by simp))⟩
end

end Go.Proofs.Ytegkkbncnmakaaa.QFnExactShortestFrom
