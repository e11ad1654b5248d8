-- Written by this session's program wip/tools/mk.py out of the translation; Lean checks it.
import Derived.Test.YtbbblnmngjhadaaQFnExactWindowOfx0
import Derived.Test.YtbbblnmngjhadaaQFnExactWindowOfx1
namespace Go.Proofs.Ytbbblnmngjhadaa.QFnExactWindowOf
open Go.RowKit Go.Proofs.YtbbblnmngjhadaaW.PrintWords Go.Proofs.YtbbblnmngjhadaaW.PrintLast Go.Proofs.YtbbblnmngjhadaaW.PrintMore
attribute [local go_sem] max2_int min2_int max_two min_two max_three min_three max_four min_four   -- for this text's walks alone
set_option linter.unusedVariables false
set_option linter.unusedSimpArgs false

/-! ### spec_GraphOk: function 55 -/
mutual
def spec_GraphOk.j0 : Nat → Bool → Int → List (S70) → Option (Bool)
  | 0, _, _, _ => none
  | k + 1, x14, x138000, x138001 => if x14 = true then (some false) else (spec_GraphOk.l0 k x138001 (x138001.length : Int) 0 x138000 x138001)
def spec_GraphOk.l0 : Nat → List (S70) → Int → Int → Int → List (S70) → Option (Bool)
  | 0, _, _, _, _, _ => none
  | k + 1, x16, x17, x18, x138000, x138001 => if x18 < x17 then (if 0 ≤ x18 then (if x18 < (x16.length : Int) then ((spec_l01In.f ((rd_T70 x16 x18).f0) 0 (wrap64 (x138000 - 1))).bind fun t141 => (if t141 = true then ((spec_l01In.f ((rd_T70 x16 x18).f1) 0 (wrap64 (x138000 - 1))).bind fun t142 => (if t142 = true then ((spec_l01In.f ((rd_T70 x16 x18).f2) (-999999) 999999).bind fun t143 => (if t143 = true then (spec_GraphOk.l0 k x16 x17 (wrap64 (x18 + 1)) x138000 x138001) else (some false))) else (some false))) else (some false))) else (none)) else (none)) else (some true)
end
def spec_GraphOk.f (k : Nat) (a0_0 : Int) (l0_1 : List (S70)) : Option (Bool) := (spec_l01In.f a0_0 0 8).bind fun t138 => (if t138 = true then (spec_GraphOk.j0 k (decide ((l0_1.length : Int) > 80)) a0_0 l0_1) else (spec_GraphOk.j0 k true a0_0 l0_1))
theorem spec_GraphOk.mono_l : ∀ k, (∀ y0 y1 y2, LeO (spec_GraphOk.j0 k y0 y1 y2) (spec_GraphOk.j0 (k + 1) y0 y1 y2)) ∧ (∀ y0 y1 y2 y3 y4, LeO (spec_GraphOk.l0 k y0 y1 y2 y3 y4) (spec_GraphOk.l0 (k + 1) y0 y1 y2 y3 y4))
  | 0 => ⟨fun _ _ _ r h => by simp [spec_GraphOk.j0] at h, fun _ _ _ _ _ r h => by simp [spec_GraphOk.l0] at h⟩
  | k + 1 => by
    obtain ⟨ih0, ih1⟩ := spec_GraphOk.mono_l k
    refine ⟨?_, ?_⟩
    · intro y0 y1 y2
      unfold spec_GraphOk.j0
      repeat' first|(with_reducible first|exact ih0 _ _ _|exact ih1 _ _ _ _ _|exact lR _|exact lN _|refine lI ?_ ?_|refine lB ?_ (fun _ => ?_))|exact ih0 _ _ _|exact ih1 _ _ _ _ _|exact lN _|refine lI ?_ ?_|refine lB ?_ (fun _ => ?_)
    · intro y0 y1 y2 y3 y4
      unfold spec_GraphOk.l0
      repeat' first|(with_reducible first|exact ih0 _ _ _|exact ih1 _ _ _ _ _|exact lR _|exact lN _|refine lI ?_ ?_|refine lB ?_ (fun _ => ?_))|exact ih0 _ _ _|exact ih1 _ _ _ _ _|exact lN _|refine lI ?_ ?_|refine lB ?_ (fun _ => ?_)
theorem spec_GraphOk.mono : ∀ a0 a1 k, LeO (spec_GraphOk.f k a0 a1) (spec_GraphOk.f (k + 1) a0 a1) := by
  intro a0 a1 k
  obtain ⟨ih0, ih1⟩ := spec_GraphOk.mono_l k
  unfold spec_GraphOk.f
  repeat' first|(with_reducible first|exact ih0 _ _ _|exact ih1 _ _ _ _ _|exact lR _|exact lN _|refine lI ?_ ?_|refine lB ?_ (fun _ => ?_))|exact ih0 _ _ _|exact ih1 _ _ _ _ _|exact lN _|refine lI ?_ ?_|refine lB ?_ (fun _ => ?_)
set_option maxHeartbeats 8000000 in
set_option maxRecDepth 100000 in
theorem spec_GraphOk.calls (k : Nat) (a0_0 : Int) (A0_1 : Option Addr) (c0_1 : Nat) (l0_1 : List (S70)) (r : Bool) (w : World) (hr0_1 : Kd.C k70 w A0_1 l0_1.length l0_1) (hc0_1 : l0_1.length ≤ c0_1) (h : spec_GraphOk.f k a0_0 l0_1 = some r) :
    Calls Try.prog 55 #[.agg #[.int .i64 a0_0, .slice A0_1 l0_1.length c0_1]] w fun e w' => e = .returned (.bool r) ∧ Below w.heap.size w w' := by
 have hu33 := Try.underlying33
 have hu70 := Try.underlying70
 have HR0_1 := mK hr0_1
 have HC0_1 := mK hc0_1
 clear hr0_1 hc0_1
 have HB := mK (Below.refl w.heap.size w)
 have H : ((spec_l01In.f a0_0 0 8).bind fun t138 => (if t138 = true then (spec_GraphOk.j0 k (decide ((l0_1.length : Int) > 80)) a0_0 l0_1) else (spec_GraphOk.j0 k true a0_0 l0_1))) = some r := h
 clear h
 have HC2 := mK H
 clear H
 go_enter Try.func55, Try.ntmps55
 go_upto_region 1 with (first | ((with_reducible refine gate_dst (N := 1) rfl ?_); (try (refine gate_guard (by rfl) ?_; dsimp only)); refine box_event ?hg (N := 1) ?hd (cs := #[.int .i64 a0_0, .slice A0_1 l0_1.length c0_1]) (t := 33) ?hr ?_; (case hd => rfl); (case hg => rfl); (case hr => go_simp <;> rfl); intro gb137 hg w3 hbox hb; have BK137 := mK hbox; have GW137 := mK (gX hg HB); have GE137 := mK (gX hg HB); replace HB := bB HB hb; clear hb hbox hg))
 (try simp only [Act.put, sT, sZ, sU])
 go_cut [14] (fun v14 wc => ∃ (kq : Nat) (x14_1 : Bool), v14 = .bool x14_1 ∧ Aside0 (spec_GraphOk.j0 kq x14_1 a0_0 l0_1 = some r) ∧ Aside0 (kq ≤ k) ∧ Aside0 (wc.heap[gb137]? = some (.cells #[.int .i64 a0_0, (.slice A0_1 l0_1.length c0_1)] 33 (0, 0))) ∧ Aside0 (Below w.heap.size w wc))
 case first => (
 have H := HC2.out
 clear HC2
 replace H := Option.bind_eq_some_iff.mp H
 obtain ⟨t138, A40, H⟩ := H
 replace H : (if t138 = true then (spec_GraphOk.j0 k (decide ((l0_1.length : Int) > 80)) a0_0 l0_1) else (spec_GraphOk.j0 k true a0_0 l0_1)) = some r := H
 have A4 := mK A40
 clear A40
 by_cases c5 : t138 = true
 {
 subst c5
 rw [if_pos rfl] at H
 have H' := mK H
 clear H
 have hcz6_0 := q0 BK137
 have hcz6_1 := q1 BK137
 have hfz6_0 := fX BK137 0
 have hfz6_1 := fX BK137 1
 go_wp2_with (first | ((with_reducible refine gate_callee (f := 96) rfl ?_); refine gsE (some 7) Try.func96 #[.int .i64 a0_0, .int .i64 0, .int .i64 8] ?_; (with_reducible refine (spec_l01In.calls a0_0 0 8 true _ A4.out).mono ?_); rintro e w' ⟨rfl, ⟨nd, rfl⟩⟩; refine ⟨_, rfl, ?_⟩))
 go_meet
 case rel => exact ⟨_, (decide ((l0_1.length : Int) > 80)), (by first | rfl | (simp; done) | (simp [*]; done)), H', ⟨by first | omega | exact Nat.le_refl _⟩, ⟨kX BK137⟩, ⟨bX HB⟩⟩
 }
 replace c5 := Bool.eq_false_iff.mpr c5
 subst c5
 rw [if_neg (show ¬ (false = true) by decide)] at H
 have H' := mK H
 clear H
 have hcz7_0 := q0 BK137
 have hcz7_1 := q1 BK137
 have hfz7_0 := fX BK137 0
 have hfz7_1 := fX BK137 1
 go_wp2_with (first | ((with_reducible refine gate_callee (f := 96) rfl ?_); refine gsE (some 7) Try.func96 #[.int .i64 a0_0, .int .i64 0, .int .i64 8] ?_; (with_reducible refine (spec_l01In.calls a0_0 0 8 false _ A4.out).mono ?_); rintro e w' ⟨rfl, ⟨nd, rfl⟩⟩; refine ⟨_, rfl, ?_⟩))
 go_meet
 case rel => exact ⟨_, (true), (by first | rfl | (simp; done) | (simp [*]; done)), H', ⟨by first | omega | exact Nat.le_refl _⟩, ⟨kX BK137⟩, ⟨bX HB⟩⟩
 )
 case rest => (
 clear HC2
 try clear p2
 try clear c5
 try clear hcz6_0
 try clear hcz6_1
 try clear hcz7_0
 try clear hcz7_1
 try clear hfz6_0
 try clear hfz6_1
 try clear hfz7_0
 try clear hfz7_1
 obtain ⟨kq, x14_1, rfl, HA, HJ1, BK137, HB⟩ := hcut
 cases kq with
 | zero => exact absurd HA.out (by simp [spec_GraphOk.j0])
 | succ kj1 => (
 have H := HA.out
 clear HA
 simp only [spec_GraphOk.j0] at H
 by_cases c8 : x14_1 = true
 {
 subst c8
 rw [if_pos rfl] at H
 obtain rfl := Option.some.inj H
 go_wp2
 go_ret
 exact ⟨by first | rfl | (simp [errW_none, errW_some] <;> rfl) | (simp [*, errW_none, errW_some] <;> rfl), bX HB⟩
 }
 replace c8 := Bool.eq_false_iff.mpr c8
 subst c8
 rw [if_neg (show ¬ (false = true) by decide)] at H
 have H' := mK H
 clear H
 have hcz9_0 := q0 BK137
 have hcz9_1 := q1 BK137
 have hfz9_0 := fX BK137 0
 have hfz9_1 := fX BK137 1
 go_wp2
 go_loopg [18] kj1 (fun kq v18 w' => ∃ (x18_2 : Int), v18 = .int .i64 x18_2 ∧ Aside0 (spec_GraphOk.l0 kq l0_1 (l0_1.length : Int) x18_2 a0_0 l0_1 = some r) ∧ Aside0 (kq ≤ kj1) ∧ Aside0 (w'.heap[gb137]? = some (.cells #[.int .i64 a0_0, (.slice A0_1 l0_1.length c0_1)] 33 (0, 0))) ∧ Aside0 (Below w.heap.size w w'))
 case atStart => exact ⟨(0), (by first | rfl | (simp; done) | (simp [*]; done)), H', ⟨Nat.le_refl _⟩, ⟨kX BK137⟩, ⟨bX HB⟩⟩
 case round => (
 clear H'
 try clear p2
 try clear c5
 try clear c8
 try clear c9
 try clear hcz6_0
 try clear hcz6_1
 try clear hcz7_0
 try clear hcz7_1
 try clear hcz9_0
 try clear hcz9_1
 try clear hfz6_0
 try clear hfz6_1
 try clear hfz7_0
 try clear hfz7_1
 try clear hfz9_0
 try clear hfz9_1
 try clear p2
 obtain ⟨x18_2, rfl, HA, HK2, BK137, HB⟩ := hrel
 cases gk with
 | zero => exact absurd HA.out (by simp [spec_GraphOk.l0])
 | succ k2 => (
 have H := HA.out
 clear HA
 simp only [spec_GraphOk.l0] at H
 by_cases c10 : x18_2 < (l0_1.length : Int)
 rotate_left
 {
 rw [if_neg c10] at H
 have c10b0 : decide (x18_2 < (l0_1.length : Int)) = false := decide_eq_false c10
 clear c10
 obtain rfl := Option.some.inj H
 go_wp2
 go_ret
 exact ⟨by first | rfl | (simp [errW_none, errW_some] <;> rfl) | (simp [*, errW_none, errW_some] <;> rfl), bX HB⟩
 }
 rw [if_pos c10] at H
 have c10b0 : decide (x18_2 < (l0_1.length : Int)) = true := decide_eq_true c10
 clear c10
 by_cases c11 : 0 ≤ x18_2
 rotate_left
 {
 rw [if_neg c11] at H
 exact absurd H (by simp)
 }
 rw [if_pos c11] at H
 have c11b0 : decide (0 ≤ x18_2) = true := decide_eq_true c11
 clear c11
 by_cases c12 : x18_2 < (l0_1.length : Int)
 rotate_left
 {
 rw [if_neg c12] at H
 exact absurd H (by simp)
 }
 rw [if_pos c12] at H
 have c12b0 : decide (x18_2 < (l0_1.length : Int)) = true := decide_eq_true c12
 clear c12
 replace H := Option.bind_eq_some_iff.mp H
 obtain ⟨t141, A130, H⟩ := H
 replace H : (if t141 = true then ((spec_l01In.f ((rd_T70 l0_1 x18_2).f1) 0 (wrap64 (a0_0 - 1))).bind fun t142 => (if t142 = true then ((spec_l01In.f ((rd_T70 l0_1 x18_2).f2) (-999999) 999999).bind fun t143 => (if t143 = true then (spec_GraphOk.l0 k2 l0_1 (l0_1.length : Int) (wrap64 (x18_2 + 1)) a0_0 l0_1) else (some false))) else (some false))) else (some false)) = some r := H
 have A13 := mK A130
 clear A130
 by_cases c14 : t141 = true
 rotate_left
 {
 replace c14 := Bool.eq_false_iff.mpr c14
 subst c14
 rw [if_neg (show ¬ (false = true) by decide)] at H
 obtain rfl := Option.some.inj H
 have p139 : 0 ≤ (x18_2 : Int) := of_decide_eq_true oX
 have q139 : x18_2 < (l0_1.length : Int) := of_decide_eq_true oX
 obtain ⟨ad139, e139, hx139_0, hx139_1, hx139_2⟩ := at_T70 HR0_1.out x18_2 p139 q139
 cases e139
 replace hx139_0 := (HB.out.cell (World.block_lt_of_cell? w _ hx139_0)).trans hx139_0
 replace hx139_1 := (HB.out.cell (World.block_lt_of_cell? w _ hx139_1)).trans hx139_1
 replace hx139_2 := (HB.out.cell (World.block_lt_of_cell? w _ hx139_2)).trans hx139_2
 replace p139 := eq_true p139
 replace q139 := eq_true q139
 go_wp2_with (first | ((with_reducible refine gate_dst (N := 4) rfl ?_); (try (refine gate_guard (by rfl) ?_; dsimp only)); refine box_event ?hg (N := 4) ?hd (cs := #[.int .i64 0, .int .i64 0, .int .i64 0]) (t := 70) ?hr ?_; (case hd => rfl); (case hg => rfl); (case hr => go_simp <;> rfl); intro gb140 hg w31 hbox hb; have BK140 := mK hbox; have GW140 := mK (gX hg HB); have GE140 := mK (gX hg HB); replace HB := bB HB hb; have NB137_140 := mK (lX hg BK137); have NB140_137 := mK (mX hg BK137); replace BK137 := kB BK137 hb; clear hb hbox hg; have hnb32 := NB140_137.out; have hnc32 := NB137_140.out; have hcz33_0 := q0 BK140; have hcz33_1 := q1 BK140; have hcz33_2 := q2 BK140; have hfz33_0 := fX BK140 0; have hfz33_1 := fX BK140 1; have hfz33_2 := fX BK140 2; have hcz34_0 := q0 BK137; have hcz34_1 := q1 BK137; have hfz34_0 := fX BK137 0; have hfz34_1 := fX BK137 1) | ((with_reducible refine gate_callee (f := 96) rfl ?_); refine gsE (some 27) Try.func96 #[.int .i64 ((rd_T70 l0_1 x18_2).f0), .int .i64 0, .int .i64 (wrap64 (a0_0 - 1))] ?_; (with_reducible refine (spec_l01In.calls ((rd_T70 l0_1 x18_2).f0) 0 (wrap64 (a0_0 - 1)) false _ A13.out).mono ?_); rintro e w' ⟨rfl, ⟨nd, rfl⟩⟩; refine ⟨_, rfl, ?_⟩))
 go_ret
 exact ⟨by first | rfl | (simp [errW_none, errW_some] <;> rfl) | (simp [*, errW_none, errW_some] <;> rfl), bX HB⟩
 }
 subst c14
 rw [if_pos rfl] at H
 replace H := Option.bind_eq_some_iff.mp H
 obtain ⟨t142, A150, H⟩ := H
 replace H : (if t142 = true then ((spec_l01In.f ((rd_T70 l0_1 x18_2).f2) (-999999) 999999).bind fun t143 => (if t143 = true then (spec_GraphOk.l0 k2 l0_1 (l0_1.length : Int) (wrap64 (x18_2 + 1)) a0_0 l0_1) else (some false))) else (some false)) = some r := H
 have A15 := mK A150
 clear A150
 by_cases c16 : t142 = true
 rotate_left
 {
 replace c16 := Bool.eq_false_iff.mpr c16
 subst c16
 rw [if_neg (show ¬ (false = true) by decide)] at H
 obtain rfl := Option.some.inj H
 have p139 : 0 ≤ (x18_2 : Int) := of_decide_eq_true oX
 have q139 : x18_2 < (l0_1.length : Int) := of_decide_eq_true oX
 obtain ⟨ad139, e139, hx139_0, hx139_1, hx139_2⟩ := at_T70 HR0_1.out x18_2 p139 q139
 cases e139
 replace hx139_0 := (HB.out.cell (World.block_lt_of_cell? w _ hx139_0)).trans hx139_0
 replace hx139_1 := (HB.out.cell (World.block_lt_of_cell? w _ hx139_1)).trans hx139_1
 replace hx139_2 := (HB.out.cell (World.block_lt_of_cell? w _ hx139_2)).trans hx139_2
 replace p139 := eq_true p139
 replace q139 := eq_true q139
 go_wp2_with (first | ((with_reducible refine gate_dst (N := 4) rfl ?_); (try (refine gate_guard (by rfl) ?_; dsimp only)); refine box_event ?hg (N := 4) ?hd (cs := #[.int .i64 0, .int .i64 0, .int .i64 0]) (t := 70) ?hr ?_; (case hd => rfl); (case hg => rfl); (case hr => go_simp <;> rfl); intro gb140 hg w27 hbox hb; have BK140 := mK hbox; have GW140 := mK (gX hg HB); have GE140 := mK (gX hg HB); replace HB := bB HB hb; have NB137_140 := mK (lX hg BK137); have NB140_137 := mK (mX hg BK137); replace BK137 := kB BK137 hb; clear hb hbox hg; have hnb28 := NB140_137.out; have hnc28 := NB137_140.out; have hcz29_0 := q0 BK140; have hcz29_1 := q1 BK140; have hcz29_2 := q2 BK140; have hfz29_0 := fX BK140 0; have hfz29_1 := fX BK140 1; have hfz29_2 := fX BK140 2; have hcz30_0 := q0 BK137; have hcz30_1 := q1 BK137; have hfz30_0 := fX BK137 0; have hfz30_1 := fX BK137 1) | ((with_reducible refine gate_callee (f := 96) rfl ?_); refine gsE (some 27) Try.func96 #[.int .i64 ((rd_T70 l0_1 x18_2).f0), .int .i64 0, .int .i64 (wrap64 (a0_0 - 1))] ?_; (with_reducible refine (spec_l01In.calls ((rd_T70 l0_1 x18_2).f0) 0 (wrap64 (a0_0 - 1)) true _ A13.out).mono ?_); rintro e w' ⟨rfl, ⟨nd, rfl⟩⟩; refine ⟨_, rfl, ?_⟩) | (go_at_call 96; (with_reducible refine (spec_l01In.calls ((rd_T70 l0_1 x18_2).f1) 0 (wrap64 (a0_0 - 1)) false _ A15.out).mono ?_); rintro e w' ⟨rfl, ⟨nd, rfl⟩⟩))
 go_ret
 exact ⟨by first | rfl | (simp [errW_none, errW_some] <;> rfl) | (simp [*, errW_none, errW_some] <;> rfl), bX HB⟩
 }
 subst c16
 rw [if_pos rfl] at H
 replace H := Option.bind_eq_some_iff.mp H
 obtain ⟨t143, A170, H⟩ := H
 replace H : (if t143 = true then (spec_GraphOk.l0 k2 l0_1 (l0_1.length : Int) (wrap64 (x18_2 + 1)) a0_0 l0_1) else (some false)) = some r := H
 have A17 := mK A170
 clear A170
 by_cases c18 : t143 = true
 rotate_left
 {
 replace c18 := Bool.eq_false_iff.mpr c18
 subst c18
 rw [if_neg (show ¬ (false = true) by decide)] at H
 obtain rfl := Option.some.inj H
 have p139 : 0 ≤ (x18_2 : Int) := of_decide_eq_true oX
 have q139 : x18_2 < (l0_1.length : Int) := of_decide_eq_true oX
 obtain ⟨ad139, e139, hx139_0, hx139_1, hx139_2⟩ := at_T70 HR0_1.out x18_2 p139 q139
 cases e139
 replace hx139_0 := (HB.out.cell (World.block_lt_of_cell? w _ hx139_0)).trans hx139_0
 replace hx139_1 := (HB.out.cell (World.block_lt_of_cell? w _ hx139_1)).trans hx139_1
 replace hx139_2 := (HB.out.cell (World.block_lt_of_cell? w _ hx139_2)).trans hx139_2
 replace p139 := eq_true p139
 replace q139 := eq_true q139
 go_wp2_with (first | ((with_reducible refine gate_dst (N := 4) rfl ?_); (try (refine gate_guard (by rfl) ?_; dsimp only)); refine box_event ?hg (N := 4) ?hd (cs := #[.int .i64 0, .int .i64 0, .int .i64 0]) (t := 70) ?hr ?_; (case hd => rfl); (case hg => rfl); (case hr => go_simp <;> rfl); intro gb140 hg w23 hbox hb; have BK140 := mK hbox; have GW140 := mK (gX hg HB); have GE140 := mK (gX hg HB); replace HB := bB HB hb; have NB137_140 := mK (lX hg BK137); have NB140_137 := mK (mX hg BK137); replace BK137 := kB BK137 hb; clear hb hbox hg; have hnb24 := NB140_137.out; have hnc24 := NB137_140.out; have hcz25_0 := q0 BK140; have hcz25_1 := q1 BK140; have hcz25_2 := q2 BK140; have hfz25_0 := fX BK140 0; have hfz25_1 := fX BK140 1; have hfz25_2 := fX BK140 2; have hcz26_0 := q0 BK137; have hcz26_1 := q1 BK137; have hfz26_0 := fX BK137 0; have hfz26_1 := fX BK137 1) | ((with_reducible refine gate_callee (f := 96) rfl ?_); refine gsE (some 27) Try.func96 #[.int .i64 ((rd_T70 l0_1 x18_2).f0), .int .i64 0, .int .i64 (wrap64 (a0_0 - 1))] ?_; (with_reducible refine (spec_l01In.calls ((rd_T70 l0_1 x18_2).f0) 0 (wrap64 (a0_0 - 1)) true _ A13.out).mono ?_); rintro e w' ⟨rfl, ⟨nd, rfl⟩⟩; refine ⟨_, rfl, ?_⟩) | (go_at_call 96; (with_reducible refine (spec_l01In.calls ((rd_T70 l0_1 x18_2).f1) 0 (wrap64 (a0_0 - 1)) true _ A15.out).mono ?_); rintro e w' ⟨rfl, ⟨nd, rfl⟩⟩) | (go_at_call 96; (with_reducible refine (spec_l01In.calls ((rd_T70 l0_1 x18_2).f2) (-999999) 999999 false _ A17.out).mono ?_); rintro e w' ⟨rfl, ⟨nd, rfl⟩⟩))
 go_ret
 exact ⟨by first | rfl | (simp [errW_none, errW_some] <;> rfl) | (simp [*, errW_none, errW_some] <;> rfl), bX HB⟩
 }
 subst c18
 rw [if_pos rfl] at H
 have H' := mK H
 clear H
 have p139 : 0 ≤ (x18_2 : Int) := of_decide_eq_true oX
 have q139 : x18_2 < (l0_1.length : Int) := of_decide_eq_true oX
 obtain ⟨ad139, e139, hx139_0, hx139_1, hx139_2⟩ := at_T70 HR0_1.out x18_2 p139 q139
 cases e139
 replace hx139_0 := (HB.out.cell (World.block_lt_of_cell? w _ hx139_0)).trans hx139_0
 replace hx139_1 := (HB.out.cell (World.block_lt_of_cell? w _ hx139_1)).trans hx139_1
 replace hx139_2 := (HB.out.cell (World.block_lt_of_cell? w _ hx139_2)).trans hx139_2
 replace p139 := eq_true p139
 replace q139 := eq_true q139
 go_wp2_with (first | ((with_reducible refine gate_dst (N := 4) rfl ?_); (try (refine gate_guard (by rfl) ?_; dsimp only)); refine box_event ?hg (N := 4) ?hd (cs := #[.int .i64 0, .int .i64 0, .int .i64 0]) (t := 70) ?hr ?_; (case hd => rfl); (case hg => rfl); (case hr => go_simp <;> rfl); intro gb140 hg w19 hbox hb; have BK140 := mK hbox; have GW140 := mK (gX hg HB); have GE140 := mK (gX hg HB); replace HB := bB HB hb; have NB137_140 := mK (lX hg BK137); have NB140_137 := mK (mX hg BK137); replace BK137 := kB BK137 hb; clear hb hbox hg; have hnb20 := NB140_137.out; have hnc20 := NB137_140.out; have hcz21_0 := q0 BK140; have hcz21_1 := q1 BK140; have hcz21_2 := q2 BK140; have hfz21_0 := fX BK140 0; have hfz21_1 := fX BK140 1; have hfz21_2 := fX BK140 2; have hcz22_0 := q0 BK137; have hcz22_1 := q1 BK137; have hfz22_0 := fX BK137 0; have hfz22_1 := fX BK137 1) | ((with_reducible refine gate_callee (f := 96) rfl ?_); refine gsE (some 27) Try.func96 #[.int .i64 ((rd_T70 l0_1 x18_2).f0), .int .i64 0, .int .i64 (wrap64 (a0_0 - 1))] ?_; (with_reducible refine (spec_l01In.calls ((rd_T70 l0_1 x18_2).f0) 0 (wrap64 (a0_0 - 1)) true _ A13.out).mono ?_); rintro e w' ⟨rfl, ⟨nd, rfl⟩⟩; refine ⟨_, rfl, ?_⟩) | (go_at_call 96; (with_reducible refine (spec_l01In.calls ((rd_T70 l0_1 x18_2).f1) 0 (wrap64 (a0_0 - 1)) true _ A15.out).mono ?_); rintro e w' ⟨rfl, ⟨nd, rfl⟩⟩) | (go_at_call 96; (with_reducible refine (spec_l01In.calls ((rd_T70 l0_1 x18_2).f2) (-999999) 999999 true _ A17.out).mono ?_); rintro e w' ⟨rfl, ⟨nd, rfl⟩⟩))
 go_roundg k2
 case measure => have := HJ1.out; have := HK2.out; omega
 case rel => exact ⟨(wrap64 (x18_2 + 1)), (by first | rfl | (simp; done) | (simp [*]; done)), H', ⟨by have := HJ1.out; have := HK2.out; omega⟩, ⟨kF BK137 NB137_140⟩, ⟨bX HB⟩⟩
 )
 )
 )
 )

end Go.Proofs.Ytbbblnmngjhadaa.QFnExactWindowOf
