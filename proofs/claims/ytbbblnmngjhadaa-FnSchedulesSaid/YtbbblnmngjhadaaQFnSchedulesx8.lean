-- Written by this session's program wip/tools/mk.py out of the translation; Lean checks it.
import Derived.Test.YtbbblnmngjhadaaQFnSchedulesx0
import Derived.Test.YtbbblnmngjhadaaQFnSchedulesx7
namespace Go.Proofs.Ytbbblnmngjhadaa.QFnSchedules
open Go.RowKit Go.Proofs.YtbbblnmngjhadaaW.PrintWords Go.Proofs.YtbbblnmngjhadaaW.PrintLast Go.Proofs.YtbbblnmngjhadaaW.PrintMore
attribute [local go_sem] max2_int min2_int max_two min_two max_three min_three max_four min_four   -- for this text's walks alone
set_option linter.unusedVariables false
set_option linter.unusedSimpArgs false

/-! ### spec_l05Draw: function 85 -/
mutual
def spec_l05Draw.l0 : Nat → Int → List Int → Int → Int → Int → List (S76) → Option (Int × (List (S76)) × Int × Int)
  | 0, _, _, _, _, _, _ => none
  | k + 1, x4, x1000, x1001, x1002, x287000, x287001 => if x4 < x287000 then ((spec_l01Below.f x1000 x1001 x1002 5).bind fun bt287 => ((spec_l01Below.f x1000 bt287.2.1 bt287.2.2 x4).bind fun bt290 => ((spec_l01Below.f x1000 bt290.2.1 bt290.2.2 6).bind fun bt293 => (if x287001.length < 4398046511104 then (spec_l05Draw.l0 k (wrap64 (x4 + 1)) x1000 bt293.2.1 bt293.2.2 x287000 (x287001 ++ [(⟨bt290.1, x4, (⟨bt287.1, wrap64 (bt287.1 + bt293.1)⟩ : S52)⟩ : S76)])) else (none))))) else ((spec_l01Below.f x1000 x1001 x1002 4).bind fun bt299 => (spec_l05Draw.l1 k bt299.1 x1000 bt299.2.1 bt299.2.2 x287000 x287001))
def spec_l05Draw.l1 : Nat → Int → List Int → Int → Int → Int → List (S76) → Option (Int × (List (S76)) × Int × Int)
  | 0, _, _, _, _, _, _ => none
  | k + 1, x6, x1000, x1001, x1002, x287000, x287001 => if x6 > 0 then ((spec_l01Below.f x1000 x1001 x1002 x287000).bind fun bt302 => ((spec_l01Below.f x1000 bt302.2.1 bt302.2.2 x287000).bind fun bt305 => ((spec_l02Draw.f x1000 bt305.2.1 bt305.2.2).bind fun bt308 => (if x287001.length < 4398046511104 then (spec_l05Draw.l1 k (wrap64 (x6 - 1)) x1000 bt308.2.2.1 bt308.2.2.2 x287000 (x287001 ++ [(⟨bt302.1, bt305.1, (⟨bt308.1, bt308.2.1⟩ : S52)⟩ : S76)])) else (none))))) else (some (x287000, x287001, x1001, x1002))
end
def spec_l05Draw.f (k : Nat) (s0_0 : List Int) (s0_1 : Int) (s0_2 : Int) : Option (Int × (List (S76)) × Int × Int) := (spec_l01Below.f s0_0 s0_1 s0_2 4).bind fun bt283 => (spec_l05Draw.l0 k 1 s0_0 bt283.2.1 bt283.2.2 (wrap64 (2 + bt283.1)) ([] : List (S76)))
theorem spec_l05Draw.mono_l : ∀ k, (∀ y0 y1 y2 y3 y4 y5, LeO (spec_l05Draw.l0 k y0 y1 y2 y3 y4 y5) (spec_l05Draw.l0 (k + 1) y0 y1 y2 y3 y4 y5)) ∧ (∀ y0 y1 y2 y3 y4 y5, LeO (spec_l05Draw.l1 k y0 y1 y2 y3 y4 y5) (spec_l05Draw.l1 (k + 1) y0 y1 y2 y3 y4 y5))
  | 0 => ⟨fun _ _ _ _ _ _ r h => by simp [spec_l05Draw.l0] at h, fun _ _ _ _ _ _ r h => by simp [spec_l05Draw.l1] at h⟩
  | k + 1 => by
    obtain ⟨ih0, ih1⟩ := spec_l05Draw.mono_l k
    refine ⟨?_, ?_⟩
    · intro y0 y1 y2 y3 y4 y5
      unfold spec_l05Draw.l0
      repeat' first|(with_reducible first|exact ih0 _ _ _ _ _ _|exact ih1 _ _ _ _ _ _|exact lR _|exact lN _|refine lI ?_ ?_|refine lB ?_ (fun _ => ?_))|exact ih0 _ _ _ _ _ _|exact ih1 _ _ _ _ _ _|exact lN _|refine lI ?_ ?_|refine lB ?_ (fun _ => ?_)
    · intro y0 y1 y2 y3 y4 y5
      unfold spec_l05Draw.l1
      repeat' first|(with_reducible first|exact ih0 _ _ _ _ _ _|exact ih1 _ _ _ _ _ _|exact lR _|exact lN _|refine lI ?_ ?_|refine lB ?_ (fun _ => ?_))|exact ih0 _ _ _ _ _ _|exact ih1 _ _ _ _ _ _|exact lN _|refine lI ?_ ?_|refine lB ?_ (fun _ => ?_)
theorem spec_l05Draw.mono : ∀ a0 a1 a2 k, LeO (spec_l05Draw.f k a0 a1 a2) (spec_l05Draw.f (k + 1) a0 a1 a2) := by
  intro a0 a1 a2 k
  obtain ⟨ih0, ih1⟩ := spec_l05Draw.mono_l k
  unfold spec_l05Draw.f
  repeat' first|(with_reducible first|exact ih0 _ _ _ _ _ _|exact ih1 _ _ _ _ _ _|exact lR _|exact lN _|refine lI ?_ ?_|refine lB ?_ (fun _ => ?_))|exact ih0 _ _ _ _ _ _|exact ih1 _ _ _ _ _ _|exact lN _|refine lI ?_ ?_|refine lB ?_ (fun _ => ?_)
def spec_l05Draw.T6 : Bool × List (List Nat × List Nat) := (true, [([], []), ([0], [0]), ([], []), ([], []), ([2, 3], [2, 3]), ([], []), ([], []), ([], []), ([], []), ([8, 4], [8]), ([7, 9], [7, 9]), ([6, 10], [6, 10]), ([4, 5, 11], [4, 5, 11]), ([12], [12]), ([1, 13, 9], [1, 13]), ([0, 1, 2, 3, 4, 5, 6, 7, 8, 9, 10, 11, 12, 13, 14], []), ([15, 14, 14, 0, 1, 2, 3, 4, 5, 6, 7, 8, 9, 10, 11, 12, 13, 14], [14, 15])])
def spec_l05Draw.B6 : List Nat := [0, 1, 0, 0, 12, 0, 0, 0, 0, 284, 924, 2012, 4092, 8188, 16383, 32767, 65535]
theorem spec_l05Draw.tab6 : rtab .any (opsOf Try.f85 6) = spec_l05Draw.T6 := by kernel_rfl
theorem spec_l05Draw.bits6 : waitsOk spec_l05Draw.T6.2 spec_l05Draw.B6 = true := by kernel_rfl
def spec_l05Draw.T10 : Bool × List (List Nat × List Nat) := (true, [([], []), ([0], [0]), ([], []), ([], []), ([3], [3]), ([2, 4], [2, 4]), ([], []), ([], []), ([7], [7]), ([6, 8, 5], [6, 8]), ([], []), ([10, 9], [10]), ([5, 9, 11], [5, 9, 11]), ([12], [12]), ([1, 13, 11], [1, 13]), ([0, 1, 2, 3, 4, 5, 6, 7, 8, 9, 10, 11, 12, 13, 14], []), ([15, 14, 14, 0, 1, 2, 3, 4, 5, 6, 7, 8, 9, 10, 11, 12, 13, 14], [14, 15])])
def spec_l05Draw.B10 : List Nat := [0, 1, 0, 0, 8, 28, 0, 0, 128, 508, 0, 2044, 4092, 8188, 16383, 32767, 65535]
theorem spec_l05Draw.tab10 : rtab .any (opsOf Try.f85 10) = spec_l05Draw.T10 := by kernel_rfl
theorem spec_l05Draw.bits10 : waitsOk spec_l05Draw.T10.2 spec_l05Draw.B10 = true := by kernel_rfl
set_option maxHeartbeats 8000000 in
set_option maxRecDepth 100000 in
theorem spec_l05Draw.calls (k : Nat) (g : Nat) (s0_0 : List Int) (s0_1 : Int) (s0_2 : Int) (r1 : Int) (r2 : List (S76)) (r3 : Int) (r4 : Int) (w0 w : World) (hI : IsS132 w0 w g s0_0 s0_1 s0_2) (hB : Below w0.heap.size w0 w) (h : spec_l05Draw.f k s0_0 s0_1 s0_2 = some (r1, r2, r3, r4)) :
    Calls Try.prog 85 #[.pointer (some ⟨g, 0, none⟩)] w fun e w' => ∃ v1_ : Value, e = .returned (.agg #[.int .i64 r1, v1_]) ∧ Kd.R k76 76 w' w.heap.size (fun _ => True) v1_ r2 ∧ IsS132 w0 w' g s0_0 r3 r4 ∧ Below w0.heap.size w0 w' ∧ KeepBut w w' g none := by
 have hu47 := Try.underlying47
 have hu52 := Try.underlying52
 have hu76 := Try.underlying76
 have HI0 := mK hI
 have HK := mK (KeepBut.refl w g none)
 have HL := mK hB.size
 clear hI
 have HW0 := mK hB.size
 have HB := mK hB
 clear hB
 have H : ((spec_l01Below.f s0_0 s0_1 s0_2 4).bind fun bt283 => (spec_l05Draw.l0 k 1 s0_0 bt283.2.1 bt283.2.2 (wrap64 (2 + bt283.1)) ([] : List (S76)))) = some (r1, r2, r3, r4) := h
 clear h
 replace H := Option.bind_eq_some_iff.mp H
 obtain ⟨⟨t283, t284, t285⟩, A20, H⟩ := H
 replace H : (spec_l05Draw.l0 k 1 s0_0 t284 t285 (wrap64 (2 + t283)) ([] : List (S76))) = some (r1, r2, r3, r4) := H
 have A2 := mK A20
 clear A20
 have H' := mK H
 clear H
 go_enter Try.func85, Try.ntmps85
 go_wp2_with (first | ((with_reducible refine gate_dst (N := 2) rfl ?_); refine bxE 2 #[.int .i64 0, .slice none 0 0] 47 ?_; intro gb282 hg w3 hbox hb; have n0_ := mK (IsS132.below (by repeat first|(with_reducible first|exact HI0.out|apply IsS132.alloc|apply IsS132.drewN|apply IsS132.drew|apply IsS132.set_1|apply IsS132.set_2)|exact HI0.out) hb); have n1_ := mK (KeepBut.trans (by repeat first|(with_reducible first|exact HK.out|apply KeepBut.set_|apply keep_drewN|apply keep_drew|apply keep_alloc)|exact HK.out) (KeepBut.of_below hb g none) (.inl rfl)); have n2_ := mK (below_step (by repeat (first | (with_reducible first | exact HB.out | apply below_alloc | apply pw_below_drewN | apply below_drew1 | refine below_set ?_ (IsS132.ge HI0.out)) | exact HB.out)) hb); have n3_ := mK hbox; have n4_ := mK ((by rw [hg]; exact (keep_size (w := w) (g := g) (row := none) (by repeat first|(with_reducible first|exact HK.out|apply KeepBut.set_|apply keep_drewN|apply keep_drew|apply keep_alloc)|exact HK.out)) : w.heap.size ≤ gb282)); have n5_ := mK ((Nat.le_trans HW0.out (by rw [hg]; exact (keep_size (w := w) (g := g) (row := none) (by repeat first|(with_reducible first|exact HK.out|apply KeepBut.set_|apply keep_drewN|apply keep_drew|apply keep_alloc)|exact HK.out)) : w.heap.size ≤ gb282) : w0.heap.size ≤ gb282)); have n6_ := mK ((by rw [hg]; exact Nat.ne_of_lt (IsS132.lt (show IsS132 w0 _ g s0_0 s0_1 s0_2 from by repeat first|(with_reducible first|exact HI0.out|apply IsS132.alloc|apply IsS132.drewN|apply IsS132.drew|apply IsS132.set_1|apply IsS132.set_2)|exact HI0.out)) : g ≠ gb282)); have n7_ := mK ((by rw [hg]; exact Nat.ne_of_gt (IsS132.lt (show IsS132 w0 _ g s0_0 s0_1 s0_2 from by repeat first|(with_reducible first|exact HI0.out|apply IsS132.alloc|apply IsS132.drewN|apply IsS132.drew|apply IsS132.set_1|apply IsS132.set_2)|exact HI0.out)) : gb282 ≠ g)); clear HI0; clear HK; clear HB; have HI0 := n0_; have HK := n1_; have HB := n2_; have BK282 := n3_; have GW282 := n4_; have GE282 := n5_; have NB0_282 := n6_; have NB282_0 := n7_; clear n0_ n1_ n2_ n3_ n4_ n5_ n6_ n7_; clear hb hbox hg) | ((with_reducible refine gate_callee (f := 93) rfl ?_); refine gsE (some 8) Try.func93 #[.pointer (some ⟨g, 0, none⟩), .int .i64 4] ?_; (with_reducible refine (spec_l01Below.calls g s0_0 s0_1 s0_2 4 t283 t284 t285 w0 _ ?side1 ?side2 A2.out).mono ?_); (case side1 => repeat (first | (with_reducible first | exact HI0.out | apply IsS132.alloc | apply IsS132.drewN | apply IsS132.drew | apply IsS132.set_1 | apply IsS132.set_2 | refine IsS132.far ?_ NB0_282.out _) | exact HI0.out)); (case side2 => repeat (first | (with_reducible first | exact HB.out | apply below_alloc | apply pw_below_drewN | apply below_drew1 | refine below_set ?_ (IsS132.ge HI0.out) | refine below_set ?_ GE282.out) | exact HB.out)); rintro e w4 ⟨rfl, hi, hb, hk⟩; refine ⟨_, rfl, ?_⟩; replace BK282 := mK (KeepBut.blk hk (g' := gb282) (o := .cells #[.int .i64 0, .slice none 0 0] 47 (0, 0)) (kX BK282) NB282_0.out (by simp)); replace HK := mK (KeepBut.trans (by repeat first|(with_reducible first|exact HK.out|apply KeepBut.set_|apply keep_drewN|apply keep_drew|apply keep_alloc|refine keep_far ?_ GW282.out _)|exact HK.out) hk (.inl rfl)); replace HB := mK (hb); replace HI0 := mK (hi); (try clear hb); (try clear hb2); (try clear hk); (try clear hi)) | ((with_reducible refine gate_dst (N := 3) rfl ?_); refine bxE 3 #[.int .i64 0, .slice none 0 0] 47 ?_; intro gb286 hg w5 hbox hb; have n0_ := mK (IsS132.below (by repeat first|(with_reducible first|exact HI0.out|apply IsS132.alloc|apply IsS132.drewN|apply IsS132.drew|apply IsS132.set_1|apply IsS132.set_2|refine IsS132.far ?_ NB0_282.out _)|exact HI0.out) hb); have n1_ := kB BK282 hb; have n2_ := mK (KeepBut.trans (by repeat first|(with_reducible first|exact HK.out|apply KeepBut.set_|apply keep_drewN|apply keep_drew|apply keep_alloc|refine keep_far ?_ GW282.out _)|exact HK.out) (KeepBut.of_below hb g none) (.inl rfl)); have n3_ := mK (below_step (by repeat (first | (with_reducible first | exact HB.out | apply below_alloc | apply pw_below_drewN | apply below_drew1 | refine below_set ?_ (IsS132.ge HI0.out) | refine below_set ?_ GE282.out) | exact HB.out)) hb); have n4_ := mK hbox; have n5_ := mK ((by rw [hg]; exact (keep_size (w := w) (g := g) (row := none) (by repeat first|(with_reducible first|exact HK.out|apply KeepBut.set_|apply keep_drewN|apply keep_drew|apply keep_alloc|refine keep_far ?_ GW282.out _)|exact HK.out)) : w.heap.size ≤ gb286)); have n6_ := mK ((Nat.le_trans HW0.out (by rw [hg]; exact (keep_size (w := w) (g := g) (row := none) (by repeat first|(with_reducible first|exact HK.out|apply KeepBut.set_|apply keep_drewN|apply keep_drew|apply keep_alloc|refine keep_far ?_ GW282.out _)|exact HK.out)) : w.heap.size ≤ gb286) : w0.heap.size ≤ gb286)); have n7_ := mK (lX hg BK282); have n8_ := mK (mX hg BK282); have n9_ := mK ((by rw [hg]; exact Nat.ne_of_lt (IsS132.lt (show IsS132 w0 _ g s0_0 t284 t285 from by repeat first|(with_reducible first|exact HI0.out|apply IsS132.alloc|apply IsS132.drewN|apply IsS132.drew|apply IsS132.set_1|apply IsS132.set_2|refine IsS132.far ?_ NB0_282.out _)|exact HI0.out)) : g ≠ gb286)); have n10_ := mK ((by rw [hg]; exact Nat.ne_of_gt (IsS132.lt (show IsS132 w0 _ g s0_0 t284 t285 from by repeat first|(with_reducible first|exact HI0.out|apply IsS132.alloc|apply IsS132.drewN|apply IsS132.drew|apply IsS132.set_1|apply IsS132.set_2|refine IsS132.far ?_ NB0_282.out _)|exact HI0.out)) : gb286 ≠ g)); clear HI0; clear BK282; clear HK; clear HB; have HI0 := n0_; have BK282 := n1_; have HK := n2_; have HB := n3_; have BK286 := n4_; have GW286 := n5_; have GE286 := n6_; have NB282_286 := n7_; have NB286_282 := n8_; have NB0_286 := n9_; have NB286_0 := n10_; clear n0_ n1_ n2_ n3_ n4_ n5_ n6_ n7_ n8_ n9_ n10_; clear hb hbox hg; have hnb6 := NB286_282.out; have hnc6 := NB282_286.out; have hnb7 := NB286_0.out; have hnc7 := NB0_286.out; have hcz8_0 := q0 BK286; have hcz8_1 := q1 BK286; have hfz8_0 := fX BK286 0; have hfz8_1 := fX BK286 1))
 go_loopg [4] k (fun kq v4 w' => ∃ (x4_1 : Int) (x1001_1 : Int) (x1002_1 : Int) (x287001_1 : List (S76)) (u287001 : Value), v4 = .int .i64 x4_1 ∧ Aside0 (spec_l05Draw.l0 kq x4_1 s0_0 x1001_1 x1002_1 (wrap64 (2 + t283)) x287001_1 = some (r1, r2, r3, r4)) ∧ Aside0 (kq ≤ k) ∧ Aside0 (Kd.R k76 76 w' w.heap.size (fun _ => True) u287001 x287001_1) ∧ Aside0 (w'.heap[gb282]? = some (.cells #[.int .i64 0, (.slice none 0 0)] 47 (0, 0))) ∧ Aside0 (w'.heap[gb286]? = some (.cells #[.int .i64 (wrap64 (2 + t283)), u287001] 47 (0, 0))) ∧ Aside0 (IsS132 w0 w' g s0_0 x1001_1 x1002_1) ∧ Aside0 (KeepBut w w' g none) ∧ Aside0 (Below w0.heap.size w0 w'))
 case atStart => exact ⟨(1), (t284), (t285), (([] : List (S76))), (.slice none 0 0), (by first | rfl | (simp; done) | (simp [*]; done)), H', ⟨Nat.le_refl _⟩, ⟨by first | exact Kd.R_nil _ _ _ _ _ | exact Kd.N_nil _ _ _ _ _ | exact Kd.V_nil _ _ _ _ _ | exact Kd.Q_nil _ _ _ _ _ | exact Kd.S_nil _ _ _ _ _⟩, ⟨kF BK282 NB282_286⟩, ⟨kP2 BK286⟩, ⟨by repeat first|(with_reducible first|exact HI0.out|apply IsS132.alloc|apply IsS132.drewN|apply IsS132.drew|apply IsS132.set_1|apply IsS132.set_2|refine IsS132.far ?_ NB0_282.out _|refine IsS132.far ?_ NB0_286.out _)|exact HI0.out⟩, ⟨by repeat first|(with_reducible first|exact HK.out|apply KeepBut.set_|apply keep_drewN|apply keep_drew|apply keep_alloc|refine keep_far ?_ GW282.out _|refine keep_far ?_ GW286.out _)|exact HK.out⟩, ⟨by repeat (first | (with_reducible first | exact HB.out | apply below_alloc | apply pw_below_drewN | apply below_drew1 | refine below_set ?_ (IsS132.ge HI0.out) | refine below_set ?_ GE282.out | refine below_set ?_ GE286.out) | exact HB.out)⟩⟩
 case round => (
 clear H'
 try clear p2
 try clear c6
 try clear p6
 try clear c7
 try clear c8
 try clear hcz8_0
 try clear hcz8_1
 try clear hfz8_0
 try clear hfz8_1
 obtain ⟨x4_1, x1001_1, x1002_1, x287001_1, u287001, rfl, HA, HK1, HO_287001, BK282, BK286, HI0, HK, HB⟩ := hrel
 cases gk with
 | zero => exact absurd HA.out (by simp [spec_l05Draw.l0])
 | succ k1 => (
 have H := HA.out
 clear HA
 simp only [spec_l05Draw.l0] at H
 by_cases c9 : x4_1 < (wrap64 (2 + t283))
 {
 rw [if_pos c9] at H
 have c9b0 : decide (x4_1 < (wrap64 (2 + t283))) = true := decide_eq_true c9
 clear c9
 replace H := Option.bind_eq_some_iff.mp H
 obtain ⟨⟨t287, t288, t289⟩, A100, H⟩ := H
 replace H : ((spec_l01Below.f s0_0 t288 t289 x4_1).bind fun bt290 => ((spec_l01Below.f s0_0 bt290.2.1 bt290.2.2 6).bind fun bt293 => (if x287001_1.length < 4398046511104 then (spec_l05Draw.l0 k1 (wrap64 (x4_1 + 1)) s0_0 bt293.2.1 bt293.2.2 (wrap64 (2 + t283)) (x287001_1 ++ [(⟨bt290.1, x4_1, (⟨t287, wrap64 (t287 + bt293.1)⟩ : S52)⟩ : S76)])) else (none)))) = some (r1, r2, r3, r4) := H
 have A10 := mK A100
 clear A100
 replace H := Option.bind_eq_some_iff.mp H
 obtain ⟨⟨t290, t291, t292⟩, A110, H⟩ := H
 replace H : ((spec_l01Below.f s0_0 t291 t292 6).bind fun bt293 => (if x287001_1.length < 4398046511104 then (spec_l05Draw.l0 k1 (wrap64 (x4_1 + 1)) s0_0 bt293.2.1 bt293.2.2 (wrap64 (2 + t283)) (x287001_1 ++ [(⟨t290, x4_1, (⟨t287, wrap64 (t287 + bt293.1)⟩ : S52)⟩ : S76)])) else (none))) = some (r1, r2, r3, r4) := H
 have A11 := mK A110
 clear A110
 replace H := Option.bind_eq_some_iff.mp H
 obtain ⟨⟨t293, t294, t295⟩, A120, H⟩ := H
 replace H : (if x287001_1.length < 4398046511104 then (spec_l05Draw.l0 k1 (wrap64 (x4_1 + 1)) s0_0 t294 t295 (wrap64 (2 + t283)) (x287001_1 ++ [(⟨t290, x4_1, (⟨t287, wrap64 (t287 + t293)⟩ : S52)⟩ : S76)])) else (none)) = some (r1, r2, r3, r4) := H
 have A12 := mK A120
 clear A120
 by_cases c13 : x287001_1.length < 4398046511104
 rotate_left
 {
 rw [if_neg c13] at H
 exact absurd H (by simp)
 }
 rw [if_pos c13] at H
 have LMc13 := mK c13
 clear c13
 obtain ⟨y296, hy296⟩ : ∃ y_ : List (S76), y_ = (x287001_1 ++ [(⟨t290, x4_1, (⟨t287, wrap64 (t287 + t293)⟩ : S52)⟩ : S76)]) := ⟨_, rfl⟩
 replace H : (spec_l05Draw.l0 k1 (wrap64 (x4_1 + 1)) s0_0 t294 t295 (wrap64 (2 + t283)) y296) = some (r1, r2, r3, r4) := by first | (rw [hy296]; with_reducible exact H) | (have H2_ := (Option.bind_some _ _).symm.trans H; rw [hy296]; with_reducible exact H2_) | (have H2_ := (Option.bind_some _ _).symm.trans H; with_reducible exact H2_) | with_reducible exact H | (rw [hy296]; exact H) | exact H
 have Ny296 := mK hy296
 clear hy296
 have H' := mK H
 clear H
 have hnb14 := NB286_282.out
 have hnc14 := NB282_286.out
 have hnb15 := NB286_0.out
 have hnc15 := NB0_286.out
 have hcz16_0 := q0 BK286
 have hcz16_1 := q1 BK286
 have hfz16_0 := fX BK286 0
 have hfz16_1 := fX BK286 1
 try go_wp2_with (first | ((with_reducible refine gate_callee (f := 93) rfl ?_); refine gsE (some 18) Try.func93 #[.pointer (some ⟨g, 0, none⟩), .int .i64 5] ?_; (with_reducible refine (spec_l01Below.calls g s0_0 x1001_1 x1002_1 5 t287 t288 t289 w0 _ ?side1 ?side2 A10.out).mono ?_); (case side1 => repeat (first | (with_reducible first | exact HI0.out | apply IsS132.alloc | apply IsS132.drewN | apply IsS132.drew | apply IsS132.set_1 | apply IsS132.set_2 | refine IsS132.far ?_ NB0_282.out _ | refine IsS132.far ?_ NB0_286.out _) | exact HI0.out)); (case side2 => repeat (first | (with_reducible first | exact HB.out | apply below_alloc | apply pw_below_drewN | apply below_drew1 | refine below_set ?_ (IsS132.ge HI0.out) | refine below_set ?_ GE282.out | refine below_set ?_ GE286.out) | exact HB.out)); rintro e w17 ⟨rfl, hi, hb, hk⟩; refine ⟨_, rfl, ?_⟩; replace HO_287001 := mK (Kd.R_mono (Kd.R_keep (IsS132.apart (show IsS132 w0 _ g s0_0 x1001_1 x1002_1 from by repeat first|(with_reducible first|exact HI0.out|apply IsS132.alloc|apply IsS132.drewN|apply IsS132.drew|apply IsS132.set_1|apply IsS132.set_2|refine IsS132.far ?_ NB0_282.out _|refine IsS132.far ?_ NB0_286.out _)|exact HI0.out) (rX HO_287001) (by decide)) hk (fun _ h => h.2)) (fun _ h => h.1)); replace BK282 := mK (KeepBut.blk hk (g' := gb282) (o := .cells #[.int .i64 0, .slice none 0 0] 47 (0, 0)) (kX BK282) NB282_0.out (by simp)); replace BK286 := mK (KeepBut.blk hk (g' := gb286) (o := .cells #[.int .i64 (wrap64 (2 + t283)), u287001] 47 (0, 0)) (kX BK286) NB286_0.out (by simp)); replace HK := mK (KeepBut.trans (by repeat first|(with_reducible first|exact HK.out|apply KeepBut.set_|apply keep_drewN|apply keep_drew|apply keep_alloc|refine keep_far ?_ GW282.out _|refine keep_far ?_ GW286.out _)|exact HK.out) hk (.inl rfl)); replace HB := mK (hb); replace HI0 := mK (hi); (try clear hb); (try clear hb2); (try clear hk); (try clear hi)))
 have n0_ := mK (Kd.R_drew HO_287001.out)
 have n1_ := mK (blk_drew BK282.out)
 have n2_ := mK (blk_drew BK286.out)
 have n3_ := mK (IsS132.drew HI0.out)
 have n4_ := mK (keep_drew HK.out)
 have n5_ := mK (below_drew1 HB.out)
 clear HO_287001
 clear BK282
 clear BK286
 clear HI0
 clear HK
 clear HB
 have HO_287001 := n0_
 have BK282 := n1_
 have BK286 := n2_
 have HI0 := n3_
 have HK := n4_
 have HB := n5_
 clear n0_ n1_ n2_ n3_ n4_ n5_
 refine start_ (n := 17) (S := fun w' => w'.cell? ⟨gb286, 0, none⟩ = some (.int .i64 (wrap64 (2 + t283))) ∧ w'.cell? ⟨gb286, 1, none⟩ = some (u287001)) (ds := [16]) (bs 0 17) (by kernel_rfl) rfl (by kernel_rfl) ⟨(blk_cell BK286.out 0).trans rfl, (blk_cell BK286.out 1).trans rfl⟩ (fun hHeld => ?_); refine with_tabW spec_l05Draw.tab6 spec_l05Draw.bits6 (fun HT_ HW_ => ?_)
 generalize w17.drew = w18 at HO_287001 BK282 BK286 HI0 HK HB hHeld ⊢
 refine pL 0 19 (bs 1 17) HT_ ?_
 refine pL 2 21 #[true, false, true, false, false, false, false, false, false, false, false, false, false, false, false, false, false] HT_ ?_
 refine pL 3 22 #[true, false, true, true, false, false, false, false, false, false, false, false, false, false, false, false, false] HT_ ?_
 refine pL 5 24 #[true, false, true, true, false, true, false, false, false, false, false, false, false, false, false, false, false] HT_ ?_
 refine pL 6 25 #[true, false, true, true, false, true, true, false, false, false, false, false, false, false, false, false, false] HT_ ?_
 refine pL 7 26 #[true, false, true, true, false, true, true, true, false, false, false, false, false, false, false, false, false] HT_ ?_
 refine pL 8 27 #[true, false, true, true, false, true, true, true, true, false, false, false, false, false, false, false, false] HT_ ?_
 refine tL 1 20 #[true, true, true, true, false, true, true, true, true, false, false, false, false, false, false, false, false] HT_ HW_ hHeld ?_
 refine one_ (i := 4) (N := some 23) (bs 9 17) rfl rfl (one_of HT_.out (by kernel_rfl)) (by decide) (fun K hK => ?_)
 refine gsK Try.func93 #[.pointer (some ⟨g, 0, none⟩), .int .i64 x4_1] ?_
 with_reducible refine (spec_l01Below.calls g s0_0 t288 t289 x4_1 t290 t291 t292 w0 _ ?side1 ?side2 A11.out).mono ?_
 (case side1 => repeat (first | (with_reducible first | exact HI0.out | apply IsS132.alloc | apply IsS132.drewN | apply IsS132.drew | apply IsS132.set_1 | apply IsS132.set_2 | refine IsS132.far ?_ NB0_282.out _ | refine IsS132.far ?_ NB0_286.out _) | exact HI0.out))
 (case side2 => repeat (first | (with_reducible first | exact HB.out | apply below_alloc | apply pw_below_drewN | apply below_drew1 | refine below_set ?_ (IsS132.ge HI0.out) | refine below_set ?_ GE282.out | refine below_set ?_ GE286.out) | exact HB.out))
 rintro e w19 ⟨rfl, hi, hb, hk⟩
 refine ⟨_, rfl, ?_⟩
 have n0_ := mK (Kd.R_mono (Kd.R_keep (IsS132.apart (show IsS132 w0 _ g s0_0 t288 t289 from by repeat first|(with_reducible first|exact HI0.out|apply IsS132.alloc|apply IsS132.drewN|apply IsS132.drew|apply IsS132.set_1|apply IsS132.set_2|refine IsS132.far ?_ NB0_282.out _|refine IsS132.far ?_ NB0_286.out _)|exact HI0.out) (rX HO_287001) (by decide)) hk (fun _ h => h.2)) (fun _ h => h.1))
 have n1_ := mK (KeepBut.blk hk (g' := gb282) (o := .cells #[.int .i64 0, .slice none 0 0] 47 (0, 0)) (kX BK282) NB282_0.out (by simp))
 have n2_ := mK (KeepBut.blk hk (g' := gb286) (o := .cells #[.int .i64 (wrap64 (2 + t283)), u287001] 47 (0, 0)) (kX BK286) NB286_0.out (by simp))
 have n3_ := mK (KeepBut.trans (by repeat first|(with_reducible first|exact HK.out|apply KeepBut.set_|apply keep_drewN|apply keep_drew|apply keep_alloc|refine keep_far ?_ GW282.out _|refine keep_far ?_ GW286.out _)|exact HK.out) hk (.inl rfl))
 have n4_ := mK (hb)
 have n5_ := mK (hi)
 clear HO_287001
 clear BK282
 clear BK286
 clear HK
 clear HB
 clear HI0
 have HO_287001 := n0_
 have BK282 := n1_
 have BK286 := n2_
 have HK := n3_
 have HB := n4_
 have HI0 := n5_
 clear n0_ n1_ n2_ n3_ n4_ n5_
 (try clear hb)
 (try clear hb2)
 (try clear hk)
 (try clear hi)
 refine hK.out _ _ ⟨(blk_cell BK286.out 0).trans rfl, (blk_cell BK286.out 1).trans rfl⟩ (fun hHeld => ?_)
 clear hK K
 refine norm_ (a' := ?_) ?_ ?_
 rotate_left
 {
 show Act.put _ (some 23) _ = _
 simp only [Act.put, sT, sZ, sU, i64_w, i32_w]
 rfl
 }
 refine one_ (i := 9) (N := some 28) (bs 10 17) rfl rfl (one_of HT_.out (by kernel_rfl)) (by decide) (fun K hK => ?_)
 refine gsK Try.func93 #[.pointer (some ⟨g, 0, none⟩), .int .i64 6] ?_
 with_reducible refine (spec_l01Below.calls g s0_0 t291 t292 6 t293 t294 t295 w0 _ ?side1 ?side2 A12.out).mono ?_
 (case side1 => repeat (first | (with_reducible first | exact HI0.out | apply IsS132.alloc | apply IsS132.drewN | apply IsS132.drew | apply IsS132.set_1 | apply IsS132.set_2 | refine IsS132.far ?_ NB0_282.out _ | refine IsS132.far ?_ NB0_286.out _) | exact HI0.out))
 (case side2 => repeat (first | (with_reducible first | exact HB.out | apply below_alloc | apply pw_below_drewN | apply below_drew1 | refine below_set ?_ (IsS132.ge HI0.out) | refine below_set ?_ GE282.out | refine below_set ?_ GE286.out) | exact HB.out))
 rintro e w20 ⟨rfl, hi, hb, hk⟩
 refine ⟨_, rfl, ?_⟩
 have n0_ := mK (Kd.R_mono (Kd.R_keep (IsS132.apart (show IsS132 w0 _ g s0_0 t291 t292 from by repeat first|(with_reducible first|exact HI0.out|apply IsS132.alloc|apply IsS132.drewN|apply IsS132.drew|apply IsS132.set_1|apply IsS132.set_2|refine IsS132.far ?_ NB0_282.out _|refine IsS132.far ?_ NB0_286.out _)|exact HI0.out) (rX HO_287001) (by decide)) hk (fun _ h => h.2)) (fun _ h => h.1))
 have n1_ := mK (KeepBut.blk hk (g' := gb282) (o := .cells #[.int .i64 0, .slice none 0 0] 47 (0, 0)) (kX BK282) NB282_0.out (by simp))
 have n2_ := mK (KeepBut.blk hk (g' := gb286) (o := .cells #[.int .i64 (wrap64 (2 + t283)), u287001] 47 (0, 0)) (kX BK286) NB286_0.out (by simp))
 have n3_ := mK (KeepBut.trans (by repeat first|(with_reducible first|exact HK.out|apply KeepBut.set_|apply keep_drewN|apply keep_drew|apply keep_alloc|refine keep_far ?_ GW282.out _|refine keep_far ?_ GW286.out _)|exact HK.out) hk (.inl rfl))
 have n4_ := mK (hb)
 have n5_ := mK (hi)
 clear HO_287001
 clear BK282
 clear BK286
 clear HK
 clear HB
 clear HI0
 have HO_287001 := n0_
 have BK282 := n1_
 have BK286 := n2_
 have HK := n3_
 have HB := n4_
 have HI0 := n5_
 clear n0_ n1_ n2_ n3_ n4_ n5_
 (try clear hb)
 (try clear hb2)
 (try clear hk)
 (try clear hi)
 refine hK.out _ _ ⟨(blk_cell BK286.out 0).trans rfl, (blk_cell BK286.out 1).trans rfl⟩ (fun hHeld => ?_)
 clear hK K
 refine norm_ (a' := ?_) ?_ ?_
 rotate_left
 {
 show Act.put _ (some 28) _ = _
 simp only [Act.put, sT, sZ, sU, i64_w, i32_w]
 rfl
 }
 refine pL 10 29 (bs 11 17) HT_ ?_
 refine pL 11 30 (bs 12 17) HT_ ?_
 refine pL 12 31 (bs 13 17) HT_ ?_
 refine one_ (i := 13) (N := some 32) (bs 14 17) rfl rfl (one_of HT_.out (by kernel_rfl)) (by decide) (fun K hK => ?_)
 refine value_ (w1 := ?_) (v := ?_) (by rfl) rfl ?_ ?_
 rotate_left 2
 {
 go_simp
 constructor
 {
 rfl
 }
 {
 rfl
 }
 }
 refine hK.out _ _ ⟨(blk_cell (blk_alloc BK286.out _) 0).trans rfl, (blk_cell (blk_alloc BK286.out _) 1).trans rfl⟩ (fun hHeld => ?_)
 clear hK K
 refine norm_ (a' := ?_) ?_ ?_
 rotate_left
 {
 show Act.put _ (some 32) _ = _
 simp only [Act.put, sT, sZ, sU, i64_w, i32_w]
 rfl
 }
 refine one_ (i := 14) (N := some 33) (bs 15 17) rfl rfl (one_of HT_.out (by kernel_rfl)) (by decide) (fun K hK => ?_)
 refine Kd.R_append_step k76 w.heap.size (by rfl) (.tmp 20) (.tmp 32) 45 76 (.agg #[(.int .i64 0), (.int .i64 0), (.int .i64 0), (.int .i64 0)]) 32 rfl Try.underlying45 info76 rfl (by decide) (by omega) u287001 x287001_1 (⟨t290, x4_1, (⟨t287, wrap64 (t287 + t293)⟩ : S52)⟩ : S76) [.int .i64 t290, .int .i64 x4_1, .int .i64 t287, .int .i64 (wrap64 (t287 + t293))] (fun _ => True) (fun _ => False) rfl rfl ?aP (fun _ hk => hk.elim) ?aF ?aO (Below.refl _ _) ?aS ?aL ?_
 (case aP => exact k76_mkM _ _ _ (⟨t290, x4_1, (⟨t287, wrap64 (t287 + t293)⟩ : S52)⟩ : S76))
 (case aF => exact (fun _ _ => trivial))
 (case aO => exact (rX HO_287001))
 (case aS => exact (keep_size (w := w) (g := g) (row := none) (by repeat first|(with_reducible first|exact HK.out|apply KeepBut.set_|apply keep_drewN|apply keep_drew|apply keep_alloc|refine keep_far ?_ GW282.out _|refine keep_far ?_ GW286.out _)|exact HK.out)))
 (case aL => have := LMc13.out; omega)
 intro v297 w21 ho hb hg hat
 rw [← Ny296.out] at ho
 have n0_ := mK (blk_grown (kX BK282) hg (Kd.R_ne HO_287001.out BK282.out (by decide)))
 have n1_ := mK (blk_grown (kX BK286) hg (Kd.R_ne HO_287001.out BK286.out (by decide)))
 have n2_ := mK (IsS132.grown (by repeat first|(with_reducible first|exact HI0.out|apply IsS132.alloc|apply IsS132.drewN|apply IsS132.drew|apply IsS132.set_1|apply IsS132.set_2|refine IsS132.far ?_ NB0_282.out _|refine IsS132.far ?_ NB0_286.out _)|exact HI0.out) hg (IsS132.own_ne HI0.out HO_287001.out (by decide)))
 have n3_ := mK (below_weaken (by repeat (first | (with_reducible first | exact HB.out | apply below_alloc | apply pw_below_drewN | apply below_drew1 | refine below_set ?_ (IsS132.ge HI0.out) | refine below_set ?_ GE282.out | refine below_set ?_ GE286.out) | exact HB.out)) HL.out hb)
 have n4_ := mK (KeepBut.trans (by repeat first|(with_reducible first|exact HK.out|apply KeepBut.set_|apply keep_drewN|apply keep_drew|apply keep_alloc|refine keep_far ?_ GW282.out _|refine keep_far ?_ GW286.out _)|exact HK.out) (KeepBut.of_grown hg g) (Kd.R_base2 HO_287001.out))
 have n5_ := mK (ho)
 clear BK282
 clear BK286
 clear HI0
 clear HB
 clear HK
 clear HO_287001
 have BK282 := n0_
 have BK286 := n1_
 have HI0 := n2_
 have HB := n3_
 have HK := n4_
 have HO298 := n5_
 clear n0_ n1_ n2_ n3_ n4_ n5_
 clear ho hb hg hat
 obtain ⟨Ao22, co22, eo22⟩ := Kd.R_slice HO298.out
 (first | subst eo22 | (injection eo22 with f1_ f2_ f3_; have f4_ := f1_.symm; have f5_ := f3_.symm; clear f1_ f2_ f3_; subst f4_; subst f5_))
 refine hK.out _ _ ⟨(blk_cell BK286.out 0).trans rfl, (blk_cell BK286.out 1).trans rfl⟩ (fun hHeld => ?_)
 clear hK K
 refine norm_ (a' := ?_) ?_ ?_
 rotate_left
 {
 show Act.put _ (some 33) _ = _
 simp only [Act.put, sT, sZ, sU, i64_w, i32_w]
 rfl
 }
 refine pL 15 34 (bs 16 17) HT_ ?_
 refine last_ (i := 16) (N := none) (bs 17 17) rfl rfl (one_of HT_.out (by kernel_rfl)) (by decide) (fun K hK => ?_)
 have hs23 : w21.cell? ⟨gb286, 1, none⟩ = some (u287001) := (blk_cell BK286.out 1).trans rfl
 have hfs23 := fX BK286 1
 have hns23_0 := NB282_286.out
 have hms23_0 := NB286_282.out
 refine skip_ (w1 := ?_) (by rfl) rfl ?_ ?_
 rotate_left
 {
 go_simp
 rfl
 }
 refine hK.out _ _ ?_
 clear hK K
 refine done_ (done_of HT_.out (by kernel_rfl)) ?_
 try go_wp2
 go_roundg k1
 case measure => have := HK1.out; omega
 case rel => exact ⟨(wrap64 (x4_1 + 1)), (t294), (t295), (y296), (.slice Ao22 y296.length co22), (by first | rfl | (simp; done) | (simp [*]; done)), H', ⟨by have := HK1.out; omega⟩, ⟨by (with_reducible repeat first|apply rA|apply rN|apply rD); exact Kd.R_mono (Kd.R_far (p := ⟨gb286, 1, none⟩) (Kd.R_types HO298.out BK286.out (by decide)) (fun _ hk => hk.2) (.slice Ao22 y296.length co22)) (fun _ hk => trivial)⟩, ⟨kF BK282 NB282_286⟩, ⟨by (with_reducible repeat first|apply kN|apply kD|apply kA); refine blk_put (cs := #[.int .i64 (wrap64 (2 + t283)), u287001]) ?_ 1 _ rfl; (with_reducible repeat first|apply kN|apply kD|apply kA); exact BK286.out⟩, ⟨by repeat first|(with_reducible first|exact HI0.out|apply IsS132.alloc|apply IsS132.drewN|apply IsS132.drew|apply IsS132.set_1|apply IsS132.set_2|refine IsS132.far ?_ NB0_282.out _|refine IsS132.far ?_ NB0_286.out _)|exact HI0.out⟩, ⟨by repeat first|(with_reducible first|exact HK.out|apply KeepBut.set_|apply keep_drewN|apply keep_drew|apply keep_alloc|refine keep_far ?_ GW282.out _|refine keep_far ?_ GW286.out _)|exact HK.out⟩, ⟨by repeat (first | (with_reducible first | exact HB.out | apply below_alloc | apply pw_below_drewN | apply below_drew1 | refine below_set ?_ (IsS132.ge HI0.out) | refine below_set ?_ GE282.out | refine below_set ?_ GE286.out) | exact HB.out)⟩⟩
 }
 rw [if_neg c9] at H
 have c9b0 : decide (x4_1 < (wrap64 (2 + t283))) = false := decide_eq_false c9
 clear c9
 replace H := Option.bind_eq_some_iff.mp H
 obtain ⟨⟨t299, t300, t301⟩, A240, H⟩ := H
 replace H : (spec_l05Draw.l1 k1 t299 s0_0 t300 t301 (wrap64 (2 + t283)) x287001_1) = some (r1, r2, r3, r4) := H
 have A24 := mK A240
 clear A240
 have H' := mK H
 clear H
 have hnb25 := NB286_282.out
 have hnc25 := NB282_286.out
 have hnb26 := NB286_0.out
 have hnc26 := NB0_286.out
 have hcz27_0 := q0 BK286
 have hcz27_1 := q1 BK286
 have hfz27_0 := fX BK286 0
 have hfz27_1 := fX BK286 1
 go_wp2_with (first | ((with_reducible refine gate_callee (f := 93) rfl ?_); refine gsE (some 36) Try.func93 #[.pointer (some ⟨g, 0, none⟩), .int .i64 4] ?_; (with_reducible refine (spec_l01Below.calls g s0_0 x1001_1 x1002_1 4 t299 t300 t301 w0 _ ?side1 ?side2 A24.out).mono ?_); (case side1 => repeat (first | (with_reducible first | exact HI0.out | apply IsS132.alloc | apply IsS132.drewN | apply IsS132.drew | apply IsS132.set_1 | apply IsS132.set_2 | refine IsS132.far ?_ NB0_282.out _ | refine IsS132.far ?_ NB0_286.out _) | exact HI0.out)); (case side2 => repeat (first | (with_reducible first | exact HB.out | apply below_alloc | apply pw_below_drewN | apply below_drew1 | refine below_set ?_ (IsS132.ge HI0.out) | refine below_set ?_ GE282.out | refine below_set ?_ GE286.out) | exact HB.out)); rintro e w28 ⟨rfl, hi, hb, hk⟩; refine ⟨_, rfl, ?_⟩; replace HO_287001 := mK (Kd.R_mono (Kd.R_keep (IsS132.apart (show IsS132 w0 _ g s0_0 x1001_1 x1002_1 from by repeat first|(with_reducible first|exact HI0.out|apply IsS132.alloc|apply IsS132.drewN|apply IsS132.drew|apply IsS132.set_1|apply IsS132.set_2|refine IsS132.far ?_ NB0_282.out _|refine IsS132.far ?_ NB0_286.out _)|exact HI0.out) (rX HO_287001) (by decide)) hk (fun _ h => h.2)) (fun _ h => h.1)); replace BK282 := mK (KeepBut.blk hk (g' := gb282) (o := .cells #[.int .i64 0, .slice none 0 0] 47 (0, 0)) (kX BK282) NB282_0.out (by simp)); replace BK286 := mK (KeepBut.blk hk (g' := gb286) (o := .cells #[.int .i64 (wrap64 (2 + t283)), u287001] 47 (0, 0)) (kX BK286) NB286_0.out (by simp)); replace HK := mK (KeepBut.trans (by repeat first|(with_reducible first|exact HK.out|apply KeepBut.set_|apply keep_drewN|apply keep_drew|apply keep_alloc|refine keep_far ?_ GW282.out _|refine keep_far ?_ GW286.out _)|exact HK.out) hk (.inl rfl)); replace HB := mK (hb); replace HI0 := mK (hi); (try clear hb); (try clear hb2); (try clear hk); (try clear hi)))
 go_loopg [6] k1 (fun kq v6 w' => ∃ (x6_2 : Int) (x1001_2 : Int) (x1002_2 : Int) (x287001_2 : List (S76)) (u287001 : Value), v6 = .int .i64 x6_2 ∧ Aside0 (spec_l05Draw.l1 kq x6_2 s0_0 x1001_2 x1002_2 (wrap64 (2 + t283)) x287001_2 = some (r1, r2, r3, r4)) ∧ Aside0 (kq ≤ k1) ∧ Aside0 (Kd.R k76 76 w' w.heap.size (fun _ => True) u287001 x287001_2) ∧ Aside0 (w'.heap[gb282]? = some (.cells #[.int .i64 0, (.slice none 0 0)] 47 (0, 0))) ∧ Aside0 (w'.heap[gb286]? = some (.cells #[.int .i64 (wrap64 (2 + t283)), u287001] 47 (0, 0))) ∧ Aside0 (IsS132 w0 w' g s0_0 x1001_2 x1002_2) ∧ Aside0 (KeepBut w w' g none) ∧ Aside0 (Below w0.heap.size w0 w'))
 case atStart => exact ⟨(t299), (t300), (t301), (x287001_1), (u287001), (by first | rfl | (simp; done) | (simp [*]; done)), H', ⟨Nat.le_refl _⟩, ⟨rX HO_287001⟩, ⟨kX BK282⟩, ⟨kX BK286⟩, ⟨by repeat first|(with_reducible first|exact HI0.out|apply IsS132.alloc|apply IsS132.drewN|apply IsS132.drew|apply IsS132.set_1|apply IsS132.set_2|refine IsS132.far ?_ NB0_282.out _|refine IsS132.far ?_ NB0_286.out _)|exact HI0.out⟩, ⟨by repeat first|(with_reducible first|exact HK.out|apply KeepBut.set_|apply keep_drewN|apply keep_drew|apply keep_alloc|refine keep_far ?_ GW282.out _|refine keep_far ?_ GW286.out _)|exact HK.out⟩, ⟨by repeat (first | (with_reducible first | exact HB.out | apply below_alloc | apply pw_below_drewN | apply below_drew1 | refine below_set ?_ (IsS132.ge HI0.out) | refine below_set ?_ GE282.out | refine below_set ?_ GE286.out) | exact HB.out)⟩⟩
 case round => (
 clear H'
 try clear c1
 try clear c2
 try clear p2
 try clear c6
 try clear p6
 try clear c7
 try clear c8
 try clear c9
 try clear c9b0
 try clear c13
 try clear c14
 try clear c15
 try clear c25
 try clear c26
 try clear hcz16_0
 try clear hcz16_1
 try clear hcz27_0
 try clear hcz27_1
 try clear hcz8_0
 try clear hcz8_1
 try clear hfz16_0
 try clear hfz16_1
 try clear hfz27_0
 try clear hfz27_1
 try clear hfz8_0
 try clear hfz8_1
 try clear p2
 try clear p6
 obtain ⟨x6_2, x1001_2, x1002_2, x287001_2, u287001, rfl, HA, HK2, HO_287001, BK282, BK286, HI0, HK, HB⟩ := hrel
 cases gk with
 | zero => exact absurd HA.out (by simp [spec_l05Draw.l1])
 | succ k2 => (
 have H := HA.out
 clear HA
 simp only [spec_l05Draw.l1] at H
 by_cases c29 : x6_2 > 0
 rotate_left
 {
 rw [if_neg c29] at H
 have c29b0 : decide (0 < x6_2) = false := decide_eq_false c29
 clear c29
 simp only [Option.some.injEq, Prod.mk.injEq] at H
 obtain ⟨rfl, rfl, rfl, rfl⟩ := H
 have hnb41 := NB286_282.out
 have hnc41 := NB282_286.out
 have hnb42 := NB286_0.out
 have hnc42 := NB0_286.out
 have hcz43_0 := q0 BK286
 have hcz43_1 := q1 BK286
 have hfz43_0 := fX BK286 0
 have hfz43_1 := fX BK286 1
 have hnb44 := NB282_0.out
 have hnc44 := NB0_282.out
 have hcz45_0 := q0 BK282
 have hcz45_1 := q1 BK282
 have hfz45_0 := fX BK282 0
 have hfz45_1 := fX BK282 1
 obtain ⟨Ao46, co46, eo46⟩ := Kd.R_slice HO_287001.out
 subst eo46
 go_wp2
 refine bodyPost_ret (results_cell_row rfl _ _ gb282 47 #[.int .i64 (wrap64 (2 + t283)), .slice Ao46 x287001_2.length co46] (0, 0) _ rfl (kP2 BK282) Try.underlying47 rfl (by kernel_rfl)) rfl ?_
 exact ⟨_, by first | rfl | (simp [errW_none, errW_some] <;> rfl) | (simp [*, errW_none, errW_some] <;> rfl), rF2 HO_287001 BK282, by repeat first|(with_reducible first|exact HI0.out|apply IsS132.alloc|apply IsS132.drewN|apply IsS132.drew|apply IsS132.set_1|apply IsS132.set_2|refine IsS132.far ?_ NB0_282.out _|refine IsS132.far ?_ NB0_286.out _)|exact HI0.out, by repeat (first | (with_reducible first | exact HB.out | apply below_alloc | apply pw_below_drewN | apply below_drew1 | refine below_set ?_ (IsS132.ge HI0.out) | refine below_set ?_ GE282.out | refine below_set ?_ GE286.out) | exact HB.out), by repeat first|(with_reducible first|exact HK.out|apply KeepBut.set_|apply keep_drewN|apply keep_drew|apply keep_alloc|refine keep_far ?_ GW282.out _|refine keep_far ?_ GW286.out _)|exact HK.out⟩
 }
 rw [if_pos c29] at H
 have c29b0 : decide (0 < x6_2) = true := decide_eq_true c29
 clear c29
 replace H := Option.bind_eq_some_iff.mp H
 obtain ⟨⟨t302, t303, t304⟩, A300, H⟩ := H
 replace H : ((spec_l01Below.f s0_0 t303 t304 (wrap64 (2 + t283))).bind fun bt305 => ((spec_l02Draw.f s0_0 bt305.2.1 bt305.2.2).bind fun bt308 => (if x287001_2.length < 4398046511104 then (spec_l05Draw.l1 k2 (wrap64 (x6_2 - 1)) s0_0 bt308.2.2.1 bt308.2.2.2 (wrap64 (2 + t283)) (x287001_2 ++ [(⟨t302, bt305.1, (⟨bt308.1, bt308.2.1⟩ : S52)⟩ : S76)])) else (none)))) = some (r1, r2, r3, r4) := H
 have A30 := mK A300
 clear A300
 replace H := Option.bind_eq_some_iff.mp H
 obtain ⟨⟨t305, t306, t307⟩, A310, H⟩ := H
 replace H : ((spec_l02Draw.f s0_0 t306 t307).bind fun bt308 => (if x287001_2.length < 4398046511104 then (spec_l05Draw.l1 k2 (wrap64 (x6_2 - 1)) s0_0 bt308.2.2.1 bt308.2.2.2 (wrap64 (2 + t283)) (x287001_2 ++ [(⟨t302, t305, (⟨bt308.1, bt308.2.1⟩ : S52)⟩ : S76)])) else (none))) = some (r1, r2, r3, r4) := H
 have A31 := mK A310
 clear A310
 replace H := Option.bind_eq_some_iff.mp H
 obtain ⟨⟨t308, t309, t310, t311⟩, A320, H⟩ := H
 replace H : (if x287001_2.length < 4398046511104 then (spec_l05Draw.l1 k2 (wrap64 (x6_2 - 1)) s0_0 t310 t311 (wrap64 (2 + t283)) (x287001_2 ++ [(⟨t302, t305, (⟨t308, t309⟩ : S52)⟩ : S76)])) else (none)) = some (r1, r2, r3, r4) := H
 have A32 := mK A320
 clear A320
 by_cases c33 : x287001_2.length < 4398046511104
 rotate_left
 {
 rw [if_neg c33] at H
 exact absurd H (by simp)
 }
 rw [if_pos c33] at H
 have LMc33 := mK c33
 clear c33
 obtain ⟨y312, hy312⟩ : ∃ y_ : List (S76), y_ = (x287001_2 ++ [(⟨t302, t305, (⟨t308, t309⟩ : S52)⟩ : S76)]) := ⟨_, rfl⟩
 replace H : (spec_l05Draw.l1 k2 (wrap64 (x6_2 - 1)) s0_0 t310 t311 (wrap64 (2 + t283)) y312) = some (r1, r2, r3, r4) := by first | (rw [hy312]; with_reducible exact H) | (have H2_ := (Option.bind_some _ _).symm.trans H; rw [hy312]; with_reducible exact H2_) | (have H2_ := (Option.bind_some _ _).symm.trans H; with_reducible exact H2_) | with_reducible exact H | (rw [hy312]; exact H) | exact H
 have Ny312 := mK hy312
 clear hy312
 have H' := mK H
 clear H
 try go_wp2
 have n0_ := mK (Kd.R_drew HO_287001.out)
 have n1_ := mK (blk_drew BK282.out)
 have n2_ := mK (blk_drew BK286.out)
 have n3_ := mK (IsS132.drew HI0.out)
 have n4_ := mK (keep_drew HK.out)
 have n5_ := mK (below_drew1 HB.out)
 clear HO_287001
 clear BK282
 clear BK286
 clear HI0
 clear HK
 clear HB
 have HO_287001 := n0_
 have BK282 := n1_
 have BK286 := n2_
 have HI0 := n3_
 have HK := n4_
 have HB := n5_
 clear n0_ n1_ n2_ n3_ n4_ n5_
 refine start_ (n := 17) (S := fun w' => w'.cell? ⟨gb286, 0, none⟩ = some (.int .i64 (wrap64 (2 + t283))) ∧ w'.cell? ⟨gb286, 1, none⟩ = some (u287001)) (ds := [16]) (bs 0 17) (by kernel_rfl) rfl (by kernel_rfl) ⟨(blk_cell BK286.out 0).trans rfl, (blk_cell BK286.out 1).trans rfl⟩ (fun hHeld => ?_); refine with_tabW spec_l05Draw.tab10 spec_l05Draw.bits10 (fun HT_ HW_ => ?_)
 generalize wr.drew = w34 at HO_287001 BK282 BK286 HI0 HK HB hHeld ⊢
 refine pL 0 41 (bs 1 17) HT_ ?_
 refine pL 2 43 #[true, false, true, false, false, false, false, false, false, false, false, false, false, false, false, false, false] HT_ ?_
 refine pL 3 44 #[true, false, true, true, false, false, false, false, false, false, false, false, false, false, false, false, false] HT_ ?_
 refine pL 6 47 #[true, false, true, true, false, false, true, false, false, false, false, false, false, false, false, false, false] HT_ ?_
 refine pL 7 48 #[true, false, true, true, false, false, true, true, false, false, false, false, false, false, false, false, false] HT_ ?_
 refine pL 10 51 #[true, false, true, true, false, false, true, true, false, false, true, false, false, false, false, false, false] HT_ ?_
 refine tL 1 42 #[true, true, true, true, false, false, true, true, false, false, true, false, false, false, false, false, false] HT_ HW_ hHeld ?_
 refine tL 4 45 #[true, true, true, true, true, false, true, true, false, false, true, false, false, false, false, false, false] HT_ HW_ hHeld ?_
 refine tL 8 49 #[true, true, true, true, true, false, true, true, true, false, true, false, false, false, false, false, false] HT_ HW_ hHeld ?_
 refine one_ (i := 5) (N := some 46) #[true, true, true, true, true, true, true, true, true, false, true, false, false, false, false, false, false] rfl rfl (one_of HT_.out (by kernel_rfl)) (by decide) (fun K hK => ?_)
 refine gsK Try.func93 #[.pointer (some ⟨g, 0, none⟩), .int .i64 (wrap64 (2 + t283))] ?_
 with_reducible refine (spec_l01Below.calls g s0_0 x1001_2 x1002_2 (wrap64 (2 + t283)) t302 t303 t304 w0 _ ?side1 ?side2 A30.out).mono ?_
 (case side1 => repeat (first | (with_reducible first | exact HI0.out | apply IsS132.alloc | apply IsS132.drewN | apply IsS132.drew | apply IsS132.set_1 | apply IsS132.set_2 | refine IsS132.far ?_ NB0_282.out _ | refine IsS132.far ?_ NB0_286.out _) | exact HI0.out))
 (case side2 => repeat (first | (with_reducible first | exact HB.out | apply below_alloc | apply pw_below_drewN | apply below_drew1 | refine below_set ?_ (IsS132.ge HI0.out) | refine below_set ?_ GE282.out | refine below_set ?_ GE286.out) | exact HB.out))
 rintro e w35 ⟨rfl, hi, hb, hk⟩
 refine ⟨_, rfl, ?_⟩
 have n0_ := mK (Kd.R_mono (Kd.R_keep (IsS132.apart (show IsS132 w0 _ g s0_0 x1001_2 x1002_2 from by repeat first|(with_reducible first|exact HI0.out|apply IsS132.alloc|apply IsS132.drewN|apply IsS132.drew|apply IsS132.set_1|apply IsS132.set_2|refine IsS132.far ?_ NB0_282.out _|refine IsS132.far ?_ NB0_286.out _)|exact HI0.out) (rX HO_287001) (by decide)) hk (fun _ h => h.2)) (fun _ h => h.1))
 have n1_ := mK (KeepBut.blk hk (g' := gb282) (o := .cells #[.int .i64 0, .slice none 0 0] 47 (0, 0)) (kX BK282) NB282_0.out (by simp))
 have n2_ := mK (KeepBut.blk hk (g' := gb286) (o := .cells #[.int .i64 (wrap64 (2 + t283)), u287001] 47 (0, 0)) (kX BK286) NB286_0.out (by simp))
 have n3_ := mK (KeepBut.trans (by repeat first|(with_reducible first|exact HK.out|apply KeepBut.set_|apply keep_drewN|apply keep_drew|apply keep_alloc|refine keep_far ?_ GW282.out _|refine keep_far ?_ GW286.out _)|exact HK.out) hk (.inl rfl))
 have n4_ := mK (hb)
 have n5_ := mK (hi)
 clear HO_287001
 clear BK282
 clear BK286
 clear HK
 clear HB
 clear HI0
 have HO_287001 := n0_
 have BK282 := n1_
 have BK286 := n2_
 have HK := n3_
 have HB := n4_
 have HI0 := n5_
 clear n0_ n1_ n2_ n3_ n4_ n5_
 (try clear hb)
 (try clear hb2)
 (try clear hk)
 (try clear hi)
 refine hK.out _ _ ⟨(blk_cell BK286.out 0).trans rfl, (blk_cell BK286.out 1).trans rfl⟩ (fun hHeld => ?_)
 clear hK K
 refine norm_ (a' := ?_) ?_ ?_
 rotate_left
 {
 show Act.put _ (some 46) _ = _
 simp only [Act.put, sT, sZ, sU, i64_w, i32_w]
 rfl
 }
 refine one_ (i := 9) (N := some 50) (bs 11 17) rfl rfl (one_of HT_.out (by kernel_rfl)) (by decide) (fun K hK => ?_)
 refine gsK Try.func93 #[.pointer (some ⟨g, 0, none⟩), .int .i64 (wrap64 (2 + t283))] ?_
 with_reducible refine (spec_l01Below.calls g s0_0 t303 t304 (wrap64 (2 + t283)) t305 t306 t307 w0 _ ?side1 ?side2 A31.out).mono ?_
 (case side1 => repeat (first | (with_reducible first | exact HI0.out | apply IsS132.alloc | apply IsS132.drewN | apply IsS132.drew | apply IsS132.set_1 | apply IsS132.set_2 | refine IsS132.far ?_ NB0_282.out _ | refine IsS132.far ?_ NB0_286.out _) | exact HI0.out))
 (case side2 => repeat (first | (with_reducible first | exact HB.out | apply below_alloc | apply pw_below_drewN | apply below_drew1 | refine below_set ?_ (IsS132.ge HI0.out) | refine below_set ?_ GE282.out | refine below_set ?_ GE286.out) | exact HB.out))
 rintro e w36 ⟨rfl, hi, hb, hk⟩
 refine ⟨_, rfl, ?_⟩
 have n0_ := mK (Kd.R_mono (Kd.R_keep (IsS132.apart (show IsS132 w0 _ g s0_0 t303 t304 from by repeat first|(with_reducible first|exact HI0.out|apply IsS132.alloc|apply IsS132.drewN|apply IsS132.drew|apply IsS132.set_1|apply IsS132.set_2|refine IsS132.far ?_ NB0_282.out _|refine IsS132.far ?_ NB0_286.out _)|exact HI0.out) (rX HO_287001) (by decide)) hk (fun _ h => h.2)) (fun _ h => h.1))
 have n1_ := mK (KeepBut.blk hk (g' := gb282) (o := .cells #[.int .i64 0, .slice none 0 0] 47 (0, 0)) (kX BK282) NB282_0.out (by simp))
 have n2_ := mK (KeepBut.blk hk (g' := gb286) (o := .cells #[.int .i64 (wrap64 (2 + t283)), u287001] 47 (0, 0)) (kX BK286) NB286_0.out (by simp))
 have n3_ := mK (KeepBut.trans (by repeat first|(with_reducible first|exact HK.out|apply KeepBut.set_|apply keep_drewN|apply keep_drew|apply keep_alloc|refine keep_far ?_ GW282.out _|refine keep_far ?_ GW286.out _)|exact HK.out) hk (.inl rfl))
 have n4_ := mK (hb)
 have n5_ := mK (hi)
 clear HO_287001
 clear BK282
 clear BK286
 clear HK
 clear HB
 clear HI0
 have HO_287001 := n0_
 have BK282 := n1_
 have BK286 := n2_
 have HK := n3_
 have HB := n4_
 have HI0 := n5_
 clear n0_ n1_ n2_ n3_ n4_ n5_
 (try clear hb)
 (try clear hb2)
 (try clear hk)
 (try clear hi)
 refine hK.out _ _ ⟨(blk_cell BK286.out 0).trans rfl, (blk_cell BK286.out 1).trans rfl⟩ (fun hHeld => ?_)
 clear hK K
 refine norm_ (a' := ?_) ?_ ?_
 rotate_left
 {
 show Act.put _ (some 50) _ = _
 simp only [Act.put, sT, sZ, sU, i64_w, i32_w]
 rfl
 }
 refine one_ (i := 11) (N := some 52) (bs 12 17) rfl rfl (one_of HT_.out (by kernel_rfl)) (by decide) (fun K hK => ?_)
 refine gsK Try.func109 #[.pointer (some ⟨g, 0, none⟩)] ?_
 with_reducible refine (spec_l02Draw.calls g s0_0 t306 t307 t308 t309 t310 t311 w0 _ ?side1 ?side2 A32.out).mono ?_
 (case side1 => repeat (first | (with_reducible first | exact HI0.out | apply IsS132.alloc | apply IsS132.drewN | apply IsS132.drew | apply IsS132.set_1 | apply IsS132.set_2 | refine IsS132.far ?_ NB0_282.out _ | refine IsS132.far ?_ NB0_286.out _) | exact HI0.out))
 (case side2 => repeat (first | (with_reducible first | exact HB.out | apply below_alloc | apply pw_below_drewN | apply below_drew1 | refine below_set ?_ (IsS132.ge HI0.out) | refine below_set ?_ GE282.out | refine below_set ?_ GE286.out) | exact HB.out))
 rintro e w37 ⟨rfl, hi, hb, hk⟩
 refine ⟨_, rfl, ?_⟩
 have n0_ := mK (Kd.R_mono (Kd.R_keep (IsS132.apart (show IsS132 w0 _ g s0_0 t306 t307 from by repeat first|(with_reducible first|exact HI0.out|apply IsS132.alloc|apply IsS132.drewN|apply IsS132.drew|apply IsS132.set_1|apply IsS132.set_2|refine IsS132.far ?_ NB0_282.out _|refine IsS132.far ?_ NB0_286.out _)|exact HI0.out) (rX HO_287001) (by decide)) hk (fun _ h => h.2)) (fun _ h => h.1))
 have n1_ := mK (KeepBut.blk hk (g' := gb282) (o := .cells #[.int .i64 0, .slice none 0 0] 47 (0, 0)) (kX BK282) NB282_0.out (by simp))
 have n2_ := mK (KeepBut.blk hk (g' := gb286) (o := .cells #[.int .i64 (wrap64 (2 + t283)), u287001] 47 (0, 0)) (kX BK286) NB286_0.out (by simp))
 have n3_ := mK (KeepBut.trans (by repeat first|(with_reducible first|exact HK.out|apply KeepBut.set_|apply keep_drewN|apply keep_drew|apply keep_alloc|refine keep_far ?_ GW282.out _|refine keep_far ?_ GW286.out _)|exact HK.out) hk (.inl rfl))
 have n4_ := mK (hb)
 have n5_ := mK (hi)
 clear HO_287001
 clear BK282
 clear BK286
 clear HK
 clear HB
 clear HI0
 have HO_287001 := n0_
 have BK282 := n1_
 have BK286 := n2_
 have HK := n3_
 have HB := n4_
 have HI0 := n5_
 clear n0_ n1_ n2_ n3_ n4_ n5_
 (try clear hb)
 (try clear hb2)
 (try clear hk)
 (try clear hi)
 refine hK.out _ _ ⟨(blk_cell BK286.out 0).trans rfl, (blk_cell BK286.out 1).trans rfl⟩ (fun hHeld => ?_)
 clear hK K
 refine norm_ (a' := ?_) ?_ ?_
 rotate_left
 {
 show Act.put _ (some 52) _ = _
 simp only [Act.put, sT, sZ, sU, i64_w, i32_w]
 rfl
 }
 refine pL 12 53 (bs 13 17) HT_ ?_
 refine one_ (i := 13) (N := some 54) (bs 14 17) rfl rfl (one_of HT_.out (by kernel_rfl)) (by decide) (fun K hK => ?_)
 refine value_ (w1 := ?_) (v := ?_) (by rfl) rfl ?_ ?_
 rotate_left 2
 {
 go_simp
 constructor
 {
 rfl
 }
 {
 rfl
 }
 }
 refine hK.out _ _ ⟨(blk_cell (blk_alloc BK286.out _) 0).trans rfl, (blk_cell (blk_alloc BK286.out _) 1).trans rfl⟩ (fun hHeld => ?_)
 clear hK K
 refine norm_ (a' := ?_) ?_ ?_
 rotate_left
 {
 show Act.put _ (some 54) _ = _
 simp only [Act.put, sT, sZ, sU, i64_w, i32_w]
 rfl
 }
 refine one_ (i := 14) (N := some 55) (bs 15 17) rfl rfl (one_of HT_.out (by kernel_rfl)) (by decide) (fun K hK => ?_)
 refine Kd.R_append_step k76 w.heap.size (by rfl) (.tmp 42) (.tmp 54) 45 76 (.agg #[(.int .i64 0), (.int .i64 0), (.int .i64 0), (.int .i64 0)]) 32 rfl Try.underlying45 info76 rfl (by decide) (by omega) u287001 x287001_2 (⟨t302, t305, (⟨t308, t309⟩ : S52)⟩ : S76) [.int .i64 t302, .int .i64 t305, .int .i64 t308, .int .i64 t309] (fun _ => True) (fun _ => False) rfl rfl ?aP (fun _ hk => hk.elim) ?aF ?aO (Below.refl _ _) ?aS ?aL ?_
 (case aP => exact k76_mkM _ _ _ (⟨t302, t305, (⟨t308, t309⟩ : S52)⟩ : S76))
 (case aF => exact (fun _ _ => trivial))
 (case aO => exact (rX HO_287001))
 (case aS => exact (keep_size (w := w) (g := g) (row := none) (by repeat first|(with_reducible first|exact HK.out|apply KeepBut.set_|apply keep_drewN|apply keep_drew|apply keep_alloc|refine keep_far ?_ GW282.out _|refine keep_far ?_ GW286.out _)|exact HK.out)))
 (case aL => have := LMc33.out; omega)
 intro v313 w38 ho hb hg hat
 rw [← Ny312.out] at ho
 have n0_ := mK (blk_grown (kX BK282) hg (Kd.R_ne HO_287001.out BK282.out (by decide)))
 have n1_ := mK (blk_grown (kX BK286) hg (Kd.R_ne HO_287001.out BK286.out (by decide)))
 have n2_ := mK (IsS132.grown (by repeat first|(with_reducible first|exact HI0.out|apply IsS132.alloc|apply IsS132.drewN|apply IsS132.drew|apply IsS132.set_1|apply IsS132.set_2|refine IsS132.far ?_ NB0_282.out _|refine IsS132.far ?_ NB0_286.out _)|exact HI0.out) hg (IsS132.own_ne HI0.out HO_287001.out (by decide)))
 have n3_ := mK (below_weaken (by repeat (first | (with_reducible first | exact HB.out | apply below_alloc | apply pw_below_drewN | apply below_drew1 | refine below_set ?_ (IsS132.ge HI0.out) | refine below_set ?_ GE282.out | refine below_set ?_ GE286.out) | exact HB.out)) HL.out hb)
 have n4_ := mK (KeepBut.trans (by repeat first|(with_reducible first|exact HK.out|apply KeepBut.set_|apply keep_drewN|apply keep_drew|apply keep_alloc|refine keep_far ?_ GW282.out _|refine keep_far ?_ GW286.out _)|exact HK.out) (KeepBut.of_grown hg g) (Kd.R_base2 HO_287001.out))
 have n5_ := mK (ho)
 clear BK282
 clear BK286
 clear HI0
 clear HB
 clear HK
 clear HO_287001
 have BK282 := n0_
 have BK286 := n1_
 have HI0 := n2_
 have HB := n3_
 have HK := n4_
 have HO314 := n5_
 clear n0_ n1_ n2_ n3_ n4_ n5_
 clear ho hb hg hat
 obtain ⟨Ao39, co39, eo39⟩ := Kd.R_slice HO314.out
 (first | subst eo39 | (injection eo39 with f1_ f2_ f3_; have f4_ := f1_.symm; have f5_ := f3_.symm; clear f1_ f2_ f3_; subst f4_; subst f5_))
 refine hK.out _ _ ⟨(blk_cell BK286.out 0).trans rfl, (blk_cell BK286.out 1).trans rfl⟩ (fun hHeld => ?_)
 clear hK K
 refine norm_ (a' := ?_) ?_ ?_
 rotate_left
 {
 show Act.put _ (some 55) _ = _
 simp only [Act.put, sT, sZ, sU, i64_w, i32_w]
 rfl
 }
 refine pL 15 56 (bs 16 17) HT_ ?_
 refine last_ (i := 16) (N := none) (bs 17 17) rfl rfl (one_of HT_.out (by kernel_rfl)) (by decide) (fun K hK => ?_)
 have hs40 : w38.cell? ⟨gb286, 1, none⟩ = some (u287001) := (blk_cell BK286.out 1).trans rfl
 have hfs40 := fX BK286 1
 have hns40_0 := NB282_286.out
 have hms40_0 := NB286_282.out
 refine skip_ (w1 := ?_) (by rfl) rfl ?_ ?_
 rotate_left
 {
 go_simp
 rfl
 }
 refine hK.out _ _ ?_
 clear hK K
 refine done_ (done_of HT_.out (by kernel_rfl)) ?_
 try go_wp2
 go_roundg k2
 case measure => have := HK1.out; have := HK2.out; omega
 case rel => exact ⟨(wrap64 (x6_2 - 1)), (t310), (t311), (y312), (.slice Ao39 y312.length co39), (by first | rfl | (simp; done) | (simp [*]; done)), H', ⟨by have := HK1.out; have := HK2.out; omega⟩, ⟨by (with_reducible repeat first|apply rA|apply rN|apply rD); exact Kd.R_mono (Kd.R_far (p := ⟨gb286, 1, none⟩) (Kd.R_types HO314.out BK286.out (by decide)) (fun _ hk => hk.2) (.slice Ao39 y312.length co39)) (fun _ hk => trivial)⟩, ⟨kF BK282 NB282_286⟩, ⟨by (with_reducible repeat first|apply kN|apply kD|apply kA); refine blk_put (cs := #[.int .i64 (wrap64 (2 + t283)), u287001]) ?_ 1 _ rfl; (with_reducible repeat first|apply kN|apply kD|apply kA); exact BK286.out⟩, ⟨by repeat first|(with_reducible first|exact HI0.out|apply IsS132.alloc|apply IsS132.drewN|apply IsS132.drew|apply IsS132.set_1|apply IsS132.set_2|refine IsS132.far ?_ NB0_282.out _|refine IsS132.far ?_ NB0_286.out _)|exact HI0.out⟩, ⟨by repeat first|(with_reducible first|exact HK.out|apply KeepBut.set_|apply keep_drewN|apply keep_drew|apply keep_alloc|refine keep_far ?_ GW282.out _|refine keep_far ?_ GW286.out _)|exact HK.out⟩, ⟨by repeat (first | (with_reducible first | exact HB.out | apply below_alloc | apply pw_below_drewN | apply below_drew1 | refine below_set ?_ (IsS132.ge HI0.out) | refine below_set ?_ GE282.out | refine below_set ?_ GE286.out) | exact HB.out)⟩⟩
 )
 )
 )
 )

/-! ### spec_MakeSimple: function 46 -/
def spec_MakeSimple.f (k : Nat) (l0 : List Int) : Option (Int × (List (S76))) := (spec_l01New.f k l0).bind fun bt316 => ((spec_l05Draw.f k bt316.1 bt316.2.1 bt316.2.2).bind fun bt320 => (some (bt320.1, bt320.2.1)))
theorem spec_MakeSimple.mono : ∀ a0 k, LeO (spec_MakeSimple.f k a0) (spec_MakeSimple.f (k + 1) a0) := by
  intro a0 k
  unfold spec_MakeSimple.f
  repeat' first|(with_reducible first|exact spec_l01New.mono _ _|exact spec_l05Draw.mono _ _ _ _|exact lR _|exact lN _|refine lI ?_ ?_|refine lB ?_ (fun _ => ?_))|exact spec_l01New.mono _ _|exact spec_l05Draw.mono _ _ _ _|exact lN _|refine lI ?_ ?_|refine lB ?_ (fun _ => ?_)
set_option maxHeartbeats 8000000 in
set_option maxRecDepth 100000 in
theorem spec_MakeSimple.calls (k : Nat) (A0 : Option Addr) (c0 : Nat) (l0 : List Int) (r1 : Int) (r2 : List (S76)) (w : World) (hr0 : Kd.C (Kd.int .u8) w A0 l0.length l0) (hc0 : l0.length ≤ c0) (h : spec_MakeSimple.f k l0 = some (r1, r2)) :
    Calls Try.prog 46 #[.slice A0 l0.length c0] w fun e w' => ∃ v1_ : Value, e = .returned (.agg #[.int .i64 r1, v1_]) ∧ Kd.R k76 76 w' w.heap.size (fun _ => True) v1_ r2 ∧ Below w.heap.size w w' := by
  have hu47 := Try.underlying47
  have HR0 := mK hr0
  have HC0 := mK hc0
  clear hr0 hc0
  have HB := mK (Below.refl w.heap.size w)
  have H : ((spec_l01New.f k l0).bind fun bt316 => ((spec_l05Draw.f k bt316.1 bt316.2.1 bt316.2.2).bind fun bt320 => (some (bt320.1, bt320.2.1)))) = some (r1, r2) := h
  clear h
  replace H := Option.bind_eq_some_iff.mp H
  obtain ⟨⟨t316, t317, t318⟩, A20, H⟩ := H
  replace H : ((spec_l05Draw.f k t316 t317 t318).bind fun bt320 => (some (bt320.1, bt320.2.1))) = some (r1, r2) := H
  have A2 := mK A20
  clear A20
  replace H := Option.bind_eq_some_iff.mp H
  obtain ⟨⟨t320, t321, t324, t325⟩, A30, H⟩ := H
  replace H : (some (t320, t321)) = some (r1, r2) := H
  have A3 := mK A30
  clear A30
  simp only [Option.some.injEq, Prod.mk.injEq] at H
  obtain ⟨rfl, rfl⟩ := H
  go_enter Try.func46, Try.ntmps46
  go_wp2_with (first | ((with_reducible refine gate_dst (N := 2) rfl ?_); refine bxE 2 #[.int .i64 0, .slice none 0 0] 47 ?_; intro gb315 hg w4 hbox hb; have BK315 := mK hbox; have GW315 := mK (gX hg HB); have GE315 := mK (gX hg HB); replace HB := bB HB hb; clear hb hbox hg) | ((with_reducible refine gate_callee (f := 76) rfl ?_); refine gsE (some 4) Try.func76 #[.slice A0 l0.length c0] ?_; (with_reducible refine (spec_l01New.calls k _ _ l0 t316 t317 t318 w _ ?side1 ?side2 ?side3 A2.out).mono ?_); (case side1 => repeat (first | (with_reducible first | exact HB.out | apply below_alloc | apply pw_below_drewN | apply below_drew1 | refine below_set ?_ GE315.out) | exact HB.out)); (case side2 => exact HR0.out); (case side3 => exact HC0.out); rintro e w5 ⟨g319, rfl, hi, hb, hb2⟩; refine ⟨_, rfl, ?_⟩; replace HB := mK (hb); have HI319 := mK (hi); have NB319_315 := mK (IsS132.ne_blk hi (blk_below (kX BK315) hb2) (by decide)); have NB315_319 := mK (Ne.symm (IsS132.ne_blk hi (blk_below (kX BK315) hb2) (by decide))); replace BK315 := kB BK315 hb2; (try clear hb); (try clear hb2); (try clear hk); (try clear hi)) | ((with_reducible refine gate_callee (f := 85) rfl ?_); refine gsE (some 5) Try.func85 #[.pointer (some ⟨g319, 0, none⟩)] ?_; (with_reducible refine (spec_l05Draw.calls k g319 t316 t317 t318 t320 t321 t324 t325 w _ ?side1 ?side2 A3.out).mono ?_); (case side1 => repeat (first | (with_reducible first | exact HI319.out | apply IsS132.alloc | apply IsS132.drewN | apply IsS132.drew | apply IsS132.set_1 | apply IsS132.set_2 | refine IsS132.far ?_ NB319_315.out _) | exact HI319.out)); (case side2 => repeat (first | (with_reducible first | exact HB.out | apply below_alloc | apply pw_below_drewN | apply below_drew1 | refine below_set ?_ (IsS132.ge HI319.out) | refine below_set ?_ GE315.out) | exact HB.out)); rintro e w6 ⟨v322, rfl, ho0, hi, hb, hk⟩; refine ⟨_, rfl, ?_⟩; replace BK315 := mK (KeepBut.blk hk (g' := gb315) (o := .cells #[.int .i64 0, .slice none 0 0] 47 (0, 0)) (kX BK315) NB315_319.out (by simp)); have HO323 := mK (Kd.R_lower ho0 (below_size (by repeat (first | (with_reducible first | exact HB.out | apply below_alloc | apply pw_below_drewN | apply below_drew1 | refine below_set ?_ (IsS132.ge HI319.out) | refine below_set ?_ GE315.out) | exact HB.out)))); replace HB := mK (hb); replace HI319 := mK (hi); (try clear hb); (try clear hb2); (try clear hk); (try clear hi); (try clear ho0); have hnb7 := NB315_319.out; have hnc7 := NB319_315.out; have hcz8_0 := q0 BK315; have hcz8_1 := q1 BK315; have hfz8_0 := fX BK315 0; have hfz8_1 := fX BK315 1; obtain ⟨Ao9, co9, eo9⟩ := Kd.R_slice HO323.out; subst eo9))
  refine bodyPost_ret (results_cell_row rfl _ _ gb315 47 #[.int .i64 t320, .slice Ao9 t321.length co9] (0, 0) _ rfl (kP2 BK315) Try.underlying47 rfl (by kernel_rfl)) rfl ?_
  exact ⟨_, by first | rfl | (simp [errW_none, errW_some] <;> rfl) | (simp [*, errW_none, errW_some] <;> rfl), rF2 HO323 BK315, by repeat (first | (with_reducible first | exact HB.out | apply below_alloc | apply pw_below_drewN | apply below_drew1 | refine below_set ?_ (IsS132.ge HI319.out) | refine below_set ?_ GE315.out) | exact HB.out)⟩

end Go.Proofs.Ytbbblnmngjhadaa.QFnSchedules
