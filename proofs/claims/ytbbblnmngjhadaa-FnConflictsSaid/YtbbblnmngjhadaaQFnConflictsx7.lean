-- Written by this session's program wip/tools/mk.py out of the translation; Lean checks it.
import Derived.Test.YtbbblnmngjhadaaQFnConflictsx0
import Derived.Test.YtbbblnmngjhadaaQFnConflictsx3
import Derived.Test.YtbbblnmngjhadaaQFnConflictsx6
namespace Go.Proofs.Ytbbblnmngjhadaa.QFnConflicts
open Go.RowKit Go.Proofs.YtbbblnmngjhadaaW.PrintWords Go.Proofs.YtbbblnmngjhadaaW.PrintLast Go.Proofs.YtbbblnmngjhadaaW.PrintMore
attribute [local go_sem] max2_int min2_int max_two min_two max_three min_three max_four min_four   -- for this text's walks alone
set_option linter.unusedVariables false
set_option linter.unusedSimpArgs false

/-! ### impl_WithLink: function 47 -/
def impl_WithLink.f (a0_0 : Int) (l0_1 : List (S76)) (a1_0 : Int) (a1_1 : Int) (a1_2 : Int) (a1_3 : Int) : Option (Int × (List (S76)) × Bool) := (impl_Link_86.f l0_1).bind fun t263 => ((some (([(⟨a1_0, a1_1, (⟨a1_2, a1_3⟩ : S52)⟩ : S76)] : List (S76)) : List (S76))).bind fun y266 => (if t263.length + y266.length < 4398046511104 then ((some (t263 ++ y266 : List (S76))).bind fun y269 => ((impl_SimpleOk.f a0_0 l0_1).bind fun t273 => (if t273 = true then ((impl_SimpleOk.f a0_0 y269).bind fun t274 => (if t274 = true then (some (a0_0, y269, true)) else (some (0, ([] : List (S76)), false)))) else (some (0, ([] : List (S76)), false))))) else (none)))
def impl_WithLink.T1 : Bool × List (List Nat × List Nat) := (true, [([], []), ([0], [0]), ([], []), ([2], [2]), ([3], [3]), ([], []), ([5], [5]), ([4, 6, 4], [4, 6]), ([1, 7], [1, 7]), ([], []), ([9, 8, 7, 0, 1, 2, 3, 4, 5, 6, 7, 8, 9], [8, 9])])
def impl_WithLink.B1 : List Nat := [0, 1, 0, 4, 12, 0, 32, 124, 255, 0, 1023]
theorem impl_WithLink.tab1 : rtab .any (opsOf Try.f47 1) = impl_WithLink.T1 := by kernel_rfl
theorem impl_WithLink.bits1 : waitsOk impl_WithLink.T1.2 impl_WithLink.B1 = true := by kernel_rfl
set_option maxHeartbeats 8000000 in
set_option maxRecDepth 100000 in
theorem impl_WithLink.calls (a0_0 : Int) (A0_1 : Option Addr) (c0_1 : Nat) (l0_1 : List (S76)) (a1_0 : Int) (a1_1 : Int) (a1_2 : Int) (a1_3 : Int) (r1 : Int) (r2 : List (S76)) (r3 : Bool) (w : World) (hr0_1 : Kd.C k76 w A0_1 l0_1.length l0_1) (hc0_1 : l0_1.length ≤ c0_1) (h : impl_WithLink.f a0_0 l0_1 a1_0 a1_1 a1_2 a1_3 = some (r1, r2, r3)) :
    Calls Try.prog 47 #[.agg #[.int .i64 a0_0, .slice A0_1 l0_1.length c0_1], .agg #[.int .i64 a1_0, .int .i64 a1_1, .int .i64 a1_2, .int .i64 a1_3]] w fun e w' => ∃ v1_ : Value, e = .returned (.tuple #[.agg #[.int .i64 r1, v1_], .bool r3]) ∧ Kd.R k76 76 w' w.heap.size (fun _ => True) v1_ r2 ∧ Below w.heap.size w w' := by
 have hu47 := Try.underlying47
 have hu76 := Try.underlying76
 have HR0_1 := mK hr0_1
 have HC0_1 := mK hc0_1
 clear hr0_1 hc0_1
 have HB := mK (Below.refl w.heap.size w)
 have H : ((impl_Link_86.f l0_1).bind fun t263 => ((some (([(⟨a1_0, a1_1, (⟨a1_2, a1_3⟩ : S52)⟩ : S76)] : List (S76)) : List (S76))).bind fun y266 => (if t263.length + y266.length < 4398046511104 then ((some (t263 ++ y266 : List (S76))).bind fun y269 => ((impl_SimpleOk.f a0_0 l0_1).bind fun t273 => (if t273 = true then ((impl_SimpleOk.f a0_0 y269).bind fun t274 => (if t274 = true then (some (a0_0, y269, true)) else (some (0, ([] : List (S76)), false)))) else (some (0, ([] : List (S76)), false))))) else (none)))) = some (r1, r2, r3) := h
 clear h
 replace H := Option.bind_eq_some_iff.mp H
 obtain ⟨t263, A30, H⟩ := H
 replace H : ((some (([(⟨a1_0, a1_1, (⟨a1_2, a1_3⟩ : S52)⟩ : S76)] : List (S76)) : List (S76))).bind fun y266 => (if t263.length + y266.length < 4398046511104 then ((some (t263 ++ y266 : List (S76))).bind fun y269 => ((impl_SimpleOk.f a0_0 l0_1).bind fun t273 => (if t273 = true then ((impl_SimpleOk.f a0_0 y269).bind fun t274 => (if t274 = true then (some (a0_0, y269, true)) else (some (0, ([] : List (S76)), false)))) else (some (0, ([] : List (S76)), false))))) else (none))) = some (r1, r2, r3) := H
 have A3 := mK A30
 clear A30
 obtain ⟨y266, hy266⟩ : ∃ y_ : List (S76), y_ = (([(⟨a1_0, a1_1, (⟨a1_2, a1_3⟩ : S52)⟩ : S76)] : List (S76))) := ⟨_, rfl⟩
 replace H : (if t263.length + y266.length < 4398046511104 then ((some (t263 ++ y266 : List (S76))).bind fun y269 => ((impl_SimpleOk.f a0_0 l0_1).bind fun t273 => (if t273 = true then ((impl_SimpleOk.f a0_0 y269).bind fun t274 => (if t274 = true then (some (a0_0, y269, true)) else (some (0, ([] : List (S76)), false)))) else (some (0, ([] : List (S76)), false))))) else (none)) = some (r1, r2, r3) := by first | (rw [hy266]; with_reducible exact H) | (have H2_ := (Option.bind_some _ _).symm.trans H; rw [hy266]; with_reducible exact H2_) | (have H2_ := (Option.bind_some _ _).symm.trans H; with_reducible exact H2_) | with_reducible exact H | (rw [hy266]; exact H) | exact H
 have Ny266 := mK hy266
 clear hy266
 by_cases c4 : t263.length + y266.length < 4398046511104
 rotate_left
 {
 rw [if_neg c4] at H
 exact absurd H (by simp)
 }
 rw [if_pos c4] at H
 have LMc4 := mK c4
 clear c4
 obtain ⟨y269, hy269⟩ : ∃ y_ : List (S76), y_ = (t263 ++ y266) := ⟨_, rfl⟩
 replace H : ((impl_SimpleOk.f a0_0 l0_1).bind fun t273 => (if t273 = true then ((impl_SimpleOk.f a0_0 y269).bind fun t274 => (if t274 = true then (some (a0_0, y269, true)) else (some (0, ([] : List (S76)), false)))) else (some (0, ([] : List (S76)), false)))) = some (r1, r2, r3) := by first | (rw [hy269]; with_reducible exact H) | (have H2_ := (Option.bind_some _ _).symm.trans H; rw [hy269]; with_reducible exact H2_) | (have H2_ := (Option.bind_some _ _).symm.trans H; with_reducible exact H2_) | with_reducible exact H | (rw [hy269]; exact H) | exact H
 have Ny269 := mK hy269
 clear hy269
 replace H := Option.bind_eq_some_iff.mp H
 obtain ⟨t273, A50, H⟩ := H
 replace H : (if t273 = true then ((impl_SimpleOk.f a0_0 y269).bind fun t274 => (if t274 = true then (some (a0_0, y269, true)) else (some (0, ([] : List (S76)), false)))) else (some (0, ([] : List (S76)), false))) = some (r1, r2, r3) := H
 have A5 := mK A50
 clear A50
 by_cases c6 : t273 = true
 rotate_left
 {
 replace c6 := Bool.eq_false_iff.mpr c6
 subst c6
 have H1 : (some (0, ([] : List (S76)), false)) = some (r1, r2, r3) := by rw [if_neg (show ¬ (false = true) by decide)] at H; exact H
 clear H
 have H := H1
 clear H1
 simp only [Option.some.injEq, Prod.mk.injEq] at H
 obtain ⟨rfl, rfl, rfl⟩ := H
 go_enter Try.func47, Try.ntmps47
 try go_wp2_with (first | ((with_reducible refine gate_dst (N := 2) rfl ?_); refine box_event ?hg (N := 2) ?hd (cs := #[.int .i64 a0_0, .slice A0_1 l0_1.length c0_1]) (t := 47) ?hr ?_; (case hd => rfl); (case hg => rfl); (case hr => go_simp <;> rfl); intro gb260 hg w62 hbox hb; have n0_ := mK (below_step (by repeat first|(with_reducible first|exact HB.out|apply bA|apply bN|apply bD)|exact HB.out) hb); have n1_ := mK (hbox); have n2_ := mK ((by rw [hg]; exact (below_size (by repeat first|(with_reducible first|exact HB.out|apply bA|apply bN|apply bD)|exact HB.out)) : w.heap.size ≤ gb260)); have n3_ := mK ((by rw [hg]; exact (below_size (by repeat first|(with_reducible first|exact HB.out|apply bA|apply bN|apply bD)|exact HB.out)) : w.heap.size ≤ gb260)); clear HB; have HB := n0_; have BK260 := n1_; have GW260 := n2_; have GE260 := n3_; clear n0_ n1_ n2_ n3_; clear hb hbox hg) | ((with_reducible refine gate_dst (N := 3) rfl ?_); refine box_event ?hg (N := 3) ?hd (cs := #[.int .i64 a1_0, .int .i64 a1_1, .int .i64 a1_2, .int .i64 a1_3]) (t := 76) ?hr ?_; (case hd => rfl); (case hg => rfl); (case hr => go_simp <;> rfl); intro gb261 hg w63 hbox hb; have n0_ := mK (blk_below (by (with_reducible repeat first|apply kN|apply kD|apply kA); exact BK260.out) hb); have n1_ := mK (below_step (by repeat first|(with_reducible first|exact HB.out|apply bA|apply bN|apply bD|refine bS ?_ GE260.out)|exact HB.out) hb); have n2_ := mK (hbox); have n3_ := mK ((by rw [hg]; exact (below_size (by repeat first|(with_reducible first|exact HB.out|apply bA|apply bN|apply bD|refine bS ?_ GE260.out)|exact HB.out)) : w.heap.size ≤ gb261)); have n4_ := mK ((by rw [hg]; exact (below_size (by repeat first|(with_reducible first|exact HB.out|apply bA|apply bN|apply bD|refine bS ?_ GE260.out)|exact HB.out)) : w.heap.size ≤ gb261)); have n5_ := mK ((by rw [hg]; exact Nat.ne_of_lt (blk_lt (by (with_reducible repeat first|apply kN|apply kD|apply kA); exact BK260.out)) : gb260 ≠ gb261)); have n6_ := mK ((by rw [hg]; exact Nat.ne_of_gt (blk_lt (by (with_reducible repeat first|apply kN|apply kD|apply kA); exact BK260.out)) : gb261 ≠ gb260)); clear BK260; clear HB; have BK260 := n0_; have HB := n1_; have BK261 := n2_; have GW261 := n3_; have GE261 := n4_; have NB260_261 := n5_; have NB261_260 := n6_; clear n0_ n1_ n2_ n3_ n4_ n5_ n6_; clear hb hbox hg) | ((with_reducible refine gate_dst (N := 4) rfl ?_); refine box_event ?hg (N := 4) ?hd (cs := #[.int .i64 0, .slice none 0 0]) (t := 47) ?hr ?_; (case hd => rfl); (case hg => rfl); (case hr => go_simp <;> rfl); intro gb262 hg w64 hbox hb; have n0_ := mK (blk_below (by (with_reducible repeat first|apply kN|apply kD|apply kA); exact BK260.out) hb); have n1_ := mK (blk_below (by (with_reducible repeat first|apply kN|apply kD|apply kA); exact BK261.out) hb); have n2_ := mK (below_step (by repeat first|(with_reducible first|exact HB.out|apply bA|apply bN|apply bD|refine bS ?_ GE260.out|refine bS ?_ GE261.out)|exact HB.out) hb); have n3_ := mK (hbox); have n4_ := mK ((by rw [hg]; exact (below_size (by repeat first|(with_reducible first|exact HB.out|apply bA|apply bN|apply bD|refine bS ?_ GE260.out|refine bS ?_ GE261.out)|exact HB.out)) : w.heap.size ≤ gb262)); have n5_ := mK ((by rw [hg]; exact (below_size (by repeat first|(with_reducible first|exact HB.out|apply bA|apply bN|apply bD|refine bS ?_ GE260.out|refine bS ?_ GE261.out)|exact HB.out)) : w.heap.size ≤ gb262)); have n6_ := mK ((by rw [hg]; exact Nat.ne_of_lt (blk_lt (by (with_reducible repeat first|apply kN|apply kD|apply kA); exact BK260.out)) : gb260 ≠ gb262)); have n7_ := mK ((by rw [hg]; exact Nat.ne_of_gt (blk_lt (by (with_reducible repeat first|apply kN|apply kD|apply kA); exact BK260.out)) : gb262 ≠ gb260)); have n8_ := mK ((by rw [hg]; exact Nat.ne_of_lt (blk_lt (by (with_reducible repeat first|apply kN|apply kD|apply kA); exact BK261.out)) : gb261 ≠ gb262)); have n9_ := mK ((by rw [hg]; exact Nat.ne_of_gt (blk_lt (by (with_reducible repeat first|apply kN|apply kD|apply kA); exact BK261.out)) : gb262 ≠ gb261)); clear BK260; clear BK261; clear HB; have BK260 := n0_; have BK261 := n1_; have HB := n2_; have BK262 := n3_; have GW262 := n4_; have GE262 := n5_; have NB260_262 := n6_; have NB262_260 := n7_; have NB261_262 := n8_; have NB262_261 := n9_; clear n0_ n1_ n2_ n3_ n4_ n5_ n6_ n7_ n8_ n9_; clear hb hbox hg))
 have n0_ := mK (blk_drew BK260.out)
 have n1_ := mK (blk_drew BK261.out)
 have n2_ := mK (blk_drew BK262.out)
 have n3_ := mK (below_drew1 HB.out)
 clear BK260
 clear BK261
 clear BK262
 clear HB
 have BK260 := n0_
 have BK261 := n1_
 have BK262 := n2_
 have HB := n3_
 clear n0_ n1_ n2_ n3_
 refine start_ (n := 11) (S := fun w' => w'.cell? ⟨gb260, 0, none⟩ = some (.int .i64 a0_0) ∧ w'.cell? ⟨gb260, 1, none⟩ = some (.slice A0_1 l0_1.length c0_1) ∧ w'.cell? ⟨gb261, 0, none⟩ = some (.int .i64 a1_0) ∧ w'.cell? ⟨gb261, 1, none⟩ = some (.int .i64 a1_1) ∧ w'.cell? ⟨gb261, 2, none⟩ = some (.int .i64 a1_2) ∧ w'.cell? ⟨gb261, 3, none⟩ = some (.int .i64 a1_3)) (ds := []) #[false, false, false, false, false, false, false, false, false, false, false] (by kernel_rfl) rfl rfl ⟨(blk_cell BK260.out 0).trans rfl, (blk_cell BK260.out 1).trans rfl, (blk_cell BK261.out 0).trans rfl, (blk_cell BK261.out 1).trans rfl, (blk_cell BK261.out 2).trans rfl, (blk_cell BK261.out 3).trans rfl⟩ (fun hHeld => ?_); refine with_tabW impl_WithLink.tab1 impl_WithLink.bits1 (fun HT_ HW_ => ?_)
 generalize w64.drew = w65 at BK260 BK261 BK262 HB hHeld ⊢
 refine pure_ (i := 0) (N := some 7) (v := ?_) (a' := ?_) #[true, false, false, false, false, false, false, false, false, false, false] rfl rfl (any_of HT_.out (by kernel_rfl)) (fun _ _ _ h => h) (Or.inl ⟨by rfl, ?_⟩) ?_ ?_
 rotate_left
 {
 intro w'
 go_simp
 with_reducible rfl
 }
 rotate_left
 {
 simp only [Act.put, sT, sZ, sU, i64_w, i32_w]
 rfl
 }
 refine pure_ (i := 2) (N := some 9) (v := ?_) (a' := ?_) #[true, false, true, false, false, false, false, false, false, false, false] rfl rfl (any_of HT_.out (by kernel_rfl)) (fun _ _ _ h => h) (Or.inl ⟨by rfl, ?_⟩) ?_ ?_
 rotate_left
 {
 intro w'
 go_simp
 with_reducible rfl
 }
 rotate_left
 {
 simp only [Act.put, sT, sZ, sU, i64_w, i32_w]
 rfl
 }
 refine take_ (i := 1) (N := some 8) (v := ?_) (a' := ?_) #[true, true, true, false, false, false, false, false, false, false, false] rfl rfl (take_ofW HT_.out HW_.out (by kernel_rfl)) (fun _ _ _ h => h) (Or.inl ⟨by rfl, ?_⟩) hHeld ?_ ?_
 rotate_left
 {
 rintro w' ⟨s0, s1, s2, s3, s4, s5⟩
 go_simp
 with_reducible rfl
 }
 rotate_left
 {
 simp only [Act.put, sT, sZ, sU, i64_w, i32_w]
 rfl
 }
 refine take_ (i := 3) (N := some 10) (v := ?_) (a' := ?_) #[true, true, true, true, false, false, false, false, false, false, false] rfl rfl (take_ofW HT_.out HW_.out (by kernel_rfl)) (fun _ _ _ h => h) (Or.inl ⟨by rfl, ?_⟩) hHeld ?_ ?_
 rotate_left
 {
 rintro w' ⟨s0, s1, s2, s3, s4, s5⟩
 go_simp
 with_reducible rfl
 }
 rotate_left
 {
 simp only [Act.put, sT, sZ, sU, i64_w, i32_w]
 rfl
 }
 refine take_ (i := 5) (N := some 12) (v := ?_) (a' := ?_) #[true, true, true, true, false, true, false, false, false, false, false] rfl rfl (take_ofW HT_.out HW_.out (by kernel_rfl)) (fun _ _ _ h => h) (Or.inl ⟨by rfl, ?_⟩) hHeld ?_ ?_
 rotate_left
 {
 rintro w' ⟨s0, s1, s2, s3, s4, s5⟩
 go_simp
 with_reducible rfl
 }
 rotate_left
 {
 simp only [Act.put, sT, sZ, sU, i64_w, i32_w]
 rfl
 }
 refine join_ (σ := Value × Value × Value × Nat) 1 #[true, true, true, true, true, true, true, true, true, true, false] (fun s_ => [(11, s_.1), (13, s_.2.1), (14, s_.2.2.1), (6, .pointer (some ⟨s_.2.2.2, 0, none⟩)), (15, .agg #[.int .i64 a0_0, s_.2.2.1])]) (fun s_ w' => (w'.cell? ⟨gb260, 0, none⟩ = some (.int .i64 a0_0) ∧ w'.cell? ⟨gb260, 1, none⟩ = some (.slice A0_1 l0_1.length c0_1) ∧ w'.cell? ⟨gb261, 0, none⟩ = some (.int .i64 a1_0) ∧ w'.cell? ⟨gb261, 1, none⟩ = some (.int .i64 a1_1) ∧ w'.cell? ⟨gb261, 2, none⟩ = some (.int .i64 a1_2) ∧ w'.cell? ⟨gb261, 3, none⟩ = some (.int .i64 a1_3)) ∧ (Kd.R k76 76 w' w.heap.size (fun k_ => some k_ ≠ (s_.2.2.1 : Value).ownBlock ∧ k_ ≠ gb261) s_.2.1 y266) ∧ (Kd.R k76 76 w' w.heap.size (fun k_ => some k_ ≠ (s_.2.1 : Value).ownBlock ∧ k_ ≠ gb261) s_.2.2.1 y269) ∧ (w'.heap[gb260]? = some (.cells #[.int .i64 a0_0, .slice A0_1 l0_1.length c0_1] 47 (0, 0))) ∧ (w'.heap[gb261]? = some (.cells #[.int .i64 a1_0, .int .i64 a1_1, .int .i64 a1_2, .int .i64 a1_3] 76 (0, 0))) ∧ (w'.heap[gb262]? = some (.cells #[.int .i64 0, .slice none 0 0] 47 (0, 0))) ∧ (w'.heap[s_.2.2.2]? = some (.cells #[.int .i64 0, .slice none 0 0] 47 (0, 0))) ∧ (w.heap.size ≤ s_.2.2.2) ∧ (w.heap.size ≤ s_.2.2.2) ∧ (gb260 ≠ s_.2.2.2) ∧ (s_.2.2.2 ≠ gb260) ∧ (gb261 ≠ s_.2.2.2) ∧ (s_.2.2.2 ≠ gb261) ∧ (gb262 ≠ s_.2.2.2) ∧ (s_.2.2.2 ≠ gb262) ∧ (Below w.heap.size w w')) ?_ ?_
 rotate_left
 {
 intro hJ4_6_7_9
 refine join_ (σ := Value × Value × Value) 2 #[true, true, true, true, true, true, true, true, true, false, false] (fun s_ => [(11, s_.1), (13, s_.2.1), (14, s_.2.2), (15, .agg #[.int .i64 a0_0, s_.2.2])]) (fun s_ w' => (w'.cell? ⟨gb260, 0, none⟩ = some (.int .i64 a0_0) ∧ w'.cell? ⟨gb260, 1, none⟩ = some (.slice A0_1 l0_1.length c0_1) ∧ w'.cell? ⟨gb261, 0, none⟩ = some (.int .i64 a1_0) ∧ w'.cell? ⟨gb261, 1, none⟩ = some (.int .i64 a1_1) ∧ w'.cell? ⟨gb261, 2, none⟩ = some (.int .i64 a1_2) ∧ w'.cell? ⟨gb261, 3, none⟩ = some (.int .i64 a1_3)) ∧ (Kd.R k76 76 w' w.heap.size (fun k_ => some k_ ≠ (s_.2.2 : Value).ownBlock ∧ k_ ≠ gb261) s_.2.1 y266) ∧ (Kd.R k76 76 w' w.heap.size (fun k_ => some k_ ≠ (s_.2.1 : Value).ownBlock ∧ k_ ≠ gb261) s_.2.2 y269) ∧ (w'.heap[gb260]? = some (.cells #[.int .i64 a0_0, .slice A0_1 l0_1.length c0_1] 47 (0, 0))) ∧ (w'.heap[gb261]? = some (.cells #[.int .i64 a1_0, .int .i64 a1_1, .int .i64 a1_2, .int .i64 a1_3] 76 (0, 0))) ∧ (w'.heap[gb262]? = some (.cells #[.int .i64 0, .slice none 0 0] 47 (0, 0))) ∧ (Below w.heap.size w w')) ?_ ?_
 rotate_left
 {
 intro hJ4_6_7
 refine join_ (σ := Value × Value × Nat) 3 #[true, true, true, true, true, true, true, false, false, true, false] (fun s_ => [(11, s_.1), (13, s_.2.1), (6, .pointer (some ⟨s_.2.2, 0, none⟩))]) (fun s_ w' => (w'.cell? ⟨gb260, 0, none⟩ = some (.int .i64 a0_0) ∧ w'.cell? ⟨gb260, 1, none⟩ = some (.slice A0_1 l0_1.length c0_1) ∧ w'.cell? ⟨gb261, 0, none⟩ = some (.int .i64 a1_0) ∧ w'.cell? ⟨gb261, 1, none⟩ = some (.int .i64 a1_1) ∧ w'.cell? ⟨gb261, 2, none⟩ = some (.int .i64 a1_2) ∧ w'.cell? ⟨gb261, 3, none⟩ = some (.int .i64 a1_3)) ∧ (Kd.R k76 76 w' w.heap.size (fun k_ => some k_ ≠ (s_.2.1 : Value).ownBlock ∧ k_ ≠ gb261) s_.1 t263) ∧ (Kd.R k76 76 w' w.heap.size (fun k_ => some k_ ≠ (s_.1 : Value).ownBlock ∧ k_ ≠ gb261) s_.2.1 y266) ∧ (w'.heap[gb260]? = some (.cells #[.int .i64 a0_0, .slice A0_1 l0_1.length c0_1] 47 (0, 0))) ∧ (w'.heap[gb261]? = some (.cells #[.int .i64 a1_0, .int .i64 a1_1, .int .i64 a1_2, .int .i64 a1_3] 76 (0, 0))) ∧ (w'.heap[gb262]? = some (.cells #[.int .i64 0, .slice none 0 0] 47 (0, 0))) ∧ (w'.heap[s_.2.2]? = some (.cells #[.int .i64 0, .slice none 0 0] 47 (0, 0))) ∧ (w.heap.size ≤ s_.2.2) ∧ (w.heap.size ≤ s_.2.2) ∧ (gb260 ≠ s_.2.2) ∧ (s_.2.2 ≠ gb260) ∧ (gb261 ≠ s_.2.2) ∧ (s_.2.2 ≠ gb261) ∧ (gb262 ≠ s_.2.2) ∧ (s_.2.2 ≠ gb262) ∧ (Below w.heap.size w w')) ?_ ?_
 rotate_left
 {
 intro hJ4_6_9
 refine join_ (σ := Value × Value) 4 #[true, true, true, true, true, true, true, false, false, false, false] (fun s_ => [(11, s_.1), (13, s_.2)]) (fun s_ w' => (w'.cell? ⟨gb260, 0, none⟩ = some (.int .i64 a0_0) ∧ w'.cell? ⟨gb260, 1, none⟩ = some (.slice A0_1 l0_1.length c0_1) ∧ w'.cell? ⟨gb261, 0, none⟩ = some (.int .i64 a1_0) ∧ w'.cell? ⟨gb261, 1, none⟩ = some (.int .i64 a1_1) ∧ w'.cell? ⟨gb261, 2, none⟩ = some (.int .i64 a1_2) ∧ w'.cell? ⟨gb261, 3, none⟩ = some (.int .i64 a1_3)) ∧ (Kd.R k76 76 w' w.heap.size (fun k_ => some k_ ≠ (s_.2 : Value).ownBlock ∧ k_ ≠ gb261) s_.1 t263) ∧ (Kd.R k76 76 w' w.heap.size (fun k_ => some k_ ≠ (s_.1 : Value).ownBlock ∧ k_ ≠ gb261) s_.2 y266) ∧ (w'.heap[gb260]? = some (.cells #[.int .i64 a0_0, .slice A0_1 l0_1.length c0_1] 47 (0, 0))) ∧ (w'.heap[gb261]? = some (.cells #[.int .i64 a1_0, .int .i64 a1_1, .int .i64 a1_2, .int .i64 a1_3] 76 (0, 0))) ∧ (w'.heap[gb262]? = some (.cells #[.int .i64 0, .slice none 0 0] 47 (0, 0))) ∧ (Below w.heap.size w w')) ?_ ?_
 rotate_left
 {
 intro hJ4_6
 refine join_ (σ := Value × Nat) 4 #[true, true, true, true, true, true, false, false, false, true, false] (fun s_ => [(11, s_.1), (6, .pointer (some ⟨s_.2, 0, none⟩))]) (fun s_ w' => (w'.cell? ⟨gb260, 0, none⟩ = some (.int .i64 a0_0) ∧ w'.cell? ⟨gb260, 1, none⟩ = some (.slice A0_1 l0_1.length c0_1) ∧ w'.cell? ⟨gb261, 0, none⟩ = some (.int .i64 a1_0) ∧ w'.cell? ⟨gb261, 1, none⟩ = some (.int .i64 a1_1) ∧ w'.cell? ⟨gb261, 2, none⟩ = some (.int .i64 a1_2) ∧ w'.cell? ⟨gb261, 3, none⟩ = some (.int .i64 a1_3)) ∧ (Kd.R k76 76 w' w.heap.size (fun k_ => k_ ≠ gb261) s_.1 t263) ∧ (w'.heap[gb260]? = some (.cells #[.int .i64 a0_0, .slice A0_1 l0_1.length c0_1] 47 (0, 0))) ∧ (w'.heap[gb261]? = some (.cells #[.int .i64 a1_0, .int .i64 a1_1, .int .i64 a1_2, .int .i64 a1_3] 76 (0, 0))) ∧ (w'.heap[gb262]? = some (.cells #[.int .i64 0, .slice none 0 0] 47 (0, 0))) ∧ (w'.heap[s_.2]? = some (.cells #[.int .i64 0, .slice none 0 0] 47 (0, 0))) ∧ (w.heap.size ≤ s_.2) ∧ (w.heap.size ≤ s_.2) ∧ (gb260 ≠ s_.2) ∧ (s_.2 ≠ gb260) ∧ (gb261 ≠ s_.2) ∧ (s_.2 ≠ gb261) ∧ (gb262 ≠ s_.2) ∧ (s_.2 ≠ gb262) ∧ (Below w.heap.size w w')) ?_ ?_
 rotate_left
 {
 intro hJ4_9
 refine join_ (σ := Value × Nat) 4 #[true, true, true, true, false, true, true, false, false, true, false] (fun s_ => [(13, s_.1), (6, .pointer (some ⟨s_.2, 0, none⟩))]) (fun s_ w' => (w'.cell? ⟨gb260, 0, none⟩ = some (.int .i64 a0_0) ∧ w'.cell? ⟨gb260, 1, none⟩ = some (.slice A0_1 l0_1.length c0_1) ∧ w'.cell? ⟨gb261, 0, none⟩ = some (.int .i64 a1_0) ∧ w'.cell? ⟨gb261, 1, none⟩ = some (.int .i64 a1_1) ∧ w'.cell? ⟨gb261, 2, none⟩ = some (.int .i64 a1_2) ∧ w'.cell? ⟨gb261, 3, none⟩ = some (.int .i64 a1_3)) ∧ (Kd.R k76 76 w' w.heap.size (fun k_ => k_ ≠ gb261) s_.1 y266) ∧ (w'.heap[gb260]? = some (.cells #[.int .i64 a0_0, .slice A0_1 l0_1.length c0_1] 47 (0, 0))) ∧ (w'.heap[gb261]? = some (.cells #[.int .i64 a1_0, .int .i64 a1_1, .int .i64 a1_2, .int .i64 a1_3] 76 (0, 0))) ∧ (w'.heap[gb262]? = some (.cells #[.int .i64 0, .slice none 0 0] 47 (0, 0))) ∧ (w'.heap[s_.2]? = some (.cells #[.int .i64 0, .slice none 0 0] 47 (0, 0))) ∧ (w.heap.size ≤ s_.2) ∧ (w.heap.size ≤ s_.2) ∧ (gb260 ≠ s_.2) ∧ (s_.2 ≠ gb260) ∧ (gb261 ≠ s_.2) ∧ (s_.2 ≠ gb261) ∧ (gb262 ≠ s_.2) ∧ (s_.2 ≠ gb262) ∧ (Below w.heap.size w w')) ?_ ?_
 rotate_left
 {
 intro hJ6_9
 refine join_ (σ := Value) 5 #[true, true, true, true, true, true, false, false, false, false, false] (fun s_ => [(11, s_)]) (fun s_ w' => (w'.cell? ⟨gb260, 0, none⟩ = some (.int .i64 a0_0) ∧ w'.cell? ⟨gb260, 1, none⟩ = some (.slice A0_1 l0_1.length c0_1) ∧ w'.cell? ⟨gb261, 0, none⟩ = some (.int .i64 a1_0) ∧ w'.cell? ⟨gb261, 1, none⟩ = some (.int .i64 a1_1) ∧ w'.cell? ⟨gb261, 2, none⟩ = some (.int .i64 a1_2) ∧ w'.cell? ⟨gb261, 3, none⟩ = some (.int .i64 a1_3)) ∧ (Kd.R k76 76 w' w.heap.size (fun k_ => k_ ≠ gb261) s_ t263) ∧ (w'.heap[gb260]? = some (.cells #[.int .i64 a0_0, .slice A0_1 l0_1.length c0_1] 47 (0, 0))) ∧ (w'.heap[gb261]? = some (.cells #[.int .i64 a1_0, .int .i64 a1_1, .int .i64 a1_2, .int .i64 a1_3] 76 (0, 0))) ∧ (w'.heap[gb262]? = some (.cells #[.int .i64 0, .slice none 0 0] 47 (0, 0))) ∧ (Below w.heap.size w w')) ?_ ?_
 rotate_left
 {
 intro hJ4
 refine join_ (σ := Value) 5 #[true, true, true, true, false, true, true, false, false, false, false] (fun s_ => [(13, s_)]) (fun s_ w' => (w'.cell? ⟨gb260, 0, none⟩ = some (.int .i64 a0_0) ∧ w'.cell? ⟨gb260, 1, none⟩ = some (.slice A0_1 l0_1.length c0_1) ∧ w'.cell? ⟨gb261, 0, none⟩ = some (.int .i64 a1_0) ∧ w'.cell? ⟨gb261, 1, none⟩ = some (.int .i64 a1_1) ∧ w'.cell? ⟨gb261, 2, none⟩ = some (.int .i64 a1_2) ∧ w'.cell? ⟨gb261, 3, none⟩ = some (.int .i64 a1_3)) ∧ (Kd.R k76 76 w' w.heap.size (fun k_ => k_ ≠ gb261) s_ y266) ∧ (w'.heap[gb260]? = some (.cells #[.int .i64 a0_0, .slice A0_1 l0_1.length c0_1] 47 (0, 0))) ∧ (w'.heap[gb261]? = some (.cells #[.int .i64 a1_0, .int .i64 a1_1, .int .i64 a1_2, .int .i64 a1_3] 76 (0, 0))) ∧ (w'.heap[gb262]? = some (.cells #[.int .i64 0, .slice none 0 0] 47 (0, 0))) ∧ (Below w.heap.size w w')) ?_ ?_
 rotate_left
 {
 intro hJ6
 refine join_ (σ := Nat) 5 #[true, true, true, true, false, true, false, false, false, true, false] (fun s_ => [(6, .pointer (some ⟨s_, 0, none⟩))]) (fun s_ w' => (w'.cell? ⟨gb260, 0, none⟩ = some (.int .i64 a0_0) ∧ w'.cell? ⟨gb260, 1, none⟩ = some (.slice A0_1 l0_1.length c0_1) ∧ w'.cell? ⟨gb261, 0, none⟩ = some (.int .i64 a1_0) ∧ w'.cell? ⟨gb261, 1, none⟩ = some (.int .i64 a1_1) ∧ w'.cell? ⟨gb261, 2, none⟩ = some (.int .i64 a1_2) ∧ w'.cell? ⟨gb261, 3, none⟩ = some (.int .i64 a1_3)) ∧ (w'.heap[gb260]? = some (.cells #[.int .i64 a0_0, .slice A0_1 l0_1.length c0_1] 47 (0, 0))) ∧ (w'.heap[gb261]? = some (.cells #[.int .i64 a1_0, .int .i64 a1_1, .int .i64 a1_2, .int .i64 a1_3] 76 (0, 0))) ∧ (w'.heap[gb262]? = some (.cells #[.int .i64 0, .slice none 0 0] 47 (0, 0))) ∧ (w'.heap[s_]? = some (.cells #[.int .i64 0, .slice none 0 0] 47 (0, 0))) ∧ (w.heap.size ≤ s_) ∧ (w.heap.size ≤ s_) ∧ (gb260 ≠ s_) ∧ (s_ ≠ gb260) ∧ (gb261 ≠ s_) ∧ (s_ ≠ gb261) ∧ (gb262 ≠ s_) ∧ (s_ ≠ gb262) ∧ (Below w.heap.size w w')) ?_ ?_
 rotate_left
 {
 intro hJ9
 refine three_ (i := 4) (j := 6) (k := 9) (Ni := some 11) (Nj := some 13) (Nk := some 6) #[true, true, true, true, true, true, false, false, false, false, false] #[true, true, true, true, false, true, true, false, false, false, false] #[true, true, true, true, false, true, false, false, false, true, false] rfl rfl rfl rfl rfl rfl (three_of HT_.out (by kernel_rfl)) (by decide) (by decide) (by decide) (fun K hK => ?_) (fun K hK => ?_) (fun K hK => ?_)
 {
 skip
 refine goes_ Try.func86 (by kernel_rfl) rfl #[.slice A0_1 l0_1.length c0_1] (by rfl) rfl rfl (by (try simp only [List.map_toArray, List.map_cons, List.map_nil]); first | done | rfl | (simp only [List.length_drop, List.length_take]; rfl)) ?_
 with_reducible refine (impl_Link_86.calls _ _ l0_1 t263 _ ?side1 ?side2 A3.out).mono ?_
 (case side1 => repeat (first | exact (Kd.C_below HR0_1.out HB.out) | (with_reducible refine Kd.C_alloc ?_ _) | (with_reducible refine Kd.C_drewN ?_ _) | (with_reducible refine Kd.C_drew ?_)))
 (case side2 => exact HC0_1.out)
 rintro e w66 ⟨v264, rfl, ho0, hb⟩
 refine ⟨_, rfl, ?_⟩
 have n0_ := mK (Kd.R_lower (Kd.R_newB ho0 (by (with_reducible repeat first|apply kN|apply kD|apply kA); exact BK261.out)) (below_size (by repeat first|(with_reducible first|exact HB.out|apply bA|apply bN|apply bD|refine bS ?_ GE260.out|refine bS ?_ GE261.out|refine bS ?_ GE262.out)|exact HB.out)))
 have n1_ := mK (blk_below (by (with_reducible repeat first|apply kN|apply kD|apply kA); exact BK260.out) hb)
 have n2_ := mK (blk_below (by (with_reducible repeat first|apply kN|apply kD|apply kA); exact BK261.out) hb)
 have n3_ := mK (blk_below (by (with_reducible repeat first|apply kN|apply kD|apply kA); exact BK262.out) hb)
 have n4_ := mK (below_step (by repeat first|(with_reducible first|exact HB.out|apply bA|apply bN|apply bD|refine bS ?_ GE260.out|refine bS ?_ GE261.out|refine bS ?_ GE262.out)|exact HB.out) hb)
 clear BK260
 clear BK261
 clear BK262
 clear HB
 have HO265 := n0_
 have BK260 := n1_
 have BK261 := n2_
 have BK262 := n3_
 have HB := n4_
 clear n0_ n1_ n2_ n3_ n4_
 (try clear hb)
 (try clear hb2)
 (try clear hk)
 (try clear hi)
 (try clear ho0)
 refine hK.out _ _ ⟨(blk_cell BK260.out 0).trans rfl, (blk_cell BK260.out 1).trans rfl, (blk_cell BK261.out 0).trans rfl, (blk_cell BK261.out 1).trans rfl, (blk_cell BK261.out 2).trans rfl, (blk_cell BK261.out 3).trans rfl⟩ (fun hHeld => ?_)
 clear hK K
 refine norm_ (a' := ?_) ?_ ?_
 rotate_left
 {
 show Act.put _ (some 11) _ = _
 simp only [Act.put, sT, sZ, sU, i64_w, i32_w]
 rfl
 }
 exact norm_ (by simp only [putAll, Act.put, sT, sZ, sU] <;> rfl) (hJ4 (v264) _ ⟨hHeld, (Kd.R_mono HO265.out (fun _ hk => hk.2)), BK260.out, BK261.out, BK262.out, HB.out⟩)
 }
 {
 skip
 refine Kd.R_lit_step k76 _ 76 ?hg (N := 13) ?hd (xs := ([(⟨a1_0, a1_1, (⟨a1_2, a1_3⟩ : S52)⟩ : S76)] : List (S76))) (inner := [.int .i64 a1_0, .int .i64 a1_1, .int .i64 a1_2, .int .i64 a1_3]) (ok := fun _ => True) (okp := fun _ => True) ?hr ?hp (fun _ hk => hk) trivial (Below.refl _ _) (Nat.le_refl _) (by simp) ?_; (case hd => rfl); (case hg => rfl); (case hr => go_simp <;> rfl); (case hp => exact (Reps.c4 (show Kd.M k76 _ _ _ (⟨a1_0, a1_1, (⟨a1_2, a1_3⟩ : S52)⟩ : S76) [.int .i64 a1_0, .int .i64 a1_1, .int .i64 a1_2, .int .i64 a1_3] from (k76_mkM _ _ _ (⟨a1_0, a1_1, (⟨a1_2, a1_3⟩ : S52)⟩ : S76) )) (Reps.none _ _)))
 intro v267 w66 ho67 hb hg_ hnew_
 clear hg_ hnew_
 (first | rw [← Ny266.out] at ho67 | (simp only [Int.reduceToNat] at ho67; rw [← Ny266.out] at ho67))
 have n0_ := mK (Kd.R_lower (Kd.R_newB ho67 (by (with_reducible repeat first|apply kN|apply kD|apply kA); exact BK261.out)) (below_size (by repeat first|(with_reducible first|exact HB.out|apply bA|apply bN|apply bD|refine bS ?_ GE260.out|refine bS ?_ GE261.out|refine bS ?_ GE262.out)|exact HB.out)))
 have n1_ := mK (blk_below (by (with_reducible repeat first|apply kN|apply kD|apply kA); exact BK260.out) hb)
 have n2_ := mK (blk_below (by (with_reducible repeat first|apply kN|apply kD|apply kA); exact BK261.out) hb)
 have n3_ := mK (blk_below (by (with_reducible repeat first|apply kN|apply kD|apply kA); exact BK262.out) hb)
 have n4_ := mK (below_step (by repeat first|(with_reducible first|exact HB.out|apply bA|apply bN|apply bD|refine bS ?_ GE260.out|refine bS ?_ GE261.out|refine bS ?_ GE262.out)|exact HB.out) hb)
 clear BK260
 clear BK261
 clear BK262
 clear HB
 have HO268 := n0_
 have BK260 := n1_
 have BK261 := n2_
 have BK262 := n3_
 have HB := n4_
 clear n0_ n1_ n2_ n3_ n4_
 clear hb ho67
 refine hK.out _ _ ⟨(blk_cell BK260.out 0).trans rfl, (blk_cell BK260.out 1).trans rfl, (blk_cell BK261.out 0).trans rfl, (blk_cell BK261.out 1).trans rfl, (blk_cell BK261.out 2).trans rfl, (blk_cell BK261.out 3).trans rfl⟩ (fun hHeld => ?_)
 clear hK K
 refine norm_ (a' := ?_) ?_ ?_
 rotate_left
 {
 show Act.put _ (some 13) _ = _
 simp only [Act.put, sT, sZ, sU, i64_w, i32_w]
 rfl
 }
 exact norm_ (by simp only [putAll, Act.put, sT, sZ, sU] <;> rfl) (hJ6 (v267) _ ⟨hHeld, (Kd.R_mono HO268.out (fun _ hk => hk.2)), BK260.out, BK261.out, BK262.out, HB.out⟩)
 }
 {
 skip
 refine box_step ?hg (N := 6) ?hd (cs := #[.int .i64 0, .slice none 0 0]) (t := 47) ?hr ?_; (case hd => rfl); (case hg => rfl); (case hr => go_simp <;> rfl)
 intro gb272 hg w66 hbox hb
 have n0_ := mK (blk_below (by (with_reducible repeat first|apply kN|apply kD|apply kA); exact BK260.out) hb)
 have n1_ := mK (blk_below (by (with_reducible repeat first|apply kN|apply kD|apply kA); exact BK261.out) hb)
 have n2_ := mK (blk_below (by (with_reducible repeat first|apply kN|apply kD|apply kA); exact BK262.out) hb)
 have n3_ := mK (below_step (by repeat first|(with_reducible first|exact HB.out|apply bA|apply bN|apply bD|refine bS ?_ GE260.out|refine bS ?_ GE261.out|refine bS ?_ GE262.out)|exact HB.out) hb)
 have n4_ := mK (hbox)
 have n5_ := mK ((by rw [hg]; exact (below_size (by repeat first|(with_reducible first|exact HB.out|apply bA|apply bN|apply bD|refine bS ?_ GE260.out|refine bS ?_ GE261.out|refine bS ?_ GE262.out)|exact HB.out)) : w.heap.size ≤ gb272))
 have n6_ := mK ((by rw [hg]; exact (below_size (by repeat first|(with_reducible first|exact HB.out|apply bA|apply bN|apply bD|refine bS ?_ GE260.out|refine bS ?_ GE261.out|refine bS ?_ GE262.out)|exact HB.out)) : w.heap.size ≤ gb272))
 have n7_ := mK ((by rw [hg]; exact Nat.ne_of_lt (blk_lt (by (with_reducible repeat first|apply kN|apply kD|apply kA); exact BK260.out)) : gb260 ≠ gb272))
 have n8_ := mK ((by rw [hg]; exact Nat.ne_of_gt (blk_lt (by (with_reducible repeat first|apply kN|apply kD|apply kA); exact BK260.out)) : gb272 ≠ gb260))
 have n9_ := mK ((by rw [hg]; exact Nat.ne_of_lt (blk_lt (by (with_reducible repeat first|apply kN|apply kD|apply kA); exact BK261.out)) : gb261 ≠ gb272))
 have n10_ := mK ((by rw [hg]; exact Nat.ne_of_gt (blk_lt (by (with_reducible repeat first|apply kN|apply kD|apply kA); exact BK261.out)) : gb272 ≠ gb261))
 have n11_ := mK ((by rw [hg]; exact Nat.ne_of_lt (blk_lt (by (with_reducible repeat first|apply kN|apply kD|apply kA); exact BK262.out)) : gb262 ≠ gb272))
 have n12_ := mK ((by rw [hg]; exact Nat.ne_of_gt (blk_lt (by (with_reducible repeat first|apply kN|apply kD|apply kA); exact BK262.out)) : gb272 ≠ gb262))
 clear BK260
 clear BK261
 clear BK262
 clear HB
 have BK260 := n0_
 have BK261 := n1_
 have BK262 := n2_
 have HB := n3_
 have BK272 := n4_
 have GW272 := n5_
 have GE272 := n6_
 have NB260_272 := n7_
 have NB272_260 := n8_
 have NB261_272 := n9_
 have NB272_261 := n10_
 have NB262_272 := n11_
 have NB272_262 := n12_
 clear n0_ n1_ n2_ n3_ n4_ n5_ n6_ n7_ n8_ n9_ n10_ n11_ n12_
 clear hb hbox hg
 refine hK.out _ _ ⟨(blk_cell BK260.out 0).trans rfl, (blk_cell BK260.out 1).trans rfl, (blk_cell BK261.out 0).trans rfl, (blk_cell BK261.out 1).trans rfl, (blk_cell BK261.out 2).trans rfl, (blk_cell BK261.out 3).trans rfl⟩ (fun hHeld => ?_)
 clear hK K
 refine norm_ (a' := ?_) ?_ ?_
 rotate_left
 {
 show Act.put _ (some 6) _ = _
 simp only [Act.put, sT, sZ, sU, i64_w, i32_w]
 rfl
 }
 exact norm_ (by simp only [putAll, Act.put, sT, sZ, sU] <;> rfl) (hJ9 (gb272) _ ⟨hHeld, BK260.out, BK261.out, BK262.out, BK272.out, GW272.out, GE272.out, NB260_272.out, NB272_260.out, NB261_272.out, NB272_261.out, NB262_272.out, NB272_262.out, HB.out⟩)
 }
 }
 {
 skip
 rintro gb272 w67 ⟨hS_, h0_, h1_, h2_, h3_, h4_, h5_, h6_, h7_, h8_, h9_, h10_, h11_, h12_⟩
 have n0_ : Aside0 (w67.heap[gb260]? = some (.cells #[.int .i64 a0_0, .slice A0_1 l0_1.length c0_1] 47 (0, 0))) := ⟨h0_⟩
 have n1_ : Aside0 (w67.heap[gb261]? = some (.cells #[.int .i64 a1_0, .int .i64 a1_1, .int .i64 a1_2, .int .i64 a1_3] 76 (0, 0))) := ⟨h1_⟩
 have n2_ : Aside0 (w67.heap[gb262]? = some (.cells #[.int .i64 0, .slice none 0 0] 47 (0, 0))) := ⟨h2_⟩
 have n3_ : Aside0 (w67.heap[gb272]? = some (.cells #[.int .i64 0, .slice none 0 0] 47 (0, 0))) := ⟨h3_⟩
 have n4_ : Aside0 (w.heap.size ≤ gb272) := ⟨h4_⟩
 have n5_ : Aside0 (w.heap.size ≤ gb272) := ⟨h5_⟩
 have n6_ : Aside0 (gb260 ≠ gb272) := ⟨h6_⟩
 have n7_ : Aside0 (gb272 ≠ gb260) := ⟨h7_⟩
 have n8_ : Aside0 (gb261 ≠ gb272) := ⟨h8_⟩
 have n9_ : Aside0 (gb272 ≠ gb261) := ⟨h9_⟩
 have n10_ : Aside0 (gb262 ≠ gb272) := ⟨h10_⟩
 have n11_ : Aside0 (gb272 ≠ gb262) := ⟨h11_⟩
 have n12_ : Aside0 (Below w.heap.size w w67) := ⟨h12_⟩
 clear BK260
 clear BK261
 clear BK262
 clear HB
 clear h0_ h1_ h2_ h3_ h4_ h5_ h6_ h7_ h8_ h9_ h10_ h11_ h12_
 have BK260 := n0_
 have BK261 := n1_
 have BK262 := n2_
 have BK272 := n3_
 have GW272 := n4_
 have GE272 := n5_
 have NB260_272 := n6_
 have NB272_260 := n7_
 have NB261_272 := n8_
 have NB272_261 := n9_
 have NB262_272 := n10_
 have NB272_262 := n11_
 have HB := n12_
 clear n0_ n1_ n2_ n3_ n4_ n5_ n6_ n7_ n8_ n9_ n10_ n11_ n12_
 have hHeld : w67.cell? ⟨gb260, 0, none⟩ = some (.int .i64 a0_0) ∧ w67.cell? ⟨gb260, 1, none⟩ = some (.slice A0_1 l0_1.length c0_1) ∧ w67.cell? ⟨gb261, 0, none⟩ = some (.int .i64 a1_0) ∧ w67.cell? ⟨gb261, 1, none⟩ = some (.int .i64 a1_1) ∧ w67.cell? ⟨gb261, 2, none⟩ = some (.int .i64 a1_2) ∧ w67.cell? ⟨gb261, 3, none⟩ = some (.int .i64 a1_3) := hS_
 refine norm_ (a' := ?_) ?_ ?_
 rotate_left
 {
 simp only [putAll, Act.put, sT, sZ, sU]
 rfl
 }
 refine two_ (i := 4) (j := 6) (Ni := some 11) (Nj := some 13) #[true, true, true, true, true, true, false, false, false, true, false] #[true, true, true, true, false, true, true, false, false, true, false] rfl rfl rfl rfl (two_of HT_.out (by kernel_rfl)) (by decide) (by decide) (fun K hK => ?_) (fun K hK => ?_)
 {
 skip
 refine goes_ Try.func86 (by kernel_rfl) rfl #[.slice A0_1 l0_1.length c0_1] (by rfl) rfl rfl (by (try simp only [List.map_toArray, List.map_cons, List.map_nil]); first | done | rfl | (simp only [List.length_drop, List.length_take]; rfl)) ?_
 with_reducible refine (impl_Link_86.calls _ _ l0_1 t263 _ ?side1 ?side2 A3.out).mono ?_
 (case side1 => repeat (first | exact (Kd.C_below HR0_1.out HB.out) | (with_reducible refine Kd.C_alloc ?_ _) | (with_reducible refine Kd.C_drewN ?_ _) | (with_reducible refine Kd.C_drew ?_)))
 (case side2 => exact HC0_1.out)
 rintro e w68 ⟨v264, rfl, ho0, hb⟩
 refine ⟨_, rfl, ?_⟩
 have n0_ := mK (Kd.R_lower (Kd.R_newB ho0 (by (with_reducible repeat first|apply kN|apply kD|apply kA); exact BK261.out)) (below_size (by repeat first|(with_reducible first|exact HB.out|apply bA|apply bN|apply bD|refine bS ?_ GE260.out|refine bS ?_ GE261.out|refine bS ?_ GE262.out|refine bS ?_ GE272.out)|exact HB.out)))
 have n1_ := mK (blk_below (by (with_reducible repeat first|apply kN|apply kD|apply kA); exact BK260.out) hb)
 have n2_ := mK (blk_below (by (with_reducible repeat first|apply kN|apply kD|apply kA); exact BK261.out) hb)
 have n3_ := mK (blk_below (by (with_reducible repeat first|apply kN|apply kD|apply kA); exact BK262.out) hb)
 have n4_ := mK (blk_below (by (with_reducible repeat first|apply kN|apply kD|apply kA); exact BK272.out) hb)
 have n5_ := mK (below_step (by repeat first|(with_reducible first|exact HB.out|apply bA|apply bN|apply bD|refine bS ?_ GE260.out|refine bS ?_ GE261.out|refine bS ?_ GE262.out|refine bS ?_ GE272.out)|exact HB.out) hb)
 clear BK260
 clear BK261
 clear BK262
 clear BK272
 clear HB
 have HO265 := n0_
 have BK260 := n1_
 have BK261 := n2_
 have BK262 := n3_
 have BK272 := n4_
 have HB := n5_
 clear n0_ n1_ n2_ n3_ n4_ n5_
 (try clear hb)
 (try clear hb2)
 (try clear hk)
 (try clear hi)
 (try clear ho0)
 refine hK.out _ _ ⟨(blk_cell BK260.out 0).trans rfl, (blk_cell BK260.out 1).trans rfl, (blk_cell BK261.out 0).trans rfl, (blk_cell BK261.out 1).trans rfl, (blk_cell BK261.out 2).trans rfl, (blk_cell BK261.out 3).trans rfl⟩ (fun hHeld => ?_)
 clear hK K
 refine norm_ (a' := ?_) ?_ ?_
 rotate_left
 {
 show Act.put _ (some 11) _ = _
 simp only [Act.put, sT, sZ, sU, i64_w, i32_w]
 rfl
 }
 exact norm_ (by simp only [putAll, Act.put, sT, sZ, sU] <;> rfl) (hJ4_9 (v264, gb272) _ ⟨hHeld, (Kd.R_mono HO265.out (fun _ hk => hk.2)), BK260.out, BK261.out, BK262.out, BK272.out, GW272.out, GE272.out, NB260_272.out, NB272_260.out, NB261_272.out, NB272_261.out, NB262_272.out, NB272_262.out, HB.out⟩)
 }
 {
 skip
 refine Kd.R_lit_step k76 _ 76 ?hg (N := 13) ?hd (xs := ([(⟨a1_0, a1_1, (⟨a1_2, a1_3⟩ : S52)⟩ : S76)] : List (S76))) (inner := [.int .i64 a1_0, .int .i64 a1_1, .int .i64 a1_2, .int .i64 a1_3]) (ok := fun _ => True) (okp := fun _ => True) ?hr ?hp (fun _ hk => hk) trivial (Below.refl _ _) (Nat.le_refl _) (by simp) ?_; (case hd => rfl); (case hg => rfl); (case hr => go_simp <;> rfl); (case hp => exact (Reps.c4 (show Kd.M k76 _ _ _ (⟨a1_0, a1_1, (⟨a1_2, a1_3⟩ : S52)⟩ : S76) [.int .i64 a1_0, .int .i64 a1_1, .int .i64 a1_2, .int .i64 a1_3] from (k76_mkM _ _ _ (⟨a1_0, a1_1, (⟨a1_2, a1_3⟩ : S52)⟩ : S76) )) (Reps.none _ _)))
 intro v267 w68 ho69 hb hg_ hnew_
 clear hg_ hnew_
 (first | rw [← Ny266.out] at ho69 | (simp only [Int.reduceToNat] at ho69; rw [← Ny266.out] at ho69))
 have n0_ := mK (Kd.R_lower (Kd.R_newB ho69 (by (with_reducible repeat first|apply kN|apply kD|apply kA); exact BK261.out)) (below_size (by repeat first|(with_reducible first|exact HB.out|apply bA|apply bN|apply bD|refine bS ?_ GE260.out|refine bS ?_ GE261.out|refine bS ?_ GE262.out|refine bS ?_ GE272.out)|exact HB.out)))
 have n1_ := mK (blk_below (by (with_reducible repeat first|apply kN|apply kD|apply kA); exact BK260.out) hb)
 have n2_ := mK (blk_below (by (with_reducible repeat first|apply kN|apply kD|apply kA); exact BK261.out) hb)
 have n3_ := mK (blk_below (by (with_reducible repeat first|apply kN|apply kD|apply kA); exact BK262.out) hb)
 have n4_ := mK (blk_below (by (with_reducible repeat first|apply kN|apply kD|apply kA); exact BK272.out) hb)
 have n5_ := mK (below_step (by repeat first|(with_reducible first|exact HB.out|apply bA|apply bN|apply bD|refine bS ?_ GE260.out|refine bS ?_ GE261.out|refine bS ?_ GE262.out|refine bS ?_ GE272.out)|exact HB.out) hb)
 clear BK260
 clear BK261
 clear BK262
 clear BK272
 clear HB
 have HO268 := n0_
 have BK260 := n1_
 have BK261 := n2_
 have BK262 := n3_
 have BK272 := n4_
 have HB := n5_
 clear n0_ n1_ n2_ n3_ n4_ n5_
 clear hb ho69
 refine hK.out _ _ ⟨(blk_cell BK260.out 0).trans rfl, (blk_cell BK260.out 1).trans rfl, (blk_cell BK261.out 0).trans rfl, (blk_cell BK261.out 1).trans rfl, (blk_cell BK261.out 2).trans rfl, (blk_cell BK261.out 3).trans rfl⟩ (fun hHeld => ?_)
 clear hK K
 refine norm_ (a' := ?_) ?_ ?_
 rotate_left
 {
 show Act.put _ (some 13) _ = _
 simp only [Act.put, sT, sZ, sU, i64_w, i32_w]
 rfl
 }
 exact norm_ (by simp only [putAll, Act.put, sT, sZ, sU] <;> rfl) (hJ6_9 (v267, gb272) _ ⟨hHeld, (Kd.R_mono HO268.out (fun _ hk => hk.2)), BK260.out, BK261.out, BK262.out, BK272.out, GW272.out, GE272.out, NB260_272.out, NB272_260.out, NB261_272.out, NB272_261.out, NB262_272.out, NB272_262.out, HB.out⟩)
 }
 }
 }
 {
 skip
 rintro v267 w68 ⟨hS_, h0_, h1_, h2_, h3_, h4_⟩
 have n0_ : Aside0 (Kd.R k76 76 w68 w.heap.size (fun k_ => k_ ≠ gb261) v267 y266) := ⟨h0_⟩
 have n1_ : Aside0 (w68.heap[gb260]? = some (.cells #[.int .i64 a0_0, .slice A0_1 l0_1.length c0_1] 47 (0, 0))) := ⟨h1_⟩
 have n2_ : Aside0 (w68.heap[gb261]? = some (.cells #[.int .i64 a1_0, .int .i64 a1_1, .int .i64 a1_2, .int .i64 a1_3] 76 (0, 0))) := ⟨h2_⟩
 have n3_ : Aside0 (w68.heap[gb262]? = some (.cells #[.int .i64 0, .slice none 0 0] 47 (0, 0))) := ⟨h3_⟩
 have n4_ : Aside0 (Below w.heap.size w w68) := ⟨h4_⟩
 clear BK260
 clear BK261
 clear BK262
 clear HB
 clear h0_ h1_ h2_ h3_ h4_
 have HO268 := n0_
 have BK260 := n1_
 have BK261 := n2_
 have BK262 := n3_
 have HB := n4_
 clear n0_ n1_ n2_ n3_ n4_
 have hHeld : w68.cell? ⟨gb260, 0, none⟩ = some (.int .i64 a0_0) ∧ w68.cell? ⟨gb260, 1, none⟩ = some (.slice A0_1 l0_1.length c0_1) ∧ w68.cell? ⟨gb261, 0, none⟩ = some (.int .i64 a1_0) ∧ w68.cell? ⟨gb261, 1, none⟩ = some (.int .i64 a1_1) ∧ w68.cell? ⟨gb261, 2, none⟩ = some (.int .i64 a1_2) ∧ w68.cell? ⟨gb261, 3, none⟩ = some (.int .i64 a1_3) := hS_
 refine norm_ (a' := ?_) ?_ ?_
 rotate_left
 {
 simp only [putAll, Act.put, sT, sZ, sU]
 rfl
 }
 refine two_ (i := 4) (j := 9) (Ni := some 11) (Nj := some 6) #[true, true, true, true, true, true, true, false, false, false, false] #[true, true, true, true, false, true, true, false, false, true, false] rfl rfl rfl rfl (two_of HT_.out (by kernel_rfl)) (by decide) (by decide) (fun K hK => ?_) (fun K hK => ?_)
 {
 skip
 refine goes_ Try.func86 (by kernel_rfl) rfl #[.slice A0_1 l0_1.length c0_1] (by rfl) rfl rfl (by (try simp only [List.map_toArray, List.map_cons, List.map_nil]); first | done | rfl | (simp only [List.length_drop, List.length_take]; rfl)) ?_
 with_reducible refine (impl_Link_86.calls _ _ l0_1 t263 _ ?side1 ?side2 A3.out).mono ?_
 (case side1 => repeat (first | exact (Kd.C_below HR0_1.out HB.out) | (with_reducible refine Kd.C_alloc ?_ _) | (with_reducible refine Kd.C_drewN ?_ _) | (with_reducible refine Kd.C_drew ?_)))
 (case side2 => exact HC0_1.out)
 rintro e w69 ⟨v264, rfl, ho0, hb⟩
 refine ⟨_, rfl, ?_⟩
 have n0_ := mK (Kd.R_elder' (by (with_reducible repeat first|apply rA|apply rN|apply rD); exact HO268.out) (Kd.R_base ho0) hb)
 have n1_ := mK (Kd.R_lower (Kd.R_newB (Kd.R_new' ho0 (Kd.R_lt (by (with_reducible repeat first|apply rA|apply rN|apply rD); exact HO268.out))) (by (with_reducible repeat first|apply kN|apply kD|apply kA); exact BK261.out)) (below_size (by repeat first|(with_reducible first|exact HB.out|apply bA|apply bN|apply bD|refine bS ?_ GE260.out|refine bS ?_ GE261.out|refine bS ?_ GE262.out)|exact HB.out)))
 have n2_ := mK (blk_below (by (with_reducible repeat first|apply kN|apply kD|apply kA); exact BK260.out) hb)
 have n3_ := mK (blk_below (by (with_reducible repeat first|apply kN|apply kD|apply kA); exact BK261.out) hb)
 have n4_ := mK (blk_below (by (with_reducible repeat first|apply kN|apply kD|apply kA); exact BK262.out) hb)
 have n5_ := mK (below_step (by repeat first|(with_reducible first|exact HB.out|apply bA|apply bN|apply bD|refine bS ?_ GE260.out|refine bS ?_ GE261.out|refine bS ?_ GE262.out)|exact HB.out) hb)
 clear HO268
 clear BK260
 clear BK261
 clear BK262
 clear HB
 have HO268 := n0_
 have HO265 := n1_
 have BK260 := n2_
 have BK261 := n3_
 have BK262 := n4_
 have HB := n5_
 clear n0_ n1_ n2_ n3_ n4_ n5_
 (try clear hb)
 (try clear hb2)
 (try clear hk)
 (try clear hi)
 (try clear ho0)
 refine hK.out _ _ ⟨(blk_cell BK260.out 0).trans rfl, (blk_cell BK260.out 1).trans rfl, (blk_cell BK261.out 0).trans rfl, (blk_cell BK261.out 1).trans rfl, (blk_cell BK261.out 2).trans rfl, (blk_cell BK261.out 3).trans rfl⟩ (fun hHeld => ?_)
 clear hK K
 refine norm_ (a' := ?_) ?_ ?_
 rotate_left
 {
 show Act.put _ (some 11) _ = _
 simp only [Act.put, sT, sZ, sU, i64_w, i32_w]
 rfl
 }
 exact norm_ (by simp only [putAll, Act.put, sT, sZ, sU] <;> rfl) (hJ4_6 (v264, v267) _ ⟨hHeld, (Kd.R_mono HO265.out (fun _ hk => ⟨hk.1.2, hk.2⟩)), (Kd.R_mono HO268.out (fun _ hk => ⟨hk.2, hk.1⟩)), BK260.out, BK261.out, BK262.out, HB.out⟩)
 }
 {
 skip
 refine box_step ?hg (N := 6) ?hd (cs := #[.int .i64 0, .slice none 0 0]) (t := 47) ?hr ?_; (case hd => rfl); (case hg => rfl); (case hr => go_simp <;> rfl)
 intro gb272 hg w69 hbox hb
 have n0_ := mK (Kd.R_below (by (with_reducible repeat first|apply rA|apply rN|apply rD); exact HO268.out) hb)
 have n1_ := mK (blk_below (by (with_reducible repeat first|apply kN|apply kD|apply kA); exact BK260.out) hb)
 have n2_ := mK (blk_below (by (with_reducible repeat first|apply kN|apply kD|apply kA); exact BK261.out) hb)
 have n3_ := mK (blk_below (by (with_reducible repeat first|apply kN|apply kD|apply kA); exact BK262.out) hb)
 have n4_ := mK (below_step (by repeat first|(with_reducible first|exact HB.out|apply bA|apply bN|apply bD|refine bS ?_ GE260.out|refine bS ?_ GE261.out|refine bS ?_ GE262.out)|exact HB.out) hb)
 have n5_ := mK (hbox)
 have n6_ := mK ((by rw [hg]; exact (below_size (by repeat first|(with_reducible first|exact HB.out|apply bA|apply bN|apply bD|refine bS ?_ GE260.out|refine bS ?_ GE261.out|refine bS ?_ GE262.out)|exact HB.out)) : w.heap.size ≤ gb272))
 have n7_ := mK ((by rw [hg]; exact (below_size (by repeat first|(with_reducible first|exact HB.out|apply bA|apply bN|apply bD|refine bS ?_ GE260.out|refine bS ?_ GE261.out|refine bS ?_ GE262.out)|exact HB.out)) : w.heap.size ≤ gb272))
 have n8_ := mK ((by rw [hg]; exact Nat.ne_of_lt (blk_lt (by (with_reducible repeat first|apply kN|apply kD|apply kA); exact BK260.out)) : gb260 ≠ gb272))
 have n9_ := mK ((by rw [hg]; exact Nat.ne_of_gt (blk_lt (by (with_reducible repeat first|apply kN|apply kD|apply kA); exact BK260.out)) : gb272 ≠ gb260))
 have n10_ := mK ((by rw [hg]; exact Nat.ne_of_lt (blk_lt (by (with_reducible repeat first|apply kN|apply kD|apply kA); exact BK261.out)) : gb261 ≠ gb272))
 have n11_ := mK ((by rw [hg]; exact Nat.ne_of_gt (blk_lt (by (with_reducible repeat first|apply kN|apply kD|apply kA); exact BK261.out)) : gb272 ≠ gb261))
 have n12_ := mK ((by rw [hg]; exact Nat.ne_of_lt (blk_lt (by (with_reducible repeat first|apply kN|apply kD|apply kA); exact BK262.out)) : gb262 ≠ gb272))
 have n13_ := mK ((by rw [hg]; exact Nat.ne_of_gt (blk_lt (by (with_reducible repeat first|apply kN|apply kD|apply kA); exact BK262.out)) : gb272 ≠ gb262))
 clear HO268
 clear BK260
 clear BK261
 clear BK262
 clear HB
 have HO268 := n0_
 have BK260 := n1_
 have BK261 := n2_
 have BK262 := n3_
 have HB := n4_
 have BK272 := n5_
 have GW272 := n6_
 have GE272 := n7_
 have NB260_272 := n8_
 have NB272_260 := n9_
 have NB261_272 := n10_
 have NB272_261 := n11_
 have NB262_272 := n12_
 have NB272_262 := n13_
 clear n0_ n1_ n2_ n3_ n4_ n5_ n6_ n7_ n8_ n9_ n10_ n11_ n12_ n13_
 clear hb hbox hg
 refine hK.out _ _ ⟨(blk_cell BK260.out 0).trans rfl, (blk_cell BK260.out 1).trans rfl, (blk_cell BK261.out 0).trans rfl, (blk_cell BK261.out 1).trans rfl, (blk_cell BK261.out 2).trans rfl, (blk_cell BK261.out 3).trans rfl⟩ (fun hHeld => ?_)
 clear hK K
 refine norm_ (a' := ?_) ?_ ?_
 rotate_left
 {
 show Act.put _ (some 6) _ = _
 simp only [Act.put, sT, sZ, sU, i64_w, i32_w]
 rfl
 }
 exact norm_ (by simp only [putAll, Act.put, sT, sZ, sU] <;> rfl) (hJ6_9 (v267, gb272) _ ⟨hHeld, HO268.out, BK260.out, BK261.out, BK262.out, BK272.out, GW272.out, GE272.out, NB260_272.out, NB272_260.out, NB261_272.out, NB272_261.out, NB262_272.out, NB272_262.out, HB.out⟩)
 }
 }
 }
 {
 skip
 rintro v264 w67 ⟨hS_, h0_, h1_, h2_, h3_, h4_⟩
 have n0_ : Aside0 (Kd.R k76 76 w67 w.heap.size (fun k_ => k_ ≠ gb261) v264 t263) := ⟨h0_⟩
 have n1_ : Aside0 (w67.heap[gb260]? = some (.cells #[.int .i64 a0_0, .slice A0_1 l0_1.length c0_1] 47 (0, 0))) := ⟨h1_⟩
 have n2_ : Aside0 (w67.heap[gb261]? = some (.cells #[.int .i64 a1_0, .int .i64 a1_1, .int .i64 a1_2, .int .i64 a1_3] 76 (0, 0))) := ⟨h2_⟩
 have n3_ : Aside0 (w67.heap[gb262]? = some (.cells #[.int .i64 0, .slice none 0 0] 47 (0, 0))) := ⟨h3_⟩
 have n4_ : Aside0 (Below w.heap.size w w67) := ⟨h4_⟩
 clear BK260
 clear BK261
 clear BK262
 clear HB
 clear h0_ h1_ h2_ h3_ h4_
 have HO265 := n0_
 have BK260 := n1_
 have BK261 := n2_
 have BK262 := n3_
 have HB := n4_
 clear n0_ n1_ n2_ n3_ n4_
 have hHeld : w67.cell? ⟨gb260, 0, none⟩ = some (.int .i64 a0_0) ∧ w67.cell? ⟨gb260, 1, none⟩ = some (.slice A0_1 l0_1.length c0_1) ∧ w67.cell? ⟨gb261, 0, none⟩ = some (.int .i64 a1_0) ∧ w67.cell? ⟨gb261, 1, none⟩ = some (.int .i64 a1_1) ∧ w67.cell? ⟨gb261, 2, none⟩ = some (.int .i64 a1_2) ∧ w67.cell? ⟨gb261, 3, none⟩ = some (.int .i64 a1_3) := hS_
 refine norm_ (a' := ?_) ?_ ?_
 rotate_left
 {
 simp only [putAll, Act.put, sT, sZ, sU]
 rfl
 }
 refine two_ (i := 6) (j := 9) (Ni := some 13) (Nj := some 6) #[true, true, true, true, true, true, true, false, false, false, false] #[true, true, true, true, true, true, false, false, false, true, false] rfl rfl rfl rfl (two_of HT_.out (by kernel_rfl)) (by decide) (by decide) (fun K hK => ?_) (fun K hK => ?_)
 {
 skip
 refine Kd.R_lit_step k76 _ 76 ?hg (N := 13) ?hd (xs := ([(⟨a1_0, a1_1, (⟨a1_2, a1_3⟩ : S52)⟩ : S76)] : List (S76))) (inner := [.int .i64 a1_0, .int .i64 a1_1, .int .i64 a1_2, .int .i64 a1_3]) (ok := fun _ => True) (okp := fun _ => True) ?hr ?hp (fun _ hk => hk) trivial (Below.refl _ _) (Nat.le_refl _) (by simp) ?_; (case hd => rfl); (case hg => rfl); (case hr => go_simp <;> rfl); (case hp => exact (Reps.c4 (show Kd.M k76 _ _ _ (⟨a1_0, a1_1, (⟨a1_2, a1_3⟩ : S52)⟩ : S76) [.int .i64 a1_0, .int .i64 a1_1, .int .i64 a1_2, .int .i64 a1_3] from (k76_mkM _ _ _ (⟨a1_0, a1_1, (⟨a1_2, a1_3⟩ : S52)⟩ : S76) )) (Reps.none _ _)))
 intro v267 w68 ho69 hb hg_ hnew_
 clear hg_ hnew_
 (first | rw [← Ny266.out] at ho69 | (simp only [Int.reduceToNat] at ho69; rw [← Ny266.out] at ho69))
 have n0_ := mK (Kd.R_elder' (by (with_reducible repeat first|apply rA|apply rN|apply rD); exact HO265.out) (Kd.R_base ho69) hb)
 have n1_ := mK (Kd.R_lower (Kd.R_newB (Kd.R_new' ho69 (Kd.R_lt (by (with_reducible repeat first|apply rA|apply rN|apply rD); exact HO265.out))) (by (with_reducible repeat first|apply kN|apply kD|apply kA); exact BK261.out)) (below_size (by repeat first|(with_reducible first|exact HB.out|apply bA|apply bN|apply bD|refine bS ?_ GE260.out|refine bS ?_ GE261.out|refine bS ?_ GE262.out)|exact HB.out)))
 have n2_ := mK (blk_below (by (with_reducible repeat first|apply kN|apply kD|apply kA); exact BK260.out) hb)
 have n3_ := mK (blk_below (by (with_reducible repeat first|apply kN|apply kD|apply kA); exact BK261.out) hb)
 have n4_ := mK (blk_below (by (with_reducible repeat first|apply kN|apply kD|apply kA); exact BK262.out) hb)
 have n5_ := mK (below_step (by repeat first|(with_reducible first|exact HB.out|apply bA|apply bN|apply bD|refine bS ?_ GE260.out|refine bS ?_ GE261.out|refine bS ?_ GE262.out)|exact HB.out) hb)
 clear HO265
 clear BK260
 clear BK261
 clear BK262
 clear HB
 have HO265 := n0_
 have HO268 := n1_
 have BK260 := n2_
 have BK261 := n3_
 have BK262 := n4_
 have HB := n5_
 clear n0_ n1_ n2_ n3_ n4_ n5_
 clear hb ho69
 refine hK.out _ _ ⟨(blk_cell BK260.out 0).trans rfl, (blk_cell BK260.out 1).trans rfl, (blk_cell BK261.out 0).trans rfl, (blk_cell BK261.out 1).trans rfl, (blk_cell BK261.out 2).trans rfl, (blk_cell BK261.out 3).trans rfl⟩ (fun hHeld => ?_)
 clear hK K
 refine norm_ (a' := ?_) ?_ ?_
 rotate_left
 {
 show Act.put _ (some 13) _ = _
 simp only [Act.put, sT, sZ, sU, i64_w, i32_w]
 rfl
 }
 exact norm_ (by simp only [putAll, Act.put, sT, sZ, sU] <;> rfl) (hJ4_6 (v264, v267) _ ⟨hHeld, (Kd.R_mono HO265.out (fun _ hk => ⟨hk.2, hk.1⟩)), (Kd.R_mono HO268.out (fun _ hk => ⟨hk.1.2, hk.2⟩)), BK260.out, BK261.out, BK262.out, HB.out⟩)
 }
 {
 skip
 refine box_step ?hg (N := 6) ?hd (cs := #[.int .i64 0, .slice none 0 0]) (t := 47) ?hr ?_; (case hd => rfl); (case hg => rfl); (case hr => go_simp <;> rfl)
 intro gb272 hg w68 hbox hb
 have n0_ := mK (Kd.R_below (by (with_reducible repeat first|apply rA|apply rN|apply rD); exact HO265.out) hb)
 have n1_ := mK (blk_below (by (with_reducible repeat first|apply kN|apply kD|apply kA); exact BK260.out) hb)
 have n2_ := mK (blk_below (by (with_reducible repeat first|apply kN|apply kD|apply kA); exact BK261.out) hb)
 have n3_ := mK (blk_below (by (with_reducible repeat first|apply kN|apply kD|apply kA); exact BK262.out) hb)
 have n4_ := mK (below_step (by repeat first|(with_reducible first|exact HB.out|apply bA|apply bN|apply bD|refine bS ?_ GE260.out|refine bS ?_ GE261.out|refine bS ?_ GE262.out)|exact HB.out) hb)
 have n5_ := mK (hbox)
 have n6_ := mK ((by rw [hg]; exact (below_size (by repeat first|(with_reducible first|exact HB.out|apply bA|apply bN|apply bD|refine bS ?_ GE260.out|refine bS ?_ GE261.out|refine bS ?_ GE262.out)|exact HB.out)) : w.heap.size ≤ gb272))
 have n7_ := mK ((by rw [hg]; exact (below_size (by repeat first|(with_reducible first|exact HB.out|apply bA|apply bN|apply bD|refine bS ?_ GE260.out|refine bS ?_ GE261.out|refine bS ?_ GE262.out)|exact HB.out)) : w.heap.size ≤ gb272))
 have n8_ := mK ((by rw [hg]; exact Nat.ne_of_lt (blk_lt (by (with_reducible repeat first|apply kN|apply kD|apply kA); exact BK260.out)) : gb260 ≠ gb272))
 have n9_ := mK ((by rw [hg]; exact Nat.ne_of_gt (blk_lt (by (with_reducible repeat first|apply kN|apply kD|apply kA); exact BK260.out)) : gb272 ≠ gb260))
 have n10_ := mK ((by rw [hg]; exact Nat.ne_of_lt (blk_lt (by (with_reducible repeat first|apply kN|apply kD|apply kA); exact BK261.out)) : gb261 ≠ gb272))
 have n11_ := mK ((by rw [hg]; exact Nat.ne_of_gt (blk_lt (by (with_reducible repeat first|apply kN|apply kD|apply kA); exact BK261.out)) : gb272 ≠ gb261))
 have n12_ := mK ((by rw [hg]; exact Nat.ne_of_lt (blk_lt (by (with_reducible repeat first|apply kN|apply kD|apply kA); exact BK262.out)) : gb262 ≠ gb272))
 have n13_ := mK ((by rw [hg]; exact Nat.ne_of_gt (blk_lt (by (with_reducible repeat first|apply kN|apply kD|apply kA); exact BK262.out)) : gb272 ≠ gb262))
 clear HO265
 clear BK260
 clear BK261
 clear BK262
 clear HB
 have HO265 := n0_
 have BK260 := n1_
 have BK261 := n2_
 have BK262 := n3_
 have HB := n4_
 have BK272 := n5_
 have GW272 := n6_
 have GE272 := n7_
 have NB260_272 := n8_
 have NB272_260 := n9_
 have NB261_272 := n10_
 have NB272_261 := n11_
 have NB262_272 := n12_
 have NB272_262 := n13_
 clear n0_ n1_ n2_ n3_ n4_ n5_ n6_ n7_ n8_ n9_ n10_ n11_ n12_ n13_
 clear hb hbox hg
 refine hK.out _ _ ⟨(blk_cell BK260.out 0).trans rfl, (blk_cell BK260.out 1).trans rfl, (blk_cell BK261.out 0).trans rfl, (blk_cell BK261.out 1).trans rfl, (blk_cell BK261.out 2).trans rfl, (blk_cell BK261.out 3).trans rfl⟩ (fun hHeld => ?_)
 clear hK K
 refine norm_ (a' := ?_) ?_ ?_
 rotate_left
 {
 show Act.put _ (some 6) _ = _
 simp only [Act.put, sT, sZ, sU, i64_w, i32_w]
 rfl
 }
 exact norm_ (by simp only [putAll, Act.put, sT, sZ, sU] <;> rfl) (hJ4_9 (v264, gb272) _ ⟨hHeld, HO265.out, BK260.out, BK261.out, BK262.out, BK272.out, GW272.out, GE272.out, NB260_272.out, NB272_260.out, NB261_272.out, NB272_261.out, NB262_272.out, NB272_262.out, HB.out⟩)
 }
 }
 }
 {
 skip
 rintro ⟨v267, gb272⟩ w69 ⟨hS_, h0_, h1_, h2_, h3_, h4_, h5_, h6_, h7_, h8_, h9_, h10_, h11_, h12_, h13_⟩
 have n0_ : Aside0 (Kd.R k76 76 w69 w.heap.size (fun k_ => k_ ≠ gb261) v267 y266) := ⟨h0_⟩
 have n1_ : Aside0 (w69.heap[gb260]? = some (.cells #[.int .i64 a0_0, .slice A0_1 l0_1.length c0_1] 47 (0, 0))) := ⟨h1_⟩
 have n2_ : Aside0 (w69.heap[gb261]? = some (.cells #[.int .i64 a1_0, .int .i64 a1_1, .int .i64 a1_2, .int .i64 a1_3] 76 (0, 0))) := ⟨h2_⟩
 have n3_ : Aside0 (w69.heap[gb262]? = some (.cells #[.int .i64 0, .slice none 0 0] 47 (0, 0))) := ⟨h3_⟩
 have n4_ : Aside0 (w69.heap[gb272]? = some (.cells #[.int .i64 0, .slice none 0 0] 47 (0, 0))) := ⟨h4_⟩
 have n5_ : Aside0 (w.heap.size ≤ gb272) := ⟨h5_⟩
 have n6_ : Aside0 (w.heap.size ≤ gb272) := ⟨h6_⟩
 have n7_ : Aside0 (gb260 ≠ gb272) := ⟨h7_⟩
 have n8_ : Aside0 (gb272 ≠ gb260) := ⟨h8_⟩
 have n9_ : Aside0 (gb261 ≠ gb272) := ⟨h9_⟩
 have n10_ : Aside0 (gb272 ≠ gb261) := ⟨h10_⟩
 have n11_ : Aside0 (gb262 ≠ gb272) := ⟨h11_⟩
 have n12_ : Aside0 (gb272 ≠ gb262) := ⟨h12_⟩
 have n13_ : Aside0 (Below w.heap.size w w69) := ⟨h13_⟩
 clear BK260
 clear BK261
 clear BK262
 clear HB
 clear h0_ h1_ h2_ h3_ h4_ h5_ h6_ h7_ h8_ h9_ h10_ h11_ h12_ h13_
 have HO268 := n0_
 have BK260 := n1_
 have BK261 := n2_
 have BK262 := n3_
 have BK272 := n4_
 have GW272 := n5_
 have GE272 := n6_
 have NB260_272 := n7_
 have NB272_260 := n8_
 have NB261_272 := n9_
 have NB272_261 := n10_
 have NB262_272 := n11_
 have NB272_262 := n12_
 have HB := n13_
 clear n0_ n1_ n2_ n3_ n4_ n5_ n6_ n7_ n8_ n9_ n10_ n11_ n12_ n13_
 have hHeld : w69.cell? ⟨gb260, 0, none⟩ = some (.int .i64 a0_0) ∧ w69.cell? ⟨gb260, 1, none⟩ = some (.slice A0_1 l0_1.length c0_1) ∧ w69.cell? ⟨gb261, 0, none⟩ = some (.int .i64 a1_0) ∧ w69.cell? ⟨gb261, 1, none⟩ = some (.int .i64 a1_1) ∧ w69.cell? ⟨gb261, 2, none⟩ = some (.int .i64 a1_2) ∧ w69.cell? ⟨gb261, 3, none⟩ = some (.int .i64 a1_3) := hS_
 refine norm_ (a' := ?_) ?_ ?_
 rotate_left
 {
 simp only [putAll, Act.put, sT, sZ, sU]
 rfl
 }
 refine one_ (i := 4) (N := some 11) #[true, true, true, true, true, true, true, false, false, true, false] rfl rfl (one_of HT_.out (by kernel_rfl)) (by decide) (fun K hK => ?_)
 refine goes_ Try.func86 (by kernel_rfl) rfl #[.slice A0_1 l0_1.length c0_1] (by rfl) rfl rfl (by (try simp only [List.map_toArray, List.map_cons, List.map_nil]); first | done | rfl | (simp only [List.length_drop, List.length_take]; rfl)) ?_
 with_reducible refine (impl_Link_86.calls _ _ l0_1 t263 _ ?side1 ?side2 A3.out).mono ?_
 (case side1 => repeat (first | exact (Kd.C_below HR0_1.out HB.out) | (with_reducible refine Kd.C_alloc ?_ _) | (with_reducible refine Kd.C_drewN ?_ _) | (with_reducible refine Kd.C_drew ?_)))
 (case side2 => exact HC0_1.out)
 rintro e w70 ⟨v264, rfl, ho0, hb⟩
 refine ⟨_, rfl, ?_⟩
 have n0_ := mK (Kd.R_elder' (by (with_reducible repeat first|apply rA|apply rN|apply rD); exact HO268.out) (Kd.R_base ho0) hb)
 have n1_ := mK (Kd.R_lower (Kd.R_newB (Kd.R_new' ho0 (Kd.R_lt (by (with_reducible repeat first|apply rA|apply rN|apply rD); exact HO268.out))) (by (with_reducible repeat first|apply kN|apply kD|apply kA); exact BK261.out)) (below_size (by repeat first|(with_reducible first|exact HB.out|apply bA|apply bN|apply bD|refine bS ?_ GE260.out|refine bS ?_ GE261.out|refine bS ?_ GE262.out|refine bS ?_ GE272.out)|exact HB.out)))
 have n2_ := mK (blk_below (by (with_reducible repeat first|apply kN|apply kD|apply kA); exact BK260.out) hb)
 have n3_ := mK (blk_below (by (with_reducible repeat first|apply kN|apply kD|apply kA); exact BK261.out) hb)
 have n4_ := mK (blk_below (by (with_reducible repeat first|apply kN|apply kD|apply kA); exact BK262.out) hb)
 have n5_ := mK (blk_below (by (with_reducible repeat first|apply kN|apply kD|apply kA); exact BK272.out) hb)
 have n6_ := mK (below_step (by repeat first|(with_reducible first|exact HB.out|apply bA|apply bN|apply bD|refine bS ?_ GE260.out|refine bS ?_ GE261.out|refine bS ?_ GE262.out|refine bS ?_ GE272.out)|exact HB.out) hb)
 clear HO268
 clear BK260
 clear BK261
 clear BK262
 clear BK272
 clear HB
 have HO268 := n0_
 have HO265 := n1_
 have BK260 := n2_
 have BK261 := n3_
 have BK262 := n4_
 have BK272 := n5_
 have HB := n6_
 clear n0_ n1_ n2_ n3_ n4_ n5_ n6_
 (try clear hb)
 (try clear hb2)
 (try clear hk)
 (try clear hi)
 (try clear ho0)
 refine hK.out _ _ ⟨(blk_cell BK260.out 0).trans rfl, (blk_cell BK260.out 1).trans rfl, (blk_cell BK261.out 0).trans rfl, (blk_cell BK261.out 1).trans rfl, (blk_cell BK261.out 2).trans rfl, (blk_cell BK261.out 3).trans rfl⟩ (fun hHeld => ?_)
 clear hK K
 refine norm_ (a' := ?_) ?_ ?_
 rotate_left
 {
 show Act.put _ (some 11) _ = _
 simp only [Act.put, sT, sZ, sU, i64_w, i32_w]
 rfl
 }
 exact norm_ (by simp only [putAll, Act.put, sT, sZ, sU] <;> rfl) (hJ4_6_9 (v264, v267, gb272) _ ⟨hHeld, (Kd.R_mono HO265.out (fun _ hk => ⟨hk.1.2, hk.2⟩)), (Kd.R_mono HO268.out (fun _ hk => ⟨hk.2, hk.1⟩)), BK260.out, BK261.out, BK262.out, BK272.out, GW272.out, GE272.out, NB260_272.out, NB272_260.out, NB261_272.out, NB272_261.out, NB262_272.out, NB272_262.out, HB.out⟩)
 }
 }
 {
 skip
 rintro ⟨v264, gb272⟩ w68 ⟨hS_, h0_, h1_, h2_, h3_, h4_, h5_, h6_, h7_, h8_, h9_, h10_, h11_, h12_, h13_⟩
 have n0_ : Aside0 (Kd.R k76 76 w68 w.heap.size (fun k_ => k_ ≠ gb261) v264 t263) := ⟨h0_⟩
 have n1_ : Aside0 (w68.heap[gb260]? = some (.cells #[.int .i64 a0_0, .slice A0_1 l0_1.length c0_1] 47 (0, 0))) := ⟨h1_⟩
 have n2_ : Aside0 (w68.heap[gb261]? = some (.cells #[.int .i64 a1_0, .int .i64 a1_1, .int .i64 a1_2, .int .i64 a1_3] 76 (0, 0))) := ⟨h2_⟩
 have n3_ : Aside0 (w68.heap[gb262]? = some (.cells #[.int .i64 0, .slice none 0 0] 47 (0, 0))) := ⟨h3_⟩
 have n4_ : Aside0 (w68.heap[gb272]? = some (.cells #[.int .i64 0, .slice none 0 0] 47 (0, 0))) := ⟨h4_⟩
 have n5_ : Aside0 (w.heap.size ≤ gb272) := ⟨h5_⟩
 have n6_ : Aside0 (w.heap.size ≤ gb272) := ⟨h6_⟩
 have n7_ : Aside0 (gb260 ≠ gb272) := ⟨h7_⟩
 have n8_ : Aside0 (gb272 ≠ gb260) := ⟨h8_⟩
 have n9_ : Aside0 (gb261 ≠ gb272) := ⟨h9_⟩
 have n10_ : Aside0 (gb272 ≠ gb261) := ⟨h10_⟩
 have n11_ : Aside0 (gb262 ≠ gb272) := ⟨h11_⟩
 have n12_ : Aside0 (gb272 ≠ gb262) := ⟨h12_⟩
 have n13_ : Aside0 (Below w.heap.size w w68) := ⟨h13_⟩
 clear BK260
 clear BK261
 clear BK262
 clear HB
 clear h0_ h1_ h2_ h3_ h4_ h5_ h6_ h7_ h8_ h9_ h10_ h11_ h12_ h13_
 have HO265 := n0_
 have BK260 := n1_
 have BK261 := n2_
 have BK262 := n3_
 have BK272 := n4_
 have GW272 := n5_
 have GE272 := n6_
 have NB260_272 := n7_
 have NB272_260 := n8_
 have NB261_272 := n9_
 have NB272_261 := n10_
 have NB262_272 := n11_
 have NB272_262 := n12_
 have HB := n13_
 clear n0_ n1_ n2_ n3_ n4_ n5_ n6_ n7_ n8_ n9_ n10_ n11_ n12_ n13_
 have hHeld : w68.cell? ⟨gb260, 0, none⟩ = some (.int .i64 a0_0) ∧ w68.cell? ⟨gb260, 1, none⟩ = some (.slice A0_1 l0_1.length c0_1) ∧ w68.cell? ⟨gb261, 0, none⟩ = some (.int .i64 a1_0) ∧ w68.cell? ⟨gb261, 1, none⟩ = some (.int .i64 a1_1) ∧ w68.cell? ⟨gb261, 2, none⟩ = some (.int .i64 a1_2) ∧ w68.cell? ⟨gb261, 3, none⟩ = some (.int .i64 a1_3) := hS_
 refine norm_ (a' := ?_) ?_ ?_
 rotate_left
 {
 simp only [putAll, Act.put, sT, sZ, sU]
 rfl
 }
 refine one_ (i := 6) (N := some 13) #[true, true, true, true, true, true, true, false, false, true, false] rfl rfl (one_of HT_.out (by kernel_rfl)) (by decide) (fun K hK => ?_)
 refine Kd.R_lit_step k76 _ 76 ?hg (N := 13) ?hd (xs := ([(⟨a1_0, a1_1, (⟨a1_2, a1_3⟩ : S52)⟩ : S76)] : List (S76))) (inner := [.int .i64 a1_0, .int .i64 a1_1, .int .i64 a1_2, .int .i64 a1_3]) (ok := fun _ => True) (okp := fun _ => True) ?hr ?hp (fun _ hk => hk) trivial (Below.refl _ _) (Nat.le_refl _) (by simp) ?_; (case hd => rfl); (case hg => rfl); (case hr => go_simp <;> rfl); (case hp => exact (Reps.c4 (show Kd.M k76 _ _ _ (⟨a1_0, a1_1, (⟨a1_2, a1_3⟩ : S52)⟩ : S76) [.int .i64 a1_0, .int .i64 a1_1, .int .i64 a1_2, .int .i64 a1_3] from (k76_mkM _ _ _ (⟨a1_0, a1_1, (⟨a1_2, a1_3⟩ : S52)⟩ : S76) )) (Reps.none _ _)))
 intro v267 w69 ho70 hb hg_ hnew_
 clear hg_ hnew_
 (first | rw [← Ny266.out] at ho70 | (simp only [Int.reduceToNat] at ho70; rw [← Ny266.out] at ho70))
 have n0_ := mK (Kd.R_elder' (by (with_reducible repeat first|apply rA|apply rN|apply rD); exact HO265.out) (Kd.R_base ho70) hb)
 have n1_ := mK (Kd.R_lower (Kd.R_newB (Kd.R_new' ho70 (Kd.R_lt (by (with_reducible repeat first|apply rA|apply rN|apply rD); exact HO265.out))) (by (with_reducible repeat first|apply kN|apply kD|apply kA); exact BK261.out)) (below_size (by repeat first|(with_reducible first|exact HB.out|apply bA|apply bN|apply bD|refine bS ?_ GE260.out|refine bS ?_ GE261.out|refine bS ?_ GE262.out|refine bS ?_ GE272.out)|exact HB.out)))
 have n2_ := mK (blk_below (by (with_reducible repeat first|apply kN|apply kD|apply kA); exact BK260.out) hb)
 have n3_ := mK (blk_below (by (with_reducible repeat first|apply kN|apply kD|apply kA); exact BK261.out) hb)
 have n4_ := mK (blk_below (by (with_reducible repeat first|apply kN|apply kD|apply kA); exact BK262.out) hb)
 have n5_ := mK (blk_below (by (with_reducible repeat first|apply kN|apply kD|apply kA); exact BK272.out) hb)
 have n6_ := mK (below_step (by repeat first|(with_reducible first|exact HB.out|apply bA|apply bN|apply bD|refine bS ?_ GE260.out|refine bS ?_ GE261.out|refine bS ?_ GE262.out|refine bS ?_ GE272.out)|exact HB.out) hb)
 clear HO265
 clear BK260
 clear BK261
 clear BK262
 clear BK272
 clear HB
 have HO265 := n0_
 have HO268 := n1_
 have BK260 := n2_
 have BK261 := n3_
 have BK262 := n4_
 have BK272 := n5_
 have HB := n6_
 clear n0_ n1_ n2_ n3_ n4_ n5_ n6_
 clear hb ho70
 refine hK.out _ _ ⟨(blk_cell BK260.out 0).trans rfl, (blk_cell BK260.out 1).trans rfl, (blk_cell BK261.out 0).trans rfl, (blk_cell BK261.out 1).trans rfl, (blk_cell BK261.out 2).trans rfl, (blk_cell BK261.out 3).trans rfl⟩ (fun hHeld => ?_)
 clear hK K
 refine norm_ (a' := ?_) ?_ ?_
 rotate_left
 {
 show Act.put _ (some 13) _ = _
 simp only [Act.put, sT, sZ, sU, i64_w, i32_w]
 rfl
 }
 exact norm_ (by simp only [putAll, Act.put, sT, sZ, sU] <;> rfl) (hJ4_6_9 (v264, v267, gb272) _ ⟨hHeld, (Kd.R_mono HO265.out (fun _ hk => ⟨hk.2, hk.1⟩)), (Kd.R_mono HO268.out (fun _ hk => ⟨hk.1.2, hk.2⟩)), BK260.out, BK261.out, BK262.out, BK272.out, GW272.out, GE272.out, NB260_272.out, NB272_260.out, NB261_272.out, NB272_261.out, NB262_272.out, NB272_262.out, HB.out⟩)
 }
 }
 {
 skip
 rintro ⟨v264, v267⟩ w69 ⟨hS_, h0_, h1_, h2_, h3_, h4_, h5_⟩
 have n0_ : Aside0 (Kd.R k76 76 w69 w.heap.size (fun k_ => some k_ ≠ (v267 : Value).ownBlock ∧ k_ ≠ gb261) v264 t263) := ⟨h0_⟩
 have n1_ : Aside0 (Kd.R k76 76 w69 w.heap.size (fun k_ => some k_ ≠ (v264 : Value).ownBlock ∧ k_ ≠ gb261) v267 y266) := ⟨h1_⟩
 have n2_ : Aside0 (w69.heap[gb260]? = some (.cells #[.int .i64 a0_0, .slice A0_1 l0_1.length c0_1] 47 (0, 0))) := ⟨h2_⟩
 have n3_ : Aside0 (w69.heap[gb261]? = some (.cells #[.int .i64 a1_0, .int .i64 a1_1, .int .i64 a1_2, .int .i64 a1_3] 76 (0, 0))) := ⟨h3_⟩
 have n4_ : Aside0 (w69.heap[gb262]? = some (.cells #[.int .i64 0, .slice none 0 0] 47 (0, 0))) := ⟨h4_⟩
 have n5_ : Aside0 (Below w.heap.size w w69) := ⟨h5_⟩
 clear BK260
 clear BK261
 clear BK262
 clear HB
 clear h0_ h1_ h2_ h3_ h4_ h5_
 have HO265 := n0_
 have HO268 := n1_
 have BK260 := n2_
 have BK261 := n3_
 have BK262 := n4_
 have HB := n5_
 clear n0_ n1_ n2_ n3_ n4_ n5_
 have hHeld : w69.cell? ⟨gb260, 0, none⟩ = some (.int .i64 a0_0) ∧ w69.cell? ⟨gb260, 1, none⟩ = some (.slice A0_1 l0_1.length c0_1) ∧ w69.cell? ⟨gb261, 0, none⟩ = some (.int .i64 a1_0) ∧ w69.cell? ⟨gb261, 1, none⟩ = some (.int .i64 a1_1) ∧ w69.cell? ⟨gb261, 2, none⟩ = some (.int .i64 a1_2) ∧ w69.cell? ⟨gb261, 3, none⟩ = some (.int .i64 a1_3) := hS_
 obtain ⟨Ao71, co71, eo71⟩ := Kd.R_slice HO268.out
 (first | subst eo71 | (injection eo71 with f1_ f2_ f3_; have f4_ := f1_.symm; have f5_ := f3_.symm; clear f1_ f2_ f3_; subst f4_; subst f5_))
 refine norm_ (a' := ?_) ?_ ?_
 rotate_left
 {
 simp only [putAll, Act.put, sT, sZ, sU]
 rfl
 }
 refine two_ (i := 7) (j := 9) (Ni := some 14) (Nj := some 6) #[true, true, true, true, true, true, true, true, false, false, false] #[true, true, true, true, true, true, true, false, false, true, false] rfl rfl rfl rfl (two_of HT_.out (by kernel_rfl)) (by decide) (by decide) (fun K hK => ?_) (fun K hK => ?_)
 {
 skip
 refine Kd.R_append_rows_step k76 (w0 := w) w.heap.size (by rfl) (.tmp 11) (.tmp 13) 45 76 (.agg #[(.int .i64 0), (.int .i64 0), (.int .i64 0), (.int .i64 0)]) 32 rfl Try.underlying45 info76 rfl (by decide) (by omega) v264 t263 y266 _ _ _ (fun k_ => some k_ ≠ (.slice Ao71 y266.length co71 : Value).ownBlock ∧ k_ ≠ gb261) (fun _ => False) rfl rfl ?aO ?aR (fun _ _ h => h) (fun _ h => h.elim) ?aF ?aB ?aS ?aL ?_
 (case aR => repeat (first | exact (Kd.R_reads' HO268.out).2.2 | (with_reducible refine Kd.C_alloc ?_ _) | (with_reducible refine Kd.C_drewN ?_ _) | (with_reducible refine Kd.C_drew ?_)))
 (case aB => exact (by repeat first|(with_reducible first|exact HB.out|apply bA|apply bN|apply bD|refine bS ?_ GE260.out|refine bS ?_ GE261.out|refine bS ?_ GE262.out)|exact HB.out))
 (case aF => exact (fun k_ hk => ⟨Kd.fresh' (Kd.R_lt (by (with_reducible repeat first|apply rA|apply rN|apply rD); exact HO268.out)) k_ hk, Kd.freshB (by (with_reducible repeat first|apply kN|apply kD|apply kA); exact BK261.out) k_ hk⟩))
 (case aO => exact (by (with_reducible repeat first|apply rA|apply rN|apply rD); exact HO265.out))
 (case aS => exact (below_size (by repeat first|(with_reducible first|exact HB.out|apply bA|apply bN|apply bD|refine bS ?_ GE260.out|refine bS ?_ GE261.out|refine bS ?_ GE262.out)|exact HB.out)))
 (case aL => have := LMc4.out; omega)
 intro v270 w70 ho hb hg hat
 rw [← Ny269.out] at ho
 have n0_ := mK (blk_grown (by (with_reducible repeat first|apply kN|apply kD|apply kA); exact BK260.out) hg (Kd.R_ne HO265.out BK260.out (by decide)))
 have n1_ := mK (blk_grown (by (with_reducible repeat first|apply kN|apply kD|apply kA); exact BK261.out) hg (Kd.R_away HO265.out (fun _ hk => hk.2)))
 have n2_ := mK (blk_grown (by (with_reducible repeat first|apply kN|apply kD|apply kA); exact BK262.out) hg (Kd.R_ne HO265.out BK262.out (by decide)))
 have n3_ := mK (Kd.R_after (ok := (fun k_ => k_ ≠ gb261)) (by (with_reducible repeat first|apply rA|apply rN|apply rD); exact Kd.R_mono HO268.out (fun _ hk => ⟨hk.2, hk.1⟩)) hg hat)
 have n4_ := mK (hb)
 have n5_ := mK (ho)
 clear BK260
 clear BK261
 clear BK262
 clear HO268
 clear HB
 clear HO265
 have BK260 := n0_
 have BK261 := n1_
 have BK262 := n2_
 have HO268 := n3_
 have HB := n4_
 have HO271 := n5_
 clear n0_ n1_ n2_ n3_ n4_ n5_
 clear ho hb hg hat
 obtain ⟨Ao72, co72, eo72⟩ := Kd.R_slice HO271.out
 (first | subst eo72 | (injection eo72 with f1_ f2_ f3_; have f4_ := f1_.symm; have f5_ := f3_.symm; clear f1_ f2_ f3_; subst f4_; subst f5_))
 refine hK.out _ _ ⟨(blk_cell BK260.out 0).trans rfl, (blk_cell BK260.out 1).trans rfl, (blk_cell BK261.out 0).trans rfl, (blk_cell BK261.out 1).trans rfl, (blk_cell BK261.out 2).trans rfl, (blk_cell BK261.out 3).trans rfl⟩ (fun hHeld => ?_)
 clear hK K
 refine norm_ (a' := ?_) ?_ ?_
 rotate_left
 {
 show Act.put _ (some 14) _ = _
 simp only [Act.put, sT, sZ, sU, i64_w, i32_w]
 rfl
 }
 refine pure_ (i := 8) (N := some 15) (v := ?_) (a' := ?_) #[true, true, true, true, true, true, true, true, true, false, false] rfl rfl (any_of HT_.out (by kernel_rfl)) (fun _ _ _ h => h) (Or.inl ⟨by rfl, ?_⟩) ?_ ?_
 rotate_left
 {
 intro w'
 go_simp
 with_reducible rfl
 }
 rotate_left
 {
 simp only [Act.put, sT, sZ, sU, i64_w, i32_w]
 rfl
 }
 exact norm_ (by simp only [putAll, Act.put, sT, sZ, sU] <;> rfl) (hJ4_6_7 (v264, .slice Ao71 y266.length co71, .slice Ao72 y269.length co72) _ ⟨hHeld, (Kd.R_mono HO268.out (fun _ hk => ⟨hk.2, hk.1⟩)), HO271.out, BK260.out, BK261.out, BK262.out, HB.out⟩)
 }
 {
 skip
 refine box_step ?hg (N := 6) ?hd (cs := #[.int .i64 0, .slice none 0 0]) (t := 47) ?hr ?_; (case hd => rfl); (case hg => rfl); (case hr => go_simp <;> rfl)
 intro gb272 hg w70 hbox hb
 have n0_ := mK (Kd.R_below (by (with_reducible repeat first|apply rA|apply rN|apply rD); exact HO265.out) hb)
 have n1_ := mK (Kd.R_below (by (with_reducible repeat first|apply rA|apply rN|apply rD); exact HO268.out) hb)
 have n2_ := mK (blk_below (by (with_reducible repeat first|apply kN|apply kD|apply kA); exact BK260.out) hb)
 have n3_ := mK (blk_below (by (with_reducible repeat first|apply kN|apply kD|apply kA); exact BK261.out) hb)
 have n4_ := mK (blk_below (by (with_reducible repeat first|apply kN|apply kD|apply kA); exact BK262.out) hb)
 have n5_ := mK (below_step (by repeat first|(with_reducible first|exact HB.out|apply bA|apply bN|apply bD|refine bS ?_ GE260.out|refine bS ?_ GE261.out|refine bS ?_ GE262.out)|exact HB.out) hb)
 have n6_ := mK (hbox)
 have n7_ := mK ((by rw [hg]; exact (below_size (by repeat first|(with_reducible first|exact HB.out|apply bA|apply bN|apply bD|refine bS ?_ GE260.out|refine bS ?_ GE261.out|refine bS ?_ GE262.out)|exact HB.out)) : w.heap.size ≤ gb272))
 have n8_ := mK ((by rw [hg]; exact (below_size (by repeat first|(with_reducible first|exact HB.out|apply bA|apply bN|apply bD|refine bS ?_ GE260.out|refine bS ?_ GE261.out|refine bS ?_ GE262.out)|exact HB.out)) : w.heap.size ≤ gb272))
 have n9_ := mK ((by rw [hg]; exact Nat.ne_of_lt (blk_lt (by (with_reducible repeat first|apply kN|apply kD|apply kA); exact BK260.out)) : gb260 ≠ gb272))
 have n10_ := mK ((by rw [hg]; exact Nat.ne_of_gt (blk_lt (by (with_reducible repeat first|apply kN|apply kD|apply kA); exact BK260.out)) : gb272 ≠ gb260))
 have n11_ := mK ((by rw [hg]; exact Nat.ne_of_lt (blk_lt (by (with_reducible repeat first|apply kN|apply kD|apply kA); exact BK261.out)) : gb261 ≠ gb272))
 have n12_ := mK ((by rw [hg]; exact Nat.ne_of_gt (blk_lt (by (with_reducible repeat first|apply kN|apply kD|apply kA); exact BK261.out)) : gb272 ≠ gb261))
 have n13_ := mK ((by rw [hg]; exact Nat.ne_of_lt (blk_lt (by (with_reducible repeat first|apply kN|apply kD|apply kA); exact BK262.out)) : gb262 ≠ gb272))
 have n14_ := mK ((by rw [hg]; exact Nat.ne_of_gt (blk_lt (by (with_reducible repeat first|apply kN|apply kD|apply kA); exact BK262.out)) : gb272 ≠ gb262))
 clear HO265
 clear HO268
 clear BK260
 clear BK261
 clear BK262
 clear HB
 have HO265 := n0_
 have HO268 := n1_
 have BK260 := n2_
 have BK261 := n3_
 have BK262 := n4_
 have HB := n5_
 have BK272 := n6_
 have GW272 := n7_
 have GE272 := n8_
 have NB260_272 := n9_
 have NB272_260 := n10_
 have NB261_272 := n11_
 have NB272_261 := n12_
 have NB262_272 := n13_
 have NB272_262 := n14_
 clear n0_ n1_ n2_ n3_ n4_ n5_ n6_ n7_ n8_ n9_ n10_ n11_ n12_ n13_ n14_
 clear hb hbox hg
 refine hK.out _ _ ⟨(blk_cell BK260.out 0).trans rfl, (blk_cell BK260.out 1).trans rfl, (blk_cell BK261.out 0).trans rfl, (blk_cell BK261.out 1).trans rfl, (blk_cell BK261.out 2).trans rfl, (blk_cell BK261.out 3).trans rfl⟩ (fun hHeld => ?_)
 clear hK K
 refine norm_ (a' := ?_) ?_ ?_
 rotate_left
 {
 show Act.put _ (some 6) _ = _
 simp only [Act.put, sT, sZ, sU, i64_w, i32_w]
 rfl
 }
 exact norm_ (by simp only [putAll, Act.put, sT, sZ, sU] <;> rfl) (hJ4_6_9 (v264, .slice Ao71 y266.length co71, gb272) _ ⟨hHeld, HO265.out, HO268.out, BK260.out, BK261.out, BK262.out, BK272.out, GW272.out, GE272.out, NB260_272.out, NB272_260.out, NB261_272.out, NB272_261.out, NB262_272.out, NB272_262.out, HB.out⟩)
 }
 }
 }
 {
 skip
 rintro ⟨v264, v267, gb272⟩ w70 ⟨hS_, h0_, h1_, h2_, h3_, h4_, h5_, h6_, h7_, h8_, h9_, h10_, h11_, h12_, h13_, h14_⟩
 have n0_ : Aside0 (Kd.R k76 76 w70 w.heap.size (fun k_ => some k_ ≠ (v267 : Value).ownBlock ∧ k_ ≠ gb261) v264 t263) := ⟨h0_⟩
 have n1_ : Aside0 (Kd.R k76 76 w70 w.heap.size (fun k_ => some k_ ≠ (v264 : Value).ownBlock ∧ k_ ≠ gb261) v267 y266) := ⟨h1_⟩
 have n2_ : Aside0 (w70.heap[gb260]? = some (.cells #[.int .i64 a0_0, .slice A0_1 l0_1.length c0_1] 47 (0, 0))) := ⟨h2_⟩
 have n3_ : Aside0 (w70.heap[gb261]? = some (.cells #[.int .i64 a1_0, .int .i64 a1_1, .int .i64 a1_2, .int .i64 a1_3] 76 (0, 0))) := ⟨h3_⟩
 have n4_ : Aside0 (w70.heap[gb262]? = some (.cells #[.int .i64 0, .slice none 0 0] 47 (0, 0))) := ⟨h4_⟩
 have n5_ : Aside0 (w70.heap[gb272]? = some (.cells #[.int .i64 0, .slice none 0 0] 47 (0, 0))) := ⟨h5_⟩
 have n6_ : Aside0 (w.heap.size ≤ gb272) := ⟨h6_⟩
 have n7_ : Aside0 (w.heap.size ≤ gb272) := ⟨h7_⟩
 have n8_ : Aside0 (gb260 ≠ gb272) := ⟨h8_⟩
 have n9_ : Aside0 (gb272 ≠ gb260) := ⟨h9_⟩
 have n10_ : Aside0 (gb261 ≠ gb272) := ⟨h10_⟩
 have n11_ : Aside0 (gb272 ≠ gb261) := ⟨h11_⟩
 have n12_ : Aside0 (gb262 ≠ gb272) := ⟨h12_⟩
 have n13_ : Aside0 (gb272 ≠ gb262) := ⟨h13_⟩
 have n14_ : Aside0 (Below w.heap.size w w70) := ⟨h14_⟩
 clear BK260
 clear BK261
 clear BK262
 clear HB
 clear h0_ h1_ h2_ h3_ h4_ h5_ h6_ h7_ h8_ h9_ h10_ h11_ h12_ h13_ h14_
 have HO265 := n0_
 have HO268 := n1_
 have BK260 := n2_
 have BK261 := n3_
 have BK262 := n4_
 have BK272 := n5_
 have GW272 := n6_
 have GE272 := n7_
 have NB260_272 := n8_
 have NB272_260 := n9_
 have NB261_272 := n10_
 have NB272_261 := n11_
 have NB262_272 := n12_
 have NB272_262 := n13_
 have HB := n14_
 clear n0_ n1_ n2_ n3_ n4_ n5_ n6_ n7_ n8_ n9_ n10_ n11_ n12_ n13_ n14_
 have hHeld : w70.cell? ⟨gb260, 0, none⟩ = some (.int .i64 a0_0) ∧ w70.cell? ⟨gb260, 1, none⟩ = some (.slice A0_1 l0_1.length c0_1) ∧ w70.cell? ⟨gb261, 0, none⟩ = some (.int .i64 a1_0) ∧ w70.cell? ⟨gb261, 1, none⟩ = some (.int .i64 a1_1) ∧ w70.cell? ⟨gb261, 2, none⟩ = some (.int .i64 a1_2) ∧ w70.cell? ⟨gb261, 3, none⟩ = some (.int .i64 a1_3) := hS_
 obtain ⟨Ao72, co72, eo72⟩ := Kd.R_slice HO268.out
 (first | subst eo72 | (injection eo72 with f1_ f2_ f3_; have f4_ := f1_.symm; have f5_ := f3_.symm; clear f1_ f2_ f3_; subst f4_; subst f5_))
 refine norm_ (a' := ?_) ?_ ?_
 rotate_left
 {
 simp only [putAll, Act.put, sT, sZ, sU]
 rfl
 }
 refine one_ (i := 7) (N := some 14) #[true, true, true, true, true, true, true, true, false, true, false] rfl rfl (one_of HT_.out (by kernel_rfl)) (by decide) (fun K hK => ?_)
 refine Kd.R_append_rows_step k76 (w0 := w) w.heap.size (by rfl) (.tmp 11) (.tmp 13) 45 76 (.agg #[(.int .i64 0), (.int .i64 0), (.int .i64 0), (.int .i64 0)]) 32 rfl Try.underlying45 info76 rfl (by decide) (by omega) v264 t263 y266 _ _ _ (fun k_ => some k_ ≠ (.slice Ao72 y266.length co72 : Value).ownBlock ∧ k_ ≠ gb261) (fun _ => False) rfl rfl ?aO ?aR (fun _ _ h => h) (fun _ h => h.elim) ?aF ?aB ?aS ?aL ?_
 (case aR => repeat (first | exact (Kd.R_reads' HO268.out).2.2 | (with_reducible refine Kd.C_alloc ?_ _) | (with_reducible refine Kd.C_drewN ?_ _) | (with_reducible refine Kd.C_drew ?_)))
 (case aB => exact (by repeat first|(with_reducible first|exact HB.out|apply bA|apply bN|apply bD|refine bS ?_ GE260.out|refine bS ?_ GE261.out|refine bS ?_ GE262.out|refine bS ?_ GE272.out)|exact HB.out))
 (case aF => exact (fun k_ hk => ⟨Kd.fresh' (Kd.R_lt (by (with_reducible repeat first|apply rA|apply rN|apply rD); exact HO268.out)) k_ hk, Kd.freshB (by (with_reducible repeat first|apply kN|apply kD|apply kA); exact BK261.out) k_ hk⟩))
 (case aO => exact (by (with_reducible repeat first|apply rA|apply rN|apply rD); exact HO265.out))
 (case aS => exact (below_size (by repeat first|(with_reducible first|exact HB.out|apply bA|apply bN|apply bD|refine bS ?_ GE260.out|refine bS ?_ GE261.out|refine bS ?_ GE262.out|refine bS ?_ GE272.out)|exact HB.out)))
 (case aL => have := LMc4.out; omega)
 intro v270 w71 ho hb hg hat
 rw [← Ny269.out] at ho
 have n0_ := mK (blk_grown (by (with_reducible repeat first|apply kN|apply kD|apply kA); exact BK260.out) hg (Kd.R_ne HO265.out BK260.out (by decide)))
 have n1_ := mK (blk_grown (by (with_reducible repeat first|apply kN|apply kD|apply kA); exact BK261.out) hg (Kd.R_away HO265.out (fun _ hk => hk.2)))
 have n2_ := mK (blk_grown (by (with_reducible repeat first|apply kN|apply kD|apply kA); exact BK262.out) hg (Kd.R_ne HO265.out BK262.out (by decide)))
 have n3_ := mK (Kd.R_after (ok := (fun k_ => k_ ≠ gb261)) (by (with_reducible repeat first|apply rA|apply rN|apply rD); exact Kd.R_mono HO268.out (fun _ hk => ⟨hk.2, hk.1⟩)) hg hat)
 have n4_ := mK (blk_grown (by (with_reducible repeat first|apply kN|apply kD|apply kA); exact BK272.out) hg (Kd.R_ne HO265.out BK272.out (by decide)))
 have n5_ := mK (hb)
 have n6_ := mK (ho)
 clear BK260
 clear BK261
 clear BK262
 clear HO268
 clear BK272
 clear HB
 clear HO265
 have BK260 := n0_
 have BK261 := n1_
 have BK262 := n2_
 have HO268 := n3_
 have BK272 := n4_
 have HB := n5_
 have HO271 := n6_
 clear n0_ n1_ n2_ n3_ n4_ n5_ n6_
 clear ho hb hg hat
 obtain ⟨Ao73, co73, eo73⟩ := Kd.R_slice HO271.out
 (first | subst eo73 | (injection eo73 with f1_ f2_ f3_; have f4_ := f1_.symm; have f5_ := f3_.symm; clear f1_ f2_ f3_; subst f4_; subst f5_))
 refine hK.out _ _ ⟨(blk_cell BK260.out 0).trans rfl, (blk_cell BK260.out 1).trans rfl, (blk_cell BK261.out 0).trans rfl, (blk_cell BK261.out 1).trans rfl, (blk_cell BK261.out 2).trans rfl, (blk_cell BK261.out 3).trans rfl⟩ (fun hHeld => ?_)
 clear hK K
 refine norm_ (a' := ?_) ?_ ?_
 rotate_left
 {
 show Act.put _ (some 14) _ = _
 simp only [Act.put, sT, sZ, sU, i64_w, i32_w]
 rfl
 }
 refine pure_ (i := 8) (N := some 15) (v := ?_) (a' := ?_) #[true, true, true, true, true, true, true, true, true, true, false] rfl rfl (any_of HT_.out (by kernel_rfl)) (fun _ _ _ h => h) (Or.inl ⟨by rfl, ?_⟩) ?_ ?_
 rotate_left
 {
 intro w'
 go_simp
 with_reducible rfl
 }
 rotate_left
 {
 simp only [Act.put, sT, sZ, sU, i64_w, i32_w]
 rfl
 }
 exact norm_ (by simp only [putAll, Act.put, sT, sZ, sU] <;> rfl) (hJ4_6_7_9 (v264, .slice Ao72 y266.length co72, .slice Ao73 y269.length co73, gb272) _ ⟨hHeld, (Kd.R_mono HO268.out (fun _ hk => ⟨hk.2, hk.1⟩)), HO271.out, BK260.out, BK261.out, BK262.out, BK272.out, GW272.out, GE272.out, NB260_272.out, NB272_260.out, NB261_272.out, NB272_261.out, NB262_272.out, NB272_262.out, HB.out⟩)
 }
 }
 {
 skip
 rintro ⟨v264, v267, v270⟩ w72 ⟨hS_, h0_, h1_, h2_, h3_, h4_, h5_⟩
 have n0_ : Aside0 (Kd.R k76 76 w72 w.heap.size (fun k_ => some k_ ≠ (v270 : Value).ownBlock ∧ k_ ≠ gb261) v267 y266) := ⟨h0_⟩
 have n1_ : Aside0 (Kd.R k76 76 w72 w.heap.size (fun k_ => some k_ ≠ (v267 : Value).ownBlock ∧ k_ ≠ gb261) v270 y269) := ⟨h1_⟩
 have n2_ : Aside0 (w72.heap[gb260]? = some (.cells #[.int .i64 a0_0, .slice A0_1 l0_1.length c0_1] 47 (0, 0))) := ⟨h2_⟩
 have n3_ : Aside0 (w72.heap[gb261]? = some (.cells #[.int .i64 a1_0, .int .i64 a1_1, .int .i64 a1_2, .int .i64 a1_3] 76 (0, 0))) := ⟨h3_⟩
 have n4_ : Aside0 (w72.heap[gb262]? = some (.cells #[.int .i64 0, .slice none 0 0] 47 (0, 0))) := ⟨h4_⟩
 have n5_ : Aside0 (Below w.heap.size w w72) := ⟨h5_⟩
 clear BK260
 clear BK261
 clear BK262
 clear HB
 clear h0_ h1_ h2_ h3_ h4_ h5_
 have HO268 := n0_
 have HO271 := n1_
 have BK260 := n2_
 have BK261 := n3_
 have BK262 := n4_
 have HB := n5_
 clear n0_ n1_ n2_ n3_ n4_ n5_
 have hHeld : w72.cell? ⟨gb260, 0, none⟩ = some (.int .i64 a0_0) ∧ w72.cell? ⟨gb260, 1, none⟩ = some (.slice A0_1 l0_1.length c0_1) ∧ w72.cell? ⟨gb261, 0, none⟩ = some (.int .i64 a1_0) ∧ w72.cell? ⟨gb261, 1, none⟩ = some (.int .i64 a1_1) ∧ w72.cell? ⟨gb261, 2, none⟩ = some (.int .i64 a1_2) ∧ w72.cell? ⟨gb261, 3, none⟩ = some (.int .i64 a1_3) := hS_
 obtain ⟨Ao73, co73, eo73⟩ := Kd.R_slice HO271.out
 (first | subst eo73 | (injection eo73 with f1_ f2_ f3_; have f4_ := f1_.symm; have f5_ := f3_.symm; clear f1_ f2_ f3_; subst f4_; subst f5_))
 refine norm_ (a' := ?_) ?_ ?_
 rotate_left
 {
 simp only [putAll, Act.put, sT, sZ, sU]
 rfl
 }
 refine one_ (i := 9) (N := some 6) #[true, true, true, true, true, true, true, true, true, true, false] rfl rfl (one_of HT_.out (by kernel_rfl)) (by decide) (fun K hK => ?_)
 refine box_step ?hg (N := 6) ?hd (cs := #[.int .i64 0, .slice none 0 0]) (t := 47) ?hr ?_; (case hd => rfl); (case hg => rfl); (case hr => go_simp <;> rfl)
 intro gb272 hg w74 hbox hb
 have n0_ := mK (Kd.R_below (by (with_reducible repeat first|apply rA|apply rN|apply rD); exact HO268.out) hb)
 have n1_ := mK (Kd.R_below (by (with_reducible repeat first|apply rA|apply rN|apply rD); exact HO271.out) hb)
 have n2_ := mK (blk_below (by (with_reducible repeat first|apply kN|apply kD|apply kA); exact BK260.out) hb)
 have n3_ := mK (blk_below (by (with_reducible repeat first|apply kN|apply kD|apply kA); exact BK261.out) hb)
 have n4_ := mK (blk_below (by (with_reducible repeat first|apply kN|apply kD|apply kA); exact BK262.out) hb)
 have n5_ := mK (below_step (by repeat first|(with_reducible first|exact HB.out|apply bA|apply bN|apply bD|refine bS ?_ GE260.out|refine bS ?_ GE261.out|refine bS ?_ GE262.out)|exact HB.out) hb)
 have n6_ := mK (hbox)
 have n7_ := mK ((by rw [hg]; exact (below_size (by repeat first|(with_reducible first|exact HB.out|apply bA|apply bN|apply bD|refine bS ?_ GE260.out|refine bS ?_ GE261.out|refine bS ?_ GE262.out)|exact HB.out)) : w.heap.size ≤ gb272))
 have n8_ := mK ((by rw [hg]; exact (below_size (by repeat first|(with_reducible first|exact HB.out|apply bA|apply bN|apply bD|refine bS ?_ GE260.out|refine bS ?_ GE261.out|refine bS ?_ GE262.out)|exact HB.out)) : w.heap.size ≤ gb272))
 have n9_ := mK ((by rw [hg]; exact Nat.ne_of_lt (blk_lt (by (with_reducible repeat first|apply kN|apply kD|apply kA); exact BK260.out)) : gb260 ≠ gb272))
 have n10_ := mK ((by rw [hg]; exact Nat.ne_of_gt (blk_lt (by (with_reducible repeat first|apply kN|apply kD|apply kA); exact BK260.out)) : gb272 ≠ gb260))
 have n11_ := mK ((by rw [hg]; exact Nat.ne_of_lt (blk_lt (by (with_reducible repeat first|apply kN|apply kD|apply kA); exact BK261.out)) : gb261 ≠ gb272))
 have n12_ := mK ((by rw [hg]; exact Nat.ne_of_gt (blk_lt (by (with_reducible repeat first|apply kN|apply kD|apply kA); exact BK261.out)) : gb272 ≠ gb261))
 have n13_ := mK ((by rw [hg]; exact Nat.ne_of_lt (blk_lt (by (with_reducible repeat first|apply kN|apply kD|apply kA); exact BK262.out)) : gb262 ≠ gb272))
 have n14_ := mK ((by rw [hg]; exact Nat.ne_of_gt (blk_lt (by (with_reducible repeat first|apply kN|apply kD|apply kA); exact BK262.out)) : gb272 ≠ gb262))
 clear HO268
 clear HO271
 clear BK260
 clear BK261
 clear BK262
 clear HB
 have HO268 := n0_
 have HO271 := n1_
 have BK260 := n2_
 have BK261 := n3_
 have BK262 := n4_
 have HB := n5_
 have BK272 := n6_
 have GW272 := n7_
 have GE272 := n8_
 have NB260_272 := n9_
 have NB272_260 := n10_
 have NB261_272 := n11_
 have NB272_261 := n12_
 have NB262_272 := n13_
 have NB272_262 := n14_
 clear n0_ n1_ n2_ n3_ n4_ n5_ n6_ n7_ n8_ n9_ n10_ n11_ n12_ n13_ n14_
 clear hb hbox hg
 refine hK.out _ _ ⟨(blk_cell BK260.out 0).trans rfl, (blk_cell BK260.out 1).trans rfl, (blk_cell BK261.out 0).trans rfl, (blk_cell BK261.out 1).trans rfl, (blk_cell BK261.out 2).trans rfl, (blk_cell BK261.out 3).trans rfl⟩ (fun hHeld => ?_)
 clear hK K
 refine norm_ (a' := ?_) ?_ ?_
 rotate_left
 {
 show Act.put _ (some 6) _ = _
 simp only [Act.put, sT, sZ, sU, i64_w, i32_w]
 rfl
 }
 exact norm_ (by simp only [putAll, Act.put, sT, sZ, sU] <;> rfl) (hJ4_6_7_9 (v264, v267, .slice Ao73 y269.length co73, gb272) _ ⟨hHeld, HO268.out, HO271.out, BK260.out, BK261.out, BK262.out, BK272.out, GW272.out, GE272.out, NB260_272.out, NB272_260.out, NB261_272.out, NB272_261.out, NB262_272.out, NB272_262.out, HB.out⟩)
 }
 }
 rintro ⟨v264, v267, v270, gb272⟩ w73 ⟨hS_, h0_, h1_, h2_, h3_, h4_, h5_, h6_, h7_, h8_, h9_, h10_, h11_, h12_, h13_, h14_⟩
 have n0_ : Aside0 (Kd.R k76 76 w73 w.heap.size (fun k_ => some k_ ≠ (v270 : Value).ownBlock ∧ k_ ≠ gb261) v267 y266) := ⟨h0_⟩
 have n1_ : Aside0 (Kd.R k76 76 w73 w.heap.size (fun k_ => some k_ ≠ (v267 : Value).ownBlock ∧ k_ ≠ gb261) v270 y269) := ⟨h1_⟩
 have n2_ : Aside0 (w73.heap[gb260]? = some (.cells #[.int .i64 a0_0, .slice A0_1 l0_1.length c0_1] 47 (0, 0))) := ⟨h2_⟩
 have n3_ : Aside0 (w73.heap[gb261]? = some (.cells #[.int .i64 a1_0, .int .i64 a1_1, .int .i64 a1_2, .int .i64 a1_3] 76 (0, 0))) := ⟨h3_⟩
 have n4_ : Aside0 (w73.heap[gb262]? = some (.cells #[.int .i64 0, .slice none 0 0] 47 (0, 0))) := ⟨h4_⟩
 have n5_ : Aside0 (w73.heap[gb272]? = some (.cells #[.int .i64 0, .slice none 0 0] 47 (0, 0))) := ⟨h5_⟩
 have n6_ : Aside0 (w.heap.size ≤ gb272) := ⟨h6_⟩
 have n7_ : Aside0 (w.heap.size ≤ gb272) := ⟨h7_⟩
 have n8_ : Aside0 (gb260 ≠ gb272) := ⟨h8_⟩
 have n9_ : Aside0 (gb272 ≠ gb260) := ⟨h9_⟩
 have n10_ : Aside0 (gb261 ≠ gb272) := ⟨h10_⟩
 have n11_ : Aside0 (gb272 ≠ gb261) := ⟨h11_⟩
 have n12_ : Aside0 (gb262 ≠ gb272) := ⟨h12_⟩
 have n13_ : Aside0 (gb272 ≠ gb262) := ⟨h13_⟩
 have n14_ : Aside0 (Below w.heap.size w w73) := ⟨h14_⟩
 clear BK260
 clear BK261
 clear BK262
 clear HB
 clear h0_ h1_ h2_ h3_ h4_ h5_ h6_ h7_ h8_ h9_ h10_ h11_ h12_ h13_ h14_
 have HO268 := n0_
 have HO271 := n1_
 have BK260 := n2_
 have BK261 := n3_
 have BK262 := n4_
 have BK272 := n5_
 have GW272 := n6_
 have GE272 := n7_
 have NB260_272 := n8_
 have NB272_260 := n9_
 have NB261_272 := n10_
 have NB272_261 := n11_
 have NB262_272 := n12_
 have NB272_262 := n13_
 have HB := n14_
 clear n0_ n1_ n2_ n3_ n4_ n5_ n6_ n7_ n8_ n9_ n10_ n11_ n12_ n13_ n14_
 have hHeld : w73.cell? ⟨gb260, 0, none⟩ = some (.int .i64 a0_0) ∧ w73.cell? ⟨gb260, 1, none⟩ = some (.slice A0_1 l0_1.length c0_1) ∧ w73.cell? ⟨gb261, 0, none⟩ = some (.int .i64 a1_0) ∧ w73.cell? ⟨gb261, 1, none⟩ = some (.int .i64 a1_1) ∧ w73.cell? ⟨gb261, 2, none⟩ = some (.int .i64 a1_2) ∧ w73.cell? ⟨gb261, 3, none⟩ = some (.int .i64 a1_3) := hS_
 obtain ⟨Ao74, co74, eo74⟩ := Kd.R_slice HO271.out
 (first | subst eo74 | (injection eo74 with f1_ f2_ f3_; have f4_ := f1_.symm; have f5_ := f3_.symm; clear f1_ f2_ f3_; subst f4_; subst f5_))
 refine norm_ (a' := ?_) ?_ ?_
 rotate_left
 {
 simp only [putAll, Act.put, sT, sZ, sU]
 rfl
 }
 refine one_ (i := 10) (N := none) #[true, true, true, true, true, true, true, true, true, true, true] rfl rfl (one_of HT_.out (by kernel_rfl)) (by decide) (fun K hK => ?_)
 have hs75 : w73.cell? ⟨gb272, 0, none⟩ = some (.int .i64 0) := (blk_cell BK272.out 0).trans rfl
 have hfs75 := blk_frozen BK272.out 0
 have hns75_0 := NB260_272.out
 have hns75_1 := NB261_272.out
 have hns75_2 := NB262_272.out
 have hms75_0 := NB272_260.out
 have hms75_1 := NB272_261.out
 have hms75_2 := NB272_262.out
 have hs76 : w73.cell? ⟨gb272, 1, none⟩ = some (.slice none 0 0) := (blk_cell BK272.out 1).trans rfl
 have hfs76 := blk_frozen BK272.out 1
 have hns76_0 := NB260_272.out
 have hns76_1 := NB261_272.out
 have hns76_2 := NB262_272.out
 have hms76_0 := NB272_260.out
 have hms76_1 := NB272_261.out
 have hms76_2 := NB272_262.out
 refine skip_ (w1 := ?_) (by rfl) rfl ?_ ?_
 rotate_left
 {
 go_simp
 rfl
 }
 refine hK.out _ _ ⟨((cell_far (p := ⟨gb272, _, none⟩) NB260_272.out _).trans (((cell_far (p := ⟨gb272, _, none⟩) NB260_272.out _).trans (hHeld.1)))), ((cell_far (p := ⟨gb272, _, none⟩) NB260_272.out _).trans (((cell_far (p := ⟨gb272, _, none⟩) NB260_272.out _).trans (hHeld.2.1)))), ((cell_far (p := ⟨gb272, _, none⟩) NB261_272.out _).trans (((cell_far (p := ⟨gb272, _, none⟩) NB261_272.out _).trans (hHeld.2.2.1)))), ((cell_far (p := ⟨gb272, _, none⟩) NB261_272.out _).trans (((cell_far (p := ⟨gb272, _, none⟩) NB261_272.out _).trans (hHeld.2.2.2.1)))), ((cell_far (p := ⟨gb272, _, none⟩) NB261_272.out _).trans (((cell_far (p := ⟨gb272, _, none⟩) NB261_272.out _).trans (hHeld.2.2.2.2.1)))), ((cell_far (p := ⟨gb272, _, none⟩) NB261_272.out _).trans (((cell_far (p := ⟨gb272, _, none⟩) NB261_272.out _).trans (hHeld.2.2.2.2.2))))⟩ (fun hHeld => ?_)
 clear hK K
 refine done_ (done_of HT_.out (by kernel_rfl)) ?_
 have hnb77 := NB260_261.out
 have hnc77 := NB261_260.out
 have hnb78 := NB260_262.out
 have hnc78 := NB262_260.out
 have hnb79 := NB260_272.out
 have hnc79 := NB272_260.out
 have hcz80_0 : w73.cell? ⟨gb260, 0, none⟩ = some (.int .i64 a0_0) := (blk_cell BK260.out 0).trans rfl
 have hcz80_1 : w73.cell? ⟨gb260, 1, none⟩ = some (.slice A0_1 l0_1.length c0_1) := (blk_cell BK260.out 1).trans rfl
 have hfz80_0 := blk_frozen BK260.out 0
 have hfz80_1 := blk_frozen BK260.out 1
 try go_wp2_with (first | ((with_reducible refine gate_callee (f := 49) rfl ?_); refine goesL_ (some 17) rfl rfl Try.func49 (by kernel_rfl) rfl #[.agg #[.int .i64 a0_0, .slice A0_1 l0_1.length c0_1]] rfl (by (try simp only [List.map_toArray, List.map_cons, List.map_nil]); first | done | rfl | (simp only [List.length_drop, List.length_take]; rfl)) ?_; (with_reducible refine (impl_SimpleOk.calls a0_0 _ _ l0_1 false _ ?side1 ?side2 A5.out).mono ?_); (case side1 => exact Kd.C_below HR0_1.out (by repeat first|(with_reducible first|exact HB.out|apply bA|apply bN|apply bD|refine bS ?_ GE260.out|refine bS ?_ GE261.out|refine bS ?_ GE262.out|refine bS ?_ GE272.out)|exact HB.out)); (case side2 => exact HC0_1.out); rintro e w81 ⟨rfl, hb⟩; refine ⟨_, rfl, ?_⟩; have n0_ := mK (Kd.R_below (by (with_reducible repeat first|apply rA|apply rN|apply rD); exact (Kd.R_mono (Kd.R_far (p := ⟨gb272, 1, none⟩) (Kd.R_far (p := ⟨gb272, 0, none⟩) (Kd.R_types HO268.out BK272.out (by decide)) (fun _ hk => hk.2) (.int .i64 a0_0)) (fun _ hk => hk.2) (.slice Ao74 y269.length co74)) (fun _ h_ => h_.1))) hb); have n1_ := mK (Kd.R_below (by (with_reducible repeat first|apply rA|apply rN|apply rD); exact (Kd.R_mono (Kd.R_far (p := ⟨gb272, 1, none⟩) (Kd.R_far (p := ⟨gb272, 0, none⟩) (Kd.R_types HO271.out BK272.out (by decide)) (fun _ hk => hk.2) (.int .i64 a0_0)) (fun _ hk => hk.2) (.slice Ao74 y269.length co74)) (fun _ h_ => h_.1))) hb); have n2_ := mK (blk_below (g := gb260) (o := .cells #[.int .i64 a0_0, .slice A0_1 l0_1.length c0_1] 47 (0, 0)) (by (with_reducible repeat first|apply kN|apply kD|apply kA); refine blk_far ?_ NB260_272.out _; (with_reducible repeat first|apply kN|apply kD|apply kA); refine blk_far ?_ NB260_272.out _; (with_reducible repeat first|apply kN|apply kD|apply kA); exact BK260.out) hb); have n3_ := mK (blk_below (g := gb261) (o := .cells #[.int .i64 a1_0, .int .i64 a1_1, .int .i64 a1_2, .int .i64 a1_3] 76 (0, 0)) (by (with_reducible repeat first|apply kN|apply kD|apply kA); refine blk_far ?_ NB261_272.out _; (with_reducible repeat first|apply kN|apply kD|apply kA); refine blk_far ?_ NB261_272.out _; (with_reducible repeat first|apply kN|apply kD|apply kA); exact BK261.out) hb); have n4_ := mK (blk_below (g := gb262) (o := .cells #[.int .i64 0, .slice none 0 0] 47 (0, 0)) (by (with_reducible repeat first|apply kN|apply kD|apply kA); refine blk_far ?_ NB262_272.out _; (with_reducible repeat first|apply kN|apply kD|apply kA); refine blk_far ?_ NB262_272.out _; (with_reducible repeat first|apply kN|apply kD|apply kA); exact BK262.out) hb); have n5_ := mK (blk_below (g := gb272) (o := .cells #[.int .i64 a0_0, .slice Ao74 y269.length co74] 47 (0, 0)) (by (with_reducible repeat first|apply kN|apply kD|apply kA); refine blk_put (cs := #[.int .i64 a0_0, .slice none 0 0]) ?_ 1 _ rfl; (with_reducible repeat first|apply kN|apply kD|apply kA); refine blk_put (cs := #[.int .i64 0, .slice none 0 0]) ?_ 0 _ rfl; (with_reducible repeat first|apply kN|apply kD|apply kA); exact BK272.out) hb); have n6_ := mK (below_step (by repeat first|(with_reducible first|exact HB.out|apply bA|apply bN|apply bD|refine bS ?_ GE260.out|refine bS ?_ GE261.out|refine bS ?_ GE262.out|refine bS ?_ GE272.out)|exact HB.out) hb); clear HO268; clear HO271; clear BK260; clear BK261; clear BK262; clear BK272; clear HB; have HO268 := n0_; have HO271 := n1_; have BK260 := n2_; have BK261 := n3_; have BK262 := n4_; have BK272 := n5_; have HB := n6_; clear n0_ n1_ n2_ n3_ n4_ n5_ n6_; (try clear hb); (try clear hb2); (try clear hk); (try clear hi); have hnb82 := NB262_261.out; have hnc82 := NB261_262.out; have hnb83 := NB262_272.out; have hnc83 := NB272_262.out; have hcz84_0 : w81.cell? ⟨gb262, 0, none⟩ = some (.int .i64 0) := (blk_cell BK262.out 0).trans rfl; have hcz84_1 : w81.cell? ⟨gb262, 1, none⟩ = some (.slice none 0 0) := (blk_cell BK262.out 1).trans rfl; have hfz84_0 := blk_frozen BK262.out 0; have hfz84_1 := blk_frozen BK262.out 1))
 refine bodyPost_ret (results_ct rfl _ _ gb262 47 #[.int .i64 0, .slice none 0 0] (0, 0) _ rfl (by (with_reducible repeat first|apply kN|apply kD|apply kA); refine blk_put (cs := #[.int .i64 0, .slice none 0 0]) ?_ 1 _ rfl; (with_reducible repeat first|apply kN|apply kD|apply kA); refine blk_put (cs := #[.int .i64 0, .slice none 0 0]) ?_ 0 _ rfl; (with_reducible repeat first|apply kN|apply kD|apply kA); exact BK262.out) Try.underlying47 rfl (by kernel_rfl)) rfl ?_
 exact ⟨_, by first | rfl | (simp [errW_none, errW_some] <;> rfl) | (simp [*, errW_none, errW_some] <;> rfl), by first | exact Kd.R_nil _ _ _ _ _ | exact Kd.N_nil _ _ _ _ _ | exact Kd.V_nil _ _ _ _ _ | exact Kd.Q_nil _ _ _ _ _ | exact Kd.S_nil _ _ _ _ _, by repeat first|(with_reducible first|exact HB.out|apply bA|apply bN|apply bD|refine bS ?_ GE260.out|refine bS ?_ GE261.out|refine bS ?_ GE262.out|refine bS ?_ GE272.out)|exact HB.out⟩
 }
 subst c6
 have H1 : ((impl_SimpleOk.f a0_0 y269).bind fun t274 => (if t274 = true then (some (a0_0, y269, true)) else (some (0, ([] : List (S76)), false)))) = some (r1, r2, r3) := by rw [if_pos rfl] at H; exact H
 clear H
 have H := H1
 clear H1
 replace H := Option.bind_eq_some_iff.mp H
 obtain ⟨t274, A70, H⟩ := H
 replace H : (if t274 = true then (some (a0_0, y269, true)) else (some (0, ([] : List (S76)), false))) = some (r1, r2, r3) := H
 have A7 := mK A70
 clear A70
 by_cases c8 : t274 = true
 rotate_left
 {
 replace c8 := Bool.eq_false_iff.mpr c8
 subst c8
 have H1 : (some (0, ([] : List (S76)), false)) = some (r1, r2, r3) := by rw [if_neg (show ¬ (false = true) by decide)] at H; exact H
 clear H
 have H := H1
 clear H1
 simp only [Option.some.injEq, Prod.mk.injEq] at H
 obtain ⟨rfl, rfl, rfl⟩ := H
 go_enter Try.func47, Try.ntmps47
 try go_wp2_with (first | ((with_reducible refine gate_dst (N := 2) rfl ?_); refine box_event ?hg (N := 2) ?hd (cs := #[.int .i64 a0_0, .slice A0_1 l0_1.length c0_1]) (t := 47) ?hr ?_; (case hd => rfl); (case hg => rfl); (case hr => go_simp <;> rfl); intro gb260 hg w36 hbox hb; have n0_ := mK (below_step (by repeat first|(with_reducible first|exact HB.out|apply bA|apply bN|apply bD)|exact HB.out) hb); have n1_ := mK (hbox); have n2_ := mK ((by rw [hg]; exact (below_size (by repeat first|(with_reducible first|exact HB.out|apply bA|apply bN|apply bD)|exact HB.out)) : w.heap.size ≤ gb260)); have n3_ := mK ((by rw [hg]; exact (below_size (by repeat first|(with_reducible first|exact HB.out|apply bA|apply bN|apply bD)|exact HB.out)) : w.heap.size ≤ gb260)); clear HB; have HB := n0_; have BK260 := n1_; have GW260 := n2_; have GE260 := n3_; clear n0_ n1_ n2_ n3_; clear hb hbox hg) | ((with_reducible refine gate_dst (N := 3) rfl ?_); refine box_event ?hg (N := 3) ?hd (cs := #[.int .i64 a1_0, .int .i64 a1_1, .int .i64 a1_2, .int .i64 a1_3]) (t := 76) ?hr ?_; (case hd => rfl); (case hg => rfl); (case hr => go_simp <;> rfl); intro gb261 hg w37 hbox hb; have n0_ := mK (blk_below (by (with_reducible repeat first|apply kN|apply kD|apply kA); exact BK260.out) hb); have n1_ := mK (below_step (by repeat first|(with_reducible first|exact HB.out|apply bA|apply bN|apply bD|refine bS ?_ GE260.out)|exact HB.out) hb); have n2_ := mK (hbox); have n3_ := mK ((by rw [hg]; exact (below_size (by repeat first|(with_reducible first|exact HB.out|apply bA|apply bN|apply bD|refine bS ?_ GE260.out)|exact HB.out)) : w.heap.size ≤ gb261)); have n4_ := mK ((by rw [hg]; exact (below_size (by repeat first|(with_reducible first|exact HB.out|apply bA|apply bN|apply bD|refine bS ?_ GE260.out)|exact HB.out)) : w.heap.size ≤ gb261)); have n5_ := mK ((by rw [hg]; exact Nat.ne_of_lt (blk_lt (by (with_reducible repeat first|apply kN|apply kD|apply kA); exact BK260.out)) : gb260 ≠ gb261)); have n6_ := mK ((by rw [hg]; exact Nat.ne_of_gt (blk_lt (by (with_reducible repeat first|apply kN|apply kD|apply kA); exact BK260.out)) : gb261 ≠ gb260)); clear BK260; clear HB; have BK260 := n0_; have HB := n1_; have BK261 := n2_; have GW261 := n3_; have GE261 := n4_; have NB260_261 := n5_; have NB261_260 := n6_; clear n0_ n1_ n2_ n3_ n4_ n5_ n6_; clear hb hbox hg) | ((with_reducible refine gate_dst (N := 4) rfl ?_); refine box_event ?hg (N := 4) ?hd (cs := #[.int .i64 0, .slice none 0 0]) (t := 47) ?hr ?_; (case hd => rfl); (case hg => rfl); (case hr => go_simp <;> rfl); intro gb262 hg w38 hbox hb; have n0_ := mK (blk_below (by (with_reducible repeat first|apply kN|apply kD|apply kA); exact BK260.out) hb); have n1_ := mK (blk_below (by (with_reducible repeat first|apply kN|apply kD|apply kA); exact BK261.out) hb); have n2_ := mK (below_step (by repeat first|(with_reducible first|exact HB.out|apply bA|apply bN|apply bD|refine bS ?_ GE260.out|refine bS ?_ GE261.out)|exact HB.out) hb); have n3_ := mK (hbox); have n4_ := mK ((by rw [hg]; exact (below_size (by repeat first|(with_reducible first|exact HB.out|apply bA|apply bN|apply bD|refine bS ?_ GE260.out|refine bS ?_ GE261.out)|exact HB.out)) : w.heap.size ≤ gb262)); have n5_ := mK ((by rw [hg]; exact (below_size (by repeat first|(with_reducible first|exact HB.out|apply bA|apply bN|apply bD|refine bS ?_ GE260.out|refine bS ?_ GE261.out)|exact HB.out)) : w.heap.size ≤ gb262)); have n6_ := mK ((by rw [hg]; exact Nat.ne_of_lt (blk_lt (by (with_reducible repeat first|apply kN|apply kD|apply kA); exact BK260.out)) : gb260 ≠ gb262)); have n7_ := mK ((by rw [hg]; exact Nat.ne_of_gt (blk_lt (by (with_reducible repeat first|apply kN|apply kD|apply kA); exact BK260.out)) : gb262 ≠ gb260)); have n8_ := mK ((by rw [hg]; exact Nat.ne_of_lt (blk_lt (by (with_reducible repeat first|apply kN|apply kD|apply kA); exact BK261.out)) : gb261 ≠ gb262)); have n9_ := mK ((by rw [hg]; exact Nat.ne_of_gt (blk_lt (by (with_reducible repeat first|apply kN|apply kD|apply kA); exact BK261.out)) : gb262 ≠ gb261)); clear BK260; clear BK261; clear HB; have BK260 := n0_; have BK261 := n1_; have HB := n2_; have BK262 := n3_; have GW262 := n4_; have GE262 := n5_; have NB260_262 := n6_; have NB262_260 := n7_; have NB261_262 := n8_; have NB262_261 := n9_; clear n0_ n1_ n2_ n3_ n4_ n5_ n6_ n7_ n8_ n9_; clear hb hbox hg))
 have n0_ := mK (blk_drew BK260.out)
 have n1_ := mK (blk_drew BK261.out)
 have n2_ := mK (blk_drew BK262.out)
 have n3_ := mK (below_drew1 HB.out)
 clear BK260
 clear BK261
 clear BK262
 clear HB
 have BK260 := n0_
 have BK261 := n1_
 have BK262 := n2_
 have HB := n3_
 clear n0_ n1_ n2_ n3_
 refine start_ (n := 11) (S := fun w' => w'.cell? ⟨gb260, 0, none⟩ = some (.int .i64 a0_0) ∧ w'.cell? ⟨gb260, 1, none⟩ = some (.slice A0_1 l0_1.length c0_1) ∧ w'.cell? ⟨gb261, 0, none⟩ = some (.int .i64 a1_0) ∧ w'.cell? ⟨gb261, 1, none⟩ = some (.int .i64 a1_1) ∧ w'.cell? ⟨gb261, 2, none⟩ = some (.int .i64 a1_2) ∧ w'.cell? ⟨gb261, 3, none⟩ = some (.int .i64 a1_3)) (ds := []) #[false, false, false, false, false, false, false, false, false, false, false] (by kernel_rfl) rfl rfl ⟨(blk_cell BK260.out 0).trans rfl, (blk_cell BK260.out 1).trans rfl, (blk_cell BK261.out 0).trans rfl, (blk_cell BK261.out 1).trans rfl, (blk_cell BK261.out 2).trans rfl, (blk_cell BK261.out 3).trans rfl⟩ (fun hHeld => ?_); refine with_tabW impl_WithLink.tab1 impl_WithLink.bits1 (fun HT_ HW_ => ?_)
 generalize w38.drew = w39 at BK260 BK261 BK262 HB hHeld ⊢
 refine pure_ (i := 0) (N := some 7) (v := ?_) (a' := ?_) #[true, false, false, false, false, false, false, false, false, false, false] rfl rfl (any_of HT_.out (by kernel_rfl)) (fun _ _ _ h => h) (Or.inl ⟨by rfl, ?_⟩) ?_ ?_
 rotate_left
 {
 intro w'
 go_simp
 with_reducible rfl
 }
 rotate_left
 {
 simp only [Act.put, sT, sZ, sU, i64_w, i32_w]
 rfl
 }
 refine pure_ (i := 2) (N := some 9) (v := ?_) (a' := ?_) #[true, false, true, false, false, false, false, false, false, false, false] rfl rfl (any_of HT_.out (by kernel_rfl)) (fun _ _ _ h => h) (Or.inl ⟨by rfl, ?_⟩) ?_ ?_
 rotate_left
 {
 intro w'
 go_simp
 with_reducible rfl
 }
 rotate_left
 {
 simp only [Act.put, sT, sZ, sU, i64_w, i32_w]
 rfl
 }
 refine take_ (i := 1) (N := some 8) (v := ?_) (a' := ?_) #[true, true, true, false, false, false, false, false, false, false, false] rfl rfl (take_ofW HT_.out HW_.out (by kernel_rfl)) (fun _ _ _ h => h) (Or.inl ⟨by rfl, ?_⟩) hHeld ?_ ?_
 rotate_left
 {
 rintro w' ⟨s0, s1, s2, s3, s4, s5⟩
 go_simp
 with_reducible rfl
 }
 rotate_left
 {
 simp only [Act.put, sT, sZ, sU, i64_w, i32_w]
 rfl
 }
 refine take_ (i := 3) (N := some 10) (v := ?_) (a' := ?_) #[true, true, true, true, false, false, false, false, false, false, false] rfl rfl (take_ofW HT_.out HW_.out (by kernel_rfl)) (fun _ _ _ h => h) (Or.inl ⟨by rfl, ?_⟩) hHeld ?_ ?_
 rotate_left
 {
 rintro w' ⟨s0, s1, s2, s3, s4, s5⟩
 go_simp
 with_reducible rfl
 }
 rotate_left
 {
 simp only [Act.put, sT, sZ, sU, i64_w, i32_w]
 rfl
 }
 refine take_ (i := 5) (N := some 12) (v := ?_) (a' := ?_) #[true, true, true, true, false, true, false, false, false, false, false] rfl rfl (take_ofW HT_.out HW_.out (by kernel_rfl)) (fun _ _ _ h => h) (Or.inl ⟨by rfl, ?_⟩) hHeld ?_ ?_
 rotate_left
 {
 rintro w' ⟨s0, s1, s2, s3, s4, s5⟩
 go_simp
 with_reducible rfl
 }
 rotate_left
 {
 simp only [Act.put, sT, sZ, sU, i64_w, i32_w]
 rfl
 }
 refine join_ (σ := Value × Value × Value × Nat) 1 #[true, true, true, true, true, true, true, true, true, true, false] (fun s_ => [(11, s_.1), (13, s_.2.1), (14, s_.2.2.1), (6, .pointer (some ⟨s_.2.2.2, 0, none⟩)), (15, .agg #[.int .i64 a0_0, s_.2.2.1])]) (fun s_ w' => (w'.cell? ⟨gb260, 0, none⟩ = some (.int .i64 a0_0) ∧ w'.cell? ⟨gb260, 1, none⟩ = some (.slice A0_1 l0_1.length c0_1) ∧ w'.cell? ⟨gb261, 0, none⟩ = some (.int .i64 a1_0) ∧ w'.cell? ⟨gb261, 1, none⟩ = some (.int .i64 a1_1) ∧ w'.cell? ⟨gb261, 2, none⟩ = some (.int .i64 a1_2) ∧ w'.cell? ⟨gb261, 3, none⟩ = some (.int .i64 a1_3)) ∧ (Kd.R k76 76 w' w.heap.size (fun k_ => some k_ ≠ (s_.2.2.1 : Value).ownBlock ∧ k_ ≠ gb261) s_.2.1 y266) ∧ (Kd.R k76 76 w' w.heap.size (fun k_ => some k_ ≠ (s_.2.1 : Value).ownBlock ∧ k_ ≠ gb261) s_.2.2.1 y269) ∧ (w'.heap[gb260]? = some (.cells #[.int .i64 a0_0, .slice A0_1 l0_1.length c0_1] 47 (0, 0))) ∧ (w'.heap[gb261]? = some (.cells #[.int .i64 a1_0, .int .i64 a1_1, .int .i64 a1_2, .int .i64 a1_3] 76 (0, 0))) ∧ (w'.heap[gb262]? = some (.cells #[.int .i64 0, .slice none 0 0] 47 (0, 0))) ∧ (w'.heap[s_.2.2.2]? = some (.cells #[.int .i64 0, .slice none 0 0] 47 (0, 0))) ∧ (w.heap.size ≤ s_.2.2.2) ∧ (w.heap.size ≤ s_.2.2.2) ∧ (gb260 ≠ s_.2.2.2) ∧ (s_.2.2.2 ≠ gb260) ∧ (gb261 ≠ s_.2.2.2) ∧ (s_.2.2.2 ≠ gb261) ∧ (gb262 ≠ s_.2.2.2) ∧ (s_.2.2.2 ≠ gb262) ∧ (Below w.heap.size w w')) ?_ ?_
 rotate_left
 {
 intro hJ4_6_7_9
 refine join_ (σ := Value × Value × Value) 2 #[true, true, true, true, true, true, true, true, true, false, false] (fun s_ => [(11, s_.1), (13, s_.2.1), (14, s_.2.2), (15, .agg #[.int .i64 a0_0, s_.2.2])]) (fun s_ w' => (w'.cell? ⟨gb260, 0, none⟩ = some (.int .i64 a0_0) ∧ w'.cell? ⟨gb260, 1, none⟩ = some (.slice A0_1 l0_1.length c0_1) ∧ w'.cell? ⟨gb261, 0, none⟩ = some (.int .i64 a1_0) ∧ w'.cell? ⟨gb261, 1, none⟩ = some (.int .i64 a1_1) ∧ w'.cell? ⟨gb261, 2, none⟩ = some (.int .i64 a1_2) ∧ w'.cell? ⟨gb261, 3, none⟩ = some (.int .i64 a1_3)) ∧ (Kd.R k76 76 w' w.heap.size (fun k_ => some k_ ≠ (s_.2.2 : Value).ownBlock ∧ k_ ≠ gb261) s_.2.1 y266) ∧ (Kd.R k76 76 w' w.heap.size (fun k_ => some k_ ≠ (s_.2.1 : Value).ownBlock ∧ k_ ≠ gb261) s_.2.2 y269) ∧ (w'.heap[gb260]? = some (.cells #[.int .i64 a0_0, .slice A0_1 l0_1.length c0_1] 47 (0, 0))) ∧ (w'.heap[gb261]? = some (.cells #[.int .i64 a1_0, .int .i64 a1_1, .int .i64 a1_2, .int .i64 a1_3] 76 (0, 0))) ∧ (w'.heap[gb262]? = some (.cells #[.int .i64 0, .slice none 0 0] 47 (0, 0))) ∧ (Below w.heap.size w w')) ?_ ?_
 rotate_left
 {
 intro hJ4_6_7
 refine join_ (σ := Value × Value × Nat) 3 #[true, true, true, true, true, true, true, false, false, true, false] (fun s_ => [(11, s_.1), (13, s_.2.1), (6, .pointer (some ⟨s_.2.2, 0, none⟩))]) (fun s_ w' => (w'.cell? ⟨gb260, 0, none⟩ = some (.int .i64 a0_0) ∧ w'.cell? ⟨gb260, 1, none⟩ = some (.slice A0_1 l0_1.length c0_1) ∧ w'.cell? ⟨gb261, 0, none⟩ = some (.int .i64 a1_0) ∧ w'.cell? ⟨gb261, 1, none⟩ = some (.int .i64 a1_1) ∧ w'.cell? ⟨gb261, 2, none⟩ = some (.int .i64 a1_2) ∧ w'.cell? ⟨gb261, 3, none⟩ = some (.int .i64 a1_3)) ∧ (Kd.R k76 76 w' w.heap.size (fun k_ => some k_ ≠ (s_.2.1 : Value).ownBlock ∧ k_ ≠ gb261) s_.1 t263) ∧ (Kd.R k76 76 w' w.heap.size (fun k_ => some k_ ≠ (s_.1 : Value).ownBlock ∧ k_ ≠ gb261) s_.2.1 y266) ∧ (w'.heap[gb260]? = some (.cells #[.int .i64 a0_0, .slice A0_1 l0_1.length c0_1] 47 (0, 0))) ∧ (w'.heap[gb261]? = some (.cells #[.int .i64 a1_0, .int .i64 a1_1, .int .i64 a1_2, .int .i64 a1_3] 76 (0, 0))) ∧ (w'.heap[gb262]? = some (.cells #[.int .i64 0, .slice none 0 0] 47 (0, 0))) ∧ (w'.heap[s_.2.2]? = some (.cells #[.int .i64 0, .slice none 0 0] 47 (0, 0))) ∧ (w.heap.size ≤ s_.2.2) ∧ (w.heap.size ≤ s_.2.2) ∧ (gb260 ≠ s_.2.2) ∧ (s_.2.2 ≠ gb260) ∧ (gb261 ≠ s_.2.2) ∧ (s_.2.2 ≠ gb261) ∧ (gb262 ≠ s_.2.2) ∧ (s_.2.2 ≠ gb262) ∧ (Below w.heap.size w w')) ?_ ?_
 rotate_left
 {
 intro hJ4_6_9
 refine join_ (σ := Value × Value) 4 #[true, true, true, true, true, true, true, false, false, false, false] (fun s_ => [(11, s_.1), (13, s_.2)]) (fun s_ w' => (w'.cell? ⟨gb260, 0, none⟩ = some (.int .i64 a0_0) ∧ w'.cell? ⟨gb260, 1, none⟩ = some (.slice A0_1 l0_1.length c0_1) ∧ w'.cell? ⟨gb261, 0, none⟩ = some (.int .i64 a1_0) ∧ w'.cell? ⟨gb261, 1, none⟩ = some (.int .i64 a1_1) ∧ w'.cell? ⟨gb261, 2, none⟩ = some (.int .i64 a1_2) ∧ w'.cell? ⟨gb261, 3, none⟩ = some (.int .i64 a1_3)) ∧ (Kd.R k76 76 w' w.heap.size (fun k_ => some k_ ≠ (s_.2 : Value).ownBlock ∧ k_ ≠ gb261) s_.1 t263) ∧ (Kd.R k76 76 w' w.heap.size (fun k_ => some k_ ≠ (s_.1 : Value).ownBlock ∧ k_ ≠ gb261) s_.2 y266) ∧ (w'.heap[gb260]? = some (.cells #[.int .i64 a0_0, .slice A0_1 l0_1.length c0_1] 47 (0, 0))) ∧ (w'.heap[gb261]? = some (.cells #[.int .i64 a1_0, .int .i64 a1_1, .int .i64 a1_2, .int .i64 a1_3] 76 (0, 0))) ∧ (w'.heap[gb262]? = some (.cells #[.int .i64 0, .slice none 0 0] 47 (0, 0))) ∧ (Below w.heap.size w w')) ?_ ?_
 rotate_left
 {
 intro hJ4_6
 refine join_ (σ := Value × Nat) 4 #[true, true, true, true, true, true, false, false, false, true, false] (fun s_ => [(11, s_.1), (6, .pointer (some ⟨s_.2, 0, none⟩))]) (fun s_ w' => (w'.cell? ⟨gb260, 0, none⟩ = some (.int .i64 a0_0) ∧ w'.cell? ⟨gb260, 1, none⟩ = some (.slice A0_1 l0_1.length c0_1) ∧ w'.cell? ⟨gb261, 0, none⟩ = some (.int .i64 a1_0) ∧ w'.cell? ⟨gb261, 1, none⟩ = some (.int .i64 a1_1) ∧ w'.cell? ⟨gb261, 2, none⟩ = some (.int .i64 a1_2) ∧ w'.cell? ⟨gb261, 3, none⟩ = some (.int .i64 a1_3)) ∧ (Kd.R k76 76 w' w.heap.size (fun k_ => k_ ≠ gb261) s_.1 t263) ∧ (w'.heap[gb260]? = some (.cells #[.int .i64 a0_0, .slice A0_1 l0_1.length c0_1] 47 (0, 0))) ∧ (w'.heap[gb261]? = some (.cells #[.int .i64 a1_0, .int .i64 a1_1, .int .i64 a1_2, .int .i64 a1_3] 76 (0, 0))) ∧ (w'.heap[gb262]? = some (.cells #[.int .i64 0, .slice none 0 0] 47 (0, 0))) ∧ (w'.heap[s_.2]? = some (.cells #[.int .i64 0, .slice none 0 0] 47 (0, 0))) ∧ (w.heap.size ≤ s_.2) ∧ (w.heap.size ≤ s_.2) ∧ (gb260 ≠ s_.2) ∧ (s_.2 ≠ gb260) ∧ (gb261 ≠ s_.2) ∧ (s_.2 ≠ gb261) ∧ (gb262 ≠ s_.2) ∧ (s_.2 ≠ gb262) ∧ (Below w.heap.size w w')) ?_ ?_
 rotate_left
 {
 intro hJ4_9
 refine join_ (σ := Value × Nat) 4 #[true, true, true, true, false, true, true, false, false, true, false] (fun s_ => [(13, s_.1), (6, .pointer (some ⟨s_.2, 0, none⟩))]) (fun s_ w' => (w'.cell? ⟨gb260, 0, none⟩ = some (.int .i64 a0_0) ∧ w'.cell? ⟨gb260, 1, none⟩ = some (.slice A0_1 l0_1.length c0_1) ∧ w'.cell? ⟨gb261, 0, none⟩ = some (.int .i64 a1_0) ∧ w'.cell? ⟨gb261, 1, none⟩ = some (.int .i64 a1_1) ∧ w'.cell? ⟨gb261, 2, none⟩ = some (.int .i64 a1_2) ∧ w'.cell? ⟨gb261, 3, none⟩ = some (.int .i64 a1_3)) ∧ (Kd.R k76 76 w' w.heap.size (fun k_ => k_ ≠ gb261) s_.1 y266) ∧ (w'.heap[gb260]? = some (.cells #[.int .i64 a0_0, .slice A0_1 l0_1.length c0_1] 47 (0, 0))) ∧ (w'.heap[gb261]? = some (.cells #[.int .i64 a1_0, .int .i64 a1_1, .int .i64 a1_2, .int .i64 a1_3] 76 (0, 0))) ∧ (w'.heap[gb262]? = some (.cells #[.int .i64 0, .slice none 0 0] 47 (0, 0))) ∧ (w'.heap[s_.2]? = some (.cells #[.int .i64 0, .slice none 0 0] 47 (0, 0))) ∧ (w.heap.size ≤ s_.2) ∧ (w.heap.size ≤ s_.2) ∧ (gb260 ≠ s_.2) ∧ (s_.2 ≠ gb260) ∧ (gb261 ≠ s_.2) ∧ (s_.2 ≠ gb261) ∧ (gb262 ≠ s_.2) ∧ (s_.2 ≠ gb262) ∧ (Below w.heap.size w w')) ?_ ?_
 rotate_left
 {
 intro hJ6_9
 refine join_ (σ := Value) 5 #[true, true, true, true, true, true, false, false, false, false, false] (fun s_ => [(11, s_)]) (fun s_ w' => (w'.cell? ⟨gb260, 0, none⟩ = some (.int .i64 a0_0) ∧ w'.cell? ⟨gb260, 1, none⟩ = some (.slice A0_1 l0_1.length c0_1) ∧ w'.cell? ⟨gb261, 0, none⟩ = some (.int .i64 a1_0) ∧ w'.cell? ⟨gb261, 1, none⟩ = some (.int .i64 a1_1) ∧ w'.cell? ⟨gb261, 2, none⟩ = some (.int .i64 a1_2) ∧ w'.cell? ⟨gb261, 3, none⟩ = some (.int .i64 a1_3)) ∧ (Kd.R k76 76 w' w.heap.size (fun k_ => k_ ≠ gb261) s_ t263) ∧ (w'.heap[gb260]? = some (.cells #[.int .i64 a0_0, .slice A0_1 l0_1.length c0_1] 47 (0, 0))) ∧ (w'.heap[gb261]? = some (.cells #[.int .i64 a1_0, .int .i64 a1_1, .int .i64 a1_2, .int .i64 a1_3] 76 (0, 0))) ∧ (w'.heap[gb262]? = some (.cells #[.int .i64 0, .slice none 0 0] 47 (0, 0))) ∧ (Below w.heap.size w w')) ?_ ?_
 rotate_left
 {
 intro hJ4
 refine join_ (σ := Value) 5 #[true, true, true, true, false, true, true, false, false, false, false] (fun s_ => [(13, s_)]) (fun s_ w' => (w'.cell? ⟨gb260, 0, none⟩ = some (.int .i64 a0_0) ∧ w'.cell? ⟨gb260, 1, none⟩ = some (.slice A0_1 l0_1.length c0_1) ∧ w'.cell? ⟨gb261, 0, none⟩ = some (.int .i64 a1_0) ∧ w'.cell? ⟨gb261, 1, none⟩ = some (.int .i64 a1_1) ∧ w'.cell? ⟨gb261, 2, none⟩ = some (.int .i64 a1_2) ∧ w'.cell? ⟨gb261, 3, none⟩ = some (.int .i64 a1_3)) ∧ (Kd.R k76 76 w' w.heap.size (fun k_ => k_ ≠ gb261) s_ y266) ∧ (w'.heap[gb260]? = some (.cells #[.int .i64 a0_0, .slice A0_1 l0_1.length c0_1] 47 (0, 0))) ∧ (w'.heap[gb261]? = some (.cells #[.int .i64 a1_0, .int .i64 a1_1, .int .i64 a1_2, .int .i64 a1_3] 76 (0, 0))) ∧ (w'.heap[gb262]? = some (.cells #[.int .i64 0, .slice none 0 0] 47 (0, 0))) ∧ (Below w.heap.size w w')) ?_ ?_
 rotate_left
 {
 intro hJ6
 refine join_ (σ := Nat) 5 #[true, true, true, true, false, true, false, false, false, true, false] (fun s_ => [(6, .pointer (some ⟨s_, 0, none⟩))]) (fun s_ w' => (w'.cell? ⟨gb260, 0, none⟩ = some (.int .i64 a0_0) ∧ w'.cell? ⟨gb260, 1, none⟩ = some (.slice A0_1 l0_1.length c0_1) ∧ w'.cell? ⟨gb261, 0, none⟩ = some (.int .i64 a1_0) ∧ w'.cell? ⟨gb261, 1, none⟩ = some (.int .i64 a1_1) ∧ w'.cell? ⟨gb261, 2, none⟩ = some (.int .i64 a1_2) ∧ w'.cell? ⟨gb261, 3, none⟩ = some (.int .i64 a1_3)) ∧ (w'.heap[gb260]? = some (.cells #[.int .i64 a0_0, .slice A0_1 l0_1.length c0_1] 47 (0, 0))) ∧ (w'.heap[gb261]? = some (.cells #[.int .i64 a1_0, .int .i64 a1_1, .int .i64 a1_2, .int .i64 a1_3] 76 (0, 0))) ∧ (w'.heap[gb262]? = some (.cells #[.int .i64 0, .slice none 0 0] 47 (0, 0))) ∧ (w'.heap[s_]? = some (.cells #[.int .i64 0, .slice none 0 0] 47 (0, 0))) ∧ (w.heap.size ≤ s_) ∧ (w.heap.size ≤ s_) ∧ (gb260 ≠ s_) ∧ (s_ ≠ gb260) ∧ (gb261 ≠ s_) ∧ (s_ ≠ gb261) ∧ (gb262 ≠ s_) ∧ (s_ ≠ gb262) ∧ (Below w.heap.size w w')) ?_ ?_
 rotate_left
 {
 intro hJ9
 refine three_ (i := 4) (j := 6) (k := 9) (Ni := some 11) (Nj := some 13) (Nk := some 6) #[true, true, true, true, true, true, false, false, false, false, false] #[true, true, true, true, false, true, true, false, false, false, false] #[true, true, true, true, false, true, false, false, false, true, false] rfl rfl rfl rfl rfl rfl (three_of HT_.out (by kernel_rfl)) (by decide) (by decide) (by decide) (fun K hK => ?_) (fun K hK => ?_) (fun K hK => ?_)
 {
 skip
 refine goes_ Try.func86 (by kernel_rfl) rfl #[.slice A0_1 l0_1.length c0_1] (by rfl) rfl rfl (by (try simp only [List.map_toArray, List.map_cons, List.map_nil]); first | done | rfl | (simp only [List.length_drop, List.length_take]; rfl)) ?_
 with_reducible refine (impl_Link_86.calls _ _ l0_1 t263 _ ?side1 ?side2 A3.out).mono ?_
 (case side1 => repeat (first | exact (Kd.C_below HR0_1.out HB.out) | (with_reducible refine Kd.C_alloc ?_ _) | (with_reducible refine Kd.C_drewN ?_ _) | (with_reducible refine Kd.C_drew ?_)))
 (case side2 => exact HC0_1.out)
 rintro e w40 ⟨v264, rfl, ho0, hb⟩
 refine ⟨_, rfl, ?_⟩
 have n0_ := mK (Kd.R_lower (Kd.R_newB ho0 (by (with_reducible repeat first|apply kN|apply kD|apply kA); exact BK261.out)) (below_size (by repeat first|(with_reducible first|exact HB.out|apply bA|apply bN|apply bD|refine bS ?_ GE260.out|refine bS ?_ GE261.out|refine bS ?_ GE262.out)|exact HB.out)))
 have n1_ := mK (blk_below (by (with_reducible repeat first|apply kN|apply kD|apply kA); exact BK260.out) hb)
 have n2_ := mK (blk_below (by (with_reducible repeat first|apply kN|apply kD|apply kA); exact BK261.out) hb)
 have n3_ := mK (blk_below (by (with_reducible repeat first|apply kN|apply kD|apply kA); exact BK262.out) hb)
 have n4_ := mK (below_step (by repeat first|(with_reducible first|exact HB.out|apply bA|apply bN|apply bD|refine bS ?_ GE260.out|refine bS ?_ GE261.out|refine bS ?_ GE262.out)|exact HB.out) hb)
 clear BK260
 clear BK261
 clear BK262
 clear HB
 have HO265 := n0_
 have BK260 := n1_
 have BK261 := n2_
 have BK262 := n3_
 have HB := n4_
 clear n0_ n1_ n2_ n3_ n4_
 (try clear hb)
 (try clear hb2)
 (try clear hk)
 (try clear hi)
 (try clear ho0)
 refine hK.out _ _ ⟨(blk_cell BK260.out 0).trans rfl, (blk_cell BK260.out 1).trans rfl, (blk_cell BK261.out 0).trans rfl, (blk_cell BK261.out 1).trans rfl, (blk_cell BK261.out 2).trans rfl, (blk_cell BK261.out 3).trans rfl⟩ (fun hHeld => ?_)
 clear hK K
 refine norm_ (a' := ?_) ?_ ?_
 rotate_left
 {
 show Act.put _ (some 11) _ = _
 simp only [Act.put, sT, sZ, sU, i64_w, i32_w]
 rfl
 }
 exact norm_ (by simp only [putAll, Act.put, sT, sZ, sU] <;> rfl) (hJ4 (v264) _ ⟨hHeld, (Kd.R_mono HO265.out (fun _ hk => hk.2)), BK260.out, BK261.out, BK262.out, HB.out⟩)
 }
 {
 skip
 refine Kd.R_lit_step k76 _ 76 ?hg (N := 13) ?hd (xs := ([(⟨a1_0, a1_1, (⟨a1_2, a1_3⟩ : S52)⟩ : S76)] : List (S76))) (inner := [.int .i64 a1_0, .int .i64 a1_1, .int .i64 a1_2, .int .i64 a1_3]) (ok := fun _ => True) (okp := fun _ => True) ?hr ?hp (fun _ hk => hk) trivial (Below.refl _ _) (Nat.le_refl _) (by simp) ?_; (case hd => rfl); (case hg => rfl); (case hr => go_simp <;> rfl); (case hp => exact (Reps.c4 (show Kd.M k76 _ _ _ (⟨a1_0, a1_1, (⟨a1_2, a1_3⟩ : S52)⟩ : S76) [.int .i64 a1_0, .int .i64 a1_1, .int .i64 a1_2, .int .i64 a1_3] from (k76_mkM _ _ _ (⟨a1_0, a1_1, (⟨a1_2, a1_3⟩ : S52)⟩ : S76) )) (Reps.none _ _)))
 intro v267 w40 ho41 hb hg_ hnew_
 clear hg_ hnew_
 (first | rw [← Ny266.out] at ho41 | (simp only [Int.reduceToNat] at ho41; rw [← Ny266.out] at ho41))
 have n0_ := mK (Kd.R_lower (Kd.R_newB ho41 (by (with_reducible repeat first|apply kN|apply kD|apply kA); exact BK261.out)) (below_size (by repeat first|(with_reducible first|exact HB.out|apply bA|apply bN|apply bD|refine bS ?_ GE260.out|refine bS ?_ GE261.out|refine bS ?_ GE262.out)|exact HB.out)))
 have n1_ := mK (blk_below (by (with_reducible repeat first|apply kN|apply kD|apply kA); exact BK260.out) hb)
 have n2_ := mK (blk_below (by (with_reducible repeat first|apply kN|apply kD|apply kA); exact BK261.out) hb)
 have n3_ := mK (blk_below (by (with_reducible repeat first|apply kN|apply kD|apply kA); exact BK262.out) hb)
 have n4_ := mK (below_step (by repeat first|(with_reducible first|exact HB.out|apply bA|apply bN|apply bD|refine bS ?_ GE260.out|refine bS ?_ GE261.out|refine bS ?_ GE262.out)|exact HB.out) hb)
 clear BK260
 clear BK261
 clear BK262
 clear HB
 have HO268 := n0_
 have BK260 := n1_
 have BK261 := n2_
 have BK262 := n3_
 have HB := n4_
 clear n0_ n1_ n2_ n3_ n4_
 clear hb ho41
 refine hK.out _ _ ⟨(blk_cell BK260.out 0).trans rfl, (blk_cell BK260.out 1).trans rfl, (blk_cell BK261.out 0).trans rfl, (blk_cell BK261.out 1).trans rfl, (blk_cell BK261.out 2).trans rfl, (blk_cell BK261.out 3).trans rfl⟩ (fun hHeld => ?_)
 clear hK K
 refine norm_ (a' := ?_) ?_ ?_
 rotate_left
 {
 show Act.put _ (some 13) _ = _
 simp only [Act.put, sT, sZ, sU, i64_w, i32_w]
 rfl
 }
 exact norm_ (by simp only [putAll, Act.put, sT, sZ, sU] <;> rfl) (hJ6 (v267) _ ⟨hHeld, (Kd.R_mono HO268.out (fun _ hk => hk.2)), BK260.out, BK261.out, BK262.out, HB.out⟩)
 }
 {
 skip
 refine box_step ?hg (N := 6) ?hd (cs := #[.int .i64 0, .slice none 0 0]) (t := 47) ?hr ?_; (case hd => rfl); (case hg => rfl); (case hr => go_simp <;> rfl)
 intro gb272 hg w40 hbox hb
 have n0_ := mK (blk_below (by (with_reducible repeat first|apply kN|apply kD|apply kA); exact BK260.out) hb)
 have n1_ := mK (blk_below (by (with_reducible repeat first|apply kN|apply kD|apply kA); exact BK261.out) hb)
 have n2_ := mK (blk_below (by (with_reducible repeat first|apply kN|apply kD|apply kA); exact BK262.out) hb)
 have n3_ := mK (below_step (by repeat first|(with_reducible first|exact HB.out|apply bA|apply bN|apply bD|refine bS ?_ GE260.out|refine bS ?_ GE261.out|refine bS ?_ GE262.out)|exact HB.out) hb)
 have n4_ := mK (hbox)
 have n5_ := mK ((by rw [hg]; exact (below_size (by repeat first|(with_reducible first|exact HB.out|apply bA|apply bN|apply bD|refine bS ?_ GE260.out|refine bS ?_ GE261.out|refine bS ?_ GE262.out)|exact HB.out)) : w.heap.size ≤ gb272))
 have n6_ := mK ((by rw [hg]; exact (below_size (by repeat first|(with_reducible first|exact HB.out|apply bA|apply bN|apply bD|refine bS ?_ GE260.out|refine bS ?_ GE261.out|refine bS ?_ GE262.out)|exact HB.out)) : w.heap.size ≤ gb272))
 have n7_ := mK ((by rw [hg]; exact Nat.ne_of_lt (blk_lt (by (with_reducible repeat first|apply kN|apply kD|apply kA); exact BK260.out)) : gb260 ≠ gb272))
 have n8_ := mK ((by rw [hg]; exact Nat.ne_of_gt (blk_lt (by (with_reducible repeat first|apply kN|apply kD|apply kA); exact BK260.out)) : gb272 ≠ gb260))
 have n9_ := mK ((by rw [hg]; exact Nat.ne_of_lt (blk_lt (by (with_reducible repeat first|apply kN|apply kD|apply kA); exact BK261.out)) : gb261 ≠ gb272))
 have n10_ := mK ((by rw [hg]; exact Nat.ne_of_gt (blk_lt (by (with_reducible repeat first|apply kN|apply kD|apply kA); exact BK261.out)) : gb272 ≠ gb261))
 have n11_ := mK ((by rw [hg]; exact Nat.ne_of_lt (blk_lt (by (with_reducible repeat first|apply kN|apply kD|apply kA); exact BK262.out)) : gb262 ≠ gb272))
 have n12_ := mK ((by rw [hg]; exact Nat.ne_of_gt (blk_lt (by (with_reducible repeat first|apply kN|apply kD|apply kA); exact BK262.out)) : gb272 ≠ gb262))
 clear BK260
 clear BK261
 clear BK262
 clear HB
 have BK260 := n0_
 have BK261 := n1_
 have BK262 := n2_
 have HB := n3_
 have BK272 := n4_
 have GW272 := n5_
 have GE272 := n6_
 have NB260_272 := n7_
 have NB272_260 := n8_
 have NB261_272 := n9_
 have NB272_261 := n10_
 have NB262_272 := n11_
 have NB272_262 := n12_
 clear n0_ n1_ n2_ n3_ n4_ n5_ n6_ n7_ n8_ n9_ n10_ n11_ n12_
 clear hb hbox hg
 refine hK.out _ _ ⟨(blk_cell BK260.out 0).trans rfl, (blk_cell BK260.out 1).trans rfl, (blk_cell BK261.out 0).trans rfl, (blk_cell BK261.out 1).trans rfl, (blk_cell BK261.out 2).trans rfl, (blk_cell BK261.out 3).trans rfl⟩ (fun hHeld => ?_)
 clear hK K
 refine norm_ (a' := ?_) ?_ ?_
 rotate_left
 {
 show Act.put _ (some 6) _ = _
 simp only [Act.put, sT, sZ, sU, i64_w, i32_w]
 rfl
 }
 exact norm_ (by simp only [putAll, Act.put, sT, sZ, sU] <;> rfl) (hJ9 (gb272) _ ⟨hHeld, BK260.out, BK261.out, BK262.out, BK272.out, GW272.out, GE272.out, NB260_272.out, NB272_260.out, NB261_272.out, NB272_261.out, NB262_272.out, NB272_262.out, HB.out⟩)
 }
 }
 {
 skip
 rintro gb272 w41 ⟨hS_, h0_, h1_, h2_, h3_, h4_, h5_, h6_, h7_, h8_, h9_, h10_, h11_, h12_⟩
 have n0_ : Aside0 (w41.heap[gb260]? = some (.cells #[.int .i64 a0_0, .slice A0_1 l0_1.length c0_1] 47 (0, 0))) := ⟨h0_⟩
 have n1_ : Aside0 (w41.heap[gb261]? = some (.cells #[.int .i64 a1_0, .int .i64 a1_1, .int .i64 a1_2, .int .i64 a1_3] 76 (0, 0))) := ⟨h1_⟩
 have n2_ : Aside0 (w41.heap[gb262]? = some (.cells #[.int .i64 0, .slice none 0 0] 47 (0, 0))) := ⟨h2_⟩
 have n3_ : Aside0 (w41.heap[gb272]? = some (.cells #[.int .i64 0, .slice none 0 0] 47 (0, 0))) := ⟨h3_⟩
 have n4_ : Aside0 (w.heap.size ≤ gb272) := ⟨h4_⟩
 have n5_ : Aside0 (w.heap.size ≤ gb272) := ⟨h5_⟩
 have n6_ : Aside0 (gb260 ≠ gb272) := ⟨h6_⟩
 have n7_ : Aside0 (gb272 ≠ gb260) := ⟨h7_⟩
 have n8_ : Aside0 (gb261 ≠ gb272) := ⟨h8_⟩
 have n9_ : Aside0 (gb272 ≠ gb261) := ⟨h9_⟩
 have n10_ : Aside0 (gb262 ≠ gb272) := ⟨h10_⟩
 have n11_ : Aside0 (gb272 ≠ gb262) := ⟨h11_⟩
 have n12_ : Aside0 (Below w.heap.size w w41) := ⟨h12_⟩
 clear BK260
 clear BK261
 clear BK262
 clear HB
 clear h0_ h1_ h2_ h3_ h4_ h5_ h6_ h7_ h8_ h9_ h10_ h11_ h12_
 have BK260 := n0_
 have BK261 := n1_
 have BK262 := n2_
 have BK272 := n3_
 have GW272 := n4_
 have GE272 := n5_
 have NB260_272 := n6_
 have NB272_260 := n7_
 have NB261_272 := n8_
 have NB272_261 := n9_
 have NB262_272 := n10_
 have NB272_262 := n11_
 have HB := n12_
 clear n0_ n1_ n2_ n3_ n4_ n5_ n6_ n7_ n8_ n9_ n10_ n11_ n12_
 have hHeld : w41.cell? ⟨gb260, 0, none⟩ = some (.int .i64 a0_0) ∧ w41.cell? ⟨gb260, 1, none⟩ = some (.slice A0_1 l0_1.length c0_1) ∧ w41.cell? ⟨gb261, 0, none⟩ = some (.int .i64 a1_0) ∧ w41.cell? ⟨gb261, 1, none⟩ = some (.int .i64 a1_1) ∧ w41.cell? ⟨gb261, 2, none⟩ = some (.int .i64 a1_2) ∧ w41.cell? ⟨gb261, 3, none⟩ = some (.int .i64 a1_3) := hS_
 refine norm_ (a' := ?_) ?_ ?_
 rotate_left
 {
 simp only [putAll, Act.put, sT, sZ, sU]
 rfl
 }
 refine two_ (i := 4) (j := 6) (Ni := some 11) (Nj := some 13) #[true, true, true, true, true, true, false, false, false, true, false] #[true, true, true, true, false, true, true, false, false, true, false] rfl rfl rfl rfl (two_of HT_.out (by kernel_rfl)) (by decide) (by decide) (fun K hK => ?_) (fun K hK => ?_)
 {
 skip
 refine goes_ Try.func86 (by kernel_rfl) rfl #[.slice A0_1 l0_1.length c0_1] (by rfl) rfl rfl (by (try simp only [List.map_toArray, List.map_cons, List.map_nil]); first | done | rfl | (simp only [List.length_drop, List.length_take]; rfl)) ?_
 with_reducible refine (impl_Link_86.calls _ _ l0_1 t263 _ ?side1 ?side2 A3.out).mono ?_
 (case side1 => repeat (first | exact (Kd.C_below HR0_1.out HB.out) | (with_reducible refine Kd.C_alloc ?_ _) | (with_reducible refine Kd.C_drewN ?_ _) | (with_reducible refine Kd.C_drew ?_)))
 (case side2 => exact HC0_1.out)
 rintro e w42 ⟨v264, rfl, ho0, hb⟩
 refine ⟨_, rfl, ?_⟩
 have n0_ := mK (Kd.R_lower (Kd.R_newB ho0 (by (with_reducible repeat first|apply kN|apply kD|apply kA); exact BK261.out)) (below_size (by repeat first|(with_reducible first|exact HB.out|apply bA|apply bN|apply bD|refine bS ?_ GE260.out|refine bS ?_ GE261.out|refine bS ?_ GE262.out|refine bS ?_ GE272.out)|exact HB.out)))
 have n1_ := mK (blk_below (by (with_reducible repeat first|apply kN|apply kD|apply kA); exact BK260.out) hb)
 have n2_ := mK (blk_below (by (with_reducible repeat first|apply kN|apply kD|apply kA); exact BK261.out) hb)
 have n3_ := mK (blk_below (by (with_reducible repeat first|apply kN|apply kD|apply kA); exact BK262.out) hb)
 have n4_ := mK (blk_below (by (with_reducible repeat first|apply kN|apply kD|apply kA); exact BK272.out) hb)
 have n5_ := mK (below_step (by repeat first|(with_reducible first|exact HB.out|apply bA|apply bN|apply bD|refine bS ?_ GE260.out|refine bS ?_ GE261.out|refine bS ?_ GE262.out|refine bS ?_ GE272.out)|exact HB.out) hb)
 clear BK260
 clear BK261
 clear BK262
 clear BK272
 clear HB
 have HO265 := n0_
 have BK260 := n1_
 have BK261 := n2_
 have BK262 := n3_
 have BK272 := n4_
 have HB := n5_
 clear n0_ n1_ n2_ n3_ n4_ n5_
 (try clear hb)
 (try clear hb2)
 (try clear hk)
 (try clear hi)
 (try clear ho0)
 refine hK.out _ _ ⟨(blk_cell BK260.out 0).trans rfl, (blk_cell BK260.out 1).trans rfl, (blk_cell BK261.out 0).trans rfl, (blk_cell BK261.out 1).trans rfl, (blk_cell BK261.out 2).trans rfl, (blk_cell BK261.out 3).trans rfl⟩ (fun hHeld => ?_)
 clear hK K
 refine norm_ (a' := ?_) ?_ ?_
 rotate_left
 {
 show Act.put _ (some 11) _ = _
 simp only [Act.put, sT, sZ, sU, i64_w, i32_w]
 rfl
 }
 exact norm_ (by simp only [putAll, Act.put, sT, sZ, sU] <;> rfl) (hJ4_9 (v264, gb272) _ ⟨hHeld, (Kd.R_mono HO265.out (fun _ hk => hk.2)), BK260.out, BK261.out, BK262.out, BK272.out, GW272.out, GE272.out, NB260_272.out, NB272_260.out, NB261_272.out, NB272_261.out, NB262_272.out, NB272_262.out, HB.out⟩)
 }
 {
 skip
 refine Kd.R_lit_step k76 _ 76 ?hg (N := 13) ?hd (xs := ([(⟨a1_0, a1_1, (⟨a1_2, a1_3⟩ : S52)⟩ : S76)] : List (S76))) (inner := [.int .i64 a1_0, .int .i64 a1_1, .int .i64 a1_2, .int .i64 a1_3]) (ok := fun _ => True) (okp := fun _ => True) ?hr ?hp (fun _ hk => hk) trivial (Below.refl _ _) (Nat.le_refl _) (by simp) ?_; (case hd => rfl); (case hg => rfl); (case hr => go_simp <;> rfl); (case hp => exact (Reps.c4 (show Kd.M k76 _ _ _ (⟨a1_0, a1_1, (⟨a1_2, a1_3⟩ : S52)⟩ : S76) [.int .i64 a1_0, .int .i64 a1_1, .int .i64 a1_2, .int .i64 a1_3] from (k76_mkM _ _ _ (⟨a1_0, a1_1, (⟨a1_2, a1_3⟩ : S52)⟩ : S76) )) (Reps.none _ _)))
 intro v267 w42 ho43 hb hg_ hnew_
 clear hg_ hnew_
 (first | rw [← Ny266.out] at ho43 | (simp only [Int.reduceToNat] at ho43; rw [← Ny266.out] at ho43))
 have n0_ := mK (Kd.R_lower (Kd.R_newB ho43 (by (with_reducible repeat first|apply kN|apply kD|apply kA); exact BK261.out)) (below_size (by repeat first|(with_reducible first|exact HB.out|apply bA|apply bN|apply bD|refine bS ?_ GE260.out|refine bS ?_ GE261.out|refine bS ?_ GE262.out|refine bS ?_ GE272.out)|exact HB.out)))
 have n1_ := mK (blk_below (by (with_reducible repeat first|apply kN|apply kD|apply kA); exact BK260.out) hb)
 have n2_ := mK (blk_below (by (with_reducible repeat first|apply kN|apply kD|apply kA); exact BK261.out) hb)
 have n3_ := mK (blk_below (by (with_reducible repeat first|apply kN|apply kD|apply kA); exact BK262.out) hb)
 have n4_ := mK (blk_below (by (with_reducible repeat first|apply kN|apply kD|apply kA); exact BK272.out) hb)
 have n5_ := mK (below_step (by repeat first|(with_reducible first|exact HB.out|apply bA|apply bN|apply bD|refine bS ?_ GE260.out|refine bS ?_ GE261.out|refine bS ?_ GE262.out|refine bS ?_ GE272.out)|exact HB.out) hb)
 clear BK260
 clear BK261
 clear BK262
 clear BK272
 clear HB
 have HO268 := n0_
 have BK260 := n1_
 have BK261 := n2_
 have BK262 := n3_
 have BK272 := n4_
 have HB := n5_
 clear n0_ n1_ n2_ n3_ n4_ n5_
 clear hb ho43
 refine hK.out _ _ ⟨(blk_cell BK260.out 0).trans rfl, (blk_cell BK260.out 1).trans rfl, (blk_cell BK261.out 0).trans rfl, (blk_cell BK261.out 1).trans rfl, (blk_cell BK261.out 2).trans rfl, (blk_cell BK261.out 3).trans rfl⟩ (fun hHeld => ?_)
 clear hK K
 refine norm_ (a' := ?_) ?_ ?_
 rotate_left
 {
 show Act.put _ (some 13) _ = _
 simp only [Act.put, sT, sZ, sU, i64_w, i32_w]
 rfl
 }
 exact norm_ (by simp only [putAll, Act.put, sT, sZ, sU] <;> rfl) (hJ6_9 (v267, gb272) _ ⟨hHeld, (Kd.R_mono HO268.out (fun _ hk => hk.2)), BK260.out, BK261.out, BK262.out, BK272.out, GW272.out, GE272.out, NB260_272.out, NB272_260.out, NB261_272.out, NB272_261.out, NB262_272.out, NB272_262.out, HB.out⟩)
 }
 }
 }
 {
 skip
 rintro v267 w42 ⟨hS_, h0_, h1_, h2_, h3_, h4_⟩
 have n0_ : Aside0 (Kd.R k76 76 w42 w.heap.size (fun k_ => k_ ≠ gb261) v267 y266) := ⟨h0_⟩
 have n1_ : Aside0 (w42.heap[gb260]? = some (.cells #[.int .i64 a0_0, .slice A0_1 l0_1.length c0_1] 47 (0, 0))) := ⟨h1_⟩
 have n2_ : Aside0 (w42.heap[gb261]? = some (.cells #[.int .i64 a1_0, .int .i64 a1_1, .int .i64 a1_2, .int .i64 a1_3] 76 (0, 0))) := ⟨h2_⟩
 have n3_ : Aside0 (w42.heap[gb262]? = some (.cells #[.int .i64 0, .slice none 0 0] 47 (0, 0))) := ⟨h3_⟩
 have n4_ : Aside0 (Below w.heap.size w w42) := ⟨h4_⟩
 clear BK260
 clear BK261
 clear BK262
 clear HB
 clear h0_ h1_ h2_ h3_ h4_
 have HO268 := n0_
 have BK260 := n1_
 have BK261 := n2_
 have BK262 := n3_
 have HB := n4_
 clear n0_ n1_ n2_ n3_ n4_
 have hHeld : w42.cell? ⟨gb260, 0, none⟩ = some (.int .i64 a0_0) ∧ w42.cell? ⟨gb260, 1, none⟩ = some (.slice A0_1 l0_1.length c0_1) ∧ w42.cell? ⟨gb261, 0, none⟩ = some (.int .i64 a1_0) ∧ w42.cell? ⟨gb261, 1, none⟩ = some (.int .i64 a1_1) ∧ w42.cell? ⟨gb261, 2, none⟩ = some (.int .i64 a1_2) ∧ w42.cell? ⟨gb261, 3, none⟩ = some (.int .i64 a1_3) := hS_
 refine norm_ (a' := ?_) ?_ ?_
 rotate_left
 {
 simp only [putAll, Act.put, sT, sZ, sU]
 rfl
 }
 refine two_ (i := 4) (j := 9) (Ni := some 11) (Nj := some 6) #[true, true, true, true, true, true, true, false, false, false, false] #[true, true, true, true, false, true, true, false, false, true, false] rfl rfl rfl rfl (two_of HT_.out (by kernel_rfl)) (by decide) (by decide) (fun K hK => ?_) (fun K hK => ?_)
 {
 skip
 refine goes_ Try.func86 (by kernel_rfl) rfl #[.slice A0_1 l0_1.length c0_1] (by rfl) rfl rfl (by (try simp only [List.map_toArray, List.map_cons, List.map_nil]); first | done | rfl | (simp only [List.length_drop, List.length_take]; rfl)) ?_
 with_reducible refine (impl_Link_86.calls _ _ l0_1 t263 _ ?side1 ?side2 A3.out).mono ?_
 (case side1 => repeat (first | exact (Kd.C_below HR0_1.out HB.out) | (with_reducible refine Kd.C_alloc ?_ _) | (with_reducible refine Kd.C_drewN ?_ _) | (with_reducible refine Kd.C_drew ?_)))
 (case side2 => exact HC0_1.out)
 rintro e w43 ⟨v264, rfl, ho0, hb⟩
 refine ⟨_, rfl, ?_⟩
 have n0_ := mK (Kd.R_elder' (by (with_reducible repeat first|apply rA|apply rN|apply rD); exact HO268.out) (Kd.R_base ho0) hb)
 have n1_ := mK (Kd.R_lower (Kd.R_newB (Kd.R_new' ho0 (Kd.R_lt (by (with_reducible repeat first|apply rA|apply rN|apply rD); exact HO268.out))) (by (with_reducible repeat first|apply kN|apply kD|apply kA); exact BK261.out)) (below_size (by repeat first|(with_reducible first|exact HB.out|apply bA|apply bN|apply bD|refine bS ?_ GE260.out|refine bS ?_ GE261.out|refine bS ?_ GE262.out)|exact HB.out)))
 have n2_ := mK (blk_below (by (with_reducible repeat first|apply kN|apply kD|apply kA); exact BK260.out) hb)
 have n3_ := mK (blk_below (by (with_reducible repeat first|apply kN|apply kD|apply kA); exact BK261.out) hb)
 have n4_ := mK (blk_below (by (with_reducible repeat first|apply kN|apply kD|apply kA); exact BK262.out) hb)
 have n5_ := mK (below_step (by repeat first|(with_reducible first|exact HB.out|apply bA|apply bN|apply bD|refine bS ?_ GE260.out|refine bS ?_ GE261.out|refine bS ?_ GE262.out)|exact HB.out) hb)
 clear HO268
 clear BK260
 clear BK261
 clear BK262
 clear HB
 have HO268 := n0_
 have HO265 := n1_
 have BK260 := n2_
 have BK261 := n3_
 have BK262 := n4_
 have HB := n5_
 clear n0_ n1_ n2_ n3_ n4_ n5_
 (try clear hb)
 (try clear hb2)
 (try clear hk)
 (try clear hi)
 (try clear ho0)
 refine hK.out _ _ ⟨(blk_cell BK260.out 0).trans rfl, (blk_cell BK260.out 1).trans rfl, (blk_cell BK261.out 0).trans rfl, (blk_cell BK261.out 1).trans rfl, (blk_cell BK261.out 2).trans rfl, (blk_cell BK261.out 3).trans rfl⟩ (fun hHeld => ?_)
 clear hK K
 refine norm_ (a' := ?_) ?_ ?_
 rotate_left
 {
 show Act.put _ (some 11) _ = _
 simp only [Act.put, sT, sZ, sU, i64_w, i32_w]
 rfl
 }
 exact norm_ (by simp only [putAll, Act.put, sT, sZ, sU] <;> rfl) (hJ4_6 (v264, v267) _ ⟨hHeld, (Kd.R_mono HO265.out (fun _ hk => ⟨hk.1.2, hk.2⟩)), (Kd.R_mono HO268.out (fun _ hk => ⟨hk.2, hk.1⟩)), BK260.out, BK261.out, BK262.out, HB.out⟩)
 }
 {
 skip
 refine box_step ?hg (N := 6) ?hd (cs := #[.int .i64 0, .slice none 0 0]) (t := 47) ?hr ?_; (case hd => rfl); (case hg => rfl); (case hr => go_simp <;> rfl)
 intro gb272 hg w43 hbox hb
 have n0_ := mK (Kd.R_below (by (with_reducible repeat first|apply rA|apply rN|apply rD); exact HO268.out) hb)
 have n1_ := mK (blk_below (by (with_reducible repeat first|apply kN|apply kD|apply kA); exact BK260.out) hb)
 have n2_ := mK (blk_below (by (with_reducible repeat first|apply kN|apply kD|apply kA); exact BK261.out) hb)
 have n3_ := mK (blk_below (by (with_reducible repeat first|apply kN|apply kD|apply kA); exact BK262.out) hb)
 have n4_ := mK (below_step (by repeat first|(with_reducible first|exact HB.out|apply bA|apply bN|apply bD|refine bS ?_ GE260.out|refine bS ?_ GE261.out|refine bS ?_ GE262.out)|exact HB.out) hb)
 have n5_ := mK (hbox)
 have n6_ := mK ((by rw [hg]; exact (below_size (by repeat first|(with_reducible first|exact HB.out|apply bA|apply bN|apply bD|refine bS ?_ GE260.out|refine bS ?_ GE261.out|refine bS ?_ GE262.out)|exact HB.out)) : w.heap.size ≤ gb272))
 have n7_ := mK ((by rw [hg]; exact (below_size (by repeat first|(with_reducible first|exact HB.out|apply bA|apply bN|apply bD|refine bS ?_ GE260.out|refine bS ?_ GE261.out|refine bS ?_ GE262.out)|exact HB.out)) : w.heap.size ≤ gb272))
 have n8_ := mK ((by rw [hg]; exact Nat.ne_of_lt (blk_lt (by (with_reducible repeat first|apply kN|apply kD|apply kA); exact BK260.out)) : gb260 ≠ gb272))
 have n9_ := mK ((by rw [hg]; exact Nat.ne_of_gt (blk_lt (by (with_reducible repeat first|apply kN|apply kD|apply kA); exact BK260.out)) : gb272 ≠ gb260))
 have n10_ := mK ((by rw [hg]; exact Nat.ne_of_lt (blk_lt (by (with_reducible repeat first|apply kN|apply kD|apply kA); exact BK261.out)) : gb261 ≠ gb272))
 have n11_ := mK ((by rw [hg]; exact Nat.ne_of_gt (blk_lt (by (with_reducible repeat first|apply kN|apply kD|apply kA); exact BK261.out)) : gb272 ≠ gb261))
 have n12_ := mK ((by rw [hg]; exact Nat.ne_of_lt (blk_lt (by (with_reducible repeat first|apply kN|apply kD|apply kA); exact BK262.out)) : gb262 ≠ gb272))
 have n13_ := mK ((by rw [hg]; exact Nat.ne_of_gt (blk_lt (by (with_reducible repeat first|apply kN|apply kD|apply kA); exact BK262.out)) : gb272 ≠ gb262))
 clear HO268
 clear BK260
 clear BK261
 clear BK262
 clear HB
 have HO268 := n0_
 have BK260 := n1_
 have BK261 := n2_
 have BK262 := n3_
 have HB := n4_
 have BK272 := n5_
 have GW272 := n6_
 have GE272 := n7_
 have NB260_272 := n8_
 have NB272_260 := n9_
 have NB261_272 := n10_
 have NB272_261 := n11_
 have NB262_272 := n12_
 have NB272_262 := n13_
 clear n0_ n1_ n2_ n3_ n4_ n5_ n6_ n7_ n8_ n9_ n10_ n11_ n12_ n13_
 clear hb hbox hg
 refine hK.out _ _ ⟨(blk_cell BK260.out 0).trans rfl, (blk_cell BK260.out 1).trans rfl, (blk_cell BK261.out 0).trans rfl, (blk_cell BK261.out 1).trans rfl, (blk_cell BK261.out 2).trans rfl, (blk_cell BK261.out 3).trans rfl⟩ (fun hHeld => ?_)
 clear hK K
 refine norm_ (a' := ?_) ?_ ?_
 rotate_left
 {
 show Act.put _ (some 6) _ = _
 simp only [Act.put, sT, sZ, sU, i64_w, i32_w]
 rfl
 }
 exact norm_ (by simp only [putAll, Act.put, sT, sZ, sU] <;> rfl) (hJ6_9 (v267, gb272) _ ⟨hHeld, HO268.out, BK260.out, BK261.out, BK262.out, BK272.out, GW272.out, GE272.out, NB260_272.out, NB272_260.out, NB261_272.out, NB272_261.out, NB262_272.out, NB272_262.out, HB.out⟩)
 }
 }
 }
 {
 skip
 rintro v264 w41 ⟨hS_, h0_, h1_, h2_, h3_, h4_⟩
 have n0_ : Aside0 (Kd.R k76 76 w41 w.heap.size (fun k_ => k_ ≠ gb261) v264 t263) := ⟨h0_⟩
 have n1_ : Aside0 (w41.heap[gb260]? = some (.cells #[.int .i64 a0_0, .slice A0_1 l0_1.length c0_1] 47 (0, 0))) := ⟨h1_⟩
 have n2_ : Aside0 (w41.heap[gb261]? = some (.cells #[.int .i64 a1_0, .int .i64 a1_1, .int .i64 a1_2, .int .i64 a1_3] 76 (0, 0))) := ⟨h2_⟩
 have n3_ : Aside0 (w41.heap[gb262]? = some (.cells #[.int .i64 0, .slice none 0 0] 47 (0, 0))) := ⟨h3_⟩
 have n4_ : Aside0 (Below w.heap.size w w41) := ⟨h4_⟩
 clear BK260
 clear BK261
 clear BK262
 clear HB
 clear h0_ h1_ h2_ h3_ h4_
 have HO265 := n0_
 have BK260 := n1_
 have BK261 := n2_
 have BK262 := n3_
 have HB := n4_
 clear n0_ n1_ n2_ n3_ n4_
 have hHeld : w41.cell? ⟨gb260, 0, none⟩ = some (.int .i64 a0_0) ∧ w41.cell? ⟨gb260, 1, none⟩ = some (.slice A0_1 l0_1.length c0_1) ∧ w41.cell? ⟨gb261, 0, none⟩ = some (.int .i64 a1_0) ∧ w41.cell? ⟨gb261, 1, none⟩ = some (.int .i64 a1_1) ∧ w41.cell? ⟨gb261, 2, none⟩ = some (.int .i64 a1_2) ∧ w41.cell? ⟨gb261, 3, none⟩ = some (.int .i64 a1_3) := hS_
 refine norm_ (a' := ?_) ?_ ?_
 rotate_left
 {
 simp only [putAll, Act.put, sT, sZ, sU]
 rfl
 }
 refine two_ (i := 6) (j := 9) (Ni := some 13) (Nj := some 6) #[true, true, true, true, true, true, true, false, false, false, false] #[true, true, true, true, true, true, false, false, false, true, false] rfl rfl rfl rfl (two_of HT_.out (by kernel_rfl)) (by decide) (by decide) (fun K hK => ?_) (fun K hK => ?_)
 {
 skip
 refine Kd.R_lit_step k76 _ 76 ?hg (N := 13) ?hd (xs := ([(⟨a1_0, a1_1, (⟨a1_2, a1_3⟩ : S52)⟩ : S76)] : List (S76))) (inner := [.int .i64 a1_0, .int .i64 a1_1, .int .i64 a1_2, .int .i64 a1_3]) (ok := fun _ => True) (okp := fun _ => True) ?hr ?hp (fun _ hk => hk) trivial (Below.refl _ _) (Nat.le_refl _) (by simp) ?_; (case hd => rfl); (case hg => rfl); (case hr => go_simp <;> rfl); (case hp => exact (Reps.c4 (show Kd.M k76 _ _ _ (⟨a1_0, a1_1, (⟨a1_2, a1_3⟩ : S52)⟩ : S76) [.int .i64 a1_0, .int .i64 a1_1, .int .i64 a1_2, .int .i64 a1_3] from (k76_mkM _ _ _ (⟨a1_0, a1_1, (⟨a1_2, a1_3⟩ : S52)⟩ : S76) )) (Reps.none _ _)))
 intro v267 w42 ho43 hb hg_ hnew_
 clear hg_ hnew_
 (first | rw [← Ny266.out] at ho43 | (simp only [Int.reduceToNat] at ho43; rw [← Ny266.out] at ho43))
 have n0_ := mK (Kd.R_elder' (by (with_reducible repeat first|apply rA|apply rN|apply rD); exact HO265.out) (Kd.R_base ho43) hb)
 have n1_ := mK (Kd.R_lower (Kd.R_newB (Kd.R_new' ho43 (Kd.R_lt (by (with_reducible repeat first|apply rA|apply rN|apply rD); exact HO265.out))) (by (with_reducible repeat first|apply kN|apply kD|apply kA); exact BK261.out)) (below_size (by repeat first|(with_reducible first|exact HB.out|apply bA|apply bN|apply bD|refine bS ?_ GE260.out|refine bS ?_ GE261.out|refine bS ?_ GE262.out)|exact HB.out)))
 have n2_ := mK (blk_below (by (with_reducible repeat first|apply kN|apply kD|apply kA); exact BK260.out) hb)
 have n3_ := mK (blk_below (by (with_reducible repeat first|apply kN|apply kD|apply kA); exact BK261.out) hb)
 have n4_ := mK (blk_below (by (with_reducible repeat first|apply kN|apply kD|apply kA); exact BK262.out) hb)
 have n5_ := mK (below_step (by repeat first|(with_reducible first|exact HB.out|apply bA|apply bN|apply bD|refine bS ?_ GE260.out|refine bS ?_ GE261.out|refine bS ?_ GE262.out)|exact HB.out) hb)
 clear HO265
 clear BK260
 clear BK261
 clear BK262
 clear HB
 have HO265 := n0_
 have HO268 := n1_
 have BK260 := n2_
 have BK261 := n3_
 have BK262 := n4_
 have HB := n5_
 clear n0_ n1_ n2_ n3_ n4_ n5_
 clear hb ho43
 refine hK.out _ _ ⟨(blk_cell BK260.out 0).trans rfl, (blk_cell BK260.out 1).trans rfl, (blk_cell BK261.out 0).trans rfl, (blk_cell BK261.out 1).trans rfl, (blk_cell BK261.out 2).trans rfl, (blk_cell BK261.out 3).trans rfl⟩ (fun hHeld => ?_)
 clear hK K
 refine norm_ (a' := ?_) ?_ ?_
 rotate_left
 {
 show Act.put _ (some 13) _ = _
 simp only [Act.put, sT, sZ, sU, i64_w, i32_w]
 rfl
 }
 exact norm_ (by simp only [putAll, Act.put, sT, sZ, sU] <;> rfl) (hJ4_6 (v264, v267) _ ⟨hHeld, (Kd.R_mono HO265.out (fun _ hk => ⟨hk.2, hk.1⟩)), (Kd.R_mono HO268.out (fun _ hk => ⟨hk.1.2, hk.2⟩)), BK260.out, BK261.out, BK262.out, HB.out⟩)
 }
 {
 skip
 refine box_step ?hg (N := 6) ?hd (cs := #[.int .i64 0, .slice none 0 0]) (t := 47) ?hr ?_; (case hd => rfl); (case hg => rfl); (case hr => go_simp <;> rfl)
 intro gb272 hg w42 hbox hb
 have n0_ := mK (Kd.R_below (by (with_reducible repeat first|apply rA|apply rN|apply rD); exact HO265.out) hb)
 have n1_ := mK (blk_below (by (with_reducible repeat first|apply kN|apply kD|apply kA); exact BK260.out) hb)
 have n2_ := mK (blk_below (by (with_reducible repeat first|apply kN|apply kD|apply kA); exact BK261.out) hb)
 have n3_ := mK (blk_below (by (with_reducible repeat first|apply kN|apply kD|apply kA); exact BK262.out) hb)
 have n4_ := mK (below_step (by repeat first|(with_reducible first|exact HB.out|apply bA|apply bN|apply bD|refine bS ?_ GE260.out|refine bS ?_ GE261.out|refine bS ?_ GE262.out)|exact HB.out) hb)
 have n5_ := mK (hbox)
 have n6_ := mK ((by rw [hg]; exact (below_size (by repeat first|(with_reducible first|exact HB.out|apply bA|apply bN|apply bD|refine bS ?_ GE260.out|refine bS ?_ GE261.out|refine bS ?_ GE262.out)|exact HB.out)) : w.heap.size ≤ gb272))
 have n7_ := mK ((by rw [hg]; exact (below_size (by repeat first|(with_reducible first|exact HB.out|apply bA|apply bN|apply bD|refine bS ?_ GE260.out|refine bS ?_ GE261.out|refine bS ?_ GE262.out)|exact HB.out)) : w.heap.size ≤ gb272))
 have n8_ := mK ((by rw [hg]; exact Nat.ne_of_lt (blk_lt (by (with_reducible repeat first|apply kN|apply kD|apply kA); exact BK260.out)) : gb260 ≠ gb272))
 have n9_ := mK ((by rw [hg]; exact Nat.ne_of_gt (blk_lt (by (with_reducible repeat first|apply kN|apply kD|apply kA); exact BK260.out)) : gb272 ≠ gb260))
 have n10_ := mK ((by rw [hg]; exact Nat.ne_of_lt (blk_lt (by (with_reducible repeat first|apply kN|apply kD|apply kA); exact BK261.out)) : gb261 ≠ gb272))
 have n11_ := mK ((by rw [hg]; exact Nat.ne_of_gt (blk_lt (by (with_reducible repeat first|apply kN|apply kD|apply kA); exact BK261.out)) : gb272 ≠ gb261))
 have n12_ := mK ((by rw [hg]; exact Nat.ne_of_lt (blk_lt (by (with_reducible repeat first|apply kN|apply kD|apply kA); exact BK262.out)) : gb262 ≠ gb272))
 have n13_ := mK ((by rw [hg]; exact Nat.ne_of_gt (blk_lt (by (with_reducible repeat first|apply kN|apply kD|apply kA); exact BK262.out)) : gb272 ≠ gb262))
 clear HO265
 clear BK260
 clear BK261
 clear BK262
 clear HB
 have HO265 := n0_
 have BK260 := n1_
 have BK261 := n2_
 have BK262 := n3_
 have HB := n4_
 have BK272 := n5_
 have GW272 := n6_
 have GE272 := n7_
 have NB260_272 := n8_
 have NB272_260 := n9_
 have NB261_272 := n10_
 have NB272_261 := n11_
 have NB262_272 := n12_
 have NB272_262 := n13_
 clear n0_ n1_ n2_ n3_ n4_ n5_ n6_ n7_ n8_ n9_ n10_ n11_ n12_ n13_
 clear hb hbox hg
 refine hK.out _ _ ⟨(blk_cell BK260.out 0).trans rfl, (blk_cell BK260.out 1).trans rfl, (blk_cell BK261.out 0).trans rfl, (blk_cell BK261.out 1).trans rfl, (blk_cell BK261.out 2).trans rfl, (blk_cell BK261.out 3).trans rfl⟩ (fun hHeld => ?_)
 clear hK K
 refine norm_ (a' := ?_) ?_ ?_
 rotate_left
 {
 show Act.put _ (some 6) _ = _
 simp only [Act.put, sT, sZ, sU, i64_w, i32_w]
 rfl
 }
 exact norm_ (by simp only [putAll, Act.put, sT, sZ, sU] <;> rfl) (hJ4_9 (v264, gb272) _ ⟨hHeld, HO265.out, BK260.out, BK261.out, BK262.out, BK272.out, GW272.out, GE272.out, NB260_272.out, NB272_260.out, NB261_272.out, NB272_261.out, NB262_272.out, NB272_262.out, HB.out⟩)
 }
 }
 }
 {
 skip
 rintro ⟨v267, gb272⟩ w43 ⟨hS_, h0_, h1_, h2_, h3_, h4_, h5_, h6_, h7_, h8_, h9_, h10_, h11_, h12_, h13_⟩
 have n0_ : Aside0 (Kd.R k76 76 w43 w.heap.size (fun k_ => k_ ≠ gb261) v267 y266) := ⟨h0_⟩
 have n1_ : Aside0 (w43.heap[gb260]? = some (.cells #[.int .i64 a0_0, .slice A0_1 l0_1.length c0_1] 47 (0, 0))) := ⟨h1_⟩
 have n2_ : Aside0 (w43.heap[gb261]? = some (.cells #[.int .i64 a1_0, .int .i64 a1_1, .int .i64 a1_2, .int .i64 a1_3] 76 (0, 0))) := ⟨h2_⟩
 have n3_ : Aside0 (w43.heap[gb262]? = some (.cells #[.int .i64 0, .slice none 0 0] 47 (0, 0))) := ⟨h3_⟩
 have n4_ : Aside0 (w43.heap[gb272]? = some (.cells #[.int .i64 0, .slice none 0 0] 47 (0, 0))) := ⟨h4_⟩
 have n5_ : Aside0 (w.heap.size ≤ gb272) := ⟨h5_⟩
 have n6_ : Aside0 (w.heap.size ≤ gb272) := ⟨h6_⟩
 have n7_ : Aside0 (gb260 ≠ gb272) := ⟨h7_⟩
 have n8_ : Aside0 (gb272 ≠ gb260) := ⟨h8_⟩
 have n9_ : Aside0 (gb261 ≠ gb272) := ⟨h9_⟩
 have n10_ : Aside0 (gb272 ≠ gb261) := ⟨h10_⟩
 have n11_ : Aside0 (gb262 ≠ gb272) := ⟨h11_⟩
 have n12_ : Aside0 (gb272 ≠ gb262) := ⟨h12_⟩
 have n13_ : Aside0 (Below w.heap.size w w43) := ⟨h13_⟩
 clear BK260
 clear BK261
 clear BK262
 clear HB
 clear h0_ h1_ h2_ h3_ h4_ h5_ h6_ h7_ h8_ h9_ h10_ h11_ h12_ h13_
 have HO268 := n0_
 have BK260 := n1_
 have BK261 := n2_
 have BK262 := n3_
 have BK272 := n4_
 have GW272 := n5_
 have GE272 := n6_
 have NB260_272 := n7_
 have NB272_260 := n8_
 have NB261_272 := n9_
 have NB272_261 := n10_
 have NB262_272 := n11_
 have NB272_262 := n12_
 have HB := n13_
 clear n0_ n1_ n2_ n3_ n4_ n5_ n6_ n7_ n8_ n9_ n10_ n11_ n12_ n13_
 have hHeld : w43.cell? ⟨gb260, 0, none⟩ = some (.int .i64 a0_0) ∧ w43.cell? ⟨gb260, 1, none⟩ = some (.slice A0_1 l0_1.length c0_1) ∧ w43.cell? ⟨gb261, 0, none⟩ = some (.int .i64 a1_0) ∧ w43.cell? ⟨gb261, 1, none⟩ = some (.int .i64 a1_1) ∧ w43.cell? ⟨gb261, 2, none⟩ = some (.int .i64 a1_2) ∧ w43.cell? ⟨gb261, 3, none⟩ = some (.int .i64 a1_3) := hS_
 refine norm_ (a' := ?_) ?_ ?_
 rotate_left
 {
 simp only [putAll, Act.put, sT, sZ, sU]
 rfl
 }
 refine one_ (i := 4) (N := some 11) #[true, true, true, true, true, true, true, false, false, true, false] rfl rfl (one_of HT_.out (by kernel_rfl)) (by decide) (fun K hK => ?_)
 refine goes_ Try.func86 (by kernel_rfl) rfl #[.slice A0_1 l0_1.length c0_1] (by rfl) rfl rfl (by (try simp only [List.map_toArray, List.map_cons, List.map_nil]); first | done | rfl | (simp only [List.length_drop, List.length_take]; rfl)) ?_
 with_reducible refine (impl_Link_86.calls _ _ l0_1 t263 _ ?side1 ?side2 A3.out).mono ?_
 (case side1 => repeat (first | exact (Kd.C_below HR0_1.out HB.out) | (with_reducible refine Kd.C_alloc ?_ _) | (with_reducible refine Kd.C_drewN ?_ _) | (with_reducible refine Kd.C_drew ?_)))
 (case side2 => exact HC0_1.out)
 rintro e w44 ⟨v264, rfl, ho0, hb⟩
 refine ⟨_, rfl, ?_⟩
 have n0_ := mK (Kd.R_elder' (by (with_reducible repeat first|apply rA|apply rN|apply rD); exact HO268.out) (Kd.R_base ho0) hb)
 have n1_ := mK (Kd.R_lower (Kd.R_newB (Kd.R_new' ho0 (Kd.R_lt (by (with_reducible repeat first|apply rA|apply rN|apply rD); exact HO268.out))) (by (with_reducible repeat first|apply kN|apply kD|apply kA); exact BK261.out)) (below_size (by repeat first|(with_reducible first|exact HB.out|apply bA|apply bN|apply bD|refine bS ?_ GE260.out|refine bS ?_ GE261.out|refine bS ?_ GE262.out|refine bS ?_ GE272.out)|exact HB.out)))
 have n2_ := mK (blk_below (by (with_reducible repeat first|apply kN|apply kD|apply kA); exact BK260.out) hb)
 have n3_ := mK (blk_below (by (with_reducible repeat first|apply kN|apply kD|apply kA); exact BK261.out) hb)
 have n4_ := mK (blk_below (by (with_reducible repeat first|apply kN|apply kD|apply kA); exact BK262.out) hb)
 have n5_ := mK (blk_below (by (with_reducible repeat first|apply kN|apply kD|apply kA); exact BK272.out) hb)
 have n6_ := mK (below_step (by repeat first|(with_reducible first|exact HB.out|apply bA|apply bN|apply bD|refine bS ?_ GE260.out|refine bS ?_ GE261.out|refine bS ?_ GE262.out|refine bS ?_ GE272.out)|exact HB.out) hb)
 clear HO268
 clear BK260
 clear BK261
 clear BK262
 clear BK272
 clear HB
 have HO268 := n0_
 have HO265 := n1_
 have BK260 := n2_
 have BK261 := n3_
 have BK262 := n4_
 have BK272 := n5_
 have HB := n6_
 clear n0_ n1_ n2_ n3_ n4_ n5_ n6_
 (try clear hb)
 (try clear hb2)
 (try clear hk)
 (try clear hi)
 (try clear ho0)
 refine hK.out _ _ ⟨(blk_cell BK260.out 0).trans rfl, (blk_cell BK260.out 1).trans rfl, (blk_cell BK261.out 0).trans rfl, (blk_cell BK261.out 1).trans rfl, (blk_cell BK261.out 2).trans rfl, (blk_cell BK261.out 3).trans rfl⟩ (fun hHeld => ?_)
 clear hK K
 refine norm_ (a' := ?_) ?_ ?_
 rotate_left
 {
 show Act.put _ (some 11) _ = _
 simp only [Act.put, sT, sZ, sU, i64_w, i32_w]
 rfl
 }
 exact norm_ (by simp only [putAll, Act.put, sT, sZ, sU] <;> rfl) (hJ4_6_9 (v264, v267, gb272) _ ⟨hHeld, (Kd.R_mono HO265.out (fun _ hk => ⟨hk.1.2, hk.2⟩)), (Kd.R_mono HO268.out (fun _ hk => ⟨hk.2, hk.1⟩)), BK260.out, BK261.out, BK262.out, BK272.out, GW272.out, GE272.out, NB260_272.out, NB272_260.out, NB261_272.out, NB272_261.out, NB262_272.out, NB272_262.out, HB.out⟩)
 }
 }
 {
 skip
 rintro ⟨v264, gb272⟩ w42 ⟨hS_, h0_, h1_, h2_, h3_, h4_, h5_, h6_, h7_, h8_, h9_, h10_, h11_, h12_, h13_⟩
 have n0_ : Aside0 (Kd.R k76 76 w42 w.heap.size (fun k_ => k_ ≠ gb261) v264 t263) := ⟨h0_⟩
 have n1_ : Aside0 (w42.heap[gb260]? = some (.cells #[.int .i64 a0_0, .slice A0_1 l0_1.length c0_1] 47 (0, 0))) := ⟨h1_⟩
 have n2_ : Aside0 (w42.heap[gb261]? = some (.cells #[.int .i64 a1_0, .int .i64 a1_1, .int .i64 a1_2, .int .i64 a1_3] 76 (0, 0))) := ⟨h2_⟩
 have n3_ : Aside0 (w42.heap[gb262]? = some (.cells #[.int .i64 0, .slice none 0 0] 47 (0, 0))) := ⟨h3_⟩
 have n4_ : Aside0 (w42.heap[gb272]? = some (.cells #[.int .i64 0, .slice none 0 0] 47 (0, 0))) := ⟨h4_⟩
 have n5_ : Aside0 (w.heap.size ≤ gb272) := ⟨h5_⟩
 have n6_ : Aside0 (w.heap.size ≤ gb272) := ⟨h6_⟩
 have n7_ : Aside0 (gb260 ≠ gb272) := ⟨h7_⟩
 have n8_ : Aside0 (gb272 ≠ gb260) := ⟨h8_⟩
 have n9_ : Aside0 (gb261 ≠ gb272) := ⟨h9_⟩
 have n10_ : Aside0 (gb272 ≠ gb261) := ⟨h10_⟩
 have n11_ : Aside0 (gb262 ≠ gb272) := ⟨h11_⟩
 have n12_ : Aside0 (gb272 ≠ gb262) := ⟨h12_⟩
 have n13_ : Aside0 (Below w.heap.size w w42) := ⟨h13_⟩
 clear BK260
 clear BK261
 clear BK262
 clear HB
 clear h0_ h1_ h2_ h3_ h4_ h5_ h6_ h7_ h8_ h9_ h10_ h11_ h12_ h13_
 have HO265 := n0_
 have BK260 := n1_
 have BK261 := n2_
 have BK262 := n3_
 have BK272 := n4_
 have GW272 := n5_
 have GE272 := n6_
 have NB260_272 := n7_
 have NB272_260 := n8_
 have NB261_272 := n9_
 have NB272_261 := n10_
 have NB262_272 := n11_
 have NB272_262 := n12_
 have HB := n13_
 clear n0_ n1_ n2_ n3_ n4_ n5_ n6_ n7_ n8_ n9_ n10_ n11_ n12_ n13_
 have hHeld : w42.cell? ⟨gb260, 0, none⟩ = some (.int .i64 a0_0) ∧ w42.cell? ⟨gb260, 1, none⟩ = some (.slice A0_1 l0_1.length c0_1) ∧ w42.cell? ⟨gb261, 0, none⟩ = some (.int .i64 a1_0) ∧ w42.cell? ⟨gb261, 1, none⟩ = some (.int .i64 a1_1) ∧ w42.cell? ⟨gb261, 2, none⟩ = some (.int .i64 a1_2) ∧ w42.cell? ⟨gb261, 3, none⟩ = some (.int .i64 a1_3) := hS_
 refine norm_ (a' := ?_) ?_ ?_
 rotate_left
 {
 simp only [putAll, Act.put, sT, sZ, sU]
 rfl
 }
 refine one_ (i := 6) (N := some 13) #[true, true, true, true, true, true, true, false, false, true, false] rfl rfl (one_of HT_.out (by kernel_rfl)) (by decide) (fun K hK => ?_)
 refine Kd.R_lit_step k76 _ 76 ?hg (N := 13) ?hd (xs := ([(⟨a1_0, a1_1, (⟨a1_2, a1_3⟩ : S52)⟩ : S76)] : List (S76))) (inner := [.int .i64 a1_0, .int .i64 a1_1, .int .i64 a1_2, .int .i64 a1_3]) (ok := fun _ => True) (okp := fun _ => True) ?hr ?hp (fun _ hk => hk) trivial (Below.refl _ _) (Nat.le_refl _) (by simp) ?_; (case hd => rfl); (case hg => rfl); (case hr => go_simp <;> rfl); (case hp => exact (Reps.c4 (show Kd.M k76 _ _ _ (⟨a1_0, a1_1, (⟨a1_2, a1_3⟩ : S52)⟩ : S76) [.int .i64 a1_0, .int .i64 a1_1, .int .i64 a1_2, .int .i64 a1_3] from (k76_mkM _ _ _ (⟨a1_0, a1_1, (⟨a1_2, a1_3⟩ : S52)⟩ : S76) )) (Reps.none _ _)))
 intro v267 w43 ho44 hb hg_ hnew_
 clear hg_ hnew_
 (first | rw [← Ny266.out] at ho44 | (simp only [Int.reduceToNat] at ho44; rw [← Ny266.out] at ho44))
 have n0_ := mK (Kd.R_elder' (by (with_reducible repeat first|apply rA|apply rN|apply rD); exact HO265.out) (Kd.R_base ho44) hb)
 have n1_ := mK (Kd.R_lower (Kd.R_newB (Kd.R_new' ho44 (Kd.R_lt (by (with_reducible repeat first|apply rA|apply rN|apply rD); exact HO265.out))) (by (with_reducible repeat first|apply kN|apply kD|apply kA); exact BK261.out)) (below_size (by repeat first|(with_reducible first|exact HB.out|apply bA|apply bN|apply bD|refine bS ?_ GE260.out|refine bS ?_ GE261.out|refine bS ?_ GE262.out|refine bS ?_ GE272.out)|exact HB.out)))
 have n2_ := mK (blk_below (by (with_reducible repeat first|apply kN|apply kD|apply kA); exact BK260.out) hb)
 have n3_ := mK (blk_below (by (with_reducible repeat first|apply kN|apply kD|apply kA); exact BK261.out) hb)
 have n4_ := mK (blk_below (by (with_reducible repeat first|apply kN|apply kD|apply kA); exact BK262.out) hb)
 have n5_ := mK (blk_below (by (with_reducible repeat first|apply kN|apply kD|apply kA); exact BK272.out) hb)
 have n6_ := mK (below_step (by repeat first|(with_reducible first|exact HB.out|apply bA|apply bN|apply bD|refine bS ?_ GE260.out|refine bS ?_ GE261.out|refine bS ?_ GE262.out|refine bS ?_ GE272.out)|exact HB.out) hb)
 clear HO265
 clear BK260
 clear BK261
 clear BK262
 clear BK272
 clear HB
 have HO265 := n0_
 have HO268 := n1_
 have BK260 := n2_
 have BK261 := n3_
 have BK262 := n4_
 have BK272 := n5_
 have HB := n6_
 clear n0_ n1_ n2_ n3_ n4_ n5_ n6_
 clear hb ho44
 refine hK.out _ _ ⟨(blk_cell BK260.out 0).trans rfl, (blk_cell BK260.out 1).trans rfl, (blk_cell BK261.out 0).trans rfl, (blk_cell BK261.out 1).trans rfl, (blk_cell BK261.out 2).trans rfl, (blk_cell BK261.out 3).trans rfl⟩ (fun hHeld => ?_)
 clear hK K
 refine norm_ (a' := ?_) ?_ ?_
 rotate_left
 {
 show Act.put _ (some 13) _ = _
 simp only [Act.put, sT, sZ, sU, i64_w, i32_w]
 rfl
 }
 exact norm_ (by simp only [putAll, Act.put, sT, sZ, sU] <;> rfl) (hJ4_6_9 (v264, v267, gb272) _ ⟨hHeld, (Kd.R_mono HO265.out (fun _ hk => ⟨hk.2, hk.1⟩)), (Kd.R_mono HO268.out (fun _ hk => ⟨hk.1.2, hk.2⟩)), BK260.out, BK261.out, BK262.out, BK272.out, GW272.out, GE272.out, NB260_272.out, NB272_260.out, NB261_272.out, NB272_261.out, NB262_272.out, NB272_262.out, HB.out⟩)
 }
 }
 {
 skip
 rintro ⟨v264, v267⟩ w43 ⟨hS_, h0_, h1_, h2_, h3_, h4_, h5_⟩
 have n0_ : Aside0 (Kd.R k76 76 w43 w.heap.size (fun k_ => some k_ ≠ (v267 : Value).ownBlock ∧ k_ ≠ gb261) v264 t263) := ⟨h0_⟩
 have n1_ : Aside0 (Kd.R k76 76 w43 w.heap.size (fun k_ => some k_ ≠ (v264 : Value).ownBlock ∧ k_ ≠ gb261) v267 y266) := ⟨h1_⟩
 have n2_ : Aside0 (w43.heap[gb260]? = some (.cells #[.int .i64 a0_0, .slice A0_1 l0_1.length c0_1] 47 (0, 0))) := ⟨h2_⟩
 have n3_ : Aside0 (w43.heap[gb261]? = some (.cells #[.int .i64 a1_0, .int .i64 a1_1, .int .i64 a1_2, .int .i64 a1_3] 76 (0, 0))) := ⟨h3_⟩
 have n4_ : Aside0 (w43.heap[gb262]? = some (.cells #[.int .i64 0, .slice none 0 0] 47 (0, 0))) := ⟨h4_⟩
 have n5_ : Aside0 (Below w.heap.size w w43) := ⟨h5_⟩
 clear BK260
 clear BK261
 clear BK262
 clear HB
 clear h0_ h1_ h2_ h3_ h4_ h5_
 have HO265 := n0_
 have HO268 := n1_
 have BK260 := n2_
 have BK261 := n3_
 have BK262 := n4_
 have HB := n5_
 clear n0_ n1_ n2_ n3_ n4_ n5_
 have hHeld : w43.cell? ⟨gb260, 0, none⟩ = some (.int .i64 a0_0) ∧ w43.cell? ⟨gb260, 1, none⟩ = some (.slice A0_1 l0_1.length c0_1) ∧ w43.cell? ⟨gb261, 0, none⟩ = some (.int .i64 a1_0) ∧ w43.cell? ⟨gb261, 1, none⟩ = some (.int .i64 a1_1) ∧ w43.cell? ⟨gb261, 2, none⟩ = some (.int .i64 a1_2) ∧ w43.cell? ⟨gb261, 3, none⟩ = some (.int .i64 a1_3) := hS_
 obtain ⟨Ao45, co45, eo45⟩ := Kd.R_slice HO268.out
 (first | subst eo45 | (injection eo45 with f1_ f2_ f3_; have f4_ := f1_.symm; have f5_ := f3_.symm; clear f1_ f2_ f3_; subst f4_; subst f5_))
 refine norm_ (a' := ?_) ?_ ?_
 rotate_left
 {
 simp only [putAll, Act.put, sT, sZ, sU]
 rfl
 }
 refine two_ (i := 7) (j := 9) (Ni := some 14) (Nj := some 6) #[true, true, true, true, true, true, true, true, false, false, false] #[true, true, true, true, true, true, true, false, false, true, false] rfl rfl rfl rfl (two_of HT_.out (by kernel_rfl)) (by decide) (by decide) (fun K hK => ?_) (fun K hK => ?_)
 {
 skip
 refine Kd.R_append_rows_step k76 (w0 := w) w.heap.size (by rfl) (.tmp 11) (.tmp 13) 45 76 (.agg #[(.int .i64 0), (.int .i64 0), (.int .i64 0), (.int .i64 0)]) 32 rfl Try.underlying45 info76 rfl (by decide) (by omega) v264 t263 y266 _ _ _ (fun k_ => some k_ ≠ (.slice Ao45 y266.length co45 : Value).ownBlock ∧ k_ ≠ gb261) (fun _ => False) rfl rfl ?aO ?aR (fun _ _ h => h) (fun _ h => h.elim) ?aF ?aB ?aS ?aL ?_
 (case aR => repeat (first | exact (Kd.R_reads' HO268.out).2.2 | (with_reducible refine Kd.C_alloc ?_ _) | (with_reducible refine Kd.C_drewN ?_ _) | (with_reducible refine Kd.C_drew ?_)))
 (case aB => exact (by repeat first|(with_reducible first|exact HB.out|apply bA|apply bN|apply bD|refine bS ?_ GE260.out|refine bS ?_ GE261.out|refine bS ?_ GE262.out)|exact HB.out))
 (case aF => exact (fun k_ hk => ⟨Kd.fresh' (Kd.R_lt (by (with_reducible repeat first|apply rA|apply rN|apply rD); exact HO268.out)) k_ hk, Kd.freshB (by (with_reducible repeat first|apply kN|apply kD|apply kA); exact BK261.out) k_ hk⟩))
 (case aO => exact (by (with_reducible repeat first|apply rA|apply rN|apply rD); exact HO265.out))
 (case aS => exact (below_size (by repeat first|(with_reducible first|exact HB.out|apply bA|apply bN|apply bD|refine bS ?_ GE260.out|refine bS ?_ GE261.out|refine bS ?_ GE262.out)|exact HB.out)))
 (case aL => have := LMc4.out; omega)
 intro v270 w44 ho hb hg hat
 rw [← Ny269.out] at ho
 have n0_ := mK (blk_grown (by (with_reducible repeat first|apply kN|apply kD|apply kA); exact BK260.out) hg (Kd.R_ne HO265.out BK260.out (by decide)))
 have n1_ := mK (blk_grown (by (with_reducible repeat first|apply kN|apply kD|apply kA); exact BK261.out) hg (Kd.R_away HO265.out (fun _ hk => hk.2)))
 have n2_ := mK (blk_grown (by (with_reducible repeat first|apply kN|apply kD|apply kA); exact BK262.out) hg (Kd.R_ne HO265.out BK262.out (by decide)))
 have n3_ := mK (Kd.R_after (ok := (fun k_ => k_ ≠ gb261)) (by (with_reducible repeat first|apply rA|apply rN|apply rD); exact Kd.R_mono HO268.out (fun _ hk => ⟨hk.2, hk.1⟩)) hg hat)
 have n4_ := mK (hb)
 have n5_ := mK (ho)
 clear BK260
 clear BK261
 clear BK262
 clear HO268
 clear HB
 clear HO265
 have BK260 := n0_
 have BK261 := n1_
 have BK262 := n2_
 have HO268 := n3_
 have HB := n4_
 have HO271 := n5_
 clear n0_ n1_ n2_ n3_ n4_ n5_
 clear ho hb hg hat
 obtain ⟨Ao46, co46, eo46⟩ := Kd.R_slice HO271.out
 (first | subst eo46 | (injection eo46 with f1_ f2_ f3_; have f4_ := f1_.symm; have f5_ := f3_.symm; clear f1_ f2_ f3_; subst f4_; subst f5_))
 refine hK.out _ _ ⟨(blk_cell BK260.out 0).trans rfl, (blk_cell BK260.out 1).trans rfl, (blk_cell BK261.out 0).trans rfl, (blk_cell BK261.out 1).trans rfl, (blk_cell BK261.out 2).trans rfl, (blk_cell BK261.out 3).trans rfl⟩ (fun hHeld => ?_)
 clear hK K
 refine norm_ (a' := ?_) ?_ ?_
 rotate_left
 {
 show Act.put _ (some 14) _ = _
 simp only [Act.put, sT, sZ, sU, i64_w, i32_w]
 rfl
 }
 refine pure_ (i := 8) (N := some 15) (v := ?_) (a' := ?_) #[true, true, true, true, true, true, true, true, true, false, false] rfl rfl (any_of HT_.out (by kernel_rfl)) (fun _ _ _ h => h) (Or.inl ⟨by rfl, ?_⟩) ?_ ?_
 rotate_left
 {
 intro w'
 go_simp
 with_reducible rfl
 }
 rotate_left
 {
 simp only [Act.put, sT, sZ, sU, i64_w, i32_w]
 rfl
 }
 exact norm_ (by simp only [putAll, Act.put, sT, sZ, sU] <;> rfl) (hJ4_6_7 (v264, .slice Ao45 y266.length co45, .slice Ao46 y269.length co46) _ ⟨hHeld, (Kd.R_mono HO268.out (fun _ hk => ⟨hk.2, hk.1⟩)), HO271.out, BK260.out, BK261.out, BK262.out, HB.out⟩)
 }
 {
 skip
 refine box_step ?hg (N := 6) ?hd (cs := #[.int .i64 0, .slice none 0 0]) (t := 47) ?hr ?_; (case hd => rfl); (case hg => rfl); (case hr => go_simp <;> rfl)
 intro gb272 hg w44 hbox hb
 have n0_ := mK (Kd.R_below (by (with_reducible repeat first|apply rA|apply rN|apply rD); exact HO265.out) hb)
 have n1_ := mK (Kd.R_below (by (with_reducible repeat first|apply rA|apply rN|apply rD); exact HO268.out) hb)
 have n2_ := mK (blk_below (by (with_reducible repeat first|apply kN|apply kD|apply kA); exact BK260.out) hb)
 have n3_ := mK (blk_below (by (with_reducible repeat first|apply kN|apply kD|apply kA); exact BK261.out) hb)
 have n4_ := mK (blk_below (by (with_reducible repeat first|apply kN|apply kD|apply kA); exact BK262.out) hb)
 have n5_ := mK (below_step (by repeat first|(with_reducible first|exact HB.out|apply bA|apply bN|apply bD|refine bS ?_ GE260.out|refine bS ?_ GE261.out|refine bS ?_ GE262.out)|exact HB.out) hb)
 have n6_ := mK (hbox)
 have n7_ := mK ((by rw [hg]; exact (below_size (by repeat first|(with_reducible first|exact HB.out|apply bA|apply bN|apply bD|refine bS ?_ GE260.out|refine bS ?_ GE261.out|refine bS ?_ GE262.out)|exact HB.out)) : w.heap.size ≤ gb272))
 have n8_ := mK ((by rw [hg]; exact (below_size (by repeat first|(with_reducible first|exact HB.out|apply bA|apply bN|apply bD|refine bS ?_ GE260.out|refine bS ?_ GE261.out|refine bS ?_ GE262.out)|exact HB.out)) : w.heap.size ≤ gb272))
 have n9_ := mK ((by rw [hg]; exact Nat.ne_of_lt (blk_lt (by (with_reducible repeat first|apply kN|apply kD|apply kA); exact BK260.out)) : gb260 ≠ gb272))
 have n10_ := mK ((by rw [hg]; exact Nat.ne_of_gt (blk_lt (by (with_reducible repeat first|apply kN|apply kD|apply kA); exact BK260.out)) : gb272 ≠ gb260))
 have n11_ := mK ((by rw [hg]; exact Nat.ne_of_lt (blk_lt (by (with_reducible repeat first|apply kN|apply kD|apply kA); exact BK261.out)) : gb261 ≠ gb272))
 have n12_ := mK ((by rw [hg]; exact Nat.ne_of_gt (blk_lt (by (with_reducible repeat first|apply kN|apply kD|apply kA); exact BK261.out)) : gb272 ≠ gb261))
 have n13_ := mK ((by rw [hg]; exact Nat.ne_of_lt (blk_lt (by (with_reducible repeat first|apply kN|apply kD|apply kA); exact BK262.out)) : gb262 ≠ gb272))
 have n14_ := mK ((by rw [hg]; exact Nat.ne_of_gt (blk_lt (by (with_reducible repeat first|apply kN|apply kD|apply kA); exact BK262.out)) : gb272 ≠ gb262))
 clear HO265
 clear HO268
 clear BK260
 clear BK261
 clear BK262
 clear HB
 have HO265 := n0_
 have HO268 := n1_
 have BK260 := n2_
 have BK261 := n3_
 have BK262 := n4_
 have HB := n5_
 have BK272 := n6_
 have GW272 := n7_
 have GE272 := n8_
 have NB260_272 := n9_
 have NB272_260 := n10_
 have NB261_272 := n11_
 have NB272_261 := n12_
 have NB262_272 := n13_
 have NB272_262 := n14_
 clear n0_ n1_ n2_ n3_ n4_ n5_ n6_ n7_ n8_ n9_ n10_ n11_ n12_ n13_ n14_
 clear hb hbox hg
 refine hK.out _ _ ⟨(blk_cell BK260.out 0).trans rfl, (blk_cell BK260.out 1).trans rfl, (blk_cell BK261.out 0).trans rfl, (blk_cell BK261.out 1).trans rfl, (blk_cell BK261.out 2).trans rfl, (blk_cell BK261.out 3).trans rfl⟩ (fun hHeld => ?_)
 clear hK K
 refine norm_ (a' := ?_) ?_ ?_
 rotate_left
 {
 show Act.put _ (some 6) _ = _
 simp only [Act.put, sT, sZ, sU, i64_w, i32_w]
 rfl
 }
 exact norm_ (by simp only [putAll, Act.put, sT, sZ, sU] <;> rfl) (hJ4_6_9 (v264, .slice Ao45 y266.length co45, gb272) _ ⟨hHeld, HO265.out, HO268.out, BK260.out, BK261.out, BK262.out, BK272.out, GW272.out, GE272.out, NB260_272.out, NB272_260.out, NB261_272.out, NB272_261.out, NB262_272.out, NB272_262.out, HB.out⟩)
 }
 }
 }
 {
 skip
 rintro ⟨v264, v267, gb272⟩ w44 ⟨hS_, h0_, h1_, h2_, h3_, h4_, h5_, h6_, h7_, h8_, h9_, h10_, h11_, h12_, h13_, h14_⟩
 have n0_ : Aside0 (Kd.R k76 76 w44 w.heap.size (fun k_ => some k_ ≠ (v267 : Value).ownBlock ∧ k_ ≠ gb261) v264 t263) := ⟨h0_⟩
 have n1_ : Aside0 (Kd.R k76 76 w44 w.heap.size (fun k_ => some k_ ≠ (v264 : Value).ownBlock ∧ k_ ≠ gb261) v267 y266) := ⟨h1_⟩
 have n2_ : Aside0 (w44.heap[gb260]? = some (.cells #[.int .i64 a0_0, .slice A0_1 l0_1.length c0_1] 47 (0, 0))) := ⟨h2_⟩
 have n3_ : Aside0 (w44.heap[gb261]? = some (.cells #[.int .i64 a1_0, .int .i64 a1_1, .int .i64 a1_2, .int .i64 a1_3] 76 (0, 0))) := ⟨h3_⟩
 have n4_ : Aside0 (w44.heap[gb262]? = some (.cells #[.int .i64 0, .slice none 0 0] 47 (0, 0))) := ⟨h4_⟩
 have n5_ : Aside0 (w44.heap[gb272]? = some (.cells #[.int .i64 0, .slice none 0 0] 47 (0, 0))) := ⟨h5_⟩
 have n6_ : Aside0 (w.heap.size ≤ gb272) := ⟨h6_⟩
 have n7_ : Aside0 (w.heap.size ≤ gb272) := ⟨h7_⟩
 have n8_ : Aside0 (gb260 ≠ gb272) := ⟨h8_⟩
 have n9_ : Aside0 (gb272 ≠ gb260) := ⟨h9_⟩
 have n10_ : Aside0 (gb261 ≠ gb272) := ⟨h10_⟩
 have n11_ : Aside0 (gb272 ≠ gb261) := ⟨h11_⟩
 have n12_ : Aside0 (gb262 ≠ gb272) := ⟨h12_⟩
 have n13_ : Aside0 (gb272 ≠ gb262) := ⟨h13_⟩
 have n14_ : Aside0 (Below w.heap.size w w44) := ⟨h14_⟩
 clear BK260
 clear BK261
 clear BK262
 clear HB
 clear h0_ h1_ h2_ h3_ h4_ h5_ h6_ h7_ h8_ h9_ h10_ h11_ h12_ h13_ h14_
 have HO265 := n0_
 have HO268 := n1_
 have BK260 := n2_
 have BK261 := n3_
 have BK262 := n4_
 have BK272 := n5_
 have GW272 := n6_
 have GE272 := n7_
 have NB260_272 := n8_
 have NB272_260 := n9_
 have NB261_272 := n10_
 have NB272_261 := n11_
 have NB262_272 := n12_
 have NB272_262 := n13_
 have HB := n14_
 clear n0_ n1_ n2_ n3_ n4_ n5_ n6_ n7_ n8_ n9_ n10_ n11_ n12_ n13_ n14_
 have hHeld : w44.cell? ⟨gb260, 0, none⟩ = some (.int .i64 a0_0) ∧ w44.cell? ⟨gb260, 1, none⟩ = some (.slice A0_1 l0_1.length c0_1) ∧ w44.cell? ⟨gb261, 0, none⟩ = some (.int .i64 a1_0) ∧ w44.cell? ⟨gb261, 1, none⟩ = some (.int .i64 a1_1) ∧ w44.cell? ⟨gb261, 2, none⟩ = some (.int .i64 a1_2) ∧ w44.cell? ⟨gb261, 3, none⟩ = some (.int .i64 a1_3) := hS_
 obtain ⟨Ao46, co46, eo46⟩ := Kd.R_slice HO268.out
 (first | subst eo46 | (injection eo46 with f1_ f2_ f3_; have f4_ := f1_.symm; have f5_ := f3_.symm; clear f1_ f2_ f3_; subst f4_; subst f5_))
 refine norm_ (a' := ?_) ?_ ?_
 rotate_left
 {
 simp only [putAll, Act.put, sT, sZ, sU]
 rfl
 }
 refine one_ (i := 7) (N := some 14) #[true, true, true, true, true, true, true, true, false, true, false] rfl rfl (one_of HT_.out (by kernel_rfl)) (by decide) (fun K hK => ?_)
 refine Kd.R_append_rows_step k76 (w0 := w) w.heap.size (by rfl) (.tmp 11) (.tmp 13) 45 76 (.agg #[(.int .i64 0), (.int .i64 0), (.int .i64 0), (.int .i64 0)]) 32 rfl Try.underlying45 info76 rfl (by decide) (by omega) v264 t263 y266 _ _ _ (fun k_ => some k_ ≠ (.slice Ao46 y266.length co46 : Value).ownBlock ∧ k_ ≠ gb261) (fun _ => False) rfl rfl ?aO ?aR (fun _ _ h => h) (fun _ h => h.elim) ?aF ?aB ?aS ?aL ?_
 (case aR => repeat (first | exact (Kd.R_reads' HO268.out).2.2 | (with_reducible refine Kd.C_alloc ?_ _) | (with_reducible refine Kd.C_drewN ?_ _) | (with_reducible refine Kd.C_drew ?_)))
 (case aB => exact (by repeat first|(with_reducible first|exact HB.out|apply bA|apply bN|apply bD|refine bS ?_ GE260.out|refine bS ?_ GE261.out|refine bS ?_ GE262.out|refine bS ?_ GE272.out)|exact HB.out))
 (case aF => exact (fun k_ hk => ⟨Kd.fresh' (Kd.R_lt (by (with_reducible repeat first|apply rA|apply rN|apply rD); exact HO268.out)) k_ hk, Kd.freshB (by (with_reducible repeat first|apply kN|apply kD|apply kA); exact BK261.out) k_ hk⟩))
 (case aO => exact (by (with_reducible repeat first|apply rA|apply rN|apply rD); exact HO265.out))
 (case aS => exact (below_size (by repeat first|(with_reducible first|exact HB.out|apply bA|apply bN|apply bD|refine bS ?_ GE260.out|refine bS ?_ GE261.out|refine bS ?_ GE262.out|refine bS ?_ GE272.out)|exact HB.out)))
 (case aL => have := LMc4.out; omega)
 intro v270 w45 ho hb hg hat
 rw [← Ny269.out] at ho
 have n0_ := mK (blk_grown (by (with_reducible repeat first|apply kN|apply kD|apply kA); exact BK260.out) hg (Kd.R_ne HO265.out BK260.out (by decide)))
 have n1_ := mK (blk_grown (by (with_reducible repeat first|apply kN|apply kD|apply kA); exact BK261.out) hg (Kd.R_away HO265.out (fun _ hk => hk.2)))
 have n2_ := mK (blk_grown (by (with_reducible repeat first|apply kN|apply kD|apply kA); exact BK262.out) hg (Kd.R_ne HO265.out BK262.out (by decide)))
 have n3_ := mK (Kd.R_after (ok := (fun k_ => k_ ≠ gb261)) (by (with_reducible repeat first|apply rA|apply rN|apply rD); exact Kd.R_mono HO268.out (fun _ hk => ⟨hk.2, hk.1⟩)) hg hat)
 have n4_ := mK (blk_grown (by (with_reducible repeat first|apply kN|apply kD|apply kA); exact BK272.out) hg (Kd.R_ne HO265.out BK272.out (by decide)))
 have n5_ := mK (hb)
 have n6_ := mK (ho)
 clear BK260
 clear BK261
 clear BK262
 clear HO268
 clear BK272
 clear HB
 clear HO265
 have BK260 := n0_
 have BK261 := n1_
 have BK262 := n2_
 have HO268 := n3_
 have BK272 := n4_
 have HB := n5_
 have HO271 := n6_
 clear n0_ n1_ n2_ n3_ n4_ n5_ n6_
 clear ho hb hg hat
 obtain ⟨Ao47, co47, eo47⟩ := Kd.R_slice HO271.out
 (first | subst eo47 | (injection eo47 with f1_ f2_ f3_; have f4_ := f1_.symm; have f5_ := f3_.symm; clear f1_ f2_ f3_; subst f4_; subst f5_))
 refine hK.out _ _ ⟨(blk_cell BK260.out 0).trans rfl, (blk_cell BK260.out 1).trans rfl, (blk_cell BK261.out 0).trans rfl, (blk_cell BK261.out 1).trans rfl, (blk_cell BK261.out 2).trans rfl, (blk_cell BK261.out 3).trans rfl⟩ (fun hHeld => ?_)
 clear hK K
 refine norm_ (a' := ?_) ?_ ?_
 rotate_left
 {
 show Act.put _ (some 14) _ = _
 simp only [Act.put, sT, sZ, sU, i64_w, i32_w]
 rfl
 }
 refine pure_ (i := 8) (N := some 15) (v := ?_) (a' := ?_) #[true, true, true, true, true, true, true, true, true, true, false] rfl rfl (any_of HT_.out (by kernel_rfl)) (fun _ _ _ h => h) (Or.inl ⟨by rfl, ?_⟩) ?_ ?_
 rotate_left
 {
 intro w'
 go_simp
 with_reducible rfl
 }
 rotate_left
 {
 simp only [Act.put, sT, sZ, sU, i64_w, i32_w]
 rfl
 }
 exact norm_ (by simp only [putAll, Act.put, sT, sZ, sU] <;> rfl) (hJ4_6_7_9 (v264, .slice Ao46 y266.length co46, .slice Ao47 y269.length co47, gb272) _ ⟨hHeld, (Kd.R_mono HO268.out (fun _ hk => ⟨hk.2, hk.1⟩)), HO271.out, BK260.out, BK261.out, BK262.out, BK272.out, GW272.out, GE272.out, NB260_272.out, NB272_260.out, NB261_272.out, NB272_261.out, NB262_272.out, NB272_262.out, HB.out⟩)
 }
 }
 {
 skip
 rintro ⟨v264, v267, v270⟩ w46 ⟨hS_, h0_, h1_, h2_, h3_, h4_, h5_⟩
 have n0_ : Aside0 (Kd.R k76 76 w46 w.heap.size (fun k_ => some k_ ≠ (v270 : Value).ownBlock ∧ k_ ≠ gb261) v267 y266) := ⟨h0_⟩
 have n1_ : Aside0 (Kd.R k76 76 w46 w.heap.size (fun k_ => some k_ ≠ (v267 : Value).ownBlock ∧ k_ ≠ gb261) v270 y269) := ⟨h1_⟩
 have n2_ : Aside0 (w46.heap[gb260]? = some (.cells #[.int .i64 a0_0, .slice A0_1 l0_1.length c0_1] 47 (0, 0))) := ⟨h2_⟩
 have n3_ : Aside0 (w46.heap[gb261]? = some (.cells #[.int .i64 a1_0, .int .i64 a1_1, .int .i64 a1_2, .int .i64 a1_3] 76 (0, 0))) := ⟨h3_⟩
 have n4_ : Aside0 (w46.heap[gb262]? = some (.cells #[.int .i64 0, .slice none 0 0] 47 (0, 0))) := ⟨h4_⟩
 have n5_ : Aside0 (Below w.heap.size w w46) := ⟨h5_⟩
 clear BK260
 clear BK261
 clear BK262
 clear HB
 clear h0_ h1_ h2_ h3_ h4_ h5_
 have HO268 := n0_
 have HO271 := n1_
 have BK260 := n2_
 have BK261 := n3_
 have BK262 := n4_
 have HB := n5_
 clear n0_ n1_ n2_ n3_ n4_ n5_
 have hHeld : w46.cell? ⟨gb260, 0, none⟩ = some (.int .i64 a0_0) ∧ w46.cell? ⟨gb260, 1, none⟩ = some (.slice A0_1 l0_1.length c0_1) ∧ w46.cell? ⟨gb261, 0, none⟩ = some (.int .i64 a1_0) ∧ w46.cell? ⟨gb261, 1, none⟩ = some (.int .i64 a1_1) ∧ w46.cell? ⟨gb261, 2, none⟩ = some (.int .i64 a1_2) ∧ w46.cell? ⟨gb261, 3, none⟩ = some (.int .i64 a1_3) := hS_
 obtain ⟨Ao47, co47, eo47⟩ := Kd.R_slice HO271.out
 (first | subst eo47 | (injection eo47 with f1_ f2_ f3_; have f4_ := f1_.symm; have f5_ := f3_.symm; clear f1_ f2_ f3_; subst f4_; subst f5_))
 refine norm_ (a' := ?_) ?_ ?_
 rotate_left
 {
 simp only [putAll, Act.put, sT, sZ, sU]
 rfl
 }
 refine one_ (i := 9) (N := some 6) #[true, true, true, true, true, true, true, true, true, true, false] rfl rfl (one_of HT_.out (by kernel_rfl)) (by decide) (fun K hK => ?_)
 refine box_step ?hg (N := 6) ?hd (cs := #[.int .i64 0, .slice none 0 0]) (t := 47) ?hr ?_; (case hd => rfl); (case hg => rfl); (case hr => go_simp <;> rfl)
 intro gb272 hg w48 hbox hb
 have n0_ := mK (Kd.R_below (by (with_reducible repeat first|apply rA|apply rN|apply rD); exact HO268.out) hb)
 have n1_ := mK (Kd.R_below (by (with_reducible repeat first|apply rA|apply rN|apply rD); exact HO271.out) hb)
 have n2_ := mK (blk_below (by (with_reducible repeat first|apply kN|apply kD|apply kA); exact BK260.out) hb)
 have n3_ := mK (blk_below (by (with_reducible repeat first|apply kN|apply kD|apply kA); exact BK261.out) hb)
 have n4_ := mK (blk_below (by (with_reducible repeat first|apply kN|apply kD|apply kA); exact BK262.out) hb)
 have n5_ := mK (below_step (by repeat first|(with_reducible first|exact HB.out|apply bA|apply bN|apply bD|refine bS ?_ GE260.out|refine bS ?_ GE261.out|refine bS ?_ GE262.out)|exact HB.out) hb)
 have n6_ := mK (hbox)
 have n7_ := mK ((by rw [hg]; exact (below_size (by repeat first|(with_reducible first|exact HB.out|apply bA|apply bN|apply bD|refine bS ?_ GE260.out|refine bS ?_ GE261.out|refine bS ?_ GE262.out)|exact HB.out)) : w.heap.size ≤ gb272))
 have n8_ := mK ((by rw [hg]; exact (below_size (by repeat first|(with_reducible first|exact HB.out|apply bA|apply bN|apply bD|refine bS ?_ GE260.out|refine bS ?_ GE261.out|refine bS ?_ GE262.out)|exact HB.out)) : w.heap.size ≤ gb272))
 have n9_ := mK ((by rw [hg]; exact Nat.ne_of_lt (blk_lt (by (with_reducible repeat first|apply kN|apply kD|apply kA); exact BK260.out)) : gb260 ≠ gb272))
 have n10_ := mK ((by rw [hg]; exact Nat.ne_of_gt (blk_lt (by (with_reducible repeat first|apply kN|apply kD|apply kA); exact BK260.out)) : gb272 ≠ gb260))
 have n11_ := mK ((by rw [hg]; exact Nat.ne_of_lt (blk_lt (by (with_reducible repeat first|apply kN|apply kD|apply kA); exact BK261.out)) : gb261 ≠ gb272))
 have n12_ := mK ((by rw [hg]; exact Nat.ne_of_gt (blk_lt (by (with_reducible repeat first|apply kN|apply kD|apply kA); exact BK261.out)) : gb272 ≠ gb261))
 have n13_ := mK ((by rw [hg]; exact Nat.ne_of_lt (blk_lt (by (with_reducible repeat first|apply kN|apply kD|apply kA); exact BK262.out)) : gb262 ≠ gb272))
 have n14_ := mK ((by rw [hg]; exact Nat.ne_of_gt (blk_lt (by (with_reducible repeat first|apply kN|apply kD|apply kA); exact BK262.out)) : gb272 ≠ gb262))
 clear HO268
 clear HO271
 clear BK260
 clear BK261
 clear BK262
 clear HB
 have HO268 := n0_
 have HO271 := n1_
 have BK260 := n2_
 have BK261 := n3_
 have BK262 := n4_
 have HB := n5_
 have BK272 := n6_
 have GW272 := n7_
 have GE272 := n8_
 have NB260_272 := n9_
 have NB272_260 := n10_
 have NB261_272 := n11_
 have NB272_261 := n12_
 have NB262_272 := n13_
 have NB272_262 := n14_
 clear n0_ n1_ n2_ n3_ n4_ n5_ n6_ n7_ n8_ n9_ n10_ n11_ n12_ n13_ n14_
 clear hb hbox hg
 refine hK.out _ _ ⟨(blk_cell BK260.out 0).trans rfl, (blk_cell BK260.out 1).trans rfl, (blk_cell BK261.out 0).trans rfl, (blk_cell BK261.out 1).trans rfl, (blk_cell BK261.out 2).trans rfl, (blk_cell BK261.out 3).trans rfl⟩ (fun hHeld => ?_)
 clear hK K
 refine norm_ (a' := ?_) ?_ ?_
 rotate_left
 {
 show Act.put _ (some 6) _ = _
 simp only [Act.put, sT, sZ, sU, i64_w, i32_w]
 rfl
 }
 exact norm_ (by simp only [putAll, Act.put, sT, sZ, sU] <;> rfl) (hJ4_6_7_9 (v264, v267, .slice Ao47 y269.length co47, gb272) _ ⟨hHeld, HO268.out, HO271.out, BK260.out, BK261.out, BK262.out, BK272.out, GW272.out, GE272.out, NB260_272.out, NB272_260.out, NB261_272.out, NB272_261.out, NB262_272.out, NB272_262.out, HB.out⟩)
 }
 }
 rintro ⟨v264, v267, v270, gb272⟩ w47 ⟨hS_, h0_, h1_, h2_, h3_, h4_, h5_, h6_, h7_, h8_, h9_, h10_, h11_, h12_, h13_, h14_⟩
 have n0_ : Aside0 (Kd.R k76 76 w47 w.heap.size (fun k_ => some k_ ≠ (v270 : Value).ownBlock ∧ k_ ≠ gb261) v267 y266) := ⟨h0_⟩
 have n1_ : Aside0 (Kd.R k76 76 w47 w.heap.size (fun k_ => some k_ ≠ (v267 : Value).ownBlock ∧ k_ ≠ gb261) v270 y269) := ⟨h1_⟩
 have n2_ : Aside0 (w47.heap[gb260]? = some (.cells #[.int .i64 a0_0, .slice A0_1 l0_1.length c0_1] 47 (0, 0))) := ⟨h2_⟩
 have n3_ : Aside0 (w47.heap[gb261]? = some (.cells #[.int .i64 a1_0, .int .i64 a1_1, .int .i64 a1_2, .int .i64 a1_3] 76 (0, 0))) := ⟨h3_⟩
 have n4_ : Aside0 (w47.heap[gb262]? = some (.cells #[.int .i64 0, .slice none 0 0] 47 (0, 0))) := ⟨h4_⟩
 have n5_ : Aside0 (w47.heap[gb272]? = some (.cells #[.int .i64 0, .slice none 0 0] 47 (0, 0))) := ⟨h5_⟩
 have n6_ : Aside0 (w.heap.size ≤ gb272) := ⟨h6_⟩
 have n7_ : Aside0 (w.heap.size ≤ gb272) := ⟨h7_⟩
 have n8_ : Aside0 (gb260 ≠ gb272) := ⟨h8_⟩
 have n9_ : Aside0 (gb272 ≠ gb260) := ⟨h9_⟩
 have n10_ : Aside0 (gb261 ≠ gb272) := ⟨h10_⟩
 have n11_ : Aside0 (gb272 ≠ gb261) := ⟨h11_⟩
 have n12_ : Aside0 (gb262 ≠ gb272) := ⟨h12_⟩
 have n13_ : Aside0 (gb272 ≠ gb262) := ⟨h13_⟩
 have n14_ : Aside0 (Below w.heap.size w w47) := ⟨h14_⟩
 clear BK260
 clear BK261
 clear BK262
 clear HB
 clear h0_ h1_ h2_ h3_ h4_ h5_ h6_ h7_ h8_ h9_ h10_ h11_ h12_ h13_ h14_
 have HO268 := n0_
 have HO271 := n1_
 have BK260 := n2_
 have BK261 := n3_
 have BK262 := n4_
 have BK272 := n5_
 have GW272 := n6_
 have GE272 := n7_
 have NB260_272 := n8_
 have NB272_260 := n9_
 have NB261_272 := n10_
 have NB272_261 := n11_
 have NB262_272 := n12_
 have NB272_262 := n13_
 have HB := n14_
 clear n0_ n1_ n2_ n3_ n4_ n5_ n6_ n7_ n8_ n9_ n10_ n11_ n12_ n13_ n14_
 have hHeld : w47.cell? ⟨gb260, 0, none⟩ = some (.int .i64 a0_0) ∧ w47.cell? ⟨gb260, 1, none⟩ = some (.slice A0_1 l0_1.length c0_1) ∧ w47.cell? ⟨gb261, 0, none⟩ = some (.int .i64 a1_0) ∧ w47.cell? ⟨gb261, 1, none⟩ = some (.int .i64 a1_1) ∧ w47.cell? ⟨gb261, 2, none⟩ = some (.int .i64 a1_2) ∧ w47.cell? ⟨gb261, 3, none⟩ = some (.int .i64 a1_3) := hS_
 obtain ⟨Ao48, co48, eo48⟩ := Kd.R_slice HO271.out
 (first | subst eo48 | (injection eo48 with f1_ f2_ f3_; have f4_ := f1_.symm; have f5_ := f3_.symm; clear f1_ f2_ f3_; subst f4_; subst f5_))
 refine norm_ (a' := ?_) ?_ ?_
 rotate_left
 {
 simp only [putAll, Act.put, sT, sZ, sU]
 rfl
 }
 refine one_ (i := 10) (N := none) #[true, true, true, true, true, true, true, true, true, true, true] rfl rfl (one_of HT_.out (by kernel_rfl)) (by decide) (fun K hK => ?_)
 have hs49 : w47.cell? ⟨gb272, 0, none⟩ = some (.int .i64 0) := (blk_cell BK272.out 0).trans rfl
 have hfs49 := blk_frozen BK272.out 0
 have hns49_0 := NB260_272.out
 have hns49_1 := NB261_272.out
 have hns49_2 := NB262_272.out
 have hms49_0 := NB272_260.out
 have hms49_1 := NB272_261.out
 have hms49_2 := NB272_262.out
 have hs50 : w47.cell? ⟨gb272, 1, none⟩ = some (.slice none 0 0) := (blk_cell BK272.out 1).trans rfl
 have hfs50 := blk_frozen BK272.out 1
 have hns50_0 := NB260_272.out
 have hns50_1 := NB261_272.out
 have hns50_2 := NB262_272.out
 have hms50_0 := NB272_260.out
 have hms50_1 := NB272_261.out
 have hms50_2 := NB272_262.out
 refine skip_ (w1 := ?_) (by rfl) rfl ?_ ?_
 rotate_left
 {
 go_simp
 rfl
 }
 refine hK.out _ _ ⟨((cell_far (p := ⟨gb272, _, none⟩) NB260_272.out _).trans (((cell_far (p := ⟨gb272, _, none⟩) NB260_272.out _).trans (hHeld.1)))), ((cell_far (p := ⟨gb272, _, none⟩) NB260_272.out _).trans (((cell_far (p := ⟨gb272, _, none⟩) NB260_272.out _).trans (hHeld.2.1)))), ((cell_far (p := ⟨gb272, _, none⟩) NB261_272.out _).trans (((cell_far (p := ⟨gb272, _, none⟩) NB261_272.out _).trans (hHeld.2.2.1)))), ((cell_far (p := ⟨gb272, _, none⟩) NB261_272.out _).trans (((cell_far (p := ⟨gb272, _, none⟩) NB261_272.out _).trans (hHeld.2.2.2.1)))), ((cell_far (p := ⟨gb272, _, none⟩) NB261_272.out _).trans (((cell_far (p := ⟨gb272, _, none⟩) NB261_272.out _).trans (hHeld.2.2.2.2.1)))), ((cell_far (p := ⟨gb272, _, none⟩) NB261_272.out _).trans (((cell_far (p := ⟨gb272, _, none⟩) NB261_272.out _).trans (hHeld.2.2.2.2.2))))⟩ (fun hHeld => ?_)
 clear hK K
 refine done_ (done_of HT_.out (by kernel_rfl)) ?_
 have hnb51 := NB260_261.out
 have hnc51 := NB261_260.out
 have hnb52 := NB260_262.out
 have hnc52 := NB262_260.out
 have hnb53 := NB260_272.out
 have hnc53 := NB272_260.out
 have hcz54_0 : w47.cell? ⟨gb260, 0, none⟩ = some (.int .i64 a0_0) := (blk_cell BK260.out 0).trans rfl
 have hcz54_1 : w47.cell? ⟨gb260, 1, none⟩ = some (.slice A0_1 l0_1.length c0_1) := (blk_cell BK260.out 1).trans rfl
 have hfz54_0 := blk_frozen BK260.out 0
 have hfz54_1 := blk_frozen BK260.out 1
 try go_wp2_with (first | ((with_reducible refine gate_callee (f := 49) rfl ?_); refine goesL_ (some 17) rfl rfl Try.func49 (by kernel_rfl) rfl #[.agg #[.int .i64 a0_0, .slice A0_1 l0_1.length c0_1]] rfl (by (try simp only [List.map_toArray, List.map_cons, List.map_nil]); first | done | rfl | (simp only [List.length_drop, List.length_take]; rfl)) ?_; (with_reducible refine (impl_SimpleOk.calls a0_0 _ _ l0_1 true _ ?side1 ?side2 A5.out).mono ?_); (case side1 => exact Kd.C_below HR0_1.out (by repeat first|(with_reducible first|exact HB.out|apply bA|apply bN|apply bD|refine bS ?_ GE260.out|refine bS ?_ GE261.out|refine bS ?_ GE262.out|refine bS ?_ GE272.out)|exact HB.out)); (case side2 => exact HC0_1.out); rintro e w55 ⟨rfl, hb⟩; refine ⟨_, rfl, ?_⟩; have n0_ := mK (Kd.R_below (by (with_reducible repeat first|apply rA|apply rN|apply rD); exact (Kd.R_mono (Kd.R_far (p := ⟨gb272, 1, none⟩) (Kd.R_far (p := ⟨gb272, 0, none⟩) (Kd.R_types HO268.out BK272.out (by decide)) (fun _ hk => hk.2) (.int .i64 a0_0)) (fun _ hk => hk.2) (.slice Ao48 y269.length co48)) (fun _ h_ => h_.1))) hb); have n1_ := mK (Kd.R_below (by (with_reducible repeat first|apply rA|apply rN|apply rD); exact (Kd.R_mono (Kd.R_far (p := ⟨gb272, 1, none⟩) (Kd.R_far (p := ⟨gb272, 0, none⟩) (Kd.R_types HO271.out BK272.out (by decide)) (fun _ hk => hk.2) (.int .i64 a0_0)) (fun _ hk => hk.2) (.slice Ao48 y269.length co48)) (fun _ h_ => h_.1))) hb); have n2_ := mK (blk_below (g := gb260) (o := .cells #[.int .i64 a0_0, .slice A0_1 l0_1.length c0_1] 47 (0, 0)) (by (with_reducible repeat first|apply kN|apply kD|apply kA); refine blk_far ?_ NB260_272.out _; (with_reducible repeat first|apply kN|apply kD|apply kA); refine blk_far ?_ NB260_272.out _; (with_reducible repeat first|apply kN|apply kD|apply kA); exact BK260.out) hb); have n3_ := mK (blk_below (g := gb261) (o := .cells #[.int .i64 a1_0, .int .i64 a1_1, .int .i64 a1_2, .int .i64 a1_3] 76 (0, 0)) (by (with_reducible repeat first|apply kN|apply kD|apply kA); refine blk_far ?_ NB261_272.out _; (with_reducible repeat first|apply kN|apply kD|apply kA); refine blk_far ?_ NB261_272.out _; (with_reducible repeat first|apply kN|apply kD|apply kA); exact BK261.out) hb); have n4_ := mK (blk_below (g := gb262) (o := .cells #[.int .i64 0, .slice none 0 0] 47 (0, 0)) (by (with_reducible repeat first|apply kN|apply kD|apply kA); refine blk_far ?_ NB262_272.out _; (with_reducible repeat first|apply kN|apply kD|apply kA); refine blk_far ?_ NB262_272.out _; (with_reducible repeat first|apply kN|apply kD|apply kA); exact BK262.out) hb); have n5_ := mK (blk_below (g := gb272) (o := .cells #[.int .i64 a0_0, .slice Ao48 y269.length co48] 47 (0, 0)) (by (with_reducible repeat first|apply kN|apply kD|apply kA); refine blk_put (cs := #[.int .i64 a0_0, .slice none 0 0]) ?_ 1 _ rfl; (with_reducible repeat first|apply kN|apply kD|apply kA); refine blk_put (cs := #[.int .i64 0, .slice none 0 0]) ?_ 0 _ rfl; (with_reducible repeat first|apply kN|apply kD|apply kA); exact BK272.out) hb); have n6_ := mK (below_step (by repeat first|(with_reducible first|exact HB.out|apply bA|apply bN|apply bD|refine bS ?_ GE260.out|refine bS ?_ GE261.out|refine bS ?_ GE262.out|refine bS ?_ GE272.out)|exact HB.out) hb); clear HO268; clear HO271; clear BK260; clear BK261; clear BK262; clear BK272; clear HB; have HO268 := n0_; have HO271 := n1_; have BK260 := n2_; have BK261 := n3_; have BK262 := n4_; have BK272 := n5_; have HB := n6_; clear n0_ n1_ n2_ n3_ n4_ n5_ n6_; (try clear hb); (try clear hb2); (try clear hk); (try clear hi); have hnb56 := NB272_261.out; have hnc56 := NB261_272.out; have hnb57 := NB272_262.out; have hnc57 := NB262_272.out; have hcz58_0 : w55.cell? ⟨gb272, 0, none⟩ = some (.int .i64 a0_0) := (blk_cell BK272.out 0).trans rfl; have hcz58_1 : w55.cell? ⟨gb272, 1, none⟩ = some (.slice Ao48 y269.length co48) := (blk_cell BK272.out 1).trans rfl; have hfz58_0 := blk_frozen BK272.out 0; have hfz58_1 := blk_frozen BK272.out 1) | (go_at_call 49; (with_reducible refine (impl_SimpleOk.calls a0_0 _ _ y269 false _ ?side1 ?side2 A7.out).mono ?_); (case side1 => repeat (first | exact (Kd.R_reads' HO271.out).2.2 | (with_reducible refine Kd.C_alloc ?_ _) | (with_reducible refine Kd.C_drewN ?_ _) | (with_reducible refine Kd.C_drew ?_))); (case side2 => exact (Kd.R_reads' HO271.out).2.1); rintro e w59 ⟨rfl, hb⟩; have n0_ := mK (Kd.R_below (by (with_reducible repeat first|apply rA|apply rN|apply rD); exact HO268.out) hb); have n1_ := mK (Kd.R_below (by (with_reducible repeat first|apply rA|apply rN|apply rD); exact HO271.out) hb); have n2_ := mK (blk_below (by (with_reducible repeat first|apply kN|apply kD|apply kA); exact BK260.out) hb); have n3_ := mK (blk_below (by (with_reducible repeat first|apply kN|apply kD|apply kA); exact BK261.out) hb); have n4_ := mK (blk_below (by (with_reducible repeat first|apply kN|apply kD|apply kA); exact BK262.out) hb); have n5_ := mK (blk_below (by (with_reducible repeat first|apply kN|apply kD|apply kA); exact BK272.out) hb); have n6_ := mK (below_step (by repeat first|(with_reducible first|exact HB.out|apply bA|apply bN|apply bD|refine bS ?_ GE260.out|refine bS ?_ GE261.out|refine bS ?_ GE262.out|refine bS ?_ GE272.out)|exact HB.out) hb); clear HO268; clear HO271; clear BK260; clear BK261; clear BK262; clear BK272; clear HB; have HO268 := n0_; have HO271 := n1_; have BK260 := n2_; have BK261 := n3_; have BK262 := n4_; have BK272 := n5_; have HB := n6_; clear n0_ n1_ n2_ n3_ n4_ n5_ n6_; (try clear hb); (try clear hb2); (try clear hk); (try clear hi); have hnb60 := NB262_261.out; have hnc60 := NB261_262.out; have hcz61_0 : w59.cell? ⟨gb262, 0, none⟩ = some (.int .i64 0) := (blk_cell BK262.out 0).trans rfl; have hcz61_1 : w59.cell? ⟨gb262, 1, none⟩ = some (.slice none 0 0) := (blk_cell BK262.out 1).trans rfl; have hfz61_0 := blk_frozen BK262.out 0; have hfz61_1 := blk_frozen BK262.out 1))
 refine bodyPost_ret (results_ct rfl _ _ gb262 47 #[.int .i64 0, .slice none 0 0] (0, 0) _ rfl (by (with_reducible repeat first|apply kN|apply kD|apply kA); refine blk_put (cs := #[.int .i64 0, .slice none 0 0]) ?_ 1 _ rfl; (with_reducible repeat first|apply kN|apply kD|apply kA); refine blk_put (cs := #[.int .i64 0, .slice none 0 0]) ?_ 0 _ rfl; (with_reducible repeat first|apply kN|apply kD|apply kA); exact BK262.out) Try.underlying47 rfl (by kernel_rfl)) rfl ?_
 exact ⟨_, by first | rfl | (simp [errW_none, errW_some] <;> rfl) | (simp [*, errW_none, errW_some] <;> rfl), by first | exact Kd.R_nil _ _ _ _ _ | exact Kd.N_nil _ _ _ _ _ | exact Kd.V_nil _ _ _ _ _ | exact Kd.Q_nil _ _ _ _ _ | exact Kd.S_nil _ _ _ _ _, by repeat first|(with_reducible first|exact HB.out|apply bA|apply bN|apply bD|refine bS ?_ GE260.out|refine bS ?_ GE261.out|refine bS ?_ GE262.out|refine bS ?_ GE272.out)|exact HB.out⟩
 }
 subst c8
 have H1 : (some (a0_0, y269, true)) = some (r1, r2, r3) := by rw [if_pos rfl] at H; exact H
 clear H
 have H := H1
 clear H1
 simp only [Option.some.injEq, Prod.mk.injEq] at H
 obtain ⟨rfl, rfl, rfl⟩ := H
 go_enter Try.func47, Try.ntmps47
 try go_wp2_with (first | ((with_reducible refine gate_dst (N := 2) rfl ?_); refine box_event ?hg (N := 2) ?hd (cs := #[.int .i64 a0_0, .slice A0_1 l0_1.length c0_1]) (t := 47) ?hr ?_; (case hd => rfl); (case hg => rfl); (case hr => go_simp <;> rfl); intro gb260 hg w9 hbox hb; have n0_ := mK (below_step (by repeat first|(with_reducible first|exact HB.out|apply bA|apply bN|apply bD)|exact HB.out) hb); have n1_ := mK (hbox); have n2_ := mK ((by rw [hg]; exact (below_size (by repeat first|(with_reducible first|exact HB.out|apply bA|apply bN|apply bD)|exact HB.out)) : w.heap.size ≤ gb260)); have n3_ := mK ((by rw [hg]; exact (below_size (by repeat first|(with_reducible first|exact HB.out|apply bA|apply bN|apply bD)|exact HB.out)) : w.heap.size ≤ gb260)); clear HB; have HB := n0_; have BK260 := n1_; have GW260 := n2_; have GE260 := n3_; clear n0_ n1_ n2_ n3_; clear hb hbox hg) | ((with_reducible refine gate_dst (N := 3) rfl ?_); refine box_event ?hg (N := 3) ?hd (cs := #[.int .i64 a1_0, .int .i64 a1_1, .int .i64 a1_2, .int .i64 a1_3]) (t := 76) ?hr ?_; (case hd => rfl); (case hg => rfl); (case hr => go_simp <;> rfl); intro gb261 hg w10 hbox hb; have n0_ := mK (blk_below (by (with_reducible repeat first|apply kN|apply kD|apply kA); exact BK260.out) hb); have n1_ := mK (below_step (by repeat first|(with_reducible first|exact HB.out|apply bA|apply bN|apply bD|refine bS ?_ GE260.out)|exact HB.out) hb); have n2_ := mK (hbox); have n3_ := mK ((by rw [hg]; exact (below_size (by repeat first|(with_reducible first|exact HB.out|apply bA|apply bN|apply bD|refine bS ?_ GE260.out)|exact HB.out)) : w.heap.size ≤ gb261)); have n4_ := mK ((by rw [hg]; exact (below_size (by repeat first|(with_reducible first|exact HB.out|apply bA|apply bN|apply bD|refine bS ?_ GE260.out)|exact HB.out)) : w.heap.size ≤ gb261)); have n5_ := mK ((by rw [hg]; exact Nat.ne_of_lt (blk_lt (by (with_reducible repeat first|apply kN|apply kD|apply kA); exact BK260.out)) : gb260 ≠ gb261)); have n6_ := mK ((by rw [hg]; exact Nat.ne_of_gt (blk_lt (by (with_reducible repeat first|apply kN|apply kD|apply kA); exact BK260.out)) : gb261 ≠ gb260)); clear BK260; clear HB; have BK260 := n0_; have HB := n1_; have BK261 := n2_; have GW261 := n3_; have GE261 := n4_; have NB260_261 := n5_; have NB261_260 := n6_; clear n0_ n1_ n2_ n3_ n4_ n5_ n6_; clear hb hbox hg) | ((with_reducible refine gate_dst (N := 4) rfl ?_); refine box_event ?hg (N := 4) ?hd (cs := #[.int .i64 0, .slice none 0 0]) (t := 47) ?hr ?_; (case hd => rfl); (case hg => rfl); (case hr => go_simp <;> rfl); intro gb262 hg w11 hbox hb; have n0_ := mK (blk_below (by (with_reducible repeat first|apply kN|apply kD|apply kA); exact BK260.out) hb); have n1_ := mK (blk_below (by (with_reducible repeat first|apply kN|apply kD|apply kA); exact BK261.out) hb); have n2_ := mK (below_step (by repeat first|(with_reducible first|exact HB.out|apply bA|apply bN|apply bD|refine bS ?_ GE260.out|refine bS ?_ GE261.out)|exact HB.out) hb); have n3_ := mK (hbox); have n4_ := mK ((by rw [hg]; exact (below_size (by repeat first|(with_reducible first|exact HB.out|apply bA|apply bN|apply bD|refine bS ?_ GE260.out|refine bS ?_ GE261.out)|exact HB.out)) : w.heap.size ≤ gb262)); have n5_ := mK ((by rw [hg]; exact (below_size (by repeat first|(with_reducible first|exact HB.out|apply bA|apply bN|apply bD|refine bS ?_ GE260.out|refine bS ?_ GE261.out)|exact HB.out)) : w.heap.size ≤ gb262)); have n6_ := mK ((by rw [hg]; exact Nat.ne_of_lt (blk_lt (by (with_reducible repeat first|apply kN|apply kD|apply kA); exact BK260.out)) : gb260 ≠ gb262)); have n7_ := mK ((by rw [hg]; exact Nat.ne_of_gt (blk_lt (by (with_reducible repeat first|apply kN|apply kD|apply kA); exact BK260.out)) : gb262 ≠ gb260)); have n8_ := mK ((by rw [hg]; exact Nat.ne_of_lt (blk_lt (by (with_reducible repeat first|apply kN|apply kD|apply kA); exact BK261.out)) : gb261 ≠ gb262)); have n9_ := mK ((by rw [hg]; exact Nat.ne_of_gt (blk_lt (by (with_reducible repeat first|apply kN|apply kD|apply kA); exact BK261.out)) : gb262 ≠ gb261)); clear BK260; clear BK261; clear HB; have BK260 := n0_; have BK261 := n1_; have HB := n2_; have BK262 := n3_; have GW262 := n4_; have GE262 := n5_; have NB260_262 := n6_; have NB262_260 := n7_; have NB261_262 := n8_; have NB262_261 := n9_; clear n0_ n1_ n2_ n3_ n4_ n5_ n6_ n7_ n8_ n9_; clear hb hbox hg))
 have n0_ := mK (blk_drew BK260.out)
 have n1_ := mK (blk_drew BK261.out)
 have n2_ := mK (blk_drew BK262.out)
 have n3_ := mK (below_drew1 HB.out)
 clear BK260
 clear BK261
 clear BK262
 clear HB
 have BK260 := n0_
 have BK261 := n1_
 have BK262 := n2_
 have HB := n3_
 clear n0_ n1_ n2_ n3_
 refine start_ (n := 11) (S := fun w' => w'.cell? ⟨gb260, 0, none⟩ = some (.int .i64 a0_0) ∧ w'.cell? ⟨gb260, 1, none⟩ = some (.slice A0_1 l0_1.length c0_1) ∧ w'.cell? ⟨gb261, 0, none⟩ = some (.int .i64 a1_0) ∧ w'.cell? ⟨gb261, 1, none⟩ = some (.int .i64 a1_1) ∧ w'.cell? ⟨gb261, 2, none⟩ = some (.int .i64 a1_2) ∧ w'.cell? ⟨gb261, 3, none⟩ = some (.int .i64 a1_3)) (ds := []) #[false, false, false, false, false, false, false, false, false, false, false] (by kernel_rfl) rfl rfl ⟨(blk_cell BK260.out 0).trans rfl, (blk_cell BK260.out 1).trans rfl, (blk_cell BK261.out 0).trans rfl, (blk_cell BK261.out 1).trans rfl, (blk_cell BK261.out 2).trans rfl, (blk_cell BK261.out 3).trans rfl⟩ (fun hHeld => ?_); refine with_tabW impl_WithLink.tab1 impl_WithLink.bits1 (fun HT_ HW_ => ?_)
 generalize w11.drew = w12 at BK260 BK261 BK262 HB hHeld ⊢
 refine pure_ (i := 0) (N := some 7) (v := ?_) (a' := ?_) #[true, false, false, false, false, false, false, false, false, false, false] rfl rfl (any_of HT_.out (by kernel_rfl)) (fun _ _ _ h => h) (Or.inl ⟨by rfl, ?_⟩) ?_ ?_
 rotate_left
 {
 intro w'
 go_simp
 with_reducible rfl
 }
 rotate_left
 {
 simp only [Act.put, sT, sZ, sU, i64_w, i32_w]
 rfl
 }
 refine pure_ (i := 2) (N := some 9) (v := ?_) (a' := ?_) #[true, false, true, false, false, false, false, false, false, false, false] rfl rfl (any_of HT_.out (by kernel_rfl)) (fun _ _ _ h => h) (Or.inl ⟨by rfl, ?_⟩) ?_ ?_
 rotate_left
 {
 intro w'
 go_simp
 with_reducible rfl
 }
 rotate_left
 {
 simp only [Act.put, sT, sZ, sU, i64_w, i32_w]
 rfl
 }
 refine take_ (i := 1) (N := some 8) (v := ?_) (a' := ?_) #[true, true, true, false, false, false, false, false, false, false, false] rfl rfl (take_ofW HT_.out HW_.out (by kernel_rfl)) (fun _ _ _ h => h) (Or.inl ⟨by rfl, ?_⟩) hHeld ?_ ?_
 rotate_left
 {
 rintro w' ⟨s0, s1, s2, s3, s4, s5⟩
 go_simp
 with_reducible rfl
 }
 rotate_left
 {
 simp only [Act.put, sT, sZ, sU, i64_w, i32_w]
 rfl
 }
 refine take_ (i := 3) (N := some 10) (v := ?_) (a' := ?_) #[true, true, true, true, false, false, false, false, false, false, false] rfl rfl (take_ofW HT_.out HW_.out (by kernel_rfl)) (fun _ _ _ h => h) (Or.inl ⟨by rfl, ?_⟩) hHeld ?_ ?_
 rotate_left
 {
 rintro w' ⟨s0, s1, s2, s3, s4, s5⟩
 go_simp
 with_reducible rfl
 }
 rotate_left
 {
 simp only [Act.put, sT, sZ, sU, i64_w, i32_w]
 rfl
 }
 refine take_ (i := 5) (N := some 12) (v := ?_) (a' := ?_) #[true, true, true, true, false, true, false, false, false, false, false] rfl rfl (take_ofW HT_.out HW_.out (by kernel_rfl)) (fun _ _ _ h => h) (Or.inl ⟨by rfl, ?_⟩) hHeld ?_ ?_
 rotate_left
 {
 rintro w' ⟨s0, s1, s2, s3, s4, s5⟩
 go_simp
 with_reducible rfl
 }
 rotate_left
 {
 simp only [Act.put, sT, sZ, sU, i64_w, i32_w]
 rfl
 }
 refine join_ (σ := Value × Value × Value × Nat) 1 #[true, true, true, true, true, true, true, true, true, true, false] (fun s_ => [(11, s_.1), (13, s_.2.1), (14, s_.2.2.1), (6, .pointer (some ⟨s_.2.2.2, 0, none⟩)), (15, .agg #[.int .i64 a0_0, s_.2.2.1])]) (fun s_ w' => (w'.cell? ⟨gb260, 0, none⟩ = some (.int .i64 a0_0) ∧ w'.cell? ⟨gb260, 1, none⟩ = some (.slice A0_1 l0_1.length c0_1) ∧ w'.cell? ⟨gb261, 0, none⟩ = some (.int .i64 a1_0) ∧ w'.cell? ⟨gb261, 1, none⟩ = some (.int .i64 a1_1) ∧ w'.cell? ⟨gb261, 2, none⟩ = some (.int .i64 a1_2) ∧ w'.cell? ⟨gb261, 3, none⟩ = some (.int .i64 a1_3)) ∧ (Kd.R k76 76 w' w.heap.size (fun k_ => some k_ ≠ (s_.2.2.1 : Value).ownBlock ∧ k_ ≠ gb261) s_.2.1 y266) ∧ (Kd.R k76 76 w' w.heap.size (fun k_ => some k_ ≠ (s_.2.1 : Value).ownBlock ∧ k_ ≠ gb261) s_.2.2.1 y269) ∧ (w'.heap[gb260]? = some (.cells #[.int .i64 a0_0, .slice A0_1 l0_1.length c0_1] 47 (0, 0))) ∧ (w'.heap[gb261]? = some (.cells #[.int .i64 a1_0, .int .i64 a1_1, .int .i64 a1_2, .int .i64 a1_3] 76 (0, 0))) ∧ (w'.heap[gb262]? = some (.cells #[.int .i64 0, .slice none 0 0] 47 (0, 0))) ∧ (w'.heap[s_.2.2.2]? = some (.cells #[.int .i64 0, .slice none 0 0] 47 (0, 0))) ∧ (w.heap.size ≤ s_.2.2.2) ∧ (w.heap.size ≤ s_.2.2.2) ∧ (gb260 ≠ s_.2.2.2) ∧ (s_.2.2.2 ≠ gb260) ∧ (gb261 ≠ s_.2.2.2) ∧ (s_.2.2.2 ≠ gb261) ∧ (gb262 ≠ s_.2.2.2) ∧ (s_.2.2.2 ≠ gb262) ∧ (Below w.heap.size w w')) ?_ ?_
 rotate_left
 {
 intro hJ4_6_7_9
 refine join_ (σ := Value × Value × Value) 2 #[true, true, true, true, true, true, true, true, true, false, false] (fun s_ => [(11, s_.1), (13, s_.2.1), (14, s_.2.2), (15, .agg #[.int .i64 a0_0, s_.2.2])]) (fun s_ w' => (w'.cell? ⟨gb260, 0, none⟩ = some (.int .i64 a0_0) ∧ w'.cell? ⟨gb260, 1, none⟩ = some (.slice A0_1 l0_1.length c0_1) ∧ w'.cell? ⟨gb261, 0, none⟩ = some (.int .i64 a1_0) ∧ w'.cell? ⟨gb261, 1, none⟩ = some (.int .i64 a1_1) ∧ w'.cell? ⟨gb261, 2, none⟩ = some (.int .i64 a1_2) ∧ w'.cell? ⟨gb261, 3, none⟩ = some (.int .i64 a1_3)) ∧ (Kd.R k76 76 w' w.heap.size (fun k_ => some k_ ≠ (s_.2.2 : Value).ownBlock ∧ k_ ≠ gb261) s_.2.1 y266) ∧ (Kd.R k76 76 w' w.heap.size (fun k_ => some k_ ≠ (s_.2.1 : Value).ownBlock ∧ k_ ≠ gb261) s_.2.2 y269) ∧ (w'.heap[gb260]? = some (.cells #[.int .i64 a0_0, .slice A0_1 l0_1.length c0_1] 47 (0, 0))) ∧ (w'.heap[gb261]? = some (.cells #[.int .i64 a1_0, .int .i64 a1_1, .int .i64 a1_2, .int .i64 a1_3] 76 (0, 0))) ∧ (w'.heap[gb262]? = some (.cells #[.int .i64 0, .slice none 0 0] 47 (0, 0))) ∧ (Below w.heap.size w w')) ?_ ?_
 rotate_left
 {
 intro hJ4_6_7
 refine join_ (σ := Value × Value × Nat) 3 #[true, true, true, true, true, true, true, false, false, true, false] (fun s_ => [(11, s_.1), (13, s_.2.1), (6, .pointer (some ⟨s_.2.2, 0, none⟩))]) (fun s_ w' => (w'.cell? ⟨gb260, 0, none⟩ = some (.int .i64 a0_0) ∧ w'.cell? ⟨gb260, 1, none⟩ = some (.slice A0_1 l0_1.length c0_1) ∧ w'.cell? ⟨gb261, 0, none⟩ = some (.int .i64 a1_0) ∧ w'.cell? ⟨gb261, 1, none⟩ = some (.int .i64 a1_1) ∧ w'.cell? ⟨gb261, 2, none⟩ = some (.int .i64 a1_2) ∧ w'.cell? ⟨gb261, 3, none⟩ = some (.int .i64 a1_3)) ∧ (Kd.R k76 76 w' w.heap.size (fun k_ => some k_ ≠ (s_.2.1 : Value).ownBlock ∧ k_ ≠ gb261) s_.1 t263) ∧ (Kd.R k76 76 w' w.heap.size (fun k_ => some k_ ≠ (s_.1 : Value).ownBlock ∧ k_ ≠ gb261) s_.2.1 y266) ∧ (w'.heap[gb260]? = some (.cells #[.int .i64 a0_0, .slice A0_1 l0_1.length c0_1] 47 (0, 0))) ∧ (w'.heap[gb261]? = some (.cells #[.int .i64 a1_0, .int .i64 a1_1, .int .i64 a1_2, .int .i64 a1_3] 76 (0, 0))) ∧ (w'.heap[gb262]? = some (.cells #[.int .i64 0, .slice none 0 0] 47 (0, 0))) ∧ (w'.heap[s_.2.2]? = some (.cells #[.int .i64 0, .slice none 0 0] 47 (0, 0))) ∧ (w.heap.size ≤ s_.2.2) ∧ (w.heap.size ≤ s_.2.2) ∧ (gb260 ≠ s_.2.2) ∧ (s_.2.2 ≠ gb260) ∧ (gb261 ≠ s_.2.2) ∧ (s_.2.2 ≠ gb261) ∧ (gb262 ≠ s_.2.2) ∧ (s_.2.2 ≠ gb262) ∧ (Below w.heap.size w w')) ?_ ?_
 rotate_left
 {
 intro hJ4_6_9
 refine join_ (σ := Value × Value) 4 #[true, true, true, true, true, true, true, false, false, false, false] (fun s_ => [(11, s_.1), (13, s_.2)]) (fun s_ w' => (w'.cell? ⟨gb260, 0, none⟩ = some (.int .i64 a0_0) ∧ w'.cell? ⟨gb260, 1, none⟩ = some (.slice A0_1 l0_1.length c0_1) ∧ w'.cell? ⟨gb261, 0, none⟩ = some (.int .i64 a1_0) ∧ w'.cell? ⟨gb261, 1, none⟩ = some (.int .i64 a1_1) ∧ w'.cell? ⟨gb261, 2, none⟩ = some (.int .i64 a1_2) ∧ w'.cell? ⟨gb261, 3, none⟩ = some (.int .i64 a1_3)) ∧ (Kd.R k76 76 w' w.heap.size (fun k_ => some k_ ≠ (s_.2 : Value).ownBlock ∧ k_ ≠ gb261) s_.1 t263) ∧ (Kd.R k76 76 w' w.heap.size (fun k_ => some k_ ≠ (s_.1 : Value).ownBlock ∧ k_ ≠ gb261) s_.2 y266) ∧ (w'.heap[gb260]? = some (.cells #[.int .i64 a0_0, .slice A0_1 l0_1.length c0_1] 47 (0, 0))) ∧ (w'.heap[gb261]? = some (.cells #[.int .i64 a1_0, .int .i64 a1_1, .int .i64 a1_2, .int .i64 a1_3] 76 (0, 0))) ∧ (w'.heap[gb262]? = some (.cells #[.int .i64 0, .slice none 0 0] 47 (0, 0))) ∧ (Below w.heap.size w w')) ?_ ?_
 rotate_left
 {
 intro hJ4_6
 refine join_ (σ := Value × Nat) 4 #[true, true, true, true, true, true, false, false, false, true, false] (fun s_ => [(11, s_.1), (6, .pointer (some ⟨s_.2, 0, none⟩))]) (fun s_ w' => (w'.cell? ⟨gb260, 0, none⟩ = some (.int .i64 a0_0) ∧ w'.cell? ⟨gb260, 1, none⟩ = some (.slice A0_1 l0_1.length c0_1) ∧ w'.cell? ⟨gb261, 0, none⟩ = some (.int .i64 a1_0) ∧ w'.cell? ⟨gb261, 1, none⟩ = some (.int .i64 a1_1) ∧ w'.cell? ⟨gb261, 2, none⟩ = some (.int .i64 a1_2) ∧ w'.cell? ⟨gb261, 3, none⟩ = some (.int .i64 a1_3)) ∧ (Kd.R k76 76 w' w.heap.size (fun k_ => k_ ≠ gb261) s_.1 t263) ∧ (w'.heap[gb260]? = some (.cells #[.int .i64 a0_0, .slice A0_1 l0_1.length c0_1] 47 (0, 0))) ∧ (w'.heap[gb261]? = some (.cells #[.int .i64 a1_0, .int .i64 a1_1, .int .i64 a1_2, .int .i64 a1_3] 76 (0, 0))) ∧ (w'.heap[gb262]? = some (.cells #[.int .i64 0, .slice none 0 0] 47 (0, 0))) ∧ (w'.heap[s_.2]? = some (.cells #[.int .i64 0, .slice none 0 0] 47 (0, 0))) ∧ (w.heap.size ≤ s_.2) ∧ (w.heap.size ≤ s_.2) ∧ (gb260 ≠ s_.2) ∧ (s_.2 ≠ gb260) ∧ (gb261 ≠ s_.2) ∧ (s_.2 ≠ gb261) ∧ (gb262 ≠ s_.2) ∧ (s_.2 ≠ gb262) ∧ (Below w.heap.size w w')) ?_ ?_
 rotate_left
 {
 intro hJ4_9
 refine join_ (σ := Value × Nat) 4 #[true, true, true, true, false, true, true, false, false, true, false] (fun s_ => [(13, s_.1), (6, .pointer (some ⟨s_.2, 0, none⟩))]) (fun s_ w' => (w'.cell? ⟨gb260, 0, none⟩ = some (.int .i64 a0_0) ∧ w'.cell? ⟨gb260, 1, none⟩ = some (.slice A0_1 l0_1.length c0_1) ∧ w'.cell? ⟨gb261, 0, none⟩ = some (.int .i64 a1_0) ∧ w'.cell? ⟨gb261, 1, none⟩ = some (.int .i64 a1_1) ∧ w'.cell? ⟨gb261, 2, none⟩ = some (.int .i64 a1_2) ∧ w'.cell? ⟨gb261, 3, none⟩ = some (.int .i64 a1_3)) ∧ (Kd.R k76 76 w' w.heap.size (fun k_ => k_ ≠ gb261) s_.1 y266) ∧ (w'.heap[gb260]? = some (.cells #[.int .i64 a0_0, .slice A0_1 l0_1.length c0_1] 47 (0, 0))) ∧ (w'.heap[gb261]? = some (.cells #[.int .i64 a1_0, .int .i64 a1_1, .int .i64 a1_2, .int .i64 a1_3] 76 (0, 0))) ∧ (w'.heap[gb262]? = some (.cells #[.int .i64 0, .slice none 0 0] 47 (0, 0))) ∧ (w'.heap[s_.2]? = some (.cells #[.int .i64 0, .slice none 0 0] 47 (0, 0))) ∧ (w.heap.size ≤ s_.2) ∧ (w.heap.size ≤ s_.2) ∧ (gb260 ≠ s_.2) ∧ (s_.2 ≠ gb260) ∧ (gb261 ≠ s_.2) ∧ (s_.2 ≠ gb261) ∧ (gb262 ≠ s_.2) ∧ (s_.2 ≠ gb262) ∧ (Below w.heap.size w w')) ?_ ?_
 rotate_left
 {
 intro hJ6_9
 refine join_ (σ := Value) 5 #[true, true, true, true, true, true, false, false, false, false, false] (fun s_ => [(11, s_)]) (fun s_ w' => (w'.cell? ⟨gb260, 0, none⟩ = some (.int .i64 a0_0) ∧ w'.cell? ⟨gb260, 1, none⟩ = some (.slice A0_1 l0_1.length c0_1) ∧ w'.cell? ⟨gb261, 0, none⟩ = some (.int .i64 a1_0) ∧ w'.cell? ⟨gb261, 1, none⟩ = some (.int .i64 a1_1) ∧ w'.cell? ⟨gb261, 2, none⟩ = some (.int .i64 a1_2) ∧ w'.cell? ⟨gb261, 3, none⟩ = some (.int .i64 a1_3)) ∧ (Kd.R k76 76 w' w.heap.size (fun k_ => k_ ≠ gb261) s_ t263) ∧ (w'.heap[gb260]? = some (.cells #[.int .i64 a0_0, .slice A0_1 l0_1.length c0_1] 47 (0, 0))) ∧ (w'.heap[gb261]? = some (.cells #[.int .i64 a1_0, .int .i64 a1_1, .int .i64 a1_2, .int .i64 a1_3] 76 (0, 0))) ∧ (w'.heap[gb262]? = some (.cells #[.int .i64 0, .slice none 0 0] 47 (0, 0))) ∧ (Below w.heap.size w w')) ?_ ?_
 rotate_left
 {
 intro hJ4
 refine join_ (σ := Value) 5 #[true, true, true, true, false, true, true, false, false, false, false] (fun s_ => [(13, s_)]) (fun s_ w' => (w'.cell? ⟨gb260, 0, none⟩ = some (.int .i64 a0_0) ∧ w'.cell? ⟨gb260, 1, none⟩ = some (.slice A0_1 l0_1.length c0_1) ∧ w'.cell? ⟨gb261, 0, none⟩ = some (.int .i64 a1_0) ∧ w'.cell? ⟨gb261, 1, none⟩ = some (.int .i64 a1_1) ∧ w'.cell? ⟨gb261, 2, none⟩ = some (.int .i64 a1_2) ∧ w'.cell? ⟨gb261, 3, none⟩ = some (.int .i64 a1_3)) ∧ (Kd.R k76 76 w' w.heap.size (fun k_ => k_ ≠ gb261) s_ y266) ∧ (w'.heap[gb260]? = some (.cells #[.int .i64 a0_0, .slice A0_1 l0_1.length c0_1] 47 (0, 0))) ∧ (w'.heap[gb261]? = some (.cells #[.int .i64 a1_0, .int .i64 a1_1, .int .i64 a1_2, .int .i64 a1_3] 76 (0, 0))) ∧ (w'.heap[gb262]? = some (.cells #[.int .i64 0, .slice none 0 0] 47 (0, 0))) ∧ (Below w.heap.size w w')) ?_ ?_
 rotate_left
 {
 intro hJ6
 refine join_ (σ := Nat) 5 #[true, true, true, true, false, true, false, false, false, true, false] (fun s_ => [(6, .pointer (some ⟨s_, 0, none⟩))]) (fun s_ w' => (w'.cell? ⟨gb260, 0, none⟩ = some (.int .i64 a0_0) ∧ w'.cell? ⟨gb260, 1, none⟩ = some (.slice A0_1 l0_1.length c0_1) ∧ w'.cell? ⟨gb261, 0, none⟩ = some (.int .i64 a1_0) ∧ w'.cell? ⟨gb261, 1, none⟩ = some (.int .i64 a1_1) ∧ w'.cell? ⟨gb261, 2, none⟩ = some (.int .i64 a1_2) ∧ w'.cell? ⟨gb261, 3, none⟩ = some (.int .i64 a1_3)) ∧ (w'.heap[gb260]? = some (.cells #[.int .i64 a0_0, .slice A0_1 l0_1.length c0_1] 47 (0, 0))) ∧ (w'.heap[gb261]? = some (.cells #[.int .i64 a1_0, .int .i64 a1_1, .int .i64 a1_2, .int .i64 a1_3] 76 (0, 0))) ∧ (w'.heap[gb262]? = some (.cells #[.int .i64 0, .slice none 0 0] 47 (0, 0))) ∧ (w'.heap[s_]? = some (.cells #[.int .i64 0, .slice none 0 0] 47 (0, 0))) ∧ (w.heap.size ≤ s_) ∧ (w.heap.size ≤ s_) ∧ (gb260 ≠ s_) ∧ (s_ ≠ gb260) ∧ (gb261 ≠ s_) ∧ (s_ ≠ gb261) ∧ (gb262 ≠ s_) ∧ (s_ ≠ gb262) ∧ (Below w.heap.size w w')) ?_ ?_
 rotate_left
 {
 intro hJ9
 refine three_ (i := 4) (j := 6) (k := 9) (Ni := some 11) (Nj := some 13) (Nk := some 6) #[true, true, true, true, true, true, false, false, false, false, false] #[true, true, true, true, false, true, true, false, false, false, false] #[true, true, true, true, false, true, false, false, false, true, false] rfl rfl rfl rfl rfl rfl (three_of HT_.out (by kernel_rfl)) (by decide) (by decide) (by decide) (fun K hK => ?_) (fun K hK => ?_) (fun K hK => ?_)
 {
 skip
 refine goes_ Try.func86 (by kernel_rfl) rfl #[.slice A0_1 l0_1.length c0_1] (by rfl) rfl rfl (by (try simp only [List.map_toArray, List.map_cons, List.map_nil]); first | done | rfl | (simp only [List.length_drop, List.length_take]; rfl)) ?_
 with_reducible refine (impl_Link_86.calls _ _ l0_1 t263 _ ?side1 ?side2 A3.out).mono ?_
 (case side1 => repeat (first | exact (Kd.C_below HR0_1.out HB.out) | (with_reducible refine Kd.C_alloc ?_ _) | (with_reducible refine Kd.C_drewN ?_ _) | (with_reducible refine Kd.C_drew ?_)))
 (case side2 => exact HC0_1.out)
 rintro e w13 ⟨v264, rfl, ho0, hb⟩
 refine ⟨_, rfl, ?_⟩
 have n0_ := mK (Kd.R_lower (Kd.R_newB ho0 (by (with_reducible repeat first|apply kN|apply kD|apply kA); exact BK261.out)) (below_size (by repeat first|(with_reducible first|exact HB.out|apply bA|apply bN|apply bD|refine bS ?_ GE260.out|refine bS ?_ GE261.out|refine bS ?_ GE262.out)|exact HB.out)))
 have n1_ := mK (blk_below (by (with_reducible repeat first|apply kN|apply kD|apply kA); exact BK260.out) hb)
 have n2_ := mK (blk_below (by (with_reducible repeat first|apply kN|apply kD|apply kA); exact BK261.out) hb)
 have n3_ := mK (blk_below (by (with_reducible repeat first|apply kN|apply kD|apply kA); exact BK262.out) hb)
 have n4_ := mK (below_step (by repeat first|(with_reducible first|exact HB.out|apply bA|apply bN|apply bD|refine bS ?_ GE260.out|refine bS ?_ GE261.out|refine bS ?_ GE262.out)|exact HB.out) hb)
 clear BK260
 clear BK261
 clear BK262
 clear HB
 have HO265 := n0_
 have BK260 := n1_
 have BK261 := n2_
 have BK262 := n3_
 have HB := n4_
 clear n0_ n1_ n2_ n3_ n4_
 (try clear hb)
 (try clear hb2)
 (try clear hk)
 (try clear hi)
 (try clear ho0)
 refine hK.out _ _ ⟨(blk_cell BK260.out 0).trans rfl, (blk_cell BK260.out 1).trans rfl, (blk_cell BK261.out 0).trans rfl, (blk_cell BK261.out 1).trans rfl, (blk_cell BK261.out 2).trans rfl, (blk_cell BK261.out 3).trans rfl⟩ (fun hHeld => ?_)
 clear hK K
 refine norm_ (a' := ?_) ?_ ?_
 rotate_left
 {
 show Act.put _ (some 11) _ = _
 simp only [Act.put, sT, sZ, sU, i64_w, i32_w]
 rfl
 }
 exact norm_ (by simp only [putAll, Act.put, sT, sZ, sU] <;> rfl) (hJ4 (v264) _ ⟨hHeld, (Kd.R_mono HO265.out (fun _ hk => hk.2)), BK260.out, BK261.out, BK262.out, HB.out⟩)
 }
 {
 skip
 refine Kd.R_lit_step k76 _ 76 ?hg (N := 13) ?hd (xs := ([(⟨a1_0, a1_1, (⟨a1_2, a1_3⟩ : S52)⟩ : S76)] : List (S76))) (inner := [.int .i64 a1_0, .int .i64 a1_1, .int .i64 a1_2, .int .i64 a1_3]) (ok := fun _ => True) (okp := fun _ => True) ?hr ?hp (fun _ hk => hk) trivial (Below.refl _ _) (Nat.le_refl _) (by simp) ?_; (case hd => rfl); (case hg => rfl); (case hr => go_simp <;> rfl); (case hp => exact (Reps.c4 (show Kd.M k76 _ _ _ (⟨a1_0, a1_1, (⟨a1_2, a1_3⟩ : S52)⟩ : S76) [.int .i64 a1_0, .int .i64 a1_1, .int .i64 a1_2, .int .i64 a1_3] from (k76_mkM _ _ _ (⟨a1_0, a1_1, (⟨a1_2, a1_3⟩ : S52)⟩ : S76) )) (Reps.none _ _)))
 intro v267 w13 ho14 hb hg_ hnew_
 clear hg_ hnew_
 (first | rw [← Ny266.out] at ho14 | (simp only [Int.reduceToNat] at ho14; rw [← Ny266.out] at ho14))
 have n0_ := mK (Kd.R_lower (Kd.R_newB ho14 (by (with_reducible repeat first|apply kN|apply kD|apply kA); exact BK261.out)) (below_size (by repeat first|(with_reducible first|exact HB.out|apply bA|apply bN|apply bD|refine bS ?_ GE260.out|refine bS ?_ GE261.out|refine bS ?_ GE262.out)|exact HB.out)))
 have n1_ := mK (blk_below (by (with_reducible repeat first|apply kN|apply kD|apply kA); exact BK260.out) hb)
 have n2_ := mK (blk_below (by (with_reducible repeat first|apply kN|apply kD|apply kA); exact BK261.out) hb)
 have n3_ := mK (blk_below (by (with_reducible repeat first|apply kN|apply kD|apply kA); exact BK262.out) hb)
 have n4_ := mK (below_step (by repeat first|(with_reducible first|exact HB.out|apply bA|apply bN|apply bD|refine bS ?_ GE260.out|refine bS ?_ GE261.out|refine bS ?_ GE262.out)|exact HB.out) hb)
 clear BK260
 clear BK261
 clear BK262
 clear HB
 have HO268 := n0_
 have BK260 := n1_
 have BK261 := n2_
 have BK262 := n3_
 have HB := n4_
 clear n0_ n1_ n2_ n3_ n4_
 clear hb ho14
 refine hK.out _ _ ⟨(blk_cell BK260.out 0).trans rfl, (blk_cell BK260.out 1).trans rfl, (blk_cell BK261.out 0).trans rfl, (blk_cell BK261.out 1).trans rfl, (blk_cell BK261.out 2).trans rfl, (blk_cell BK261.out 3).trans rfl⟩ (fun hHeld => ?_)
 clear hK K
 refine norm_ (a' := ?_) ?_ ?_
 rotate_left
 {
 show Act.put _ (some 13) _ = _
 simp only [Act.put, sT, sZ, sU, i64_w, i32_w]
 rfl
 }
 exact norm_ (by simp only [putAll, Act.put, sT, sZ, sU] <;> rfl) (hJ6 (v267) _ ⟨hHeld, (Kd.R_mono HO268.out (fun _ hk => hk.2)), BK260.out, BK261.out, BK262.out, HB.out⟩)
 }
 {
 skip
 refine box_step ?hg (N := 6) ?hd (cs := #[.int .i64 0, .slice none 0 0]) (t := 47) ?hr ?_; (case hd => rfl); (case hg => rfl); (case hr => go_simp <;> rfl)
 intro gb272 hg w13 hbox hb
 have n0_ := mK (blk_below (by (with_reducible repeat first|apply kN|apply kD|apply kA); exact BK260.out) hb)
 have n1_ := mK (blk_below (by (with_reducible repeat first|apply kN|apply kD|apply kA); exact BK261.out) hb)
 have n2_ := mK (blk_below (by (with_reducible repeat first|apply kN|apply kD|apply kA); exact BK262.out) hb)
 have n3_ := mK (below_step (by repeat first|(with_reducible first|exact HB.out|apply bA|apply bN|apply bD|refine bS ?_ GE260.out|refine bS ?_ GE261.out|refine bS ?_ GE262.out)|exact HB.out) hb)
 have n4_ := mK (hbox)
 have n5_ := mK ((by rw [hg]; exact (below_size (by repeat first|(with_reducible first|exact HB.out|apply bA|apply bN|apply bD|refine bS ?_ GE260.out|refine bS ?_ GE261.out|refine bS ?_ GE262.out)|exact HB.out)) : w.heap.size ≤ gb272))
 have n6_ := mK ((by rw [hg]; exact (below_size (by repeat first|(with_reducible first|exact HB.out|apply bA|apply bN|apply bD|refine bS ?_ GE260.out|refine bS ?_ GE261.out|refine bS ?_ GE262.out)|exact HB.out)) : w.heap.size ≤ gb272))
 have n7_ := mK ((by rw [hg]; exact Nat.ne_of_lt (blk_lt (by (with_reducible repeat first|apply kN|apply kD|apply kA); exact BK260.out)) : gb260 ≠ gb272))
 have n8_ := mK ((by rw [hg]; exact Nat.ne_of_gt (blk_lt (by (with_reducible repeat first|apply kN|apply kD|apply kA); exact BK260.out)) : gb272 ≠ gb260))
 have n9_ := mK ((by rw [hg]; exact Nat.ne_of_lt (blk_lt (by (with_reducible repeat first|apply kN|apply kD|apply kA); exact BK261.out)) : gb261 ≠ gb272))
 have n10_ := mK ((by rw [hg]; exact Nat.ne_of_gt (blk_lt (by (with_reducible repeat first|apply kN|apply kD|apply kA); exact BK261.out)) : gb272 ≠ gb261))
 have n11_ := mK ((by rw [hg]; exact Nat.ne_of_lt (blk_lt (by (with_reducible repeat first|apply kN|apply kD|apply kA); exact BK262.out)) : gb262 ≠ gb272))
 have n12_ := mK ((by rw [hg]; exact Nat.ne_of_gt (blk_lt (by (with_reducible repeat first|apply kN|apply kD|apply kA); exact BK262.out)) : gb272 ≠ gb262))
 clear BK260
 clear BK261
 clear BK262
 clear HB
 have BK260 := n0_
 have BK261 := n1_
 have BK262 := n2_
 have HB := n3_
 have BK272 := n4_
 have GW272 := n5_
 have GE272 := n6_
 have NB260_272 := n7_
 have NB272_260 := n8_
 have NB261_272 := n9_
 have NB272_261 := n10_
 have NB262_272 := n11_
 have NB272_262 := n12_
 clear n0_ n1_ n2_ n3_ n4_ n5_ n6_ n7_ n8_ n9_ n10_ n11_ n12_
 clear hb hbox hg
 refine hK.out _ _ ⟨(blk_cell BK260.out 0).trans rfl, (blk_cell BK260.out 1).trans rfl, (blk_cell BK261.out 0).trans rfl, (blk_cell BK261.out 1).trans rfl, (blk_cell BK261.out 2).trans rfl, (blk_cell BK261.out 3).trans rfl⟩ (fun hHeld => ?_)
 clear hK K
 refine norm_ (a' := ?_) ?_ ?_
 rotate_left
 {
 show Act.put _ (some 6) _ = _
 simp only [Act.put, sT, sZ, sU, i64_w, i32_w]
 rfl
 }
 exact norm_ (by simp only [putAll, Act.put, sT, sZ, sU] <;> rfl) (hJ9 (gb272) _ ⟨hHeld, BK260.out, BK261.out, BK262.out, BK272.out, GW272.out, GE272.out, NB260_272.out, NB272_260.out, NB261_272.out, NB272_261.out, NB262_272.out, NB272_262.out, HB.out⟩)
 }
 }
 {
 skip
 rintro gb272 w14 ⟨hS_, h0_, h1_, h2_, h3_, h4_, h5_, h6_, h7_, h8_, h9_, h10_, h11_, h12_⟩
 have n0_ : Aside0 (w14.heap[gb260]? = some (.cells #[.int .i64 a0_0, .slice A0_1 l0_1.length c0_1] 47 (0, 0))) := ⟨h0_⟩
 have n1_ : Aside0 (w14.heap[gb261]? = some (.cells #[.int .i64 a1_0, .int .i64 a1_1, .int .i64 a1_2, .int .i64 a1_3] 76 (0, 0))) := ⟨h1_⟩
 have n2_ : Aside0 (w14.heap[gb262]? = some (.cells #[.int .i64 0, .slice none 0 0] 47 (0, 0))) := ⟨h2_⟩
 have n3_ : Aside0 (w14.heap[gb272]? = some (.cells #[.int .i64 0, .slice none 0 0] 47 (0, 0))) := ⟨h3_⟩
 have n4_ : Aside0 (w.heap.size ≤ gb272) := ⟨h4_⟩
 have n5_ : Aside0 (w.heap.size ≤ gb272) := ⟨h5_⟩
 have n6_ : Aside0 (gb260 ≠ gb272) := ⟨h6_⟩
 have n7_ : Aside0 (gb272 ≠ gb260) := ⟨h7_⟩
 have n8_ : Aside0 (gb261 ≠ gb272) := ⟨h8_⟩
 have n9_ : Aside0 (gb272 ≠ gb261) := ⟨h9_⟩
 have n10_ : Aside0 (gb262 ≠ gb272) := ⟨h10_⟩
 have n11_ : Aside0 (gb272 ≠ gb262) := ⟨h11_⟩
 have n12_ : Aside0 (Below w.heap.size w w14) := ⟨h12_⟩
 clear BK260
 clear BK261
 clear BK262
 clear HB
 clear h0_ h1_ h2_ h3_ h4_ h5_ h6_ h7_ h8_ h9_ h10_ h11_ h12_
 have BK260 := n0_
 have BK261 := n1_
 have BK262 := n2_
 have BK272 := n3_
 have GW272 := n4_
 have GE272 := n5_
 have NB260_272 := n6_
 have NB272_260 := n7_
 have NB261_272 := n8_
 have NB272_261 := n9_
 have NB262_272 := n10_
 have NB272_262 := n11_
 have HB := n12_
 clear n0_ n1_ n2_ n3_ n4_ n5_ n6_ n7_ n8_ n9_ n10_ n11_ n12_
 have hHeld : w14.cell? ⟨gb260, 0, none⟩ = some (.int .i64 a0_0) ∧ w14.cell? ⟨gb260, 1, none⟩ = some (.slice A0_1 l0_1.length c0_1) ∧ w14.cell? ⟨gb261, 0, none⟩ = some (.int .i64 a1_0) ∧ w14.cell? ⟨gb261, 1, none⟩ = some (.int .i64 a1_1) ∧ w14.cell? ⟨gb261, 2, none⟩ = some (.int .i64 a1_2) ∧ w14.cell? ⟨gb261, 3, none⟩ = some (.int .i64 a1_3) := hS_
 refine norm_ (a' := ?_) ?_ ?_
 rotate_left
 {
 simp only [putAll, Act.put, sT, sZ, sU]
 rfl
 }
 refine two_ (i := 4) (j := 6) (Ni := some 11) (Nj := some 13) #[true, true, true, true, true, true, false, false, false, true, false] #[true, true, true, true, false, true, true, false, false, true, false] rfl rfl rfl rfl (two_of HT_.out (by kernel_rfl)) (by decide) (by decide) (fun K hK => ?_) (fun K hK => ?_)
 {
 skip
 refine goes_ Try.func86 (by kernel_rfl) rfl #[.slice A0_1 l0_1.length c0_1] (by rfl) rfl rfl (by (try simp only [List.map_toArray, List.map_cons, List.map_nil]); first | done | rfl | (simp only [List.length_drop, List.length_take]; rfl)) ?_
 with_reducible refine (impl_Link_86.calls _ _ l0_1 t263 _ ?side1 ?side2 A3.out).mono ?_
 (case side1 => repeat (first | exact (Kd.C_below HR0_1.out HB.out) | (with_reducible refine Kd.C_alloc ?_ _) | (with_reducible refine Kd.C_drewN ?_ _) | (with_reducible refine Kd.C_drew ?_)))
 (case side2 => exact HC0_1.out)
 rintro e w15 ⟨v264, rfl, ho0, hb⟩
 refine ⟨_, rfl, ?_⟩
 have n0_ := mK (Kd.R_lower (Kd.R_newB ho0 (by (with_reducible repeat first|apply kN|apply kD|apply kA); exact BK261.out)) (below_size (by repeat first|(with_reducible first|exact HB.out|apply bA|apply bN|apply bD|refine bS ?_ GE260.out|refine bS ?_ GE261.out|refine bS ?_ GE262.out|refine bS ?_ GE272.out)|exact HB.out)))
 have n1_ := mK (blk_below (by (with_reducible repeat first|apply kN|apply kD|apply kA); exact BK260.out) hb)
 have n2_ := mK (blk_below (by (with_reducible repeat first|apply kN|apply kD|apply kA); exact BK261.out) hb)
 have n3_ := mK (blk_below (by (with_reducible repeat first|apply kN|apply kD|apply kA); exact BK262.out) hb)
 have n4_ := mK (blk_below (by (with_reducible repeat first|apply kN|apply kD|apply kA); exact BK272.out) hb)
 have n5_ := mK (below_step (by repeat first|(with_reducible first|exact HB.out|apply bA|apply bN|apply bD|refine bS ?_ GE260.out|refine bS ?_ GE261.out|refine bS ?_ GE262.out|refine bS ?_ GE272.out)|exact HB.out) hb)
 clear BK260
 clear BK261
 clear BK262
 clear BK272
 clear HB
 have HO265 := n0_
 have BK260 := n1_
 have BK261 := n2_
 have BK262 := n3_
 have BK272 := n4_
 have HB := n5_
 clear n0_ n1_ n2_ n3_ n4_ n5_
 (try clear hb)
 (try clear hb2)
 (try clear hk)
 (try clear hi)
 (try clear ho0)
 refine hK.out _ _ ⟨(blk_cell BK260.out 0).trans rfl, (blk_cell BK260.out 1).trans rfl, (blk_cell BK261.out 0).trans rfl, (blk_cell BK261.out 1).trans rfl, (blk_cell BK261.out 2).trans rfl, (blk_cell BK261.out 3).trans rfl⟩ (fun hHeld => ?_)
 clear hK K
 refine norm_ (a' := ?_) ?_ ?_
 rotate_left
 {
 show Act.put _ (some 11) _ = _
 simp only [Act.put, sT, sZ, sU, i64_w, i32_w]
 rfl
 }
 exact norm_ (by simp only [putAll, Act.put, sT, sZ, sU] <;> rfl) (hJ4_9 (v264, gb272) _ ⟨hHeld, (Kd.R_mono HO265.out (fun _ hk => hk.2)), BK260.out, BK261.out, BK262.out, BK272.out, GW272.out, GE272.out, NB260_272.out, NB272_260.out, NB261_272.out, NB272_261.out, NB262_272.out, NB272_262.out, HB.out⟩)
 }
 {
 skip
 refine Kd.R_lit_step k76 _ 76 ?hg (N := 13) ?hd (xs := ([(⟨a1_0, a1_1, (⟨a1_2, a1_3⟩ : S52)⟩ : S76)] : List (S76))) (inner := [.int .i64 a1_0, .int .i64 a1_1, .int .i64 a1_2, .int .i64 a1_3]) (ok := fun _ => True) (okp := fun _ => True) ?hr ?hp (fun _ hk => hk) trivial (Below.refl _ _) (Nat.le_refl _) (by simp) ?_; (case hd => rfl); (case hg => rfl); (case hr => go_simp <;> rfl); (case hp => exact (Reps.c4 (show Kd.M k76 _ _ _ (⟨a1_0, a1_1, (⟨a1_2, a1_3⟩ : S52)⟩ : S76) [.int .i64 a1_0, .int .i64 a1_1, .int .i64 a1_2, .int .i64 a1_3] from (k76_mkM _ _ _ (⟨a1_0, a1_1, (⟨a1_2, a1_3⟩ : S52)⟩ : S76) )) (Reps.none _ _)))
 intro v267 w15 ho16 hb hg_ hnew_
 clear hg_ hnew_
 (first | rw [← Ny266.out] at ho16 | (simp only [Int.reduceToNat] at ho16; rw [← Ny266.out] at ho16))
 have n0_ := mK (Kd.R_lower (Kd.R_newB ho16 (by (with_reducible repeat first|apply kN|apply kD|apply kA); exact BK261.out)) (below_size (by repeat first|(with_reducible first|exact HB.out|apply bA|apply bN|apply bD|refine bS ?_ GE260.out|refine bS ?_ GE261.out|refine bS ?_ GE262.out|refine bS ?_ GE272.out)|exact HB.out)))
 have n1_ := mK (blk_below (by (with_reducible repeat first|apply kN|apply kD|apply kA); exact BK260.out) hb)
 have n2_ := mK (blk_below (by (with_reducible repeat first|apply kN|apply kD|apply kA); exact BK261.out) hb)
 have n3_ := mK (blk_below (by (with_reducible repeat first|apply kN|apply kD|apply kA); exact BK262.out) hb)
 have n4_ := mK (blk_below (by (with_reducible repeat first|apply kN|apply kD|apply kA); exact BK272.out) hb)
 have n5_ := mK (below_step (by repeat first|(with_reducible first|exact HB.out|apply bA|apply bN|apply bD|refine bS ?_ GE260.out|refine bS ?_ GE261.out|refine bS ?_ GE262.out|refine bS ?_ GE272.out)|exact HB.out) hb)
 clear BK260
 clear BK261
 clear BK262
 clear BK272
 clear HB
 have HO268 := n0_
 have BK260 := n1_
 have BK261 := n2_
 have BK262 := n3_
 have BK272 := n4_
 have HB := n5_
 clear n0_ n1_ n2_ n3_ n4_ n5_
 clear hb ho16
 refine hK.out _ _ ⟨(blk_cell BK260.out 0).trans rfl, (blk_cell BK260.out 1).trans rfl, (blk_cell BK261.out 0).trans rfl, (blk_cell BK261.out 1).trans rfl, (blk_cell BK261.out 2).trans rfl, (blk_cell BK261.out 3).trans rfl⟩ (fun hHeld => ?_)
 clear hK K
 refine norm_ (a' := ?_) ?_ ?_
 rotate_left
 {
 show Act.put _ (some 13) _ = _
 simp only [Act.put, sT, sZ, sU, i64_w, i32_w]
 rfl
 }
 exact norm_ (by simp only [putAll, Act.put, sT, sZ, sU] <;> rfl) (hJ6_9 (v267, gb272) _ ⟨hHeld, (Kd.R_mono HO268.out (fun _ hk => hk.2)), BK260.out, BK261.out, BK262.out, BK272.out, GW272.out, GE272.out, NB260_272.out, NB272_260.out, NB261_272.out, NB272_261.out, NB262_272.out, NB272_262.out, HB.out⟩)
 }
 }
 }
 {
 skip
 rintro v267 w15 ⟨hS_, h0_, h1_, h2_, h3_, h4_⟩
 have n0_ : Aside0 (Kd.R k76 76 w15 w.heap.size (fun k_ => k_ ≠ gb261) v267 y266) := ⟨h0_⟩
 have n1_ : Aside0 (w15.heap[gb260]? = some (.cells #[.int .i64 a0_0, .slice A0_1 l0_1.length c0_1] 47 (0, 0))) := ⟨h1_⟩
 have n2_ : Aside0 (w15.heap[gb261]? = some (.cells #[.int .i64 a1_0, .int .i64 a1_1, .int .i64 a1_2, .int .i64 a1_3] 76 (0, 0))) := ⟨h2_⟩
 have n3_ : Aside0 (w15.heap[gb262]? = some (.cells #[.int .i64 0, .slice none 0 0] 47 (0, 0))) := ⟨h3_⟩
 have n4_ : Aside0 (Below w.heap.size w w15) := ⟨h4_⟩
 clear BK260
 clear BK261
 clear BK262
 clear HB
 clear h0_ h1_ h2_ h3_ h4_
 have HO268 := n0_
 have BK260 := n1_
 have BK261 := n2_
 have BK262 := n3_
 have HB := n4_
 clear n0_ n1_ n2_ n3_ n4_
 have hHeld : w15.cell? ⟨gb260, 0, none⟩ = some (.int .i64 a0_0) ∧ w15.cell? ⟨gb260, 1, none⟩ = some (.slice A0_1 l0_1.length c0_1) ∧ w15.cell? ⟨gb261, 0, none⟩ = some (.int .i64 a1_0) ∧ w15.cell? ⟨gb261, 1, none⟩ = some (.int .i64 a1_1) ∧ w15.cell? ⟨gb261, 2, none⟩ = some (.int .i64 a1_2) ∧ w15.cell? ⟨gb261, 3, none⟩ = some (.int .i64 a1_3) := hS_
 refine norm_ (a' := ?_) ?_ ?_
 rotate_left
 {
 simp only [putAll, Act.put, sT, sZ, sU]
 rfl
 }
 refine two_ (i := 4) (j := 9) (Ni := some 11) (Nj := some 6) #[true, true, true, true, true, true, true, false, false, false, false] #[true, true, true, true, false, true, true, false, false, true, false] rfl rfl rfl rfl (two_of HT_.out (by kernel_rfl)) (by decide) (by decide) (fun K hK => ?_) (fun K hK => ?_)
 {
 skip
 refine goes_ Try.func86 (by kernel_rfl) rfl #[.slice A0_1 l0_1.length c0_1] (by rfl) rfl rfl (by (try simp only [List.map_toArray, List.map_cons, List.map_nil]); first | done | rfl | (simp only [List.length_drop, List.length_take]; rfl)) ?_
 with_reducible refine (impl_Link_86.calls _ _ l0_1 t263 _ ?side1 ?side2 A3.out).mono ?_
 (case side1 => repeat (first | exact (Kd.C_below HR0_1.out HB.out) | (with_reducible refine Kd.C_alloc ?_ _) | (with_reducible refine Kd.C_drewN ?_ _) | (with_reducible refine Kd.C_drew ?_)))
 (case side2 => exact HC0_1.out)
 rintro e w16 ⟨v264, rfl, ho0, hb⟩
 refine ⟨_, rfl, ?_⟩
 have n0_ := mK (Kd.R_elder' (by (with_reducible repeat first|apply rA|apply rN|apply rD); exact HO268.out) (Kd.R_base ho0) hb)
 have n1_ := mK (Kd.R_lower (Kd.R_newB (Kd.R_new' ho0 (Kd.R_lt (by (with_reducible repeat first|apply rA|apply rN|apply rD); exact HO268.out))) (by (with_reducible repeat first|apply kN|apply kD|apply kA); exact BK261.out)) (below_size (by repeat first|(with_reducible first|exact HB.out|apply bA|apply bN|apply bD|refine bS ?_ GE260.out|refine bS ?_ GE261.out|refine bS ?_ GE262.out)|exact HB.out)))
 have n2_ := mK (blk_below (by (with_reducible repeat first|apply kN|apply kD|apply kA); exact BK260.out) hb)
 have n3_ := mK (blk_below (by (with_reducible repeat first|apply kN|apply kD|apply kA); exact BK261.out) hb)
 have n4_ := mK (blk_below (by (with_reducible repeat first|apply kN|apply kD|apply kA); exact BK262.out) hb)
 have n5_ := mK (below_step (by repeat first|(with_reducible first|exact HB.out|apply bA|apply bN|apply bD|refine bS ?_ GE260.out|refine bS ?_ GE261.out|refine bS ?_ GE262.out)|exact HB.out) hb)
 clear HO268
 clear BK260
 clear BK261
 clear BK262
 clear HB
 have HO268 := n0_
 have HO265 := n1_
 have BK260 := n2_
 have BK261 := n3_
 have BK262 := n4_
 have HB := n5_
 clear n0_ n1_ n2_ n3_ n4_ n5_
 (try clear hb)
 (try clear hb2)
 (try clear hk)
 (try clear hi)
 (try clear ho0)
 refine hK.out _ _ ⟨(blk_cell BK260.out 0).trans rfl, (blk_cell BK260.out 1).trans rfl, (blk_cell BK261.out 0).trans rfl, (blk_cell BK261.out 1).trans rfl, (blk_cell BK261.out 2).trans rfl, (blk_cell BK261.out 3).trans rfl⟩ (fun hHeld => ?_)
 clear hK K
 refine norm_ (a' := ?_) ?_ ?_
 rotate_left
 {
 show Act.put _ (some 11) _ = _
 simp only [Act.put, sT, sZ, sU, i64_w, i32_w]
 rfl
 }
 exact norm_ (by simp only [putAll, Act.put, sT, sZ, sU] <;> rfl) (hJ4_6 (v264, v267) _ ⟨hHeld, (Kd.R_mono HO265.out (fun _ hk => ⟨hk.1.2, hk.2⟩)), (Kd.R_mono HO268.out (fun _ hk => ⟨hk.2, hk.1⟩)), BK260.out, BK261.out, BK262.out, HB.out⟩)
 }
 {
 skip
 refine box_step ?hg (N := 6) ?hd (cs := #[.int .i64 0, .slice none 0 0]) (t := 47) ?hr ?_; (case hd => rfl); (case hg => rfl); (case hr => go_simp <;> rfl)
 intro gb272 hg w16 hbox hb
 have n0_ := mK (Kd.R_below (by (with_reducible repeat first|apply rA|apply rN|apply rD); exact HO268.out) hb)
 have n1_ := mK (blk_below (by (with_reducible repeat first|apply kN|apply kD|apply kA); exact BK260.out) hb)
 have n2_ := mK (blk_below (by (with_reducible repeat first|apply kN|apply kD|apply kA); exact BK261.out) hb)
 have n3_ := mK (blk_below (by (with_reducible repeat first|apply kN|apply kD|apply kA); exact BK262.out) hb)
 have n4_ := mK (below_step (by repeat first|(with_reducible first|exact HB.out|apply bA|apply bN|apply bD|refine bS ?_ GE260.out|refine bS ?_ GE261.out|refine bS ?_ GE262.out)|exact HB.out) hb)
 have n5_ := mK (hbox)
 have n6_ := mK ((by rw [hg]; exact (below_size (by repeat first|(with_reducible first|exact HB.out|apply bA|apply bN|apply bD|refine bS ?_ GE260.out|refine bS ?_ GE261.out|refine bS ?_ GE262.out)|exact HB.out)) : w.heap.size ≤ gb272))
 have n7_ := mK ((by rw [hg]; exact (below_size (by repeat first|(with_reducible first|exact HB.out|apply bA|apply bN|apply bD|refine bS ?_ GE260.out|refine bS ?_ GE261.out|refine bS ?_ GE262.out)|exact HB.out)) : w.heap.size ≤ gb272))
 have n8_ := mK ((by rw [hg]; exact Nat.ne_of_lt (blk_lt (by (with_reducible repeat first|apply kN|apply kD|apply kA); exact BK260.out)) : gb260 ≠ gb272))
 have n9_ := mK ((by rw [hg]; exact Nat.ne_of_gt (blk_lt (by (with_reducible repeat first|apply kN|apply kD|apply kA); exact BK260.out)) : gb272 ≠ gb260))
 have n10_ := mK ((by rw [hg]; exact Nat.ne_of_lt (blk_lt (by (with_reducible repeat first|apply kN|apply kD|apply kA); exact BK261.out)) : gb261 ≠ gb272))
 have n11_ := mK ((by rw [hg]; exact Nat.ne_of_gt (blk_lt (by (with_reducible repeat first|apply kN|apply kD|apply kA); exact BK261.out)) : gb272 ≠ gb261))
 have n12_ := mK ((by rw [hg]; exact Nat.ne_of_lt (blk_lt (by (with_reducible repeat first|apply kN|apply kD|apply kA); exact BK262.out)) : gb262 ≠ gb272))
 have n13_ := mK ((by rw [hg]; exact Nat.ne_of_gt (blk_lt (by (with_reducible repeat first|apply kN|apply kD|apply kA); exact BK262.out)) : gb272 ≠ gb262))
 clear HO268
 clear BK260
 clear BK261
 clear BK262
 clear HB
 have HO268 := n0_
 have BK260 := n1_
 have BK261 := n2_
 have BK262 := n3_
 have HB := n4_
 have BK272 := n5_
 have GW272 := n6_
 have GE272 := n7_
 have NB260_272 := n8_
 have NB272_260 := n9_
 have NB261_272 := n10_
 have NB272_261 := n11_
 have NB262_272 := n12_
 have NB272_262 := n13_
 clear n0_ n1_ n2_ n3_ n4_ n5_ n6_ n7_ n8_ n9_ n10_ n11_ n12_ n13_
 clear hb hbox hg
 refine hK.out _ _ ⟨(blk_cell BK260.out 0).trans rfl, (blk_cell BK260.out 1).trans rfl, (blk_cell BK261.out 0).trans rfl, (blk_cell BK261.out 1).trans rfl, (blk_cell BK261.out 2).trans rfl, (blk_cell BK261.out 3).trans rfl⟩ (fun hHeld => ?_)
 clear hK K
 refine norm_ (a' := ?_) ?_ ?_
 rotate_left
 {
 show Act.put _ (some 6) _ = _
 simp only [Act.put, sT, sZ, sU, i64_w, i32_w]
 rfl
 }
 exact norm_ (by simp only [putAll, Act.put, sT, sZ, sU] <;> rfl) (hJ6_9 (v267, gb272) _ ⟨hHeld, HO268.out, BK260.out, BK261.out, BK262.out, BK272.out, GW272.out, GE272.out, NB260_272.out, NB272_260.out, NB261_272.out, NB272_261.out, NB262_272.out, NB272_262.out, HB.out⟩)
 }
 }
 }
 {
 skip
 rintro v264 w14 ⟨hS_, h0_, h1_, h2_, h3_, h4_⟩
 have n0_ : Aside0 (Kd.R k76 76 w14 w.heap.size (fun k_ => k_ ≠ gb261) v264 t263) := ⟨h0_⟩
 have n1_ : Aside0 (w14.heap[gb260]? = some (.cells #[.int .i64 a0_0, .slice A0_1 l0_1.length c0_1] 47 (0, 0))) := ⟨h1_⟩
 have n2_ : Aside0 (w14.heap[gb261]? = some (.cells #[.int .i64 a1_0, .int .i64 a1_1, .int .i64 a1_2, .int .i64 a1_3] 76 (0, 0))) := ⟨h2_⟩
 have n3_ : Aside0 (w14.heap[gb262]? = some (.cells #[.int .i64 0, .slice none 0 0] 47 (0, 0))) := ⟨h3_⟩
 have n4_ : Aside0 (Below w.heap.size w w14) := ⟨h4_⟩
 clear BK260
 clear BK261
 clear BK262
 clear HB
 clear h0_ h1_ h2_ h3_ h4_
 have HO265 := n0_
 have BK260 := n1_
 have BK261 := n2_
 have BK262 := n3_
 have HB := n4_
 clear n0_ n1_ n2_ n3_ n4_
 have hHeld : w14.cell? ⟨gb260, 0, none⟩ = some (.int .i64 a0_0) ∧ w14.cell? ⟨gb260, 1, none⟩ = some (.slice A0_1 l0_1.length c0_1) ∧ w14.cell? ⟨gb261, 0, none⟩ = some (.int .i64 a1_0) ∧ w14.cell? ⟨gb261, 1, none⟩ = some (.int .i64 a1_1) ∧ w14.cell? ⟨gb261, 2, none⟩ = some (.int .i64 a1_2) ∧ w14.cell? ⟨gb261, 3, none⟩ = some (.int .i64 a1_3) := hS_
 refine norm_ (a' := ?_) ?_ ?_
 rotate_left
 {
 simp only [putAll, Act.put, sT, sZ, sU]
 rfl
 }
 refine two_ (i := 6) (j := 9) (Ni := some 13) (Nj := some 6) #[true, true, true, true, true, true, true, false, false, false, false] #[true, true, true, true, true, true, false, false, false, true, false] rfl rfl rfl rfl (two_of HT_.out (by kernel_rfl)) (by decide) (by decide) (fun K hK => ?_) (fun K hK => ?_)
 {
 skip
 refine Kd.R_lit_step k76 _ 76 ?hg (N := 13) ?hd (xs := ([(⟨a1_0, a1_1, (⟨a1_2, a1_3⟩ : S52)⟩ : S76)] : List (S76))) (inner := [.int .i64 a1_0, .int .i64 a1_1, .int .i64 a1_2, .int .i64 a1_3]) (ok := fun _ => True) (okp := fun _ => True) ?hr ?hp (fun _ hk => hk) trivial (Below.refl _ _) (Nat.le_refl _) (by simp) ?_; (case hd => rfl); (case hg => rfl); (case hr => go_simp <;> rfl); (case hp => exact (Reps.c4 (show Kd.M k76 _ _ _ (⟨a1_0, a1_1, (⟨a1_2, a1_3⟩ : S52)⟩ : S76) [.int .i64 a1_0, .int .i64 a1_1, .int .i64 a1_2, .int .i64 a1_3] from (k76_mkM _ _ _ (⟨a1_0, a1_1, (⟨a1_2, a1_3⟩ : S52)⟩ : S76) )) (Reps.none _ _)))
 intro v267 w15 ho16 hb hg_ hnew_
 clear hg_ hnew_
 (first | rw [← Ny266.out] at ho16 | (simp only [Int.reduceToNat] at ho16; rw [← Ny266.out] at ho16))
 have n0_ := mK (Kd.R_elder' (by (with_reducible repeat first|apply rA|apply rN|apply rD); exact HO265.out) (Kd.R_base ho16) hb)
 have n1_ := mK (Kd.R_lower (Kd.R_newB (Kd.R_new' ho16 (Kd.R_lt (by (with_reducible repeat first|apply rA|apply rN|apply rD); exact HO265.out))) (by (with_reducible repeat first|apply kN|apply kD|apply kA); exact BK261.out)) (below_size (by repeat first|(with_reducible first|exact HB.out|apply bA|apply bN|apply bD|refine bS ?_ GE260.out|refine bS ?_ GE261.out|refine bS ?_ GE262.out)|exact HB.out)))
 have n2_ := mK (blk_below (by (with_reducible repeat first|apply kN|apply kD|apply kA); exact BK260.out) hb)
 have n3_ := mK (blk_below (by (with_reducible repeat first|apply kN|apply kD|apply kA); exact BK261.out) hb)
 have n4_ := mK (blk_below (by (with_reducible repeat first|apply kN|apply kD|apply kA); exact BK262.out) hb)
 have n5_ := mK (below_step (by repeat first|(with_reducible first|exact HB.out|apply bA|apply bN|apply bD|refine bS ?_ GE260.out|refine bS ?_ GE261.out|refine bS ?_ GE262.out)|exact HB.out) hb)
 clear HO265
 clear BK260
 clear BK261
 clear BK262
 clear HB
 have HO265 := n0_
 have HO268 := n1_
 have BK260 := n2_
 have BK261 := n3_
 have BK262 := n4_
 have HB := n5_
 clear n0_ n1_ n2_ n3_ n4_ n5_
 clear hb ho16
 refine hK.out _ _ ⟨(blk_cell BK260.out 0).trans rfl, (blk_cell BK260.out 1).trans rfl, (blk_cell BK261.out 0).trans rfl, (blk_cell BK261.out 1).trans rfl, (blk_cell BK261.out 2).trans rfl, (blk_cell BK261.out 3).trans rfl⟩ (fun hHeld => ?_)
 clear hK K
 refine norm_ (a' := ?_) ?_ ?_
 rotate_left
 {
 show Act.put _ (some 13) _ = _
 simp only [Act.put, sT, sZ, sU, i64_w, i32_w]
 rfl
 }
 exact norm_ (by simp only [putAll, Act.put, sT, sZ, sU] <;> rfl) (hJ4_6 (v264, v267) _ ⟨hHeld, (Kd.R_mono HO265.out (fun _ hk => ⟨hk.2, hk.1⟩)), (Kd.R_mono HO268.out (fun _ hk => ⟨hk.1.2, hk.2⟩)), BK260.out, BK261.out, BK262.out, HB.out⟩)
 }
 {
 skip
 refine box_step ?hg (N := 6) ?hd (cs := #[.int .i64 0, .slice none 0 0]) (t := 47) ?hr ?_; (case hd => rfl); (case hg => rfl); (case hr => go_simp <;> rfl)
 intro gb272 hg w15 hbox hb
 have n0_ := mK (Kd.R_below (by (with_reducible repeat first|apply rA|apply rN|apply rD); exact HO265.out) hb)
 have n1_ := mK (blk_below (by (with_reducible repeat first|apply kN|apply kD|apply kA); exact BK260.out) hb)
 have n2_ := mK (blk_below (by (with_reducible repeat first|apply kN|apply kD|apply kA); exact BK261.out) hb)
 have n3_ := mK (blk_below (by (with_reducible repeat first|apply kN|apply kD|apply kA); exact BK262.out) hb)
 have n4_ := mK (below_step (by repeat first|(with_reducible first|exact HB.out|apply bA|apply bN|apply bD|refine bS ?_ GE260.out|refine bS ?_ GE261.out|refine bS ?_ GE262.out)|exact HB.out) hb)
 have n5_ := mK (hbox)
 have n6_ := mK ((by rw [hg]; exact (below_size (by repeat first|(with_reducible first|exact HB.out|apply bA|apply bN|apply bD|refine bS ?_ GE260.out|refine bS ?_ GE261.out|refine bS ?_ GE262.out)|exact HB.out)) : w.heap.size ≤ gb272))
 have n7_ := mK ((by rw [hg]; exact (below_size (by repeat first|(with_reducible first|exact HB.out|apply bA|apply bN|apply bD|refine bS ?_ GE260.out|refine bS ?_ GE261.out|refine bS ?_ GE262.out)|exact HB.out)) : w.heap.size ≤ gb272))
 have n8_ := mK ((by rw [hg]; exact Nat.ne_of_lt (blk_lt (by (with_reducible repeat first|apply kN|apply kD|apply kA); exact BK260.out)) : gb260 ≠ gb272))
 have n9_ := mK ((by rw [hg]; exact Nat.ne_of_gt (blk_lt (by (with_reducible repeat first|apply kN|apply kD|apply kA); exact BK260.out)) : gb272 ≠ gb260))
 have n10_ := mK ((by rw [hg]; exact Nat.ne_of_lt (blk_lt (by (with_reducible repeat first|apply kN|apply kD|apply kA); exact BK261.out)) : gb261 ≠ gb272))
 have n11_ := mK ((by rw [hg]; exact Nat.ne_of_gt (blk_lt (by (with_reducible repeat first|apply kN|apply kD|apply kA); exact BK261.out)) : gb272 ≠ gb261))
 have n12_ := mK ((by rw [hg]; exact Nat.ne_of_lt (blk_lt (by (with_reducible repeat first|apply kN|apply kD|apply kA); exact BK262.out)) : gb262 ≠ gb272))
 have n13_ := mK ((by rw [hg]; exact Nat.ne_of_gt (blk_lt (by (with_reducible repeat first|apply kN|apply kD|apply kA); exact BK262.out)) : gb272 ≠ gb262))
 clear HO265
 clear BK260
 clear BK261
 clear BK262
 clear HB
 have HO265 := n0_
 have BK260 := n1_
 have BK261 := n2_
 have BK262 := n3_
 have HB := n4_
 have BK272 := n5_
 have GW272 := n6_
 have GE272 := n7_
 have NB260_272 := n8_
 have NB272_260 := n9_
 have NB261_272 := n10_
 have NB272_261 := n11_
 have NB262_272 := n12_
 have NB272_262 := n13_
 clear n0_ n1_ n2_ n3_ n4_ n5_ n6_ n7_ n8_ n9_ n10_ n11_ n12_ n13_
 clear hb hbox hg
 refine hK.out _ _ ⟨(blk_cell BK260.out 0).trans rfl, (blk_cell BK260.out 1).trans rfl, (blk_cell BK261.out 0).trans rfl, (blk_cell BK261.out 1).trans rfl, (blk_cell BK261.out 2).trans rfl, (blk_cell BK261.out 3).trans rfl⟩ (fun hHeld => ?_)
 clear hK K
 refine norm_ (a' := ?_) ?_ ?_
 rotate_left
 {
 show Act.put _ (some 6) _ = _
 simp only [Act.put, sT, sZ, sU, i64_w, i32_w]
 rfl
 }
 exact norm_ (by simp only [putAll, Act.put, sT, sZ, sU] <;> rfl) (hJ4_9 (v264, gb272) _ ⟨hHeld, HO265.out, BK260.out, BK261.out, BK262.out, BK272.out, GW272.out, GE272.out, NB260_272.out, NB272_260.out, NB261_272.out, NB272_261.out, NB262_272.out, NB272_262.out, HB.out⟩)
 }
 }
 }
 {
 skip
 rintro ⟨v267, gb272⟩ w16 ⟨hS_, h0_, h1_, h2_, h3_, h4_, h5_, h6_, h7_, h8_, h9_, h10_, h11_, h12_, h13_⟩
 have n0_ : Aside0 (Kd.R k76 76 w16 w.heap.size (fun k_ => k_ ≠ gb261) v267 y266) := ⟨h0_⟩
 have n1_ : Aside0 (w16.heap[gb260]? = some (.cells #[.int .i64 a0_0, .slice A0_1 l0_1.length c0_1] 47 (0, 0))) := ⟨h1_⟩
 have n2_ : Aside0 (w16.heap[gb261]? = some (.cells #[.int .i64 a1_0, .int .i64 a1_1, .int .i64 a1_2, .int .i64 a1_3] 76 (0, 0))) := ⟨h2_⟩
 have n3_ : Aside0 (w16.heap[gb262]? = some (.cells #[.int .i64 0, .slice none 0 0] 47 (0, 0))) := ⟨h3_⟩
 have n4_ : Aside0 (w16.heap[gb272]? = some (.cells #[.int .i64 0, .slice none 0 0] 47 (0, 0))) := ⟨h4_⟩
 have n5_ : Aside0 (w.heap.size ≤ gb272) := ⟨h5_⟩
 have n6_ : Aside0 (w.heap.size ≤ gb272) := ⟨h6_⟩
 have n7_ : Aside0 (gb260 ≠ gb272) := ⟨h7_⟩
 have n8_ : Aside0 (gb272 ≠ gb260) := ⟨h8_⟩
 have n9_ : Aside0 (gb261 ≠ gb272) := ⟨h9_⟩
 have n10_ : Aside0 (gb272 ≠ gb261) := ⟨h10_⟩
 have n11_ : Aside0 (gb262 ≠ gb272) := ⟨h11_⟩
 have n12_ : Aside0 (gb272 ≠ gb262) := ⟨h12_⟩
 have n13_ : Aside0 (Below w.heap.size w w16) := ⟨h13_⟩
 clear BK260
 clear BK261
 clear BK262
 clear HB
 clear h0_ h1_ h2_ h3_ h4_ h5_ h6_ h7_ h8_ h9_ h10_ h11_ h12_ h13_
 have HO268 := n0_
 have BK260 := n1_
 have BK261 := n2_
 have BK262 := n3_
 have BK272 := n4_
 have GW272 := n5_
 have GE272 := n6_
 have NB260_272 := n7_
 have NB272_260 := n8_
 have NB261_272 := n9_
 have NB272_261 := n10_
 have NB262_272 := n11_
 have NB272_262 := n12_
 have HB := n13_
 clear n0_ n1_ n2_ n3_ n4_ n5_ n6_ n7_ n8_ n9_ n10_ n11_ n12_ n13_
 have hHeld : w16.cell? ⟨gb260, 0, none⟩ = some (.int .i64 a0_0) ∧ w16.cell? ⟨gb260, 1, none⟩ = some (.slice A0_1 l0_1.length c0_1) ∧ w16.cell? ⟨gb261, 0, none⟩ = some (.int .i64 a1_0) ∧ w16.cell? ⟨gb261, 1, none⟩ = some (.int .i64 a1_1) ∧ w16.cell? ⟨gb261, 2, none⟩ = some (.int .i64 a1_2) ∧ w16.cell? ⟨gb261, 3, none⟩ = some (.int .i64 a1_3) := hS_
 refine norm_ (a' := ?_) ?_ ?_
 rotate_left
 {
 simp only [putAll, Act.put, sT, sZ, sU]
 rfl
 }
 refine one_ (i := 4) (N := some 11) #[true, true, true, true, true, true, true, false, false, true, false] rfl rfl (one_of HT_.out (by kernel_rfl)) (by decide) (fun K hK => ?_)
 refine goes_ Try.func86 (by kernel_rfl) rfl #[.slice A0_1 l0_1.length c0_1] (by rfl) rfl rfl (by (try simp only [List.map_toArray, List.map_cons, List.map_nil]); first | done | rfl | (simp only [List.length_drop, List.length_take]; rfl)) ?_
 with_reducible refine (impl_Link_86.calls _ _ l0_1 t263 _ ?side1 ?side2 A3.out).mono ?_
 (case side1 => repeat (first | exact (Kd.C_below HR0_1.out HB.out) | (with_reducible refine Kd.C_alloc ?_ _) | (with_reducible refine Kd.C_drewN ?_ _) | (with_reducible refine Kd.C_drew ?_)))
 (case side2 => exact HC0_1.out)
 rintro e w17 ⟨v264, rfl, ho0, hb⟩
 refine ⟨_, rfl, ?_⟩
 have n0_ := mK (Kd.R_elder' (by (with_reducible repeat first|apply rA|apply rN|apply rD); exact HO268.out) (Kd.R_base ho0) hb)
 have n1_ := mK (Kd.R_lower (Kd.R_newB (Kd.R_new' ho0 (Kd.R_lt (by (with_reducible repeat first|apply rA|apply rN|apply rD); exact HO268.out))) (by (with_reducible repeat first|apply kN|apply kD|apply kA); exact BK261.out)) (below_size (by repeat first|(with_reducible first|exact HB.out|apply bA|apply bN|apply bD|refine bS ?_ GE260.out|refine bS ?_ GE261.out|refine bS ?_ GE262.out|refine bS ?_ GE272.out)|exact HB.out)))
 have n2_ := mK (blk_below (by (with_reducible repeat first|apply kN|apply kD|apply kA); exact BK260.out) hb)
 have n3_ := mK (blk_below (by (with_reducible repeat first|apply kN|apply kD|apply kA); exact BK261.out) hb)
 have n4_ := mK (blk_below (by (with_reducible repeat first|apply kN|apply kD|apply kA); exact BK262.out) hb)
 have n5_ := mK (blk_below (by (with_reducible repeat first|apply kN|apply kD|apply kA); exact BK272.out) hb)
 have n6_ := mK (below_step (by repeat first|(with_reducible first|exact HB.out|apply bA|apply bN|apply bD|refine bS ?_ GE260.out|refine bS ?_ GE261.out|refine bS ?_ GE262.out|refine bS ?_ GE272.out)|exact HB.out) hb)
 clear HO268
 clear BK260
 clear BK261
 clear BK262
 clear BK272
 clear HB
 have HO268 := n0_
 have HO265 := n1_
 have BK260 := n2_
 have BK261 := n3_
 have BK262 := n4_
 have BK272 := n5_
 have HB := n6_
 clear n0_ n1_ n2_ n3_ n4_ n5_ n6_
 (try clear hb)
 (try clear hb2)
 (try clear hk)
 (try clear hi)
 (try clear ho0)
 refine hK.out _ _ ⟨(blk_cell BK260.out 0).trans rfl, (blk_cell BK260.out 1).trans rfl, (blk_cell BK261.out 0).trans rfl, (blk_cell BK261.out 1).trans rfl, (blk_cell BK261.out 2).trans rfl, (blk_cell BK261.out 3).trans rfl⟩ (fun hHeld => ?_)
 clear hK K
 refine norm_ (a' := ?_) ?_ ?_
 rotate_left
 {
 show Act.put _ (some 11) _ = _
 simp only [Act.put, sT, sZ, sU, i64_w, i32_w]
 rfl
 }
 exact norm_ (by simp only [putAll, Act.put, sT, sZ, sU] <;> rfl) (hJ4_6_9 (v264, v267, gb272) _ ⟨hHeld, (Kd.R_mono HO265.out (fun _ hk => ⟨hk.1.2, hk.2⟩)), (Kd.R_mono HO268.out (fun _ hk => ⟨hk.2, hk.1⟩)), BK260.out, BK261.out, BK262.out, BK272.out, GW272.out, GE272.out, NB260_272.out, NB272_260.out, NB261_272.out, NB272_261.out, NB262_272.out, NB272_262.out, HB.out⟩)
 }
 }
 {
 skip
 rintro ⟨v264, gb272⟩ w15 ⟨hS_, h0_, h1_, h2_, h3_, h4_, h5_, h6_, h7_, h8_, h9_, h10_, h11_, h12_, h13_⟩
 have n0_ : Aside0 (Kd.R k76 76 w15 w.heap.size (fun k_ => k_ ≠ gb261) v264 t263) := ⟨h0_⟩
 have n1_ : Aside0 (w15.heap[gb260]? = some (.cells #[.int .i64 a0_0, .slice A0_1 l0_1.length c0_1] 47 (0, 0))) := ⟨h1_⟩
 have n2_ : Aside0 (w15.heap[gb261]? = some (.cells #[.int .i64 a1_0, .int .i64 a1_1, .int .i64 a1_2, .int .i64 a1_3] 76 (0, 0))) := ⟨h2_⟩
 have n3_ : Aside0 (w15.heap[gb262]? = some (.cells #[.int .i64 0, .slice none 0 0] 47 (0, 0))) := ⟨h3_⟩
 have n4_ : Aside0 (w15.heap[gb272]? = some (.cells #[.int .i64 0, .slice none 0 0] 47 (0, 0))) := ⟨h4_⟩
 have n5_ : Aside0 (w.heap.size ≤ gb272) := ⟨h5_⟩
 have n6_ : Aside0 (w.heap.size ≤ gb272) := ⟨h6_⟩
 have n7_ : Aside0 (gb260 ≠ gb272) := ⟨h7_⟩
 have n8_ : Aside0 (gb272 ≠ gb260) := ⟨h8_⟩
 have n9_ : Aside0 (gb261 ≠ gb272) := ⟨h9_⟩
 have n10_ : Aside0 (gb272 ≠ gb261) := ⟨h10_⟩
 have n11_ : Aside0 (gb262 ≠ gb272) := ⟨h11_⟩
 have n12_ : Aside0 (gb272 ≠ gb262) := ⟨h12_⟩
 have n13_ : Aside0 (Below w.heap.size w w15) := ⟨h13_⟩
 clear BK260
 clear BK261
 clear BK262
 clear HB
 clear h0_ h1_ h2_ h3_ h4_ h5_ h6_ h7_ h8_ h9_ h10_ h11_ h12_ h13_
 have HO265 := n0_
 have BK260 := n1_
 have BK261 := n2_
 have BK262 := n3_
 have BK272 := n4_
 have GW272 := n5_
 have GE272 := n6_
 have NB260_272 := n7_
 have NB272_260 := n8_
 have NB261_272 := n9_
 have NB272_261 := n10_
 have NB262_272 := n11_
 have NB272_262 := n12_
 have HB := n13_
 clear n0_ n1_ n2_ n3_ n4_ n5_ n6_ n7_ n8_ n9_ n10_ n11_ n12_ n13_
 have hHeld : w15.cell? ⟨gb260, 0, none⟩ = some (.int .i64 a0_0) ∧ w15.cell? ⟨gb260, 1, none⟩ = some (.slice A0_1 l0_1.length c0_1) ∧ w15.cell? ⟨gb261, 0, none⟩ = some (.int .i64 a1_0) ∧ w15.cell? ⟨gb261, 1, none⟩ = some (.int .i64 a1_1) ∧ w15.cell? ⟨gb261, 2, none⟩ = some (.int .i64 a1_2) ∧ w15.cell? ⟨gb261, 3, none⟩ = some (.int .i64 a1_3) := hS_
 refine norm_ (a' := ?_) ?_ ?_
 rotate_left
 {
 simp only [putAll, Act.put, sT, sZ, sU]
 rfl
 }
 refine one_ (i := 6) (N := some 13) #[true, true, true, true, true, true, true, false, false, true, false] rfl rfl (one_of HT_.out (by kernel_rfl)) (by decide) (fun K hK => ?_)
 refine Kd.R_lit_step k76 _ 76 ?hg (N := 13) ?hd (xs := ([(⟨a1_0, a1_1, (⟨a1_2, a1_3⟩ : S52)⟩ : S76)] : List (S76))) (inner := [.int .i64 a1_0, .int .i64 a1_1, .int .i64 a1_2, .int .i64 a1_3]) (ok := fun _ => True) (okp := fun _ => True) ?hr ?hp (fun _ hk => hk) trivial (Below.refl _ _) (Nat.le_refl _) (by simp) ?_; (case hd => rfl); (case hg => rfl); (case hr => go_simp <;> rfl); (case hp => exact (Reps.c4 (show Kd.M k76 _ _ _ (⟨a1_0, a1_1, (⟨a1_2, a1_3⟩ : S52)⟩ : S76) [.int .i64 a1_0, .int .i64 a1_1, .int .i64 a1_2, .int .i64 a1_3] from (k76_mkM _ _ _ (⟨a1_0, a1_1, (⟨a1_2, a1_3⟩ : S52)⟩ : S76) )) (Reps.none _ _)))
 intro v267 w16 ho17 hb hg_ hnew_
 clear hg_ hnew_
 (first | rw [← Ny266.out] at ho17 | (simp only [Int.reduceToNat] at ho17; rw [← Ny266.out] at ho17))
 have n0_ := mK (Kd.R_elder' (by (with_reducible repeat first|apply rA|apply rN|apply rD); exact HO265.out) (Kd.R_base ho17) hb)
 have n1_ := mK (Kd.R_lower (Kd.R_newB (Kd.R_new' ho17 (Kd.R_lt (by (with_reducible repeat first|apply rA|apply rN|apply rD); exact HO265.out))) (by (with_reducible repeat first|apply kN|apply kD|apply kA); exact BK261.out)) (below_size (by repeat first|(with_reducible first|exact HB.out|apply bA|apply bN|apply bD|refine bS ?_ GE260.out|refine bS ?_ GE261.out|refine bS ?_ GE262.out|refine bS ?_ GE272.out)|exact HB.out)))
 have n2_ := mK (blk_below (by (with_reducible repeat first|apply kN|apply kD|apply kA); exact BK260.out) hb)
 have n3_ := mK (blk_below (by (with_reducible repeat first|apply kN|apply kD|apply kA); exact BK261.out) hb)
 have n4_ := mK (blk_below (by (with_reducible repeat first|apply kN|apply kD|apply kA); exact BK262.out) hb)
 have n5_ := mK (blk_below (by (with_reducible repeat first|apply kN|apply kD|apply kA); exact BK272.out) hb)
 have n6_ := mK (below_step (by repeat first|(with_reducible first|exact HB.out|apply bA|apply bN|apply bD|refine bS ?_ GE260.out|refine bS ?_ GE261.out|refine bS ?_ GE262.out|refine bS ?_ GE272.out)|exact HB.out) hb)
 clear HO265
 clear BK260
 clear BK261
 clear BK262
 clear BK272
 clear HB
 have HO265 := n0_
 have HO268 := n1_
 have BK260 := n2_
 have BK261 := n3_
 have BK262 := n4_
 have BK272 := n5_
 have HB := n6_
 clear n0_ n1_ n2_ n3_ n4_ n5_ n6_
 clear hb ho17
 refine hK.out _ _ ⟨(blk_cell BK260.out 0).trans rfl, (blk_cell BK260.out 1).trans rfl, (blk_cell BK261.out 0).trans rfl, (blk_cell BK261.out 1).trans rfl, (blk_cell BK261.out 2).trans rfl, (blk_cell BK261.out 3).trans rfl⟩ (fun hHeld => ?_)
 clear hK K
 refine norm_ (a' := ?_) ?_ ?_
 rotate_left
 {
 show Act.put _ (some 13) _ = _
 simp only [Act.put, sT, sZ, sU, i64_w, i32_w]
 rfl
 }
 exact norm_ (by simp only [putAll, Act.put, sT, sZ, sU] <;> rfl) (hJ4_6_9 (v264, v267, gb272) _ ⟨hHeld, (Kd.R_mono HO265.out (fun _ hk => ⟨hk.2, hk.1⟩)), (Kd.R_mono HO268.out (fun _ hk => ⟨hk.1.2, hk.2⟩)), BK260.out, BK261.out, BK262.out, BK272.out, GW272.out, GE272.out, NB260_272.out, NB272_260.out, NB261_272.out, NB272_261.out, NB262_272.out, NB272_262.out, HB.out⟩)
 }
 }
 {
 skip
 rintro ⟨v264, v267⟩ w16 ⟨hS_, h0_, h1_, h2_, h3_, h4_, h5_⟩
 have n0_ : Aside0 (Kd.R k76 76 w16 w.heap.size (fun k_ => some k_ ≠ (v267 : Value).ownBlock ∧ k_ ≠ gb261) v264 t263) := ⟨h0_⟩
 have n1_ : Aside0 (Kd.R k76 76 w16 w.heap.size (fun k_ => some k_ ≠ (v264 : Value).ownBlock ∧ k_ ≠ gb261) v267 y266) := ⟨h1_⟩
 have n2_ : Aside0 (w16.heap[gb260]? = some (.cells #[.int .i64 a0_0, .slice A0_1 l0_1.length c0_1] 47 (0, 0))) := ⟨h2_⟩
 have n3_ : Aside0 (w16.heap[gb261]? = some (.cells #[.int .i64 a1_0, .int .i64 a1_1, .int .i64 a1_2, .int .i64 a1_3] 76 (0, 0))) := ⟨h3_⟩
 have n4_ : Aside0 (w16.heap[gb262]? = some (.cells #[.int .i64 0, .slice none 0 0] 47 (0, 0))) := ⟨h4_⟩
 have n5_ : Aside0 (Below w.heap.size w w16) := ⟨h5_⟩
 clear BK260
 clear BK261
 clear BK262
 clear HB
 clear h0_ h1_ h2_ h3_ h4_ h5_
 have HO265 := n0_
 have HO268 := n1_
 have BK260 := n2_
 have BK261 := n3_
 have BK262 := n4_
 have HB := n5_
 clear n0_ n1_ n2_ n3_ n4_ n5_
 have hHeld : w16.cell? ⟨gb260, 0, none⟩ = some (.int .i64 a0_0) ∧ w16.cell? ⟨gb260, 1, none⟩ = some (.slice A0_1 l0_1.length c0_1) ∧ w16.cell? ⟨gb261, 0, none⟩ = some (.int .i64 a1_0) ∧ w16.cell? ⟨gb261, 1, none⟩ = some (.int .i64 a1_1) ∧ w16.cell? ⟨gb261, 2, none⟩ = some (.int .i64 a1_2) ∧ w16.cell? ⟨gb261, 3, none⟩ = some (.int .i64 a1_3) := hS_
 obtain ⟨Ao18, co18, eo18⟩ := Kd.R_slice HO268.out
 (first | subst eo18 | (injection eo18 with f1_ f2_ f3_; have f4_ := f1_.symm; have f5_ := f3_.symm; clear f1_ f2_ f3_; subst f4_; subst f5_))
 refine norm_ (a' := ?_) ?_ ?_
 rotate_left
 {
 simp only [putAll, Act.put, sT, sZ, sU]
 rfl
 }
 refine two_ (i := 7) (j := 9) (Ni := some 14) (Nj := some 6) #[true, true, true, true, true, true, true, true, false, false, false] #[true, true, true, true, true, true, true, false, false, true, false] rfl rfl rfl rfl (two_of HT_.out (by kernel_rfl)) (by decide) (by decide) (fun K hK => ?_) (fun K hK => ?_)
 {
 skip
 refine Kd.R_append_rows_step k76 (w0 := w) w.heap.size (by rfl) (.tmp 11) (.tmp 13) 45 76 (.agg #[(.int .i64 0), (.int .i64 0), (.int .i64 0), (.int .i64 0)]) 32 rfl Try.underlying45 info76 rfl (by decide) (by omega) v264 t263 y266 _ _ _ (fun k_ => some k_ ≠ (.slice Ao18 y266.length co18 : Value).ownBlock ∧ k_ ≠ gb261) (fun _ => False) rfl rfl ?aO ?aR (fun _ _ h => h) (fun _ h => h.elim) ?aF ?aB ?aS ?aL ?_
 (case aR => repeat (first | exact (Kd.R_reads' HO268.out).2.2 | (with_reducible refine Kd.C_alloc ?_ _) | (with_reducible refine Kd.C_drewN ?_ _) | (with_reducible refine Kd.C_drew ?_)))
 (case aB => exact (by repeat first|(with_reducible first|exact HB.out|apply bA|apply bN|apply bD|refine bS ?_ GE260.out|refine bS ?_ GE261.out|refine bS ?_ GE262.out)|exact HB.out))
 (case aF => exact (fun k_ hk => ⟨Kd.fresh' (Kd.R_lt (by (with_reducible repeat first|apply rA|apply rN|apply rD); exact HO268.out)) k_ hk, Kd.freshB (by (with_reducible repeat first|apply kN|apply kD|apply kA); exact BK261.out) k_ hk⟩))
 (case aO => exact (by (with_reducible repeat first|apply rA|apply rN|apply rD); exact HO265.out))
 (case aS => exact (below_size (by repeat first|(with_reducible first|exact HB.out|apply bA|apply bN|apply bD|refine bS ?_ GE260.out|refine bS ?_ GE261.out|refine bS ?_ GE262.out)|exact HB.out)))
 (case aL => have := LMc4.out; omega)
 intro v270 w17 ho hb hg hat
 rw [← Ny269.out] at ho
 have n0_ := mK (blk_grown (by (with_reducible repeat first|apply kN|apply kD|apply kA); exact BK260.out) hg (Kd.R_ne HO265.out BK260.out (by decide)))
 have n1_ := mK (blk_grown (by (with_reducible repeat first|apply kN|apply kD|apply kA); exact BK261.out) hg (Kd.R_away HO265.out (fun _ hk => hk.2)))
 have n2_ := mK (blk_grown (by (with_reducible repeat first|apply kN|apply kD|apply kA); exact BK262.out) hg (Kd.R_ne HO265.out BK262.out (by decide)))
 have n3_ := mK (Kd.R_after (ok := (fun k_ => k_ ≠ gb261)) (by (with_reducible repeat first|apply rA|apply rN|apply rD); exact Kd.R_mono HO268.out (fun _ hk => ⟨hk.2, hk.1⟩)) hg hat)
 have n4_ := mK (hb)
 have n5_ := mK (ho)
 clear BK260
 clear BK261
 clear BK262
 clear HO268
 clear HB
 clear HO265
 have BK260 := n0_
 have BK261 := n1_
 have BK262 := n2_
 have HO268 := n3_
 have HB := n4_
 have HO271 := n5_
 clear n0_ n1_ n2_ n3_ n4_ n5_
 clear ho hb hg hat
 obtain ⟨Ao19, co19, eo19⟩ := Kd.R_slice HO271.out
 (first | subst eo19 | (injection eo19 with f1_ f2_ f3_; have f4_ := f1_.symm; have f5_ := f3_.symm; clear f1_ f2_ f3_; subst f4_; subst f5_))
 refine hK.out _ _ ⟨(blk_cell BK260.out 0).trans rfl, (blk_cell BK260.out 1).trans rfl, (blk_cell BK261.out 0).trans rfl, (blk_cell BK261.out 1).trans rfl, (blk_cell BK261.out 2).trans rfl, (blk_cell BK261.out 3).trans rfl⟩ (fun hHeld => ?_)
 clear hK K
 refine norm_ (a' := ?_) ?_ ?_
 rotate_left
 {
 show Act.put _ (some 14) _ = _
 simp only [Act.put, sT, sZ, sU, i64_w, i32_w]
 rfl
 }
 refine pure_ (i := 8) (N := some 15) (v := ?_) (a' := ?_) #[true, true, true, true, true, true, true, true, true, false, false] rfl rfl (any_of HT_.out (by kernel_rfl)) (fun _ _ _ h => h) (Or.inl ⟨by rfl, ?_⟩) ?_ ?_
 rotate_left
 {
 intro w'
 go_simp
 with_reducible rfl
 }
 rotate_left
 {
 simp only [Act.put, sT, sZ, sU, i64_w, i32_w]
 rfl
 }
 exact norm_ (by simp only [putAll, Act.put, sT, sZ, sU] <;> rfl) (hJ4_6_7 (v264, .slice Ao18 y266.length co18, .slice Ao19 y269.length co19) _ ⟨hHeld, (Kd.R_mono HO268.out (fun _ hk => ⟨hk.2, hk.1⟩)), HO271.out, BK260.out, BK261.out, BK262.out, HB.out⟩)
 }
 {
 skip
 refine box_step ?hg (N := 6) ?hd (cs := #[.int .i64 0, .slice none 0 0]) (t := 47) ?hr ?_; (case hd => rfl); (case hg => rfl); (case hr => go_simp <;> rfl)
 intro gb272 hg w17 hbox hb
 have n0_ := mK (Kd.R_below (by (with_reducible repeat first|apply rA|apply rN|apply rD); exact HO265.out) hb)
 have n1_ := mK (Kd.R_below (by (with_reducible repeat first|apply rA|apply rN|apply rD); exact HO268.out) hb)
 have n2_ := mK (blk_below (by (with_reducible repeat first|apply kN|apply kD|apply kA); exact BK260.out) hb)
 have n3_ := mK (blk_below (by (with_reducible repeat first|apply kN|apply kD|apply kA); exact BK261.out) hb)
 have n4_ := mK (blk_below (by (with_reducible repeat first|apply kN|apply kD|apply kA); exact BK262.out) hb)
 have n5_ := mK (below_step (by repeat first|(with_reducible first|exact HB.out|apply bA|apply bN|apply bD|refine bS ?_ GE260.out|refine bS ?_ GE261.out|refine bS ?_ GE262.out)|exact HB.out) hb)
 have n6_ := mK (hbox)
 have n7_ := mK ((by rw [hg]; exact (below_size (by repeat first|(with_reducible first|exact HB.out|apply bA|apply bN|apply bD|refine bS ?_ GE260.out|refine bS ?_ GE261.out|refine bS ?_ GE262.out)|exact HB.out)) : w.heap.size ≤ gb272))
 have n8_ := mK ((by rw [hg]; exact (below_size (by repeat first|(with_reducible first|exact HB.out|apply bA|apply bN|apply bD|refine bS ?_ GE260.out|refine bS ?_ GE261.out|refine bS ?_ GE262.out)|exact HB.out)) : w.heap.size ≤ gb272))
 have n9_ := mK ((by rw [hg]; exact Nat.ne_of_lt (blk_lt (by (with_reducible repeat first|apply kN|apply kD|apply kA); exact BK260.out)) : gb260 ≠ gb272))
 have n10_ := mK ((by rw [hg]; exact Nat.ne_of_gt (blk_lt (by (with_reducible repeat first|apply kN|apply kD|apply kA); exact BK260.out)) : gb272 ≠ gb260))
 have n11_ := mK ((by rw [hg]; exact Nat.ne_of_lt (blk_lt (by (with_reducible repeat first|apply kN|apply kD|apply kA); exact BK261.out)) : gb261 ≠ gb272))
 have n12_ := mK ((by rw [hg]; exact Nat.ne_of_gt (blk_lt (by (with_reducible repeat first|apply kN|apply kD|apply kA); exact BK261.out)) : gb272 ≠ gb261))
 have n13_ := mK ((by rw [hg]; exact Nat.ne_of_lt (blk_lt (by (with_reducible repeat first|apply kN|apply kD|apply kA); exact BK262.out)) : gb262 ≠ gb272))
 have n14_ := mK ((by rw [hg]; exact Nat.ne_of_gt (blk_lt (by (with_reducible repeat first|apply kN|apply kD|apply kA); exact BK262.out)) : gb272 ≠ gb262))
 clear HO265
 clear HO268
 clear BK260
 clear BK261
 clear BK262
 clear HB
 have HO265 := n0_
 have HO268 := n1_
 have BK260 := n2_
 have BK261 := n3_
 have BK262 := n4_
 have HB := n5_
 have BK272 := n6_
 have GW272 := n7_
 have GE272 := n8_
 have NB260_272 := n9_
 have NB272_260 := n10_
 have NB261_272 := n11_
 have NB272_261 := n12_
 have NB262_272 := n13_
 have NB272_262 := n14_
 clear n0_ n1_ n2_ n3_ n4_ n5_ n6_ n7_ n8_ n9_ n10_ n11_ n12_ n13_ n14_
 clear hb hbox hg
 refine hK.out _ _ ⟨(blk_cell BK260.out 0).trans rfl, (blk_cell BK260.out 1).trans rfl, (blk_cell BK261.out 0).trans rfl, (blk_cell BK261.out 1).trans rfl, (blk_cell BK261.out 2).trans rfl, (blk_cell BK261.out 3).trans rfl⟩ (fun hHeld => ?_)
 clear hK K
 refine norm_ (a' := ?_) ?_ ?_
 rotate_left
 {
 show Act.put _ (some 6) _ = _
 simp only [Act.put, sT, sZ, sU, i64_w, i32_w]
 rfl
 }
 exact norm_ (by simp only [putAll, Act.put, sT, sZ, sU] <;> rfl) (hJ4_6_9 (v264, .slice Ao18 y266.length co18, gb272) _ ⟨hHeld, HO265.out, HO268.out, BK260.out, BK261.out, BK262.out, BK272.out, GW272.out, GE272.out, NB260_272.out, NB272_260.out, NB261_272.out, NB272_261.out, NB262_272.out, NB272_262.out, HB.out⟩)
 }
 }
 }
 {
 skip
 rintro ⟨v264, v267, gb272⟩ w17 ⟨hS_, h0_, h1_, h2_, h3_, h4_, h5_, h6_, h7_, h8_, h9_, h10_, h11_, h12_, h13_, h14_⟩
 have n0_ : Aside0 (Kd.R k76 76 w17 w.heap.size (fun k_ => some k_ ≠ (v267 : Value).ownBlock ∧ k_ ≠ gb261) v264 t263) := ⟨h0_⟩
 have n1_ : Aside0 (Kd.R k76 76 w17 w.heap.size (fun k_ => some k_ ≠ (v264 : Value).ownBlock ∧ k_ ≠ gb261) v267 y266) := ⟨h1_⟩
 have n2_ : Aside0 (w17.heap[gb260]? = some (.cells #[.int .i64 a0_0, .slice A0_1 l0_1.length c0_1] 47 (0, 0))) := ⟨h2_⟩
 have n3_ : Aside0 (w17.heap[gb261]? = some (.cells #[.int .i64 a1_0, .int .i64 a1_1, .int .i64 a1_2, .int .i64 a1_3] 76 (0, 0))) := ⟨h3_⟩
 have n4_ : Aside0 (w17.heap[gb262]? = some (.cells #[.int .i64 0, .slice none 0 0] 47 (0, 0))) := ⟨h4_⟩
 have n5_ : Aside0 (w17.heap[gb272]? = some (.cells #[.int .i64 0, .slice none 0 0] 47 (0, 0))) := ⟨h5_⟩
 have n6_ : Aside0 (w.heap.size ≤ gb272) := ⟨h6_⟩
 have n7_ : Aside0 (w.heap.size ≤ gb272) := ⟨h7_⟩
 have n8_ : Aside0 (gb260 ≠ gb272) := ⟨h8_⟩
 have n9_ : Aside0 (gb272 ≠ gb260) := ⟨h9_⟩
 have n10_ : Aside0 (gb261 ≠ gb272) := ⟨h10_⟩
 have n11_ : Aside0 (gb272 ≠ gb261) := ⟨h11_⟩
 have n12_ : Aside0 (gb262 ≠ gb272) := ⟨h12_⟩
 have n13_ : Aside0 (gb272 ≠ gb262) := ⟨h13_⟩
 have n14_ : Aside0 (Below w.heap.size w w17) := ⟨h14_⟩
 clear BK260
 clear BK261
 clear BK262
 clear HB
 clear h0_ h1_ h2_ h3_ h4_ h5_ h6_ h7_ h8_ h9_ h10_ h11_ h12_ h13_ h14_
 have HO265 := n0_
 have HO268 := n1_
 have BK260 := n2_
 have BK261 := n3_
 have BK262 := n4_
 have BK272 := n5_
 have GW272 := n6_
 have GE272 := n7_
 have NB260_272 := n8_
 have NB272_260 := n9_
 have NB261_272 := n10_
 have NB272_261 := n11_
 have NB262_272 := n12_
 have NB272_262 := n13_
 have HB := n14_
 clear n0_ n1_ n2_ n3_ n4_ n5_ n6_ n7_ n8_ n9_ n10_ n11_ n12_ n13_ n14_
 have hHeld : w17.cell? ⟨gb260, 0, none⟩ = some (.int .i64 a0_0) ∧ w17.cell? ⟨gb260, 1, none⟩ = some (.slice A0_1 l0_1.length c0_1) ∧ w17.cell? ⟨gb261, 0, none⟩ = some (.int .i64 a1_0) ∧ w17.cell? ⟨gb261, 1, none⟩ = some (.int .i64 a1_1) ∧ w17.cell? ⟨gb261, 2, none⟩ = some (.int .i64 a1_2) ∧ w17.cell? ⟨gb261, 3, none⟩ = some (.int .i64 a1_3) := hS_
 obtain ⟨Ao19, co19, eo19⟩ := Kd.R_slice HO268.out
 (first | subst eo19 | (injection eo19 with f1_ f2_ f3_; have f4_ := f1_.symm; have f5_ := f3_.symm; clear f1_ f2_ f3_; subst f4_; subst f5_))
 refine norm_ (a' := ?_) ?_ ?_
 rotate_left
 {
 simp only [putAll, Act.put, sT, sZ, sU]
 rfl
 }
 refine one_ (i := 7) (N := some 14) #[true, true, true, true, true, true, true, true, false, true, false] rfl rfl (one_of HT_.out (by kernel_rfl)) (by decide) (fun K hK => ?_)
 refine Kd.R_append_rows_step k76 (w0 := w) w.heap.size (by rfl) (.tmp 11) (.tmp 13) 45 76 (.agg #[(.int .i64 0), (.int .i64 0), (.int .i64 0), (.int .i64 0)]) 32 rfl Try.underlying45 info76 rfl (by decide) (by omega) v264 t263 y266 _ _ _ (fun k_ => some k_ ≠ (.slice Ao19 y266.length co19 : Value).ownBlock ∧ k_ ≠ gb261) (fun _ => False) rfl rfl ?aO ?aR (fun _ _ h => h) (fun _ h => h.elim) ?aF ?aB ?aS ?aL ?_
 (case aR => repeat (first | exact (Kd.R_reads' HO268.out).2.2 | (with_reducible refine Kd.C_alloc ?_ _) | (with_reducible refine Kd.C_drewN ?_ _) | (with_reducible refine Kd.C_drew ?_)))
 (case aB => exact (by repeat first|(with_reducible first|exact HB.out|apply bA|apply bN|apply bD|refine bS ?_ GE260.out|refine bS ?_ GE261.out|refine bS ?_ GE262.out|refine bS ?_ GE272.out)|exact HB.out))
 (case aF => exact (fun k_ hk => ⟨Kd.fresh' (Kd.R_lt (by (with_reducible repeat first|apply rA|apply rN|apply rD); exact HO268.out)) k_ hk, Kd.freshB (by (with_reducible repeat first|apply kN|apply kD|apply kA); exact BK261.out) k_ hk⟩))
 (case aO => exact (by (with_reducible repeat first|apply rA|apply rN|apply rD); exact HO265.out))
 (case aS => exact (below_size (by repeat first|(with_reducible first|exact HB.out|apply bA|apply bN|apply bD|refine bS ?_ GE260.out|refine bS ?_ GE261.out|refine bS ?_ GE262.out|refine bS ?_ GE272.out)|exact HB.out)))
 (case aL => have := LMc4.out; omega)
 intro v270 w18 ho hb hg hat
 rw [← Ny269.out] at ho
 have n0_ := mK (blk_grown (by (with_reducible repeat first|apply kN|apply kD|apply kA); exact BK260.out) hg (Kd.R_ne HO265.out BK260.out (by decide)))
 have n1_ := mK (blk_grown (by (with_reducible repeat first|apply kN|apply kD|apply kA); exact BK261.out) hg (Kd.R_away HO265.out (fun _ hk => hk.2)))
 have n2_ := mK (blk_grown (by (with_reducible repeat first|apply kN|apply kD|apply kA); exact BK262.out) hg (Kd.R_ne HO265.out BK262.out (by decide)))
 have n3_ := mK (Kd.R_after (ok := (fun k_ => k_ ≠ gb261)) (by (with_reducible repeat first|apply rA|apply rN|apply rD); exact Kd.R_mono HO268.out (fun _ hk => ⟨hk.2, hk.1⟩)) hg hat)
 have n4_ := mK (blk_grown (by (with_reducible repeat first|apply kN|apply kD|apply kA); exact BK272.out) hg (Kd.R_ne HO265.out BK272.out (by decide)))
 have n5_ := mK (hb)
 have n6_ := mK (ho)
 clear BK260
 clear BK261
 clear BK262
 clear HO268
 clear BK272
 clear HB
 clear HO265
 have BK260 := n0_
 have BK261 := n1_
 have BK262 := n2_
 have HO268 := n3_
 have BK272 := n4_
 have HB := n5_
 have HO271 := n6_
 clear n0_ n1_ n2_ n3_ n4_ n5_ n6_
 clear ho hb hg hat
 obtain ⟨Ao20, co20, eo20⟩ := Kd.R_slice HO271.out
 (first | subst eo20 | (injection eo20 with f1_ f2_ f3_; have f4_ := f1_.symm; have f5_ := f3_.symm; clear f1_ f2_ f3_; subst f4_; subst f5_))
 refine hK.out _ _ ⟨(blk_cell BK260.out 0).trans rfl, (blk_cell BK260.out 1).trans rfl, (blk_cell BK261.out 0).trans rfl, (blk_cell BK261.out 1).trans rfl, (blk_cell BK261.out 2).trans rfl, (blk_cell BK261.out 3).trans rfl⟩ (fun hHeld => ?_)
 clear hK K
 refine norm_ (a' := ?_) ?_ ?_
 rotate_left
 {
 show Act.put _ (some 14) _ = _
 simp only [Act.put, sT, sZ, sU, i64_w, i32_w]
 rfl
 }
 refine pure_ (i := 8) (N := some 15) (v := ?_) (a' := ?_) #[true, true, true, true, true, true, true, true, true, true, false] rfl rfl (any_of HT_.out (by kernel_rfl)) (fun _ _ _ h => h) (Or.inl ⟨by rfl, ?_⟩) ?_ ?_
 rotate_left
 {
 intro w'
 go_simp
 with_reducible rfl
 }
 rotate_left
 {
 simp only [Act.put, sT, sZ, sU, i64_w, i32_w]
 rfl
 }
 exact norm_ (by simp only [putAll, Act.put, sT, sZ, sU] <;> rfl) (hJ4_6_7_9 (v264, .slice Ao19 y266.length co19, .slice Ao20 y269.length co20, gb272) _ ⟨hHeld, (Kd.R_mono HO268.out (fun _ hk => ⟨hk.2, hk.1⟩)), HO271.out, BK260.out, BK261.out, BK262.out, BK272.out, GW272.out, GE272.out, NB260_272.out, NB272_260.out, NB261_272.out, NB272_261.out, NB262_272.out, NB272_262.out, HB.out⟩)
 }
 }
 {
 skip
 rintro ⟨v264, v267, v270⟩ w19 ⟨hS_, h0_, h1_, h2_, h3_, h4_, h5_⟩
 have n0_ : Aside0 (Kd.R k76 76 w19 w.heap.size (fun k_ => some k_ ≠ (v270 : Value).ownBlock ∧ k_ ≠ gb261) v267 y266) := ⟨h0_⟩
 have n1_ : Aside0 (Kd.R k76 76 w19 w.heap.size (fun k_ => some k_ ≠ (v267 : Value).ownBlock ∧ k_ ≠ gb261) v270 y269) := ⟨h1_⟩
 have n2_ : Aside0 (w19.heap[gb260]? = some (.cells #[.int .i64 a0_0, .slice A0_1 l0_1.length c0_1] 47 (0, 0))) := ⟨h2_⟩
 have n3_ : Aside0 (w19.heap[gb261]? = some (.cells #[.int .i64 a1_0, .int .i64 a1_1, .int .i64 a1_2, .int .i64 a1_3] 76 (0, 0))) := ⟨h3_⟩
 have n4_ : Aside0 (w19.heap[gb262]? = some (.cells #[.int .i64 0, .slice none 0 0] 47 (0, 0))) := ⟨h4_⟩
 have n5_ : Aside0 (Below w.heap.size w w19) := ⟨h5_⟩
 clear BK260
 clear BK261
 clear BK262
 clear HB
 clear h0_ h1_ h2_ h3_ h4_ h5_
 have HO268 := n0_
 have HO271 := n1_
 have BK260 := n2_
 have BK261 := n3_
 have BK262 := n4_
 have HB := n5_
 clear n0_ n1_ n2_ n3_ n4_ n5_
 have hHeld : w19.cell? ⟨gb260, 0, none⟩ = some (.int .i64 a0_0) ∧ w19.cell? ⟨gb260, 1, none⟩ = some (.slice A0_1 l0_1.length c0_1) ∧ w19.cell? ⟨gb261, 0, none⟩ = some (.int .i64 a1_0) ∧ w19.cell? ⟨gb261, 1, none⟩ = some (.int .i64 a1_1) ∧ w19.cell? ⟨gb261, 2, none⟩ = some (.int .i64 a1_2) ∧ w19.cell? ⟨gb261, 3, none⟩ = some (.int .i64 a1_3) := hS_
 obtain ⟨Ao20, co20, eo20⟩ := Kd.R_slice HO271.out
 (first | subst eo20 | (injection eo20 with f1_ f2_ f3_; have f4_ := f1_.symm; have f5_ := f3_.symm; clear f1_ f2_ f3_; subst f4_; subst f5_))
 refine norm_ (a' := ?_) ?_ ?_
 rotate_left
 {
 simp only [putAll, Act.put, sT, sZ, sU]
 rfl
 }
 refine one_ (i := 9) (N := some 6) #[true, true, true, true, true, true, true, true, true, true, false] rfl rfl (one_of HT_.out (by kernel_rfl)) (by decide) (fun K hK => ?_)
 refine box_step ?hg (N := 6) ?hd (cs := #[.int .i64 0, .slice none 0 0]) (t := 47) ?hr ?_; (case hd => rfl); (case hg => rfl); (case hr => go_simp <;> rfl)
 intro gb272 hg w21 hbox hb
 have n0_ := mK (Kd.R_below (by (with_reducible repeat first|apply rA|apply rN|apply rD); exact HO268.out) hb)
 have n1_ := mK (Kd.R_below (by (with_reducible repeat first|apply rA|apply rN|apply rD); exact HO271.out) hb)
 have n2_ := mK (blk_below (by (with_reducible repeat first|apply kN|apply kD|apply kA); exact BK260.out) hb)
 have n3_ := mK (blk_below (by (with_reducible repeat first|apply kN|apply kD|apply kA); exact BK261.out) hb)
 have n4_ := mK (blk_below (by (with_reducible repeat first|apply kN|apply kD|apply kA); exact BK262.out) hb)
 have n5_ := mK (below_step (by repeat first|(with_reducible first|exact HB.out|apply bA|apply bN|apply bD|refine bS ?_ GE260.out|refine bS ?_ GE261.out|refine bS ?_ GE262.out)|exact HB.out) hb)
 have n6_ := mK (hbox)
 have n7_ := mK ((by rw [hg]; exact (below_size (by repeat first|(with_reducible first|exact HB.out|apply bA|apply bN|apply bD|refine bS ?_ GE260.out|refine bS ?_ GE261.out|refine bS ?_ GE262.out)|exact HB.out)) : w.heap.size ≤ gb272))
 have n8_ := mK ((by rw [hg]; exact (below_size (by repeat first|(with_reducible first|exact HB.out|apply bA|apply bN|apply bD|refine bS ?_ GE260.out|refine bS ?_ GE261.out|refine bS ?_ GE262.out)|exact HB.out)) : w.heap.size ≤ gb272))
 have n9_ := mK ((by rw [hg]; exact Nat.ne_of_lt (blk_lt (by (with_reducible repeat first|apply kN|apply kD|apply kA); exact BK260.out)) : gb260 ≠ gb272))
 have n10_ := mK ((by rw [hg]; exact Nat.ne_of_gt (blk_lt (by (with_reducible repeat first|apply kN|apply kD|apply kA); exact BK260.out)) : gb272 ≠ gb260))
 have n11_ := mK ((by rw [hg]; exact Nat.ne_of_lt (blk_lt (by (with_reducible repeat first|apply kN|apply kD|apply kA); exact BK261.out)) : gb261 ≠ gb272))
 have n12_ := mK ((by rw [hg]; exact Nat.ne_of_gt (blk_lt (by (with_reducible repeat first|apply kN|apply kD|apply kA); exact BK261.out)) : gb272 ≠ gb261))
 have n13_ := mK ((by rw [hg]; exact Nat.ne_of_lt (blk_lt (by (with_reducible repeat first|apply kN|apply kD|apply kA); exact BK262.out)) : gb262 ≠ gb272))
 have n14_ := mK ((by rw [hg]; exact Nat.ne_of_gt (blk_lt (by (with_reducible repeat first|apply kN|apply kD|apply kA); exact BK262.out)) : gb272 ≠ gb262))
 clear HO268
 clear HO271
 clear BK260
 clear BK261
 clear BK262
 clear HB
 have HO268 := n0_
 have HO271 := n1_
 have BK260 := n2_
 have BK261 := n3_
 have BK262 := n4_
 have HB := n5_
 have BK272 := n6_
 have GW272 := n7_
 have GE272 := n8_
 have NB260_272 := n9_
 have NB272_260 := n10_
 have NB261_272 := n11_
 have NB272_261 := n12_
 have NB262_272 := n13_
 have NB272_262 := n14_
 clear n0_ n1_ n2_ n3_ n4_ n5_ n6_ n7_ n8_ n9_ n10_ n11_ n12_ n13_ n14_
 clear hb hbox hg
 refine hK.out _ _ ⟨(blk_cell BK260.out 0).trans rfl, (blk_cell BK260.out 1).trans rfl, (blk_cell BK261.out 0).trans rfl, (blk_cell BK261.out 1).trans rfl, (blk_cell BK261.out 2).trans rfl, (blk_cell BK261.out 3).trans rfl⟩ (fun hHeld => ?_)
 clear hK K
 refine norm_ (a' := ?_) ?_ ?_
 rotate_left
 {
 show Act.put _ (some 6) _ = _
 simp only [Act.put, sT, sZ, sU, i64_w, i32_w]
 rfl
 }
 exact norm_ (by simp only [putAll, Act.put, sT, sZ, sU] <;> rfl) (hJ4_6_7_9 (v264, v267, .slice Ao20 y269.length co20, gb272) _ ⟨hHeld, HO268.out, HO271.out, BK260.out, BK261.out, BK262.out, BK272.out, GW272.out, GE272.out, NB260_272.out, NB272_260.out, NB261_272.out, NB272_261.out, NB262_272.out, NB272_262.out, HB.out⟩)
 }
 }
 rintro ⟨v264, v267, v270, gb272⟩ w20 ⟨hS_, h0_, h1_, h2_, h3_, h4_, h5_, h6_, h7_, h8_, h9_, h10_, h11_, h12_, h13_, h14_⟩
 have n0_ : Aside0 (Kd.R k76 76 w20 w.heap.size (fun k_ => some k_ ≠ (v270 : Value).ownBlock ∧ k_ ≠ gb261) v267 y266) := ⟨h0_⟩
 have n1_ : Aside0 (Kd.R k76 76 w20 w.heap.size (fun k_ => some k_ ≠ (v267 : Value).ownBlock ∧ k_ ≠ gb261) v270 y269) := ⟨h1_⟩
 have n2_ : Aside0 (w20.heap[gb260]? = some (.cells #[.int .i64 a0_0, .slice A0_1 l0_1.length c0_1] 47 (0, 0))) := ⟨h2_⟩
 have n3_ : Aside0 (w20.heap[gb261]? = some (.cells #[.int .i64 a1_0, .int .i64 a1_1, .int .i64 a1_2, .int .i64 a1_3] 76 (0, 0))) := ⟨h3_⟩
 have n4_ : Aside0 (w20.heap[gb262]? = some (.cells #[.int .i64 0, .slice none 0 0] 47 (0, 0))) := ⟨h4_⟩
 have n5_ : Aside0 (w20.heap[gb272]? = some (.cells #[.int .i64 0, .slice none 0 0] 47 (0, 0))) := ⟨h5_⟩
 have n6_ : Aside0 (w.heap.size ≤ gb272) := ⟨h6_⟩
 have n7_ : Aside0 (w.heap.size ≤ gb272) := ⟨h7_⟩
 have n8_ : Aside0 (gb260 ≠ gb272) := ⟨h8_⟩
 have n9_ : Aside0 (gb272 ≠ gb260) := ⟨h9_⟩
 have n10_ : Aside0 (gb261 ≠ gb272) := ⟨h10_⟩
 have n11_ : Aside0 (gb272 ≠ gb261) := ⟨h11_⟩
 have n12_ : Aside0 (gb262 ≠ gb272) := ⟨h12_⟩
 have n13_ : Aside0 (gb272 ≠ gb262) := ⟨h13_⟩
 have n14_ : Aside0 (Below w.heap.size w w20) := ⟨h14_⟩
 clear BK260
 clear BK261
 clear BK262
 clear HB
 clear h0_ h1_ h2_ h3_ h4_ h5_ h6_ h7_ h8_ h9_ h10_ h11_ h12_ h13_ h14_
 have HO268 := n0_
 have HO271 := n1_
 have BK260 := n2_
 have BK261 := n3_
 have BK262 := n4_
 have BK272 := n5_
 have GW272 := n6_
 have GE272 := n7_
 have NB260_272 := n8_
 have NB272_260 := n9_
 have NB261_272 := n10_
 have NB272_261 := n11_
 have NB262_272 := n12_
 have NB272_262 := n13_
 have HB := n14_
 clear n0_ n1_ n2_ n3_ n4_ n5_ n6_ n7_ n8_ n9_ n10_ n11_ n12_ n13_ n14_
 have hHeld : w20.cell? ⟨gb260, 0, none⟩ = some (.int .i64 a0_0) ∧ w20.cell? ⟨gb260, 1, none⟩ = some (.slice A0_1 l0_1.length c0_1) ∧ w20.cell? ⟨gb261, 0, none⟩ = some (.int .i64 a1_0) ∧ w20.cell? ⟨gb261, 1, none⟩ = some (.int .i64 a1_1) ∧ w20.cell? ⟨gb261, 2, none⟩ = some (.int .i64 a1_2) ∧ w20.cell? ⟨gb261, 3, none⟩ = some (.int .i64 a1_3) := hS_
 obtain ⟨Ao21, co21, eo21⟩ := Kd.R_slice HO271.out
 (first | subst eo21 | (injection eo21 with f1_ f2_ f3_; have f4_ := f1_.symm; have f5_ := f3_.symm; clear f1_ f2_ f3_; subst f4_; subst f5_))
 refine norm_ (a' := ?_) ?_ ?_
 rotate_left
 {
 simp only [putAll, Act.put, sT, sZ, sU]
 rfl
 }
 refine one_ (i := 10) (N := none) #[true, true, true, true, true, true, true, true, true, true, true] rfl rfl (one_of HT_.out (by kernel_rfl)) (by decide) (fun K hK => ?_)
 have hs22 : w20.cell? ⟨gb272, 0, none⟩ = some (.int .i64 0) := (blk_cell BK272.out 0).trans rfl
 have hfs22 := blk_frozen BK272.out 0
 have hns22_0 := NB260_272.out
 have hns22_1 := NB261_272.out
 have hns22_2 := NB262_272.out
 have hms22_0 := NB272_260.out
 have hms22_1 := NB272_261.out
 have hms22_2 := NB272_262.out
 have hs23 : w20.cell? ⟨gb272, 1, none⟩ = some (.slice none 0 0) := (blk_cell BK272.out 1).trans rfl
 have hfs23 := blk_frozen BK272.out 1
 have hns23_0 := NB260_272.out
 have hns23_1 := NB261_272.out
 have hns23_2 := NB262_272.out
 have hms23_0 := NB272_260.out
 have hms23_1 := NB272_261.out
 have hms23_2 := NB272_262.out
 refine skip_ (w1 := ?_) (by rfl) rfl ?_ ?_
 rotate_left
 {
 go_simp
 rfl
 }
 refine hK.out _ _ ⟨((cell_far (p := ⟨gb272, _, none⟩) NB260_272.out _).trans (((cell_far (p := ⟨gb272, _, none⟩) NB260_272.out _).trans (hHeld.1)))), ((cell_far (p := ⟨gb272, _, none⟩) NB260_272.out _).trans (((cell_far (p := ⟨gb272, _, none⟩) NB260_272.out _).trans (hHeld.2.1)))), ((cell_far (p := ⟨gb272, _, none⟩) NB261_272.out _).trans (((cell_far (p := ⟨gb272, _, none⟩) NB261_272.out _).trans (hHeld.2.2.1)))), ((cell_far (p := ⟨gb272, _, none⟩) NB261_272.out _).trans (((cell_far (p := ⟨gb272, _, none⟩) NB261_272.out _).trans (hHeld.2.2.2.1)))), ((cell_far (p := ⟨gb272, _, none⟩) NB261_272.out _).trans (((cell_far (p := ⟨gb272, _, none⟩) NB261_272.out _).trans (hHeld.2.2.2.2.1)))), ((cell_far (p := ⟨gb272, _, none⟩) NB261_272.out _).trans (((cell_far (p := ⟨gb272, _, none⟩) NB261_272.out _).trans (hHeld.2.2.2.2.2))))⟩ (fun hHeld => ?_)
 clear hK K
 refine done_ (done_of HT_.out (by kernel_rfl)) ?_
 have hnb24 := NB260_261.out
 have hnc24 := NB261_260.out
 have hnb25 := NB260_262.out
 have hnc25 := NB262_260.out
 have hnb26 := NB260_272.out
 have hnc26 := NB272_260.out
 have hcz27_0 : w20.cell? ⟨gb260, 0, none⟩ = some (.int .i64 a0_0) := (blk_cell BK260.out 0).trans rfl
 have hcz27_1 : w20.cell? ⟨gb260, 1, none⟩ = some (.slice A0_1 l0_1.length c0_1) := (blk_cell BK260.out 1).trans rfl
 have hfz27_0 := blk_frozen BK260.out 0
 have hfz27_1 := blk_frozen BK260.out 1
 try go_wp2_with (first | ((with_reducible refine gate_callee (f := 49) rfl ?_); refine goesL_ (some 17) rfl rfl Try.func49 (by kernel_rfl) rfl #[.agg #[.int .i64 a0_0, .slice A0_1 l0_1.length c0_1]] rfl (by (try simp only [List.map_toArray, List.map_cons, List.map_nil]); first | done | rfl | (simp only [List.length_drop, List.length_take]; rfl)) ?_; (with_reducible refine (impl_SimpleOk.calls a0_0 _ _ l0_1 true _ ?side1 ?side2 A5.out).mono ?_); (case side1 => exact Kd.C_below HR0_1.out (by repeat first|(with_reducible first|exact HB.out|apply bA|apply bN|apply bD|refine bS ?_ GE260.out|refine bS ?_ GE261.out|refine bS ?_ GE262.out|refine bS ?_ GE272.out)|exact HB.out)); (case side2 => exact HC0_1.out); rintro e w28 ⟨rfl, hb⟩; refine ⟨_, rfl, ?_⟩; have n0_ := mK (Kd.R_below (by (with_reducible repeat first|apply rA|apply rN|apply rD); exact (Kd.R_mono (Kd.R_far (p := ⟨gb272, 1, none⟩) (Kd.R_far (p := ⟨gb272, 0, none⟩) (Kd.R_types HO268.out BK272.out (by decide)) (fun _ hk => hk.2) (.int .i64 a0_0)) (fun _ hk => hk.2) (.slice Ao21 y269.length co21)) (fun _ h_ => h_.1))) hb); have n1_ := mK (Kd.R_below (by (with_reducible repeat first|apply rA|apply rN|apply rD); exact (Kd.R_mono (Kd.R_far (p := ⟨gb272, 1, none⟩) (Kd.R_far (p := ⟨gb272, 0, none⟩) (Kd.R_types HO271.out BK272.out (by decide)) (fun _ hk => hk.2) (.int .i64 a0_0)) (fun _ hk => hk.2) (.slice Ao21 y269.length co21)) (fun _ h_ => h_.1))) hb); have n2_ := mK (blk_below (g := gb260) (o := .cells #[.int .i64 a0_0, .slice A0_1 l0_1.length c0_1] 47 (0, 0)) (by (with_reducible repeat first|apply kN|apply kD|apply kA); refine blk_far ?_ NB260_272.out _; (with_reducible repeat first|apply kN|apply kD|apply kA); refine blk_far ?_ NB260_272.out _; (with_reducible repeat first|apply kN|apply kD|apply kA); exact BK260.out) hb); have n3_ := mK (blk_below (g := gb261) (o := .cells #[.int .i64 a1_0, .int .i64 a1_1, .int .i64 a1_2, .int .i64 a1_3] 76 (0, 0)) (by (with_reducible repeat first|apply kN|apply kD|apply kA); refine blk_far ?_ NB261_272.out _; (with_reducible repeat first|apply kN|apply kD|apply kA); refine blk_far ?_ NB261_272.out _; (with_reducible repeat first|apply kN|apply kD|apply kA); exact BK261.out) hb); have n4_ := mK (blk_below (g := gb262) (o := .cells #[.int .i64 0, .slice none 0 0] 47 (0, 0)) (by (with_reducible repeat first|apply kN|apply kD|apply kA); refine blk_far ?_ NB262_272.out _; (with_reducible repeat first|apply kN|apply kD|apply kA); refine blk_far ?_ NB262_272.out _; (with_reducible repeat first|apply kN|apply kD|apply kA); exact BK262.out) hb); have n5_ := mK (blk_below (g := gb272) (o := .cells #[.int .i64 a0_0, .slice Ao21 y269.length co21] 47 (0, 0)) (by (with_reducible repeat first|apply kN|apply kD|apply kA); refine blk_put (cs := #[.int .i64 a0_0, .slice none 0 0]) ?_ 1 _ rfl; (with_reducible repeat first|apply kN|apply kD|apply kA); refine blk_put (cs := #[.int .i64 0, .slice none 0 0]) ?_ 0 _ rfl; (with_reducible repeat first|apply kN|apply kD|apply kA); exact BK272.out) hb); have n6_ := mK (below_step (by repeat first|(with_reducible first|exact HB.out|apply bA|apply bN|apply bD|refine bS ?_ GE260.out|refine bS ?_ GE261.out|refine bS ?_ GE262.out|refine bS ?_ GE272.out)|exact HB.out) hb); clear HO268; clear HO271; clear BK260; clear BK261; clear BK262; clear BK272; clear HB; have HO268 := n0_; have HO271 := n1_; have BK260 := n2_; have BK261 := n3_; have BK262 := n4_; have BK272 := n5_; have HB := n6_; clear n0_ n1_ n2_ n3_ n4_ n5_ n6_; (try clear hb); (try clear hb2); (try clear hk); (try clear hi); have hnb29 := NB272_261.out; have hnc29 := NB261_272.out; have hnb30 := NB272_262.out; have hnc30 := NB262_272.out; have hcz31_0 : w28.cell? ⟨gb272, 0, none⟩ = some (.int .i64 a0_0) := (blk_cell BK272.out 0).trans rfl; have hcz31_1 : w28.cell? ⟨gb272, 1, none⟩ = some (.slice Ao21 y269.length co21) := (blk_cell BK272.out 1).trans rfl; have hfz31_0 := blk_frozen BK272.out 0; have hfz31_1 := blk_frozen BK272.out 1) | (go_at_call 49; (with_reducible refine (impl_SimpleOk.calls a0_0 _ _ y269 true _ ?side1 ?side2 A7.out).mono ?_); (case side1 => repeat (first | exact (Kd.R_reads' HO271.out).2.2 | (with_reducible refine Kd.C_alloc ?_ _) | (with_reducible refine Kd.C_drewN ?_ _) | (with_reducible refine Kd.C_drew ?_))); (case side2 => exact (Kd.R_reads' HO271.out).2.1); rintro e w32 ⟨rfl, hb⟩; have n0_ := mK (Kd.R_below (by (with_reducible repeat first|apply rA|apply rN|apply rD); exact HO268.out) hb); have n1_ := mK (Kd.R_below (by (with_reducible repeat first|apply rA|apply rN|apply rD); exact HO271.out) hb); have n2_ := mK (blk_below (by (with_reducible repeat first|apply kN|apply kD|apply kA); exact BK260.out) hb); have n3_ := mK (blk_below (by (with_reducible repeat first|apply kN|apply kD|apply kA); exact BK261.out) hb); have n4_ := mK (blk_below (by (with_reducible repeat first|apply kN|apply kD|apply kA); exact BK262.out) hb); have n5_ := mK (blk_below (by (with_reducible repeat first|apply kN|apply kD|apply kA); exact BK272.out) hb); have n6_ := mK (below_step (by repeat first|(with_reducible first|exact HB.out|apply bA|apply bN|apply bD|refine bS ?_ GE260.out|refine bS ?_ GE261.out|refine bS ?_ GE262.out|refine bS ?_ GE272.out)|exact HB.out) hb); clear HO268; clear HO271; clear BK260; clear BK261; clear BK262; clear BK272; clear HB; have HO268 := n0_; have HO271 := n1_; have BK260 := n2_; have BK261 := n3_; have BK262 := n4_; have BK272 := n5_; have HB := n6_; clear n0_ n1_ n2_ n3_ n4_ n5_ n6_; (try clear hb); (try clear hb2); (try clear hk); (try clear hi); have hcz33_0 : w32.cell? ⟨gb272, 0, none⟩ = some (.int .i64 a0_0) := (blk_cell BK272.out 0).trans rfl; have hcz33_1 : w32.cell? ⟨gb272, 1, none⟩ = some (.slice Ao21 y269.length co21) := (blk_cell BK272.out 1).trans rfl; have hfz33_0 := blk_frozen BK272.out 0; have hfz33_1 := blk_frozen BK272.out 1; have hnb34 := NB262_261.out; have hnc34 := NB261_262.out; have hcz35_0 : w32.cell? ⟨gb262, 0, none⟩ = some (.int .i64 0) := (blk_cell BK262.out 0).trans rfl; have hcz35_1 : w32.cell? ⟨gb262, 1, none⟩ = some (.slice none 0 0) := (blk_cell BK262.out 1).trans rfl; have hfz35_0 := blk_frozen BK262.out 0; have hfz35_1 := blk_frozen BK262.out 1))
 refine bodyPost_ret (results_ct rfl _ _ gb262 47 #[.int .i64 a0_0, .slice Ao21 y269.length co21] (0, 0) _ rfl (by (with_reducible repeat first|apply kN|apply kD|apply kA); refine blk_put (cs := #[.int .i64 a0_0, .slice none 0 0]) ?_ 1 _ rfl; (with_reducible repeat first|apply kN|apply kD|apply kA); refine blk_put (cs := #[.int .i64 0, .slice none 0 0]) ?_ 0 _ rfl; (with_reducible repeat first|apply kN|apply kD|apply kA); exact BK262.out) Try.underlying47 rfl (by kernel_rfl)) rfl ?_
 exact ⟨_, by first | rfl | (simp [errW_none, errW_some] <;> rfl) | (simp [*, errW_none, errW_some] <;> rfl), by (with_reducible repeat first|apply rA|apply rN|apply rD); exact Kd.R_mono (Kd.R_far (p := ⟨gb262, 1, none⟩) (Kd.R_far (p := ⟨gb262, 0, none⟩) (Kd.R_types HO271.out BK262.out (by decide)) (fun _ hk => hk.2) (.int .i64 a0_0)) (fun _ hk => hk.2) (.slice Ao21 y269.length co21)) (fun _ hk => trivial), by repeat first|(with_reducible first|exact HB.out|apply bA|apply bN|apply bD|refine bS ?_ GE260.out|refine bS ?_ GE261.out|refine bS ?_ GE262.out|refine bS ?_ GE272.out)|exact HB.out⟩

end Go.Proofs.Ytbbblnmngjhadaa.QFnConflicts
