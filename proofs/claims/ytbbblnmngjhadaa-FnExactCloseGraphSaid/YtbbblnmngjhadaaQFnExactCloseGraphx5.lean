-- Written by this session's program wip/tools/mk.py out of the translation; Lean checks it.
import Derived.Test.YtbbblnmngjhadaaQFnExactCloseGraphx0
import Derived.Test.YtbbblnmngjhadaaQFnExactCloseGraphx4
namespace Go.Proofs.Ytbbblnmngjhadaa.QFnExactCloseGraph
open Go.RowKit Go.Proofs.YtbbblnmngjhadaaW.PrintWords Go.Proofs.YtbbblnmngjhadaaW.PrintLast Go.Proofs.YtbbblnmngjhadaaW.PrintMore
attribute [local go_sem] max2_int min2_int max_two min_two max_three min_three max_four min_four   -- for this text's walks alone
set_option linter.unusedVariables false
set_option linter.unusedSimpArgs false

/-! ### impl_GraphOk: function 41 -/
section
open Go.Shelf Go.Lib
def gNodeB (n x : Int) : Bool := decide (0 ≤ x ∧ x < n)
theorem gNodeB_calls (n x : Int) (w : World) : Calls Try.prog 79 #[.int .i64 n, .int .i64 x] w fun e w' => e = .returned (.bool (gNodeB n x)) ∧ w = w' := by
  by_cases h1 : 0 ≤ x
  rotate_left
  · rw [show gNodeB n x = false from decide_eq_false (fun h => h1 h.1)]
    go_enter Try.func79, Try.ntmps79
    go_wp2
    go_ret
    exact ⟨by simp, rfl⟩
  by_cases h2 : x < n
  · rw [show gNodeB n x = true from decide_eq_true ⟨h1, h2⟩]
    go_enter Try.func79, Try.ntmps79
    go_wp2
    go_ret
    exact ⟨by simp, rfl⟩
  rw [show gNodeB n x = false from decide_eq_false (fun h => h2 h.2)]
  go_enter Try.func79, Try.ntmps79
  go_wp2
  go_ret
  exact ⟨by simp, rfl⟩
def gWeightB (x : Int) : Bool := decide (-1000000 < x ∧ x < 1000000)
theorem gWeightB_calls (x : Int) (w : World) : Calls Try.prog 82 #[.int .i64 x] w fun e w' => e = .returned (.bool (gWeightB x)) ∧ w = w' := by
  by_cases h1 : -1000000 < x
  rotate_left
  · rw [show gWeightB x = false from decide_eq_false (fun h => h1 h.1)]
    go_enter Try.func82, Try.ntmps82
    go_wp2
    go_ret
    exact ⟨by simp, rfl⟩
  by_cases h2 : x < 1000000
  · rw [show gWeightB x = true from decide_eq_true ⟨h1, h2⟩]
    go_enter Try.func82, Try.ntmps82
    go_wp2
    go_ret
    exact ⟨by simp, rfl⟩
  rw [show gWeightB x = false from decide_eq_false (fun h => h2 h.2)]
  go_enter Try.func82, Try.ntmps82
  go_wp2
  go_ret
  exact ⟨by simp, rfl⟩
def badEdge (n : Int) (e : S70) : Bool := !gNodeB n e.f0 || (!gNodeB n e.f1 || !gWeightB e.f2)
theorem badEdge_calls (n : Int) (B : Nat) (x : S70) (W : World) (hBW : B < W.heap.size) (hc : W.cell? ⟨B, 0, none⟩ = some (.int .i64 n)) :
    Calls Try.prog 81 #[.agg #[.int .i64 x.f0, .int .i64 x.f1, .int .i64 x.f2], .pointer (some ⟨B, 0, none⟩)] W fun e w' => e = .returned (.bool (badEdge n x)) ∧ Below W.heap.size W w' := by
  have hne : B ≠ W.heap.size := by omega
  obtain ⟨a, b, c⟩ := x
  show Calls Try.prog 81 #[.agg #[.int .i64 a, .int .i64 b, .int .i64 c], .pointer (some ⟨B, 0, none⟩)] W _
  obtain ⟨r1, h1⟩ : ∃ r, gNodeB n a = r := ⟨_, rfl⟩
  obtain ⟨r2, h2⟩ : ∃ r, gNodeB n b = r := ⟨_, rfl⟩
  obtain ⟨r3, h3⟩ : ∃ r, gWeightB c = r := ⟨_, rfl⟩
  have k1 := gNodeB_calls n a
  have k2 := gNodeB_calls n b
  have k3 := gWeightB_calls c
  rw [show badEdge n ⟨a, b, c⟩ = (!r1 || (!r2 || !r3)) by simp [badEdge, h1, h2, h3]]
  rw [h1] at k1
  rw [h2] at k2
  rw [h3] at k3
  clear h1 h2 h3
  cases r1 <;> cases r2 <;> cases r3
  all_goals
    go_enter Try.func81, Try.ntmps81
    go_wp2_with (first | (go_at_call 79; (with_reducible refine (k1 _).mono ?_); rintro e w' ⟨rfl, rfl⟩) | (go_at_call 79; (with_reducible refine (k2 _).mono ?_); rintro e w' ⟨rfl, rfl⟩) | (go_at_call 82; (with_reducible refine (k3 _).mono ?_); rintro e w' ⟨rfl, rfl⟩))
    go_ret
    exact ⟨by simp, (Below.refl _ W).alloc (Nat.le_refl _) _⟩
def impl_GraphOk.f (a0_0 : Int) (l0_1 : List (S70)) : Option (Bool) := some (if a0_0 < 0 then false else if a0_0 > 8 then false else if (l0_1.length : Int) > 80 then false else !(l0_1.any (badEdge a0_0)))
theorem impl_GraphOk.calls (a0_0 : Int) (A0_1 : Option Addr) (c0_1 : Nat) (l0_1 : List (S70)) (r : Bool) (w : World) (hr0_1 : Kd.C k70 w A0_1 l0_1.length l0_1) (hc0_1 : l0_1.length ≤ c0_1) (h : impl_GraphOk.f a0_0 l0_1 = some r) :
    Calls Try.prog 41 #[.agg #[.int .i64 a0_0, .slice A0_1 l0_1.length c0_1]] w fun e w' => e = .returned (.bool r) ∧ Below w.heap.size w w' := by
  obtain rfl := Option.some.inj h
  clear h
  by_cases h0 : a0_0 < 0
  · rw [if_pos h0]
    have h0 : decide (a0_0 < 0) = true := decide_eq_true h0
    go_enter Try.func41, Try.ntmps41
    go_wp2
    go_ret
    exact ⟨by simp, (Below.refl _ w).alloc (Nat.le_refl _) _⟩
  rw [if_neg h0]
  replace h0 : decide (a0_0 < 0) = false := decide_eq_false h0
  by_cases h1 : a0_0 > 8
  · rw [if_pos h1]
    have h1 : decide (8 < a0_0) = true := decide_eq_true h1
    go_enter Try.func41, Try.ntmps41
    go_wp2
    go_ret
    exact ⟨by simp, (Below.refl _ w).alloc (Nat.le_refl _) _⟩
  rw [if_neg h1]
  replace h1 : decide (8 < a0_0) = false := decide_eq_false h1
  by_cases h2 : (l0_1.length : Int) > 80
  · rw [if_pos h2]
    have h2 : decide (80 < (l0_1.length : Int)) = true := decide_eq_true h2
    go_enter Try.func41, Try.ntmps41
    go_wp2
    go_ret
    exact ⟨by simp, (Below.refl _ w).alloc (Nat.le_refl _) _⟩
  rw [if_neg h2]
  replace h2 : decide (80 < (l0_1.length : Int)) = false := decide_eq_false h2
  have eg : ∀ args w, (callFunc 81 args).run Try.prog w = .ok (.enter 81 args) w := enters_of Try.func81 (by kernel_rfl) rfl
  have hcon := anyEdge_at (badEdge a0_0) 81 #[.pointer (some ⟨w.heap.size, 0, none⟩)] eg A0_1 c0_1 l0_1 (w.alloc (.cells #[.int .i64 a0_0, .slice A0_1 l0_1.length c0_1] 33))
    (fun W x _ hb => (badEdge_calls a0_0 w.heap.size x W (Nat.lt_of_lt_of_le (by simp) hb.size) ((hb.cell (p := ⟨w.heap.size, 0, none⟩) (by simp)).trans (by simp))).mono fun e w' ⟨he, h⟩ => ⟨he, hb.trans (h.mono hb.size)⟩) (Kd.C_alloc hr0_1 _)
  generalize l0_1.any (badEdge a0_0) = r at hcon ⊢
  go_enter Try.func41, Try.ntmps41
  go_wp2_with (go_at_call 80; refine hcon.mono ?_; rintro e w' ⟨rfl, hb'⟩)
  go_ret
  exact ⟨by simp, ((Below.refl _ w).alloc (Nat.le_refl _) _).trans (hb'.mono (by simp))⟩
end

end Go.Proofs.Ytbbblnmngjhadaa.QFnExactCloseGraph
