-- Written by this session's program wip/tools/mk.py out of the translation; Lean checks it.
import Derived.Test.YtolecnichpnhnaaQFnExactWithLinkx0
import Derived.Test.YtolecnichpnhnaaQFnExactWithLinkx2
namespace Go.Proofs.Ytolecnichpnhnaa.QFnExactWithLink
open Go.RowKit Go.Proofs.YtolecnichpnhnaaW.PrintWords Go.Proofs.YtolecnichpnhnaaW.PrintLast Go.Proofs.YtolecnichpnhnaaW.PrintMore
attribute [local go_sem] max2_int min2_int max_two min_two max_three min_three max_four min_four   -- for this text's walks alone
set_option linter.unusedVariables false
set_option linter.unusedSimpArgs false

/-! ### impl_SimpleOk: function 14 -/
section
open Go.Shelf Go.Lib
def sNodeB (n x : Int) : Bool := decide (0 ≤ x ∧ x < n)
theorem sNodeB_calls (n x : Int) (w : World) : Calls Try.prog 46 #[.int .i64 n, .int .i64 x] w fun e w' => e = .returned (.bool (sNodeB n x)) ∧ w = w' := by
  by_cases h1 : 0 ≤ x
  rotate_left
  · rw [show sNodeB n x = false from decide_eq_false (fun h => h1 h.1)]
    go_enter Try.func46, Try.ntmps46
    go_wp2
    go_ret
    exact ⟨by simp, rfl⟩
  by_cases h2 : x < n
  · rw [show sNodeB n x = true from decide_eq_true ⟨h1, h2⟩]
    go_enter Try.func46, Try.ntmps46
    go_wp2
    go_ret
    exact ⟨by simp, rfl⟩
  rw [show sNodeB n x = false from decide_eq_false (fun h => h2 h.2)]
  go_enter Try.func46, Try.ntmps46
  go_wp2
  go_ret
  exact ⟨by simp, rfl⟩
def qokB (a b : Int) : Bool := decide (-1000000 ≤ a ∧ a ≤ b ∧ b ≤ 1000000 ∧ a ≠ 1000000 ∧ b ≠ -1000000)
theorem qokB_f (a b : Int) : impl_IntervalOk.f a b = some (qokB a b) := by
  unfold impl_IntervalOk.f qokB
  repeat' split
  all_goals (congr 1; first | (symm; rw [decide_eq_false_iff_not]; omega) | (rw [Bool.eq_iff_iff]; simp only [bne_iff_ne, ne_eq, decide_eq_true_eq]; omega))
def badLink (n : Int) (e : S47) : Bool := !sNodeB n e.f0 || (!sNodeB n e.f1 || !qokB e.f2.f0 e.f2.f1)
theorem badLink_calls (n : Int) (B : Nat) (x : S47) (W : World) (hBW : B < W.heap.size) (hc : W.cell? ⟨B, 0, none⟩ = some (.int .i64 n)) :
    Calls Try.prog 45 #[.agg #[.int .i64 x.f0, .int .i64 x.f1, .int .i64 x.f2.f0, .int .i64 x.f2.f1], .pointer (some ⟨B, 0, none⟩)] W fun e w' => e = .returned (.bool (badLink n x)) ∧ Below W.heap.size W w' := by
  have hne : B ≠ W.heap.size := by omega
  obtain ⟨a, b, c, d⟩ := x
  show Calls Try.prog 45 #[.agg #[.int .i64 a, .int .i64 b, .int .i64 c, .int .i64 d], .pointer (some ⟨B, 0, none⟩)] W _
  obtain ⟨r1, h1⟩ : ∃ r, sNodeB n a = r := ⟨_, rfl⟩
  obtain ⟨r2, h2⟩ : ∃ r, sNodeB n b = r := ⟨_, rfl⟩
  obtain ⟨r3, h3⟩ : ∃ r, qokB c d = r := ⟨_, rfl⟩
  have k1 := sNodeB_calls n a
  have k2 := sNodeB_calls n b
  have k3 := fun w => impl_IntervalOk.calls c d r3 w (by rw [qokB_f, h3])
  rw [show badLink n ⟨a, b, c, d⟩ = (!r1 || (!r2 || !r3)) by simp [badLink, h1, h2, h3]]
  rw [h1] at k1
  rw [h2] at k2
  clear h1 h2 h3
  cases r1 <;> cases r2 <;> cases r3
  all_goals
    go_enter Try.func45, Try.ntmps45
    first
    | (go_wp2_with (first | (go_at_call 46; (with_reducible refine (k1 _).mono ?_); rintro e w' ⟨rfl, rfl⟩) | (go_at_call 46; (with_reducible refine (k2 _).mono ?_); rintro e w' ⟨rfl, rfl⟩))
       go_ret
       exact ⟨by simp, (Below.refl _ W).alloc (Nat.le_refl _) _⟩)
    | (go_wp2_with (first | (go_at_call 46; (with_reducible refine (k1 _).mono ?_); rintro e w' ⟨rfl, rfl⟩) | (go_at_call 46; (with_reducible refine (k2 _).mono ?_); rintro e w' ⟨rfl, rfl⟩) | (go_at_call 47; (with_reducible refine (k3 _).mono ?_); rintro e w' ⟨rfl, hb'⟩))
       go_ret
       exact ⟨by simp, ((Below.refl _ W).alloc (Nat.le_refl _) _).trans (hb'.mono (by simp))⟩)
def impl_SimpleOk.f (a0_0 : Int) (l0_1 : List (S47)) : Option (Bool) := some (if a0_0 < 1 then false else if a0_0 > 8 then false else if (l0_1.length : Int) > 40 then false else !(l0_1.any (badLink a0_0)))
theorem impl_SimpleOk.calls (a0_0 : Int) (A0_1 : Option Addr) (c0_1 : Nat) (l0_1 : List (S47)) (r : Bool) (w : World) (hr0_1 : Kd.C k47 w A0_1 l0_1.length l0_1) (hc0_1 : l0_1.length ≤ c0_1) (h : impl_SimpleOk.f a0_0 l0_1 = some r) :
    Calls Try.prog 14 #[.agg #[.int .i64 a0_0, .slice A0_1 l0_1.length c0_1]] w fun e w' => e = .returned (.bool r) ∧ Below w.heap.size w w' := by
  obtain rfl := Option.some.inj h
  clear h
  by_cases h0 : a0_0 < 1
  · rw [if_pos h0]
    have h0 : decide (a0_0 < 1) = true := decide_eq_true h0
    go_enter Try.func14, Try.ntmps14
    go_wp2
    go_ret
    exact ⟨by simp, (Below.refl _ w).alloc (Nat.le_refl _) _⟩
  rw [if_neg h0]
  replace h0 : decide (a0_0 < 1) = false := decide_eq_false h0
  by_cases h1 : a0_0 > 8
  · rw [if_pos h1]
    have h1 : decide (8 < a0_0) = true := decide_eq_true h1
    go_enter Try.func14, Try.ntmps14
    go_wp2
    go_ret
    exact ⟨by simp, (Below.refl _ w).alloc (Nat.le_refl _) _⟩
  rw [if_neg h1]
  replace h1 : decide (8 < a0_0) = false := decide_eq_false h1
  by_cases h2 : (l0_1.length : Int) > 40
  · rw [if_pos h2]
    have h2 : decide (40 < (l0_1.length : Int)) = true := decide_eq_true h2
    go_enter Try.func14, Try.ntmps14
    go_wp2
    go_ret
    exact ⟨by simp, (Below.refl _ w).alloc (Nat.le_refl _) _⟩
  rw [if_neg h2]
  replace h2 : decide (40 < (l0_1.length : Int)) = false := decide_eq_false h2
  have eg : ∀ args w, (callFunc 45 args).run Try.prog w = .ok (.enter 45 args) w := enters_of Try.func45 (by kernel_rfl) rfl
  have hcon := anyLink_at (badLink a0_0) 45 #[.pointer (some ⟨w.heap.size, 0, none⟩)] eg A0_1 c0_1 l0_1 (w.alloc (.cells #[.int .i64 a0_0, .slice A0_1 l0_1.length c0_1] 29))
    (fun W x _ hb => (badLink_calls a0_0 w.heap.size x W (Nat.lt_of_lt_of_le (by simp) hb.size) ((hb.cell (p := ⟨w.heap.size, 0, none⟩) (by simp)).trans (by simp))).mono fun e w' ⟨he, h⟩ => ⟨he, hb.trans (h.mono hb.size)⟩) (Kd.C_alloc hr0_1 _)
  generalize l0_1.any (badLink a0_0) = r at hcon ⊢
  go_enter Try.func14, Try.ntmps14
  go_wp2_with (go_at_call 44; refine hcon.mono ?_; rintro e w' ⟨rfl, hb'⟩)
  go_ret
  exact ⟨by simp, ((Below.refl _ w).alloc (Nat.le_refl _) _).trans (hb'.mono (by simp))⟩
end

/-! ### impl_Link_60: function 60 -/
def impl_Link_60.f (l0 : List (S47)) : Option ((List (S47))) := (some (([] : List (S47)) : List (S47))).bind fun y167 => (if y167.length + l0.length < 4398046511104 then (some (y167 ++ l0)) else (none))
set_option maxHeartbeats 8000000 in
set_option maxRecDepth 100000 in
theorem impl_Link_60.calls_some (ad0 : Addr) (c0 : Nat) (l0 : List (S47)) (r : List (S47)) (w : World) (hr0 : Kd.C k47 w (some ad0) l0.length l0) (hc0 : l0.length ≤ c0) (h : impl_Link_60.f l0 = some r) :
    Calls Try.prog 60 #[.slice (some ad0) l0.length c0] w fun e w' => ∃ v0_ : Value, e = .returned (v0_) ∧ Kd.R k47 47 w' w.heap.size (fun _ => True) v0_ r ∧ Below w.heap.size w w' := by
  have HR0 := mK hr0
  have HC0 := mK hc0
  clear hr0 hc0
  have HB := mK (Below.refl w.heap.size w)
  have H : ((some (([] : List (S47)) : List (S47))).bind fun y167 => (if y167.length + l0.length < 4398046511104 then (some (y167 ++ l0)) else (none))) = some r := h
  clear h
  obtain ⟨y167, hy167⟩ : ∃ y_ : List (S47), y_ = (([] : List (S47))) := ⟨_, rfl⟩
  replace H : (if y167.length + l0.length < 4398046511104 then (some (y167 ++ l0)) else (none)) = some r := by first | (rw [hy167]; with_reducible exact H) | (have H2_ := (Option.bind_some _ _).symm.trans H; rw [hy167]; with_reducible exact H2_) | (have H2_ := (Option.bind_some _ _).symm.trans H; with_reducible exact H2_) | with_reducible exact H | (rw [hy167]; exact H) | exact H
  have Ny167 := mK hy167
  clear hy167
  by_cases c2 : y167.length + l0.length < 4398046511104
  rotate_left
  · rw [if_neg c2] at H
    exact absurd H (by simp)
  rw [if_pos c2] at H
  have LMc2 := mK c2
  clear c2
  obtain ⟨y170, hy170⟩ : ∃ y_ : List (S47), y_ = (y167 ++ l0) := ⟨_, rfl⟩
  replace H : (some y170) = some r := by first | (rw [hy170]; with_reducible exact H) | (have H2_ := (Option.bind_some _ _).symm.trans H; rw [hy170]; with_reducible exact H2_) | (have H2_ := (Option.bind_some _ _).symm.trans H; with_reducible exact H2_) | with_reducible exact H | (rw [hy170]; exact H) | exact H
  have Ny170 := mK hy170
  clear hy170
  obtain rfl := Option.some.inj H
  have qn : ∀ (w : World) (a : Option Addr) (n c n' c' : Nat), (binOp .eql 27 (.slice a n c) (.slice none n' c')).run Try.prog w = .ok (.bool a.isNone) w := fun w a n c n' c' => Lib.run_eql_slice_nil w _ _ a n c n' c' Try.underlying27
  go_enter Try.func60, Try.ntmps60
  go_wp2_with (first | ((with_reducible refine gate_dst (N := 5) rfl ?_); refine Kd.R_lit k47 _ 47 ?hg (N := 5) ?hd (xs := ([] : List (S47))) (inner := []) (ok := fun _ => True) (okp := fun _ => True) ?hr ?hp (fun _ hk => hk) trivial (Below.refl _ _) (Nat.le_refl _) (by simp) ?_; (case hd => rfl); (case hg => rfl); (case hr => first | (go_simp; done) | (go_simp; rfl)); (case hp => exact (Reps.none _ _)); intro v168 w3 ho4 hb hg_ hnew_; clear hg_ hnew_; (first | rw [← Ny167.out] at ho4 | (simp only [Int.reduceToNat] at ho4; rw [← Ny167.out] at ho4)); have n0_ := mK (Kd.R_lower ho4 (below_size (by repeat (first | (with_reducible first | exact HB.out | apply bA | apply bN | apply bD) | exact HB.out)))); have n1_ := mK (below_step (by repeat (first | (with_reducible first | exact HB.out | apply bA | apply bN | apply bD) | exact HB.out)) hb); clear HB; have HO169 := n0_; have HB := n1_; clear n0_ n1_; clear hb ho4) | ((with_reducible refine gate_builtin (b := .append) (xs := #[.tmp 5, .tmp 6]) rfl ?_); at_builtin; refine Kd.R_append_rows k47 (w0 := w) w.heap.size rfl (.tmp 5) (.tmp 6) 27 47 (.agg #[(.int .i64 0), (.int .i64 0), (.int .i64 0), (.int .i64 0)]) 32 rfl Try.underlying27 info47 rfl (by decide) (by omega) v168 y167 l0 _ _ _ (fun _ => True) (fun _ => False) rfl rfl ?aO ?aR (fun _ _ h => h) (fun _ h => h.elim) ?aF ?aB ?aS ?aL ?_; (case aR => repeat (first | exact (Kd.C_below HR0.out HB.out) | (with_reducible refine Kd.C_alloc ?_ _) | (with_reducible refine Kd.C_drewN ?_ _) | (with_reducible refine Kd.C_drew ?_))); (case aB => exact (by repeat (first | (with_reducible first | exact HB.out | apply bA | apply bN | apply bD) | exact HB.out))); (case aF => exact (fun _ _ => trivial)); (case aO => exact (by (with_reducible repeat (first | apply rA | apply rN | apply rD)); exact HO169.out)); (case aS => exact (below_size (by repeat (first | (with_reducible first | exact HB.out | apply bA | apply bN | apply bD) | exact HB.out)))); (case aL => have := LMc2.out; omega); intro v171 w5 ho hb hg hat; rw [← Ny170.out] at ho; have n0_ := mK (hb); have n1_ := mK (ho); clear HB; clear HO169; have HB := n0_; have HO172 := n1_; clear n0_ n1_; clear ho hb hg hat))
  go_ret
  exact ⟨_, by first | rfl | (simp [errW_none, errW_some] <;> rfl) | (simp [*, errW_none, errW_some] <;> rfl), by (with_reducible repeat (first | apply rA | apply rN | apply rD)); exact HO172.out, by repeat (first | (with_reducible first | exact HB.out | apply bA | apply bN | apply bD) | exact HB.out)⟩

set_option maxHeartbeats 8000000 in
theorem impl_Link_60.calls (A0 : Option Addr) (c0 : Nat) (l0 : List (S47)) (r : List (S47)) (w : World) (hr0 : Kd.C k47 w A0 l0.length l0) (hc0 : l0.length ≤ c0) (h : impl_Link_60.f l0 = some r) :
    Calls Try.prog 60 #[.slice A0 l0.length c0] w fun e w' => ∃ v0_ : Value, e = .returned (v0_) ∧ Kd.R k47 47 w' w.heap.size (fun _ => True) v0_ r ∧ Below w.heap.size w w' := by
  cases A0 with
  | some ad0 => exact impl_Link_60.calls_some ad0 c0 l0 r w hr0 hc0 h
  | none =>
   have hl : l0 = [] := by
    cases l0 with
    | nil => rfl
    | cons x y => obtain ⟨ad, e, _⟩ := hr0.2.2 (by simp); cases e
   subst hl
   obtain rfl : [] = r := by simpa [impl_Link_60.f] using h
   have qn : ∀ (w : World) (a : Option Addr) (n c n' c' : Nat), (binOp .eql 27 (.slice a n c) (.slice none n' c')).run Try.prog w = .ok (.bool a.isNone) w := fun w a n c n' c' => Lib.run_eql_slice_nil w _ _ a n c n' c' Try.underlying27
   go_enter Try.func60, Try.ntmps60
   go_wp2
   go_ret
   exact ⟨_, rfl, Kd.R_nil _ _ _ _ _, Below.refl _ _⟩

end Go.Proofs.Ytolecnichpnhnaa.QFnExactWithLink
