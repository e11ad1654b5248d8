-- Written by this session's program wip/tools/mk.py out of the translation; Lean checks it.
import Derived.Test.YtbbblnmngjhadaaQFnExactLatestTimesx0
import Derived.Test.YtbbblnmngjhadaaQFnExactLatestTimesx11
namespace Go.Proofs.Ytbbblnmngjhadaa.QFnExactLatestTimes
open Go.RowKit Go.Proofs.YtbbblnmngjhadaaW.PrintWords Go.Proofs.YtbbblnmngjhadaaW.PrintLast Go.Proofs.YtbbblnmngjhadaaW.PrintMore
attribute [local go_sem] max2_int min2_int max_two min_two max_three min_three max_four min_four   -- for this text's walks alone
set_option linter.unusedVariables false
set_option linter.unusedSimpArgs false

/-! ### impl_Link_94: function 94 -/
section
open Go.Shelf Go.Lib
instance : Inhabited S76 := ⟨z76⟩
def encLink (x : S76) : List Value := [.int .i64 x.f0, .int .i64 x.f1, .int .i64 x.f2.f0, .int .i64 x.f2.f1]
set_option maxHeartbeats 2000000 in
theorem idxLink_calls (p : S76 → Bool) (g : Nat) (lb : Array Value) (eg : ∀ args w, (callFunc g args).run Try.prog w = .ok (.enter g args) w) (b off n c : Nat) (zs : List S76) (w : World)
    (hp : ∀ (W : World) (x : S76), x ∈ zs → Below w.heap.size w W → Calls Try.prog g (#[(.agg #[.int .i64 x.f0, .int .i64 x.f1, .int .i64 x.f2.f0, .int .i64 x.f2.f1])] ++ lb) W fun e w' => e = .returned (.bool (p x)) ∧ Below w.heap.size w w') (hz : n ≤ zs.length) (hbig : n ≤ 9223372036854775807) (hb : b < w.heap.size)
    (hc : ∀ j, j < zs.length → ∀ i v, (encLink zs[j]!)[i]? = some v → w.cell? ⟨b, off + j * 4 + i, none⟩ = some v) :
    Calls Try.prog 94 #[.slice (some ⟨b, off, none⟩) n c, .func (.func g) #[] lb] w fun e w' => e = .returned (.int .i64 (Lib.idxBy (fun _ y => p y) (zs.take n) default)) ∧ Below w.heap.size w w' := by
  have hrow : ∀ (W : World), Below w.heap.size w W → ∀ j, j < zs.length → W.cell? ⟨b, off + j * 4, none⟩ = some (.int .i64 zs[j]!.f0) ∧ W.cell? ⟨b, off + j * 4 + 1, none⟩ = some (.int .i64 zs[j]!.f1) ∧ W.cell? ⟨b, off + j * 4 + 2, none⟩ = some (.int .i64 zs[j]!.f2.f0) ∧ W.cell? ⟨b, off + j * 4 + 3, none⟩ = some (.int .i64 zs[j]!.f2.f1) := fun W hW j hj =>
   ⟨(hW.cell (p := ⟨b, off + j * 4, none⟩) hb).trans (hc j hj 0 _ rfl), (hW.cell (p := ⟨b, off + j * 4 + 1, none⟩) hb).trans (hc j hj 1 _ rfl), (hW.cell (p := ⟨b, off + j * 4 + 2, none⟩) hb).trans (hc j hj 2 _ rfl), (hW.cell (p := ⟨b, off + j * 4 + 3, none⟩) hb).trans (hc j hj 3 _ rfl)⟩
  clear hc
  go_enter Try.func94, Try.ntmps94
  go_wp2
  go_loopg [5, 8] n (fun gg _ s8 wr => ∃ kk : Nat, kk ≤ n ∧ n - kk ≤ gg ∧ s8 = .int .i64 kk ∧ Aside (Below w.heap.size w wr) ∧ Aside (∀ j, j < kk → p zs[j]! = false))
  case atStart => exact ⟨0, Nat.zero_le _, by omega, rfl, Below.refl _ w, fun j hj => absurd hj (Nat.not_lt_zero _)⟩
  case round =>
   obtain ⟨kk, hkk, hg, rfl, BW, A⟩ := hrel
   by_cases hlt : kk < n
   rotate_left
   · have hltz : ¬ (kk : Int) < (n : Int) := by omega
     have : kk = n := by omega
     subst this
     go_wp2
     go_ret
     refine ⟨?_, BW.out⟩
     rw [Lib.idxBy_miss (fun _ y => p y) zs kk default A.out]
     rfl
   have hltz : (kk : Int) < (n : Int) := by omega
   obtain ⟨l0, l1, l2, l3⟩ := hrow wr BW.out kk (by omega)
   have hcall := hp wr zs[kk]! (by rw [getElem!_pos zs kk (by omega)]; exact List.getElem_mem _) BW.out
   clear hrow hp
   generalize hy : zs[kk]! = y at l0 l1 l2 l3 hcall
   have B : Aside (zs[kk]! = y) := hy
   clear hy
   cases hq : p y with
   | true =>
    rw [hq] at hcall
    go_wp2_with (go_at_fn g; refine hcall.mono ?_; rintro e w' ⟨rfl, hb'⟩)
    go_ret
    refine ⟨?_, hb'⟩
    rw [Lib.idxBy_hit (fun _ y => p y) zs n kk default hlt hz (by show p zs[kk]! = true; rw [B.out]; exact hq) A.out]
    rfl
   | false =>
    rw [hq] at hcall
    go_wp2_with (go_at_fn g; refine hcall.mono ?_; rintro e w' ⟨rfl, hb'⟩)
    go_roundg (n - (kk + 1))
    case measure => omega
    case rel =>
     refine ⟨kk + 1, by omega, by omega, by go_num, hb', (show Aside _ from fun j hj => ?_)⟩
     by_cases e : j = kk
     rotate_left
     · exact A.out j (by omega)
     subst e
     rw [B.out]; exact hq
theorem idxLink_empty (a : Option Addr) (c : Nat) (fv : Value) (w : World) :
    Calls Try.prog 94 #[.slice a 0 c, fv] w fun e w' => e = .returned (.int .i64 (-1)) ∧ w' = w := by
  go_enter Try.func94, Try.ntmps94
  go_wp2
  go_loopg [5, 8] 0 (fun _ _ s8 wr => s8 = .int .i64 0 ∧ wr = w)
  case atStart => exact ⟨rfl, rfl⟩
  case round =>
   obtain ⟨rfl, rfl⟩ := hrel
   go_wp2
   go_ret
   exact ⟨rfl, rfl⟩
theorem addrLink_of {W : World} {a : Addr} {v : Value} (h : W.cell? a = some v) : ∃ b o, a = ⟨b, o, none⟩ ∧ b < W.heap.size := by
  obtain ⟨b, o, s⟩ := a
  have hlt := World.block_lt_of_cell? W _ h
  cases s with
  | none => exact ⟨b, o, rfl, hlt⟩
  | some s =>
   unfold World.cell? at h
   split at h
   · simp at h
   · simp at h
theorem idxLink_at (p : S76 → Bool) (g : Nat) (lb : Array Value) (eg : ∀ args w, (callFunc g args).run Try.prog w = .ok (.enter g args) w) (A : Option Addr) (c : Nat) (l : List S76) (w : World)
    (hp : ∀ (W : World) (x : S76), x ∈ l → Below w.heap.size w W → Calls Try.prog g (#[(.agg #[.int .i64 x.f0, .int .i64 x.f1, .int .i64 x.f2.f0, .int .i64 x.f2.f1])] ++ lb) W fun e w' => e = .returned (.bool (p x)) ∧ Below w.heap.size w w') (hr : Kd.C k76 w A l.length l) :
    Calls Try.prog 94 #[.slice A l.length c, .func (.func g) #[] lb] w fun e w' => e = .returned (.int .i64 (Lib.idxBy (fun _ y => p y) l default)) ∧ Below w.heap.size w w' := by
  cases l with
  | nil => exact (idxLink_empty A c _ w).mono fun e w' ⟨he, hw⟩ => by subst hw; exact ⟨he, Below.refl _ _⟩
  | cons x l' =>
   have hrow : ∀ j, j < (x :: l').length → ∃ ad, A = some ad ∧ ∀ i v, (encLink (x :: l')[j]!)[i]? = some v → w.cell? (ad.add (j * 4 + i)) = some v := by
    intro j hj
    obtain ⟨ad, cs, e, _, hK, hc0⟩ := Kd.C_get hr z76 j (by omega) (by omega)
    have hcs : cs = encLink ((x :: l').getD j z76) := k76_open (by simpa using hK)
    refine ⟨ad, e, fun i v hi => ?_⟩
    have e1 : (x :: l')[j]! = (x :: l').getD j z76 := by rw [List.getD_eq_getElem?_getD, List.getElem!_eq_getElem?_getD]; rfl
    have := hc0 i v (by rw [hcs, ← e1]; exact hi)
    simpa [k76, k52, Kd.iso, Kd.pair, Kd.int, Kd.scalar] using this
   obtain ⟨ad, rfl, h0⟩ := hrow 0 (by simp)
   obtain ⟨b, o, rfl, hb⟩ := addrLink_of (h0 0 _ rfl)
   have hcon := idxLink_calls p g lb eg b o (x :: l').length c (x :: l') w
     hp (Nat.le_refl _) (Kd.C_max hr) hb (fun j hj i v hi => by
       obtain ⟨ad', e, h⟩ := hrow j hj
       obtain rfl := Option.some.inj e
       have := h i v hi
       rw [Addr.add_lit] at this
       rw [← this, Nat.add_assoc])
   rw [List.take_length] at hcon
   exact hcon
end

/-! ### impl_Link_88: function 88 -/
section
open Go.Shelf Go.Lib
theorem anyLink_at (p : S76 → Bool) (g : Nat) (lb : Array Value) (eg : ∀ args w, (callFunc g args).run Try.prog w = .ok (.enter g args) w) (A : Option Addr) (c : Nat) (l : List S76) (w : World)
    (hp : ∀ (W : World) (x : S76), x ∈ l → Below w.heap.size w W → Calls Try.prog g (#[(.agg #[.int .i64 x.f0, .int .i64 x.f1, .int .i64 x.f2.f0, .int .i64 x.f2.f1])] ++ lb) W fun e w' => e = .returned (.bool (p x)) ∧ Below w.heap.size w w') (hr : Kd.C k76 w A l.length l) :
    Calls Try.prog 88 #[.slice A l.length c, .func (.func g) #[] lb] w fun e w' => e = .returned (.bool (l.any p)) ∧ Below w.heap.size w w' := by
  rw [show l.any p = decide (0 ≤ Lib.idxBy (fun _ y => p y) l default) from (Lib.idxBy_nonneg_iff (fun _ y => p y) l default).symm]
  have hcon := idxLink_at p g lb eg A c l w hp hr
  generalize Lib.idxBy (fun _ y => p y) l default = r at hcon ⊢
  go_enter Try.func88, Try.ntmps88
  go_wp2_with (go_at_call 94; refine hcon.mono ?_; rintro e w' ⟨rfl, hb'⟩)
  go_ret
  exact ⟨by simp, hb'⟩
end

/-! ### impl_IntervalOk: function 90 -/
def impl_IntervalOk.f (a0_0 : Int) (a0_1 : Int) : Option (Bool) := if a0_0 ≥ (-1000000) then (if a0_0 ≤ a0_1 then (if a0_1 ≤ 1000000 then (if a0_0 = 1000000 then (some false) else (some (a0_1 != (-1000000)))) else (some false)) else (some false)) else (some false)
set_option maxHeartbeats 8000000 in
set_option maxRecDepth 100000 in
theorem impl_IntervalOk.calls (a0_0 : Int) (a0_1 : Int) (r : Bool) (w : World) (h : impl_IntervalOk.f a0_0 a0_1 = some r) :
    Calls Try.prog 90 #[.agg #[.int .i64 a0_0, .int .i64 a0_1]] w fun e w' => e = .returned (.bool r) ∧ Below w.heap.size w w' := by
  have hu52 := Try.underlying52
  have HB := mK (Below.refl w.heap.size w)
  have H : (if a0_0 ≥ (-1000000) then (if a0_0 ≤ a0_1 then (if a0_1 ≤ 1000000 then (if a0_0 = 1000000 then (some false) else (some (a0_1 != (-1000000)))) else (some false)) else (some false)) else (some false)) = some r := h
  clear h
  by_cases c2 : a0_0 ≥ (-1000000)
  rotate_left
  · rw [if_neg c2] at H
    have c2b0 : decide ((-1000000) ≤ a0_0) = false := decide_eq_false c2
    clear c2
    obtain rfl := Option.some.inj H
    go_enter Try.func90, Try.ntmps90
    go_wp2_with (first | ((with_reducible refine gate_dst (N := 1) rfl ?_); refine bxE 1 #[.int .i64 a0_0, .int .i64 a0_1] 52 ?_; intro gb379 hg w14 hbox hb; have BK379 := mK hbox; have GW379 := mK (gX hg HB); have GE379 := mK (gX hg HB); replace HB := bB HB hb; clear hb hbox hg; have hcz15_0 := q0 BK379; have hcz15_1 := q1 BK379; have hfz15_0 := fX BK379 0; have hfz15_1 := fX BK379 1))
    go_ret
    exact ⟨by first | rfl | (simp [errW_none, errW_some] <;> rfl) | (simp [*, errW_none, errW_some] <;> rfl), bX HB⟩
  rw [if_pos c2] at H
  have c2b0 : decide ((-1000000) ≤ a0_0) = true := decide_eq_true c2
  clear c2
  by_cases c3 : a0_0 ≤ a0_1
  rotate_left
  · rw [if_neg c3] at H
    have c3b0 : decide (a0_0 ≤ a0_1) = false := decide_eq_false c3
    clear c3
    obtain rfl := Option.some.inj H
    go_enter Try.func90, Try.ntmps90
    go_wp2_with (first | ((with_reducible refine gate_dst (N := 1) rfl ?_); refine bxE 1 #[.int .i64 a0_0, .int .i64 a0_1] 52 ?_; intro gb379 hg w12 hbox hb; have BK379 := mK hbox; have GW379 := mK (gX hg HB); have GE379 := mK (gX hg HB); replace HB := bB HB hb; clear hb hbox hg; have hcz13_0 := q0 BK379; have hcz13_1 := q1 BK379; have hfz13_0 := fX BK379 0; have hfz13_1 := fX BK379 1))
    go_ret
    exact ⟨by first | rfl | (simp [errW_none, errW_some] <;> rfl) | (simp [*, errW_none, errW_some] <;> rfl), bX HB⟩
  rw [if_pos c3] at H
  have c3b0 : decide (a0_0 ≤ a0_1) = true := decide_eq_true c3
  clear c3
  by_cases c4 : a0_1 ≤ 1000000
  rotate_left
  · rw [if_neg c4] at H
    have c4b0 : decide (a0_1 ≤ 1000000) = false := decide_eq_false c4
    clear c4
    obtain rfl := Option.some.inj H
    go_enter Try.func90, Try.ntmps90
    go_wp2_with (first | ((with_reducible refine gate_dst (N := 1) rfl ?_); refine bxE 1 #[.int .i64 a0_0, .int .i64 a0_1] 52 ?_; intro gb379 hg w10 hbox hb; have BK379 := mK hbox; have GW379 := mK (gX hg HB); have GE379 := mK (gX hg HB); replace HB := bB HB hb; clear hb hbox hg; have hcz11_0 := q0 BK379; have hcz11_1 := q1 BK379; have hfz11_0 := fX BK379 0; have hfz11_1 := fX BK379 1))
    go_ret
    exact ⟨by first | rfl | (simp [errW_none, errW_some] <;> rfl) | (simp [*, errW_none, errW_some] <;> rfl), bX HB⟩
  rw [if_pos c4] at H
  have c4b0 : decide (a0_1 ≤ 1000000) = true := decide_eq_true c4
  clear c4
  by_cases c5 : a0_0 = 1000000
  rotate_left
  · rw [if_neg c5] at H
    have c5b0 : (a0_0 == 1000000) = false := beq_eq_false_iff_ne.mpr c5
    have c5b1 : (a0_0 != 1000000) = true := bne_iff_ne.mpr c5
    obtain rfl := Option.some.inj H
    go_enter Try.func90, Try.ntmps90
    go_wp2_with (first | ((with_reducible refine gate_dst (N := 1) rfl ?_); refine bxE 1 #[.int .i64 a0_0, .int .i64 a0_1] 52 ?_; intro gb379 hg w8 hbox hb; have BK379 := mK hbox; have GW379 := mK (gX hg HB); have GE379 := mK (gX hg HB); replace HB := bB HB hb; clear hb hbox hg; have hcz9_0 := q0 BK379; have hcz9_1 := q1 BK379; have hfz9_0 := fX BK379 0; have hfz9_1 := fX BK379 1))
    go_ret
    exact ⟨by first | rfl | (simp [errW_none, errW_some] <;> rfl) | (simp [*, errW_none, errW_some] <;> rfl), bX HB⟩
  rw [if_pos c5] at H
  have c5b0 : (a0_0 == 1000000) = true := beq_iff_eq.mpr c5
  have c5b1 : (a0_0 != 1000000) = false := bne_eq_false_iff_eq.mpr c5
  clear c5
  obtain rfl := Option.some.inj H
  go_enter Try.func90, Try.ntmps90
  go_wp2_with (first | ((with_reducible refine gate_dst (N := 1) rfl ?_); refine bxE 1 #[.int .i64 a0_0, .int .i64 a0_1] 52 ?_; intro gb379 hg w6 hbox hb; have BK379 := mK hbox; have GW379 := mK (gX hg HB); have GE379 := mK (gX hg HB); replace HB := bB HB hb; clear hb hbox hg; have hcz7_0 := q0 BK379; have hcz7_1 := q1 BK379; have hfz7_0 := fX BK379 0; have hfz7_1 := fX BK379 1))
  go_ret
  exact ⟨by first | rfl | (simp [errW_none, errW_some] <;> rfl) | (simp [*, errW_none, errW_some] <;> rfl), bX HB⟩

/-! ### impl_SimpleOk: function 49 -/
section
open Go.Shelf Go.Lib
def sNodeB (n x : Int) : Bool := decide (0 ≤ x ∧ x < n)
theorem sNodeB_calls (n x : Int) (w : World) : Calls Try.prog 79 #[.int .i64 n, .int .i64 x] w fun e w' => e = .returned (.bool (sNodeB n x)) ∧ w = w' := by
  by_cases h1 : 0 ≤ x
  rotate_left
  · rw [show sNodeB n x = false from decide_eq_false (fun h => h1 h.1)]
    go_enter Try.func79, Try.ntmps79
    go_wp2
    go_ret
    exact ⟨by simp, rfl⟩
  by_cases h2 : x < n
  · rw [show sNodeB n x = true from decide_eq_true ⟨h1, h2⟩]
    go_enter Try.func79, Try.ntmps79
    go_wp2
    go_ret
    exact ⟨by simp, rfl⟩
  rw [show sNodeB n x = false from decide_eq_false (fun h => h2 h.2)]
  go_enter Try.func79, Try.ntmps79
  go_wp2
  go_ret
  exact ⟨by simp, rfl⟩
def qokB (a b : Int) : Bool := decide (-1000000 ≤ a ∧ a ≤ b ∧ b ≤ 1000000 ∧ a ≠ 1000000 ∧ b ≠ -1000000)
theorem qokB_f (a b : Int) : impl_IntervalOk.f a b = some (qokB a b) := by
  unfold impl_IntervalOk.f qokB
  repeat' split
  all_goals (congr 1; first | (symm; rw [decide_eq_false_iff_not]; omega) | (rw [Bool.eq_iff_iff]; simp only [bne_iff_ne, ne_eq, decide_eq_true_eq]; omega))
def badLink (n : Int) (e : S76) : Bool := !sNodeB n e.f0 || (!sNodeB n e.f1 || !qokB e.f2.f0 e.f2.f1)
theorem badLink_calls (n : Int) (B : Nat) (x : S76) (W : World) (hBW : B < W.heap.size) (hc : W.cell? ⟨B, 0, none⟩ = some (.int .i64 n)) :
    Calls Try.prog 89 #[.agg #[.int .i64 x.f0, .int .i64 x.f1, .int .i64 x.f2.f0, .int .i64 x.f2.f1], .pointer (some ⟨B, 0, none⟩)] W fun e w' => e = .returned (.bool (badLink n x)) ∧ Below W.heap.size W w' := by
  have hne : B ≠ W.heap.size := by omega
  obtain ⟨a, b, c, d⟩ := x
  show Calls Try.prog 89 #[.agg #[.int .i64 a, .int .i64 b, .int .i64 c, .int .i64 d], .pointer (some ⟨B, 0, none⟩)] W _
  obtain ⟨r1, h1⟩ : ∃ r, sNodeB n a = r := ⟨_, rfl⟩
  obtain ⟨r2, h2⟩ : ∃ r, sNodeB n b = r := ⟨_, rfl⟩
  obtain ⟨r3, h3⟩ : ∃ r, qokB c d = r := ⟨_, rfl⟩
  have k1 := sNodeB_calls n a
  have k2 := sNodeB_calls n b
  have k3 := fun w => impl_IntervalOk.calls c d r3 w (by rw [qokB_f, h3])
  rw [show badLink n ⟨a, b, c, d⟩ = (!r1 || (!r2 || !r3)) by simp [badLink, h1, h2, h3]]
  rw [h1] at k1
  rw [h2] at k2
  clear h1 h2 h3
  cases r1 <;> cases r2 <;> cases r3
  all_goals
    go_enter Try.func89, Try.ntmps89
    first
    | (go_wp2_with (first | (go_at_call 79; (with_reducible refine (k1 _).mono ?_); rintro e w' ⟨rfl, rfl⟩) | (go_at_call 79; (with_reducible refine (k2 _).mono ?_); rintro e w' ⟨rfl, rfl⟩))
       go_ret
       exact ⟨by simp, (Below.refl _ W).alloc (Nat.le_refl _) _⟩)
    | (go_wp2_with (first | (go_at_call 79; (with_reducible refine (k1 _).mono ?_); rintro e w' ⟨rfl, rfl⟩) | (go_at_call 79; (with_reducible refine (k2 _).mono ?_); rintro e w' ⟨rfl, rfl⟩) | (go_at_call 90; (with_reducible refine (k3 _).mono ?_); rintro e w' ⟨rfl, hb'⟩))
       go_ret
       exact ⟨by simp, ((Below.refl _ W).alloc (Nat.le_refl _) _).trans (hb'.mono (by simp))⟩)
def impl_SimpleOk.f (a0_0 : Int) (l0_1 : List (S76)) : Option (Bool) := some (if a0_0 < 1 then false else if a0_0 > 8 then false else if (l0_1.length : Int) > 40 then false else !(l0_1.any (badLink a0_0)))
theorem impl_SimpleOk.calls (a0_0 : Int) (A0_1 : Option Addr) (c0_1 : Nat) (l0_1 : List (S76)) (r : Bool) (w : World) (hr0_1 : Kd.C k76 w A0_1 l0_1.length l0_1) (hc0_1 : l0_1.length ≤ c0_1) (h : impl_SimpleOk.f a0_0 l0_1 = some r) :
    Calls Try.prog 49 #[.agg #[.int .i64 a0_0, .slice A0_1 l0_1.length c0_1]] w fun e w' => e = .returned (.bool r) ∧ Below w.heap.size w w' := by
  obtain rfl := Option.some.inj h
  clear h
  by_cases h0 : a0_0 < 1
  · rw [if_pos h0]
    have h0 : decide (a0_0 < 1) = true := decide_eq_true h0
    go_enter Try.func49, Try.ntmps49
    go_wp2
    go_ret
    exact ⟨by simp, (Below.refl _ w).alloc (Nat.le_refl _) _⟩
  rw [if_neg h0]
  replace h0 : decide (a0_0 < 1) = false := decide_eq_false h0
  by_cases h1 : a0_0 > 8
  · rw [if_pos h1]
    have h1 : decide (8 < a0_0) = true := decide_eq_true h1
    go_enter Try.func49, Try.ntmps49
    go_wp2
    go_ret
    exact ⟨by simp, (Below.refl _ w).alloc (Nat.le_refl _) _⟩
  rw [if_neg h1]
  replace h1 : decide (8 < a0_0) = false := decide_eq_false h1
  by_cases h2 : (l0_1.length : Int) > 40
  · rw [if_pos h2]
    have h2 : decide (40 < (l0_1.length : Int)) = true := decide_eq_true h2
    go_enter Try.func49, Try.ntmps49
    go_wp2
    go_ret
    exact ⟨by simp, (Below.refl _ w).alloc (Nat.le_refl _) _⟩
  rw [if_neg h2]
  replace h2 : decide (40 < (l0_1.length : Int)) = false := decide_eq_false h2
  have eg : ∀ args w, (callFunc 89 args).run Try.prog w = .ok (.enter 89 args) w := enters_of Try.func89 (by kernel_rfl) rfl
  have hcon := anyLink_at (badLink a0_0) 89 #[.pointer (some ⟨w.heap.size, 0, none⟩)] eg A0_1 c0_1 l0_1 (w.alloc (.cells #[.int .i64 a0_0, .slice A0_1 l0_1.length c0_1] 47))
    (fun W x _ hb => (badLink_calls a0_0 w.heap.size x W (Nat.lt_of_lt_of_le (by simp) hb.size) ((hb.cell (p := ⟨w.heap.size, 0, none⟩) (by simp)).trans (by simp))).mono fun e w' ⟨he, h⟩ => ⟨he, hb.trans (h.mono hb.size)⟩) (Kd.C_alloc hr0_1 _)
  generalize l0_1.any (badLink a0_0) = r at hcon ⊢
  go_enter Try.func49, Try.ntmps49
  go_wp2_with (go_at_call 88; refine hcon.mono ?_; rintro e w' ⟨rfl, hb'⟩)
  go_ret
  exact ⟨by simp, ((Below.refl _ w).alloc (Nat.le_refl _) _).trans (hb'.mono (by simp))⟩
end

/-! ### impl_graphOf: function 87 -/
def impl_graphOf.l0 : Nat → List Int → List (S76) → Int → Int → Int → List (S70) → Option (Int × (List (S70)) × List Int)
  | 0, _, _, _, _, _, _ => none
  | k + 1, x5, x12, x13, x14, x383000, x383001 => if x14 < x13 then (if 0 ≤ x14 then (if x14 < (x12.length : Int) then (if ((rd_T76 x12 x14).f2.f1) = 1000000 then (if ((rd_T76 x12 x14).f2.f0) = (-1000000) then (impl_graphOf.l0 k x5 x12 x13 (wrap64 (x14 + 1)) x383000 x383001) else (if x383001.length < 5864062014805 then (if x5.length < 17592186044416 then (impl_graphOf.l0 k (x5 ++ [x14]) x12 x13 (wrap64 (x14 + 1)) x383000 (x383001 ++ [(⟨(rd_T76 x12 x14).f1, (rd_T76 x12 x14).f0, wrap64 (-((rd_T76 x12 x14).f2.f0))⟩ : S70)])) else (none)) else (none))) else (if x383001.length < 5864062014805 then ((some (x383001 ++ [(⟨(rd_T76 x12 x14).f0, (rd_T76 x12 x14).f1, (rd_T76 x12 x14).f2.f1⟩ : S70)] : List (S70))).bind fun y391 => (if x5.length < 17592186044416 then ((some (x5 ++ [x14] : List Int)).bind fun y394 => (if ((rd_T76 x12 x14).f2.f0) = (-1000000) then (impl_graphOf.l0 k y394 x12 x13 (wrap64 (x14 + 1)) x383000 y391) else (if y391.length < 5864062014805 then (if y394.length < 17592186044416 then (impl_graphOf.l0 k (y394 ++ [x14]) x12 x13 (wrap64 (x14 + 1)) x383000 (y391 ++ [(⟨(rd_T76 x12 x14).f1, (rd_T76 x12 x14).f0, wrap64 (-((rd_T76 x12 x14).f2.f0))⟩ : S70)])) else (none)) else (none)))) else (none))) else (none))) else (none)) else (none)) else (some (x383000, x383001, x5))
def impl_graphOf.f (k : Nat) (a0_0 : Int) (l0_1 : List (S76)) : Option (Int × (List (S70)) × List Int) := impl_graphOf.l0 k ([] : List Int) l0_1 (l0_1.length : Int) 0 a0_0 ([] : List (S70))
theorem impl_graphOf.mono_l : ∀ k, (∀ y0 y1 y2 y3 y4 y5, LeO (impl_graphOf.l0 k y0 y1 y2 y3 y4 y5) (impl_graphOf.l0 (k + 1) y0 y1 y2 y3 y4 y5))
  | 0 => fun _ _ _ _ _ _ r h => by simp [impl_graphOf.l0] at h
  | k + 1 => by
    have ih0 := impl_graphOf.mono_l k
    · intro y0 y1 y2 y3 y4 y5
      unfold impl_graphOf.l0
      repeat' first|(with_reducible first|exact ih0 _ _ _ _ _ _|exact lR _|exact lN _|refine lI ?_ ?_|refine lB ?_ (fun _ => ?_))|exact ih0 _ _ _ _ _ _|exact lN _|refine lI ?_ ?_|refine lB ?_ (fun _ => ?_)
theorem impl_graphOf.mono : ∀ a0 a1 k, LeO (impl_graphOf.f k a0 a1) (impl_graphOf.f (k + 1) a0 a1) := by
  intro a0 a1 k
  have ih0 := impl_graphOf.mono_l k
  unfold impl_graphOf.f
  repeat' first|(with_reducible first|exact ih0 _ _ _ _ _ _|exact lR _|exact lN _|refine lI ?_ ?_|refine lB ?_ (fun _ => ?_))|exact ih0 _ _ _ _ _ _|exact lN _|refine lI ?_ ?_|refine lB ?_ (fun _ => ?_)
set_option maxHeartbeats 8000000 in
set_option maxRecDepth 100000 in
theorem impl_graphOf.calls (k : Nat) (a0_0 : Int) (A0_1 : Option Addr) (c0_1 : Nat) (l0_1 : List (S76)) (r1 : Int) (r2 : List (S70)) (r3 : List Int) (w : World) (hr0_1 : Kd.C k76 w A0_1 l0_1.length l0_1) (hc0_1 : l0_1.length ≤ c0_1) (h : impl_graphOf.f k a0_0 l0_1 = some (r1, r2, r3)) :
    Calls Try.prog 87 #[.agg #[.int .i64 a0_0, .slice A0_1 l0_1.length c0_1]] w fun e w' => ∃ v1_ v2_ : Value, e = .returned (.tuple #[.agg #[.int .i64 r1, v1_], v2_]) ∧ Kd.R k70 70 w' w.heap.size (fun _ => True) v1_ r2 ∧ Kd.R (Kd.int .i64) 3 w' w.heap.size (fun _ => True) v2_ r3 ∧ Below w.heap.size w w' := by
 have hu47 := Try.underlying47
 have hu33 := Try.underlying33
 have hu76 := Try.underlying76
 have hu70 := Try.underlying70
 have HR0_1 := mK hr0_1
 have HC0_1 := mK hc0_1
 clear hr0_1 hc0_1
 have HB := mK (Below.refl w.heap.size w)
 have H : (impl_graphOf.l0 k ([] : List Int) l0_1 (l0_1.length : Int) 0 a0_0 ([] : List (S70))) = some (r1, r2, r3) := h
 clear h
 have H' := mK H
 clear H
 go_enter Try.func87, Try.ntmps87
 go_wp2_with (first | ((with_reducible refine gate_dst (N := 1) rfl ?_); refine bxE 1 #[.int .i64 a0_0, .slice A0_1 l0_1.length c0_1] 47 ?_; intro gb380 hg w2 hbox hb; have BK380 := mK hbox; have GW380 := mK (gX hg HB); have GE380 := mK (gX hg HB); replace HB := bB HB hb; clear hb hbox hg) | ((with_reducible refine gate_dst (N := 2) rfl ?_); refine bxE 2 #[.int .i64 0, .slice none 0 0] 33 ?_; intro gb381 hg w3 hbox hb; have BK381 := mK hbox; have GW381 := mK (gX hg HB); have GE381 := mK (gX hg HB); replace HB := bB HB hb; have NB380_381 := mK (lX hg BK380); have NB381_380 := mK (mX hg BK380); replace BK380 := kB BK380 hb; clear hb hbox hg; have hnb4 := NB380_381.out; have hnc4 := NB381_380.out; have hcz5_0 := q0 BK380; have hcz5_1 := q1 BK380; have hfz5_0 := fX BK380 0; have hfz5_1 := fX BK380 1) | ((with_reducible refine gate_dst (N := 4) rfl ?_); refine bxE 4 #[.int .i64 0, .slice none 0 0] 33 ?_; intro gb382 hg w6 hbox hb; have BK382 := mK hbox; have GW382 := mK (gX hg HB); have GE382 := mK (gX hg HB); replace HB := bB HB hb; have NB380_382 := mK (lX hg BK380); have NB382_380 := mK (mX hg BK380); replace BK380 := kB BK380 hb; have NB381_382 := mK (lX hg BK381); have NB382_381 := mK (mX hg BK381); replace BK381 := kB BK381 hb; clear hb hbox hg; have hnb7 := NB382_380.out; have hnc7 := NB380_382.out; have hnb8 := NB382_381.out; have hnc8 := NB381_382.out; have hcz9_0 := q0 BK382; have hcz9_1 := q1 BK382; have hfz9_0 := fX BK382 0; have hfz9_1 := fX BK382 1; have hcz10_0 := q0 BK380; have hcz10_1 := q1 BK380; have hfz10_0 := fX BK380 0; have hfz10_1 := fX BK380 1))
 go_loopg [5, 14] k (fun kq v5 v14 w' => ∃ (x5_1 : List Int) (x14_1 : Int) (x383001_1 : List (S70)) (u383001 : Value), v14 = .int .i64 x14_1 ∧ Aside0 (impl_graphOf.l0 kq x5_1 l0_1 (l0_1.length : Int) x14_1 a0_0 x383001_1 = some (r1, r2, r3)) ∧ Aside0 (kq ≤ k) ∧ Aside0 (Kd.R (Kd.int .i64) 3 w' w.heap.size (fun _ => True) v5 x5_1) ∧ Aside0 (Kd.R k70 70 w' w.heap.size (fun _ => True) u383001 x383001_1) ∧ Aside0 (w'.heap[gb380]? = some (.cells #[.int .i64 a0_0, (.slice A0_1 l0_1.length c0_1)] 47 (0, 0))) ∧ Aside0 (w'.heap[gb381]? = some (.cells #[.int .i64 0, (.slice none 0 0)] 33 (0, 0))) ∧ Aside0 (w'.heap[gb382]? = some (.cells #[.int .i64 a0_0, u383001] 33 (0, 0))) ∧ Aside0 (Below w.heap.size w w'))
 case atStart => exact ⟨(([] : List Int)), (0), (([] : List (S70))), (.slice none 0 0), (by first | rfl | (simp; done) | (simp [*]; done)), H', ⟨Nat.le_refl _⟩, ⟨by first | exact Kd.R_nil _ _ _ _ _ | exact Kd.N_nil _ _ _ _ _ | exact Kd.V_nil _ _ _ _ _ | exact Kd.Q_nil _ _ _ _ _ | exact Kd.S_nil _ _ _ _ _⟩, ⟨by first | exact Kd.R_nil _ _ _ _ _ | exact Kd.N_nil _ _ _ _ _ | exact Kd.V_nil _ _ _ _ _ | exact Kd.Q_nil _ _ _ _ _ | exact Kd.S_nil _ _ _ _ _⟩, ⟨kF BK380 NB380_382⟩, ⟨kF BK381 NB381_382⟩, ⟨kP2 BK382⟩, ⟨bX HB⟩⟩
 case round => (
 clear H'
 try clear p2
 try clear c4
 try clear c7
 try clear c8
 try clear hcz10_0
 try clear hcz10_1
 try clear hcz5_0
 try clear hcz5_1
 try clear hcz9_0
 try clear hcz9_1
 try clear hfz10_0
 try clear hfz10_1
 try clear hfz5_0
 try clear hfz5_1
 try clear hfz9_0
 try clear hfz9_1
 obtain ⟨x5_1, x14_1, x383001_1, u383001, rfl, HA, HK1, HO_5, HO_383001, BK380, BK381, BK382, HB⟩ := hrel
 cases gk with
 | zero => exact absurd HA.out (by simp [impl_graphOf.l0])
 | succ k1 => (
 have H := HA.out
 clear HA
 simp only [impl_graphOf.l0] at H
 by_cases c11 : x14_1 < (l0_1.length : Int)
 rotate_left
 {
 rw [if_neg c11] at H
 have c11b0 : decide (x14_1 < (l0_1.length : Int)) = false := decide_eq_false c11
 clear c11
 simp only [Option.some.injEq, Prod.mk.injEq] at H
 obtain ⟨rfl, rfl, rfl⟩ := H
 have hnb70 := NB382_380.out
 have hnc70 := NB380_382.out
 have hnb71 := NB382_381.out
 have hnc71 := NB381_382.out
 have hcz72_0 := q0 BK382
 have hcz72_1 := q1 BK382
 have hfz72_0 := fX BK382 0
 have hfz72_1 := fX BK382 1
 have hnb73 := NB381_380.out
 have hnc73 := NB380_381.out
 have hcz74_0 := q0 BK381
 have hcz74_1 := q1 BK381
 have hfz74_0 := fX BK381 0
 have hfz74_1 := fX BK381 1
 obtain ⟨Ao75, co75, eo75⟩ := Kd.R_slice HO_383001.out
 subst eo75
 go_wp2
 refine bodyPost_ret (results_ct rfl _ _ gb381 33 #[.int .i64 a0_0, .slice Ao75 x383001_1.length co75] (0, 0) _ rfl (kP2 BK381) Try.underlying33 rfl (by kernel_rfl)) rfl ?_
 exact ⟨_, _, by first | rfl | (simp [errW_none, errW_some] <;> rfl) | (simp [*, errW_none, errW_some] <;> rfl), rF2 HO_383001 BK381, rF2 HO_5 BK381, bX HB⟩
 }
 rw [if_pos c11] at H
 have c11b0 : decide (x14_1 < (l0_1.length : Int)) = true := decide_eq_true c11
 clear c11
 by_cases c12 : 0 ≤ x14_1
 rotate_left
 {
 rw [if_neg c12] at H
 exact absurd H (by simp)
 }
 rw [if_pos c12] at H
 have c12b0 : decide (0 ≤ x14_1) = true := decide_eq_true c12
 clear c12
 by_cases c13 : x14_1 < (l0_1.length : Int)
 rotate_left
 {
 rw [if_neg c13] at H
 exact absurd H (by simp)
 }
 rw [if_pos c13] at H
 have c13b0 : decide (x14_1 < (l0_1.length : Int)) = true := decide_eq_true c13
 clear c13
 by_cases c14 : ((rd_T76 l0_1 x14_1).f2.f1) = 1000000
 {
 rw [if_pos c14] at H
 have c14b0 : (((rd_T76 l0_1 x14_1).f2.f1) == 1000000) = true := beq_iff_eq.mpr c14
 have c14b1 : (((rd_T76 l0_1 x14_1).f2.f1) != 1000000) = false := bne_eq_false_iff_eq.mpr c14
 clear c14
 by_cases c15 : ((rd_T76 l0_1 x14_1).f2.f0) = (-1000000)
 {
 rw [if_pos c15] at H
 have c15b0 : (((rd_T76 l0_1 x14_1).f2.f0) == (-1000000)) = true := beq_iff_eq.mpr c15
 have c15b1 : (((rd_T76 l0_1 x14_1).f2.f0) != (-1000000)) = false := bne_eq_false_iff_eq.mpr c15
 clear c15
 have H' := mK H
 clear H
 have p383 : 0 ≤ (x14_1 : Int) := of_decide_eq_true oX
 have q383 : x14_1 < (l0_1.length : Int) := of_decide_eq_true oX
 obtain ⟨ad383, e383, hx383_0, hx383_1, hx383_2, hx383_3⟩ := at_T76 HR0_1.out x14_1 p383 q383
 cases e383
 replace hx383_0 := (HB.out.cell (World.block_lt_of_cell? w _ hx383_0)).trans hx383_0
 replace hx383_1 := (HB.out.cell (World.block_lt_of_cell? w _ hx383_1)).trans hx383_1
 replace hx383_2 := (HB.out.cell (World.block_lt_of_cell? w _ hx383_2)).trans hx383_2
 replace hx383_3 := (HB.out.cell (World.block_lt_of_cell? w _ hx383_3)).trans hx383_3
 replace p383 := eq_true p383
 replace q383 := eq_true q383
 go_wp2_with (first | ((with_reducible refine gate_dst (N := 7) rfl ?_); refine bxE 7 #[.int .i64 0, .int .i64 0, .int .i64 0, .int .i64 0] 76 ?_; intro gb384 hg w16 hbox hb; replace HO_5 := mK (Kd.R_below (rX HO_5) hb); replace HO_383001 := mK (Kd.R_below (rX HO_383001) hb); have BK384 := mK hbox; have GW384 := mK (gX hg HB); have GE384 := mK (gX hg HB); replace HB := bB HB hb; have NB380_384 := mK (lX hg BK380); have NB384_380 := mK (mX hg BK380); replace BK380 := kB BK380 hb; have NB381_384 := mK (lX hg BK381); have NB384_381 := mK (mX hg BK381); replace BK381 := kB BK381 hb; have NB382_384 := mK (lX hg BK382); have NB384_382 := mK (mX hg BK382); replace BK382 := kB BK382 hb; clear hb hbox hg; have hnb17 := NB384_380.out; have hnc17 := NB380_384.out; have hnb18 := NB384_381.out; have hnc18 := NB381_384.out; have hnb19 := NB384_382.out; have hnc19 := NB382_384.out; have hcz20_0 := q0 BK384; have hcz20_1 := q1 BK384; have hcz20_2 := q2 BK384; have hcz20_3 := q3 BK384; have hfz20_0 := fX BK384 0; have hfz20_1 := fX BK384 1; have hfz20_2 := fX BK384 2; have hfz20_3 := fX BK384 3))
 go_roundg k1
 case measure => have := HK1.out; omega
 case rel => exact ⟨(x5_1), (wrap64 (x14_1 + 1)), (x383001_1), (u383001), (by first | rfl | (simp; done) | (simp [*]; done)), H', ⟨by have := HK1.out; omega⟩, ⟨rF4 HO_5 BK384⟩, ⟨rF4 HO_383001 BK384⟩, ⟨kF BK380 NB380_384⟩, ⟨kF BK381 NB381_384⟩, ⟨kF BK382 NB382_384⟩, ⟨bX HB⟩⟩
 }
 rw [if_neg c15] at H
 have c15b0 : (((rd_T76 l0_1 x14_1).f2.f0) == (-1000000)) = false := beq_eq_false_iff_ne.mpr c15
 have c15b1 : (((rd_T76 l0_1 x14_1).f2.f0) != (-1000000)) = true := bne_iff_ne.mpr c15
 by_cases c21 : x383001_1.length < 5864062014805
 rotate_left
 {
 rw [if_neg c21] at H
 exact absurd H (by simp)
 }
 rw [if_pos c21] at H
 have LMc21 := mK c21
 clear c21
 obtain ⟨y385, hy385⟩ : ∃ y_ : List (S70), y_ = (x383001_1 ++ [(⟨(rd_T76 l0_1 x14_1).f1, (rd_T76 l0_1 x14_1).f0, wrap64 (-((rd_T76 l0_1 x14_1).f2.f0))⟩ : S70)]) := ⟨_, rfl⟩
 replace H : (if x5_1.length < 17592186044416 then (impl_graphOf.l0 k1 (x5_1 ++ [x14_1]) l0_1 (l0_1.length : Int) (wrap64 (x14_1 + 1)) a0_0 y385) else (none)) = some (r1, r2, r3) := by first | (rw [hy385]; with_reducible exact H) | (have H2_ := (Option.bind_some _ _).symm.trans H; rw [hy385]; with_reducible exact H2_) | (have H2_ := (Option.bind_some _ _).symm.trans H; with_reducible exact H2_) | with_reducible exact H | (rw [hy385]; exact H) | exact H
 have Ny385 := mK hy385
 clear hy385
 by_cases c22 : x5_1.length < 17592186044416
 rotate_left
 {
 rw [if_neg c22] at H
 exact absurd H (by simp)
 }
 rw [if_pos c22] at H
 have LMc22 := mK c22
 clear c22
 obtain ⟨y388, hy388⟩ : ∃ y_ : List Int, y_ = (x5_1 ++ [x14_1]) := ⟨_, rfl⟩
 replace H : (impl_graphOf.l0 k1 y388 l0_1 (l0_1.length : Int) (wrap64 (x14_1 + 1)) a0_0 y385) = some (r1, r2, r3) := by first | (rw [hy388]; with_reducible exact H) | (have H2_ := (Option.bind_some _ _).symm.trans H; rw [hy388]; with_reducible exact H2_) | (have H2_ := (Option.bind_some _ _).symm.trans H; with_reducible exact H2_) | with_reducible exact H | (rw [hy388]; exact H) | exact H
 have Ny388 := mK hy388
 clear hy388
 have H' := mK H
 clear H
 have p383 : 0 ≤ (x14_1 : Int) := of_decide_eq_true oX
 have q383 : x14_1 < (l0_1.length : Int) := of_decide_eq_true oX
 obtain ⟨ad383, e383, hx383_0, hx383_1, hx383_2, hx383_3⟩ := at_T76 HR0_1.out x14_1 p383 q383
 cases e383
 replace hx383_0 := (HB.out.cell (World.block_lt_of_cell? w _ hx383_0)).trans hx383_0
 replace hx383_1 := (HB.out.cell (World.block_lt_of_cell? w _ hx383_1)).trans hx383_1
 replace hx383_2 := (HB.out.cell (World.block_lt_of_cell? w _ hx383_2)).trans hx383_2
 replace hx383_3 := (HB.out.cell (World.block_lt_of_cell? w _ hx383_3)).trans hx383_3
 replace p383 := eq_true p383
 replace q383 := eq_true q383
 go_wp2_with (first | ((with_reducible refine gate_dst (N := 7) rfl ?_); refine bxE 7 #[.int .i64 0, .int .i64 0, .int .i64 0, .int .i64 0] 76 ?_; intro gb384 hg w23 hbox hb; replace HO_5 := mK (Kd.R_below (rX HO_5) hb); replace HO_383001 := mK (Kd.R_below (rX HO_383001) hb); have BK384 := mK hbox; have GW384 := mK (gX hg HB); have GE384 := mK (gX hg HB); replace HB := bB HB hb; have NB380_384 := mK (lX hg BK380); have NB384_380 := mK (mX hg BK380); replace BK380 := kB BK380 hb; have NB381_384 := mK (lX hg BK381); have NB384_381 := mK (mX hg BK381); replace BK381 := kB BK381 hb; have NB382_384 := mK (lX hg BK382); have NB384_382 := mK (mX hg BK382); replace BK382 := kB BK382 hb; clear hb hbox hg; have hnb24 := NB384_380.out; have hnc24 := NB380_384.out; have hnb25 := NB384_381.out; have hnc25 := NB381_384.out; have hnb26 := NB384_382.out; have hnc26 := NB382_384.out; have hcz27_0 := q0 BK384; have hcz27_1 := q1 BK384; have hcz27_2 := q2 BK384; have hcz27_3 := q3 BK384; have hfz27_0 := fX BK384 0; have hfz27_1 := fX BK384 1; have hfz27_2 := fX BK384 2; have hfz27_3 := fX BK384 3; have hnb28 := NB382_380.out; have hnc28 := NB380_382.out; have hnb29 := NB382_381.out; have hnc29 := NB381_382.out; have hcz30_0 := q0 BK382; have hcz30_1 := q1 BK382; have hfz30_0 := fX BK382 0; have hfz30_1 := fX BK382 1) | ((with_reducible refine gate_builtin (b := .append) (xs := #[.tmp 45, .tmp 55]) rfl ?_); at_builtin; refine Kd.R_append k70 (w0 := w) w.heap.size rfl (.tmp 45) (.tmp 55) 31 70 (.agg #[(.int .i64 0), (.int .i64 0), (.int .i64 0)]) 24 rfl Try.underlying31 info70 rfl (by decide) (by omega) u383001 x383001_1 (⟨(rd_T76 l0_1 x14_1).f1, (rd_T76 l0_1 x14_1).f0, wrap64 (-((rd_T76 l0_1 x14_1).f2.f0))⟩ : S70) [.int .i64 ((rd_T76 l0_1 x14_1).f1), .int .i64 ((rd_T76 l0_1 x14_1).f0), .int .i64 (wrap64 (-((rd_T76 l0_1 x14_1).f2.f0)))] (fun _ => True) (fun _ => False) rfl (by go_simp <;> rfl) ?aP (fun _ hk => hk.elim) ?aF ?aO ?aB ?aS ?aL ?_; (case aP => exact k70_mkM _ _ _ (⟨(rd_T76 l0_1 x14_1).f1, (rd_T76 l0_1 x14_1).f0, wrap64 (-((rd_T76 l0_1 x14_1).f2.f0))⟩ : S70)); (case aB => exact (bX HB)); (case aF => exact (fun _ _ => trivial)); (case aO => exact (rF4 HO_383001 BK384)); (case aS => exact (below_size (bX HB))); (case aL => have := LMc21.out; omega); intro v386 w31 ho hb hg hat; rw [← Ny385.out] at ho; have n0_ := mK (Kd.R_over' (rF4 HO_5 BK384) (Kd.R_typed (rF4 HO_383001 BK384)) (by decide) hg); have n1_ := mK (blk_grown (g := gb380) (o := .cells #[.int .i64 a0_0, .slice (some ad383) l0_1.length c0_1] 47 (0, 0)) (kF BK380 NB380_384) hg (Kd.R_ne HO_383001.out BK380.out (by decide))); have n2_ := mK (blk_grown (g := gb381) (o := .cells #[.int .i64 0, .slice none 0 0] 33 (0, 0)) (kF BK381 NB381_384) hg (Kd.R_ne HO_383001.out BK381.out (by decide))); have n3_ := mK (blk_grown (g := gb382) (o := .cells #[.int .i64 a0_0, u383001] 33 (0, 0)) (kF BK382 NB382_384) hg (Kd.R_ne HO_383001.out BK382.out (by decide))); have n4_ := mK (blk_grown (g := gb384) (o := .cells #[.int .i64 ((rd_T76 l0_1 x14_1).f0), .int .i64 ((rd_T76 l0_1 x14_1).f1), .int .i64 ((rd_T76 l0_1 x14_1).f2.f0), .int .i64 ((rd_T76 l0_1 x14_1).f2.f1)] 76 (0, 0)) (kP4 BK384) hg (Kd.R_ne HO_383001.out BK384.out (by decide))); have n5_ := mK (hb); have n6_ := mK (ho); clear HO_5; clear BK380; clear BK381; clear BK382; clear BK384; clear HB; clear HO_383001; have HO_5 := n0_; have BK380 := n1_; have BK381 := n2_; have BK382 := n3_; have BK384 := n4_; have HB := n5_; have HO387 := n6_; clear n0_ n1_ n2_ n3_ n4_ n5_ n6_; clear ho hb hg hat) | ((with_reducible refine gate_builtin (b := .append) (xs := #[.tmp 57, .tmp 59]) rfl ?_); at_builtin; refine Kd.R_append (Kd.int .i64) (w0 := w) w.heap.size rfl (.tmp 57) (.tmp 59) 26 3 (.int .i64 0) 8 rfl Try.underlying26 info3 rfl (by decide) (by omega) u5 x5_1 x14_1 [.int .i64 x14_1] (fun _ => True) (fun _ => False) rfl rfl ?aP (fun _ hk => hk.elim) ?aF ?aO ?aB ?aS ?aL ?_; (case aP => exact rfl); (case aB => exact (bX HB)); (case aF => exact (fun _ _ => trivial)); (case aO => exact (rX HO_5)); (case aS => exact (below_size (bX HB))); (case aL => have := LMc22.out; omega); intro v389 w32 ho hb hg hat; rw [← Ny388.out] at ho; have n0_ := mK (blk_grown (kX BK380) hg (Kd.R_ne HO_5.out BK380.out (by decide))); have n1_ := mK (blk_grown (kX BK381) hg (Kd.R_ne HO_5.out BK381.out (by decide))); have n2_ := mK (blk_grown (kX BK382) hg (Kd.R_ne HO_5.out BK382.out (by decide))); have n3_ := mK (blk_grown (kX BK384) hg (Kd.R_ne HO_5.out BK384.out (by decide))); have n4_ := mK (Kd.R_over' (rX HO387) (Kd.R_typed (rX HO_5)) (by decide) hg); have n5_ := mK (hb); have n6_ := mK (ho); clear BK380; clear BK381; clear BK382; clear BK384; clear HO387; clear HB; clear HO_5; have BK380 := n0_; have BK381 := n1_; have BK382 := n2_; have BK384 := n3_; have HO387 := n4_; have HB := n5_; have HO390 := n6_; clear n0_ n1_ n2_ n3_ n4_ n5_ n6_; clear ho hb hg hat; obtain ⟨Ao33, co33, eo33⟩ := Kd.R_slice HO387.out; subst eo33; have hcz34_0 := q0 BK382; have hcz34_1 := q1 BK382; have hfz34_0 := fX BK382 0; have hfz34_1 := fX BK382 1))
 go_roundg k1
 case measure => have := HK1.out; omega
 case rel => exact ⟨(y388), (wrap64 (x14_1 + 1)), (y385), (.slice Ao33 y385.length co33), (by first | rfl | (simp; done) | (simp [*]; done)), H', ⟨by have := HK1.out; omega⟩, ⟨by (with_reducible repeat first|apply rA|apply rN|apply rD); exact Kd.R_mono (Kd.R_far (p := ⟨gb382, 1, none⟩) (Kd.R_types HO390.out BK382.out (by decide)) (fun _ hk => hk.2) (.slice Ao33 y385.length co33)) (fun _ hk => trivial)⟩, ⟨by (with_reducible repeat first|apply rA|apply rN|apply rD); exact Kd.R_mono (Kd.R_far (p := ⟨gb382, 1, none⟩) (Kd.R_types HO387.out BK382.out (by decide)) (fun _ hk => hk.2) (.slice Ao33 y385.length co33)) (fun _ hk => trivial)⟩, ⟨kF BK380 NB380_382⟩, ⟨kF BK381 NB381_382⟩, ⟨by (with_reducible repeat first|apply kN|apply kD|apply kA); refine blk_put (cs := #[.int .i64 a0_0, u383001]) ?_ 1 _ rfl; (with_reducible repeat first|apply kN|apply kD|apply kA); exact BK382.out⟩, ⟨bX HB⟩⟩
 }
 rw [if_neg c14] at H
 have c14b0 : (((rd_T76 l0_1 x14_1).f2.f1) == 1000000) = false := beq_eq_false_iff_ne.mpr c14
 have c14b1 : (((rd_T76 l0_1 x14_1).f2.f1) != 1000000) = true := bne_iff_ne.mpr c14
 by_cases c35 : x383001_1.length < 5864062014805
 rotate_left
 {
 rw [if_neg c35] at H
 exact absurd H (by simp)
 }
 rw [if_pos c35] at H
 have LMc35 := mK c35
 clear c35
 obtain ⟨y391, hy391⟩ : ∃ y_ : List (S70), y_ = (x383001_1 ++ [(⟨(rd_T76 l0_1 x14_1).f0, (rd_T76 l0_1 x14_1).f1, (rd_T76 l0_1 x14_1).f2.f1⟩ : S70)]) := ⟨_, rfl⟩
 replace H : (if x5_1.length < 17592186044416 then ((some (x5_1 ++ [x14_1] : List Int)).bind fun y394 => (if ((rd_T76 l0_1 x14_1).f2.f0) = (-1000000) then (impl_graphOf.l0 k1 y394 l0_1 (l0_1.length : Int) (wrap64 (x14_1 + 1)) a0_0 y391) else (if y391.length < 5864062014805 then (if y394.length < 17592186044416 then (impl_graphOf.l0 k1 (y394 ++ [x14_1]) l0_1 (l0_1.length : Int) (wrap64 (x14_1 + 1)) a0_0 (y391 ++ [(⟨(rd_T76 l0_1 x14_1).f1, (rd_T76 l0_1 x14_1).f0, wrap64 (-((rd_T76 l0_1 x14_1).f2.f0))⟩ : S70)])) else (none)) else (none)))) else (none)) = some (r1, r2, r3) := by first | (rw [hy391]; with_reducible exact H) | (have H2_ := (Option.bind_some _ _).symm.trans H; rw [hy391]; with_reducible exact H2_) | (have H2_ := (Option.bind_some _ _).symm.trans H; with_reducible exact H2_) | with_reducible exact H | (rw [hy391]; exact H) | exact H
 have Ny391 := mK hy391
 clear hy391
 by_cases c36 : x5_1.length < 17592186044416
 rotate_left
 {
 rw [if_neg c36] at H
 exact absurd H (by simp)
 }
 rw [if_pos c36] at H
 have LMc36 := mK c36
 clear c36
 obtain ⟨y394, hy394⟩ : ∃ y_ : List Int, y_ = (x5_1 ++ [x14_1]) := ⟨_, rfl⟩
 replace H : (if ((rd_T76 l0_1 x14_1).f2.f0) = (-1000000) then (impl_graphOf.l0 k1 y394 l0_1 (l0_1.length : Int) (wrap64 (x14_1 + 1)) a0_0 y391) else (if y391.length < 5864062014805 then (if y394.length < 17592186044416 then (impl_graphOf.l0 k1 (y394 ++ [x14_1]) l0_1 (l0_1.length : Int) (wrap64 (x14_1 + 1)) a0_0 (y391 ++ [(⟨(rd_T76 l0_1 x14_1).f1, (rd_T76 l0_1 x14_1).f0, wrap64 (-((rd_T76 l0_1 x14_1).f2.f0))⟩ : S70)])) else (none)) else (none))) = some (r1, r2, r3) := by first | (rw [hy394]; with_reducible exact H) | (have H2_ := (Option.bind_some _ _).symm.trans H; rw [hy394]; with_reducible exact H2_) | (have H2_ := (Option.bind_some _ _).symm.trans H; with_reducible exact H2_) | with_reducible exact H | (rw [hy394]; exact H) | exact H
 have Ny394 := mK hy394
 clear hy394
 by_cases c37 : ((rd_T76 l0_1 x14_1).f2.f0) = (-1000000)
 {
 rw [if_pos c37] at H
 have c37b0 : (((rd_T76 l0_1 x14_1).f2.f0) == (-1000000)) = true := beq_iff_eq.mpr c37
 have c37b1 : (((rd_T76 l0_1 x14_1).f2.f0) != (-1000000)) = false := bne_eq_false_iff_eq.mpr c37
 clear c37
 have H' := mK H
 clear H
 have p383 : 0 ≤ (x14_1 : Int) := of_decide_eq_true oX
 have q383 : x14_1 < (l0_1.length : Int) := of_decide_eq_true oX
 obtain ⟨ad383, e383, hx383_0, hx383_1, hx383_2, hx383_3⟩ := at_T76 HR0_1.out x14_1 p383 q383
 cases e383
 replace hx383_0 := (HB.out.cell (World.block_lt_of_cell? w _ hx383_0)).trans hx383_0
 replace hx383_1 := (HB.out.cell (World.block_lt_of_cell? w _ hx383_1)).trans hx383_1
 replace hx383_2 := (HB.out.cell (World.block_lt_of_cell? w _ hx383_2)).trans hx383_2
 replace hx383_3 := (HB.out.cell (World.block_lt_of_cell? w _ hx383_3)).trans hx383_3
 replace p383 := eq_true p383
 replace q383 := eq_true q383
 go_wp2_with (first | ((with_reducible refine gate_dst (N := 7) rfl ?_); refine bxE 7 #[.int .i64 0, .int .i64 0, .int .i64 0, .int .i64 0] 76 ?_; intro gb384 hg w38 hbox hb; replace HO_5 := mK (Kd.R_below (rX HO_5) hb); replace HO_383001 := mK (Kd.R_below (rX HO_383001) hb); have BK384 := mK hbox; have GW384 := mK (gX hg HB); have GE384 := mK (gX hg HB); replace HB := bB HB hb; have NB380_384 := mK (lX hg BK380); have NB384_380 := mK (mX hg BK380); replace BK380 := kB BK380 hb; have NB381_384 := mK (lX hg BK381); have NB384_381 := mK (mX hg BK381); replace BK381 := kB BK381 hb; have NB382_384 := mK (lX hg BK382); have NB384_382 := mK (mX hg BK382); replace BK382 := kB BK382 hb; clear hb hbox hg; have hnb39 := NB384_380.out; have hnc39 := NB380_384.out; have hnb40 := NB384_381.out; have hnc40 := NB381_384.out; have hnb41 := NB384_382.out; have hnc41 := NB382_384.out; have hcz42_0 := q0 BK384; have hcz42_1 := q1 BK384; have hcz42_2 := q2 BK384; have hcz42_3 := q3 BK384; have hfz42_0 := fX BK384 0; have hfz42_1 := fX BK384 1; have hfz42_2 := fX BK384 2; have hfz42_3 := fX BK384 3; have hnb43 := NB382_380.out; have hnc43 := NB380_382.out; have hnb44 := NB382_381.out; have hnc44 := NB381_382.out; have hcz45_0 := q0 BK382; have hcz45_1 := q1 BK382; have hfz45_0 := fX BK382 0; have hfz45_1 := fX BK382 1) | ((with_reducible refine gate_builtin (b := .append) (xs := #[.tmp 24, .tmp 33]) rfl ?_); at_builtin; refine Kd.R_append k70 (w0 := w) w.heap.size rfl (.tmp 24) (.tmp 33) 31 70 (.agg #[(.int .i64 0), (.int .i64 0), (.int .i64 0)]) 24 rfl Try.underlying31 info70 rfl (by decide) (by omega) u383001 x383001_1 (⟨(rd_T76 l0_1 x14_1).f0, (rd_T76 l0_1 x14_1).f1, (rd_T76 l0_1 x14_1).f2.f1⟩ : S70) [.int .i64 ((rd_T76 l0_1 x14_1).f0), .int .i64 ((rd_T76 l0_1 x14_1).f1), .int .i64 ((rd_T76 l0_1 x14_1).f2.f1)] (fun _ => True) (fun _ => False) rfl (by go_simp <;> rfl) ?aP (fun _ hk => hk.elim) ?aF ?aO ?aB ?aS ?aL ?_; (case aP => exact k70_mkM _ _ _ (⟨(rd_T76 l0_1 x14_1).f0, (rd_T76 l0_1 x14_1).f1, (rd_T76 l0_1 x14_1).f2.f1⟩ : S70)); (case aB => exact (bX HB)); (case aF => exact (fun _ _ => trivial)); (case aO => exact (rF4 HO_383001 BK384)); (case aS => exact (below_size (bX HB))); (case aL => have := LMc35.out; omega); intro v392 w46 ho hb hg hat; rw [← Ny391.out] at ho; have n0_ := mK (Kd.R_over' (rF4 HO_5 BK384) (Kd.R_typed (rF4 HO_383001 BK384)) (by decide) hg); have n1_ := mK (blk_grown (g := gb380) (o := .cells #[.int .i64 a0_0, .slice (some ad383) l0_1.length c0_1] 47 (0, 0)) (kF BK380 NB380_384) hg (Kd.R_ne HO_383001.out BK380.out (by decide))); have n2_ := mK (blk_grown (g := gb381) (o := .cells #[.int .i64 0, .slice none 0 0] 33 (0, 0)) (kF BK381 NB381_384) hg (Kd.R_ne HO_383001.out BK381.out (by decide))); have n3_ := mK (blk_grown (g := gb382) (o := .cells #[.int .i64 a0_0, u383001] 33 (0, 0)) (kF BK382 NB382_384) hg (Kd.R_ne HO_383001.out BK382.out (by decide))); have n4_ := mK (blk_grown (g := gb384) (o := .cells #[.int .i64 ((rd_T76 l0_1 x14_1).f0), .int .i64 ((rd_T76 l0_1 x14_1).f1), .int .i64 ((rd_T76 l0_1 x14_1).f2.f0), .int .i64 ((rd_T76 l0_1 x14_1).f2.f1)] 76 (0, 0)) (kP4 BK384) hg (Kd.R_ne HO_383001.out BK384.out (by decide))); have n5_ := mK (hb); have n6_ := mK (ho); clear HO_5; clear BK380; clear BK381; clear BK382; clear BK384; clear HB; clear HO_383001; have HO_5 := n0_; have BK380 := n1_; have BK381 := n2_; have BK382 := n3_; have BK384 := n4_; have HB := n5_; have HO393 := n6_; clear n0_ n1_ n2_ n3_ n4_ n5_ n6_; clear ho hb hg hat) | ((with_reducible refine gate_builtin (b := .append) (xs := #[.tmp 35, .tmp 37]) rfl ?_); at_builtin; refine Kd.R_append (Kd.int .i64) (w0 := w) w.heap.size rfl (.tmp 35) (.tmp 37) 26 3 (.int .i64 0) 8 rfl Try.underlying26 info3 rfl (by decide) (by omega) u5 x5_1 x14_1 [.int .i64 x14_1] (fun _ => True) (fun _ => False) rfl rfl ?aP (fun _ hk => hk.elim) ?aF ?aO ?aB ?aS ?aL ?_; (case aP => exact rfl); (case aB => exact (bX HB)); (case aF => exact (fun _ _ => trivial)); (case aO => exact (rX HO_5)); (case aS => exact (below_size (bX HB))); (case aL => have := LMc36.out; omega); intro v395 w47 ho hb hg hat; rw [← Ny394.out] at ho; have n0_ := mK (blk_grown (kX BK380) hg (Kd.R_ne HO_5.out BK380.out (by decide))); have n1_ := mK (blk_grown (kX BK381) hg (Kd.R_ne HO_5.out BK381.out (by decide))); have n2_ := mK (blk_grown (kX BK382) hg (Kd.R_ne HO_5.out BK382.out (by decide))); have n3_ := mK (blk_grown (kX BK384) hg (Kd.R_ne HO_5.out BK384.out (by decide))); have n4_ := mK (Kd.R_over' (rX HO393) (Kd.R_typed (rX HO_5)) (by decide) hg); have n5_ := mK (hb); have n6_ := mK (ho); clear BK380; clear BK381; clear BK382; clear BK384; clear HO393; clear HB; clear HO_5; have BK380 := n0_; have BK381 := n1_; have BK382 := n2_; have BK384 := n3_; have HO393 := n4_; have HB := n5_; have HO396 := n6_; clear n0_ n1_ n2_ n3_ n4_ n5_ n6_; clear ho hb hg hat; obtain ⟨Ao48, co48, eo48⟩ := Kd.R_slice HO393.out; subst eo48; have hcz49_0 := q0 BK382; have hcz49_1 := q1 BK382; have hfz49_0 := fX BK382 0; have hfz49_1 := fX BK382 1; have hcz50_0 := q0 BK384; have hcz50_1 := q1 BK384; have hcz50_2 := q2 BK384; have hcz50_3 := q3 BK384; have hfz50_0 := fX BK384 0; have hfz50_1 := fX BK384 1; have hfz50_2 := fX BK384 2; have hfz50_3 := fX BK384 3))
 go_roundg k1
 case measure => have := HK1.out; omega
 case rel => exact ⟨(y394), (wrap64 (x14_1 + 1)), (y391), (.slice Ao48 y391.length co48), (by first | rfl | (simp; done) | (simp [*]; done)), H', ⟨by have := HK1.out; omega⟩, ⟨by (with_reducible repeat first|apply rA|apply rN|apply rD); exact Kd.R_mono (Kd.R_far (p := ⟨gb382, 1, none⟩) (Kd.R_types HO396.out BK382.out (by decide)) (fun _ hk => hk.2) (.slice Ao48 y391.length co48)) (fun _ hk => trivial)⟩, ⟨by (with_reducible repeat first|apply rA|apply rN|apply rD); exact Kd.R_mono (Kd.R_far (p := ⟨gb382, 1, none⟩) (Kd.R_types HO393.out BK382.out (by decide)) (fun _ hk => hk.2) (.slice Ao48 y391.length co48)) (fun _ hk => trivial)⟩, ⟨kF BK380 NB380_382⟩, ⟨kF BK381 NB381_382⟩, ⟨by (with_reducible repeat first|apply kN|apply kD|apply kA); refine blk_put (cs := #[.int .i64 a0_0, u383001]) ?_ 1 _ rfl; (with_reducible repeat first|apply kN|apply kD|apply kA); exact BK382.out⟩, ⟨bX HB⟩⟩
 }
 rw [if_neg c37] at H
 have c37b0 : (((rd_T76 l0_1 x14_1).f2.f0) == (-1000000)) = false := beq_eq_false_iff_ne.mpr c37
 have c37b1 : (((rd_T76 l0_1 x14_1).f2.f0) != (-1000000)) = true := bne_iff_ne.mpr c37
 by_cases c51 : y391.length < 5864062014805
 rotate_left
 {
 rw [if_neg c51] at H
 exact absurd H (by simp)
 }
 rw [if_pos c51] at H
 have LMc51 := mK c51
 clear c51
 obtain ⟨y397, hy397⟩ : ∃ y_ : List (S70), y_ = (y391 ++ [(⟨(rd_T76 l0_1 x14_1).f1, (rd_T76 l0_1 x14_1).f0, wrap64 (-((rd_T76 l0_1 x14_1).f2.f0))⟩ : S70)]) := ⟨_, rfl⟩
 replace H : (if y394.length < 17592186044416 then (impl_graphOf.l0 k1 (y394 ++ [x14_1]) l0_1 (l0_1.length : Int) (wrap64 (x14_1 + 1)) a0_0 y397) else (none)) = some (r1, r2, r3) := by first | (rw [hy397]; with_reducible exact H) | (have H2_ := (Option.bind_some _ _).symm.trans H; rw [hy397]; with_reducible exact H2_) | (have H2_ := (Option.bind_some _ _).symm.trans H; with_reducible exact H2_) | with_reducible exact H | (rw [hy397]; exact H) | exact H
 have Ny397 := mK hy397
 clear hy397
 by_cases c52 : y394.length < 17592186044416
 rotate_left
 {
 rw [if_neg c52] at H
 exact absurd H (by simp)
 }
 rw [if_pos c52] at H
 have LMc52 := mK c52
 clear c52
 obtain ⟨y400, hy400⟩ : ∃ y_ : List Int, y_ = (y394 ++ [x14_1]) := ⟨_, rfl⟩
 replace H : (impl_graphOf.l0 k1 y400 l0_1 (l0_1.length : Int) (wrap64 (x14_1 + 1)) a0_0 y397) = some (r1, r2, r3) := by first | (rw [hy400]; with_reducible exact H) | (have H2_ := (Option.bind_some _ _).symm.trans H; rw [hy400]; with_reducible exact H2_) | (have H2_ := (Option.bind_some _ _).symm.trans H; with_reducible exact H2_) | with_reducible exact H | (rw [hy400]; exact H) | exact H
 have Ny400 := mK hy400
 clear hy400
 have H' := mK H
 clear H
 have p383 : 0 ≤ (x14_1 : Int) := of_decide_eq_true oX
 have q383 : x14_1 < (l0_1.length : Int) := of_decide_eq_true oX
 obtain ⟨ad383, e383, hx383_0, hx383_1, hx383_2, hx383_3⟩ := at_T76 HR0_1.out x14_1 p383 q383
 cases e383
 replace hx383_0 := (HB.out.cell (World.block_lt_of_cell? w _ hx383_0)).trans hx383_0
 replace hx383_1 := (HB.out.cell (World.block_lt_of_cell? w _ hx383_1)).trans hx383_1
 replace hx383_2 := (HB.out.cell (World.block_lt_of_cell? w _ hx383_2)).trans hx383_2
 replace hx383_3 := (HB.out.cell (World.block_lt_of_cell? w _ hx383_3)).trans hx383_3
 replace p383 := eq_true p383
 replace q383 := eq_true q383
 go_wp2_with (first | ((with_reducible refine gate_dst (N := 7) rfl ?_); refine bxE 7 #[.int .i64 0, .int .i64 0, .int .i64 0, .int .i64 0] 76 ?_; intro gb384 hg w53 hbox hb; replace HO_5 := mK (Kd.R_below (rX HO_5) hb); replace HO_383001 := mK (Kd.R_below (rX HO_383001) hb); have BK384 := mK hbox; have GW384 := mK (gX hg HB); have GE384 := mK (gX hg HB); replace HB := bB HB hb; have NB380_384 := mK (lX hg BK380); have NB384_380 := mK (mX hg BK380); replace BK380 := kB BK380 hb; have NB381_384 := mK (lX hg BK381); have NB384_381 := mK (mX hg BK381); replace BK381 := kB BK381 hb; have NB382_384 := mK (lX hg BK382); have NB384_382 := mK (mX hg BK382); replace BK382 := kB BK382 hb; clear hb hbox hg; have hnb54 := NB384_380.out; have hnc54 := NB380_384.out; have hnb55 := NB384_381.out; have hnc55 := NB381_384.out; have hnb56 := NB384_382.out; have hnc56 := NB382_384.out; have hcz57_0 := q0 BK384; have hcz57_1 := q1 BK384; have hcz57_2 := q2 BK384; have hcz57_3 := q3 BK384; have hfz57_0 := fX BK384 0; have hfz57_1 := fX BK384 1; have hfz57_2 := fX BK384 2; have hfz57_3 := fX BK384 3; have hnb58 := NB382_380.out; have hnc58 := NB380_382.out; have hnb59 := NB382_381.out; have hnc59 := NB381_382.out; have hcz60_0 := q0 BK382; have hcz60_1 := q1 BK382; have hfz60_0 := fX BK382 0; have hfz60_1 := fX BK382 1) | ((with_reducible refine gate_builtin (b := .append) (xs := #[.tmp 24, .tmp 33]) rfl ?_); at_builtin; refine Kd.R_append k70 (w0 := w) w.heap.size rfl (.tmp 24) (.tmp 33) 31 70 (.agg #[(.int .i64 0), (.int .i64 0), (.int .i64 0)]) 24 rfl Try.underlying31 info70 rfl (by decide) (by omega) u383001 x383001_1 (⟨(rd_T76 l0_1 x14_1).f0, (rd_T76 l0_1 x14_1).f1, (rd_T76 l0_1 x14_1).f2.f1⟩ : S70) [.int .i64 ((rd_T76 l0_1 x14_1).f0), .int .i64 ((rd_T76 l0_1 x14_1).f1), .int .i64 ((rd_T76 l0_1 x14_1).f2.f1)] (fun _ => True) (fun _ => False) rfl (by go_simp <;> rfl) ?aP (fun _ hk => hk.elim) ?aF ?aO ?aB ?aS ?aL ?_; (case aP => exact k70_mkM _ _ _ (⟨(rd_T76 l0_1 x14_1).f0, (rd_T76 l0_1 x14_1).f1, (rd_T76 l0_1 x14_1).f2.f1⟩ : S70)); (case aB => exact (bX HB)); (case aF => exact (fun _ _ => trivial)); (case aO => exact (rF4 HO_383001 BK384)); (case aS => exact (below_size (bX HB))); (case aL => have := LMc35.out; omega); intro v392 w61 ho hb hg hat; rw [← Ny391.out] at ho; have n0_ := mK (Kd.R_over' (rF4 HO_5 BK384) (Kd.R_typed (rF4 HO_383001 BK384)) (by decide) hg); have n1_ := mK (blk_grown (g := gb380) (o := .cells #[.int .i64 a0_0, .slice (some ad383) l0_1.length c0_1] 47 (0, 0)) (kF BK380 NB380_384) hg (Kd.R_ne HO_383001.out BK380.out (by decide))); have n2_ := mK (blk_grown (g := gb381) (o := .cells #[.int .i64 0, .slice none 0 0] 33 (0, 0)) (kF BK381 NB381_384) hg (Kd.R_ne HO_383001.out BK381.out (by decide))); have n3_ := mK (blk_grown (g := gb382) (o := .cells #[.int .i64 a0_0, u383001] 33 (0, 0)) (kF BK382 NB382_384) hg (Kd.R_ne HO_383001.out BK382.out (by decide))); have n4_ := mK (blk_grown (g := gb384) (o := .cells #[.int .i64 ((rd_T76 l0_1 x14_1).f0), .int .i64 ((rd_T76 l0_1 x14_1).f1), .int .i64 ((rd_T76 l0_1 x14_1).f2.f0), .int .i64 ((rd_T76 l0_1 x14_1).f2.f1)] 76 (0, 0)) (kP4 BK384) hg (Kd.R_ne HO_383001.out BK384.out (by decide))); have n5_ := mK (hb); have n6_ := mK (ho); clear HO_5; clear BK380; clear BK381; clear BK382; clear BK384; clear HB; clear HO_383001; have HO_5 := n0_; have BK380 := n1_; have BK381 := n2_; have BK382 := n3_; have BK384 := n4_; have HB := n5_; have HO393 := n6_; clear n0_ n1_ n2_ n3_ n4_ n5_ n6_; clear ho hb hg hat) | ((with_reducible refine gate_builtin (b := .append) (xs := #[.tmp 35, .tmp 37]) rfl ?_); at_builtin; refine Kd.R_append (Kd.int .i64) (w0 := w) w.heap.size rfl (.tmp 35) (.tmp 37) 26 3 (.int .i64 0) 8 rfl Try.underlying26 info3 rfl (by decide) (by omega) u5 x5_1 x14_1 [.int .i64 x14_1] (fun _ => True) (fun _ => False) rfl rfl ?aP (fun _ hk => hk.elim) ?aF ?aO ?aB ?aS ?aL ?_; (case aP => exact rfl); (case aB => exact (bX HB)); (case aF => exact (fun _ _ => trivial)); (case aO => exact (rX HO_5)); (case aS => exact (below_size (bX HB))); (case aL => have := LMc36.out; omega); intro v395 w62 ho hb hg hat; rw [← Ny394.out] at ho; have n0_ := mK (blk_grown (kX BK380) hg (Kd.R_ne HO_5.out BK380.out (by decide))); have n1_ := mK (blk_grown (kX BK381) hg (Kd.R_ne HO_5.out BK381.out (by decide))); have n2_ := mK (blk_grown (kX BK382) hg (Kd.R_ne HO_5.out BK382.out (by decide))); have n3_ := mK (blk_grown (kX BK384) hg (Kd.R_ne HO_5.out BK384.out (by decide))); have n4_ := mK (Kd.R_over' (rX HO393) (Kd.R_typed (rX HO_5)) (by decide) hg); have n5_ := mK (hb); have n6_ := mK (ho); clear BK380; clear BK381; clear BK382; clear BK384; clear HO393; clear HB; clear HO_5; have BK380 := n0_; have BK381 := n1_; have BK382 := n2_; have BK384 := n3_; have HO393 := n4_; have HB := n5_; have HO396 := n6_; clear n0_ n1_ n2_ n3_ n4_ n5_ n6_; clear ho hb hg hat; obtain ⟨Ao63, co63, eo63⟩ := Kd.R_slice HO393.out; subst eo63; have hcz64_0 := q0 BK382; have hcz64_1 := q1 BK382; have hfz64_0 := fX BK382 0; have hfz64_1 := fX BK382 1; have hcz65_0 := q0 BK384; have hcz65_1 := q1 BK384; have hcz65_2 := q2 BK384; have hcz65_3 := q3 BK384; have hfz65_0 := fX BK384 0; have hfz65_1 := fX BK384 1; have hfz65_2 := fX BK384 2; have hfz65_3 := fX BK384 3) | ((with_reducible refine gate_builtin (b := .append) (xs := #[.tmp 45, .tmp 55]) rfl ?_); at_builtin; refine Kd.R_append k70 (w0 := w) w.heap.size rfl (.tmp 45) (.tmp 55) 31 70 (.agg #[(.int .i64 0), (.int .i64 0), (.int .i64 0)]) 24 rfl Try.underlying31 info70 rfl (by decide) (by omega) (.slice Ao63 y391.length co63) y391 (⟨(rd_T76 l0_1 x14_1).f1, (rd_T76 l0_1 x14_1).f0, wrap64 (-((rd_T76 l0_1 x14_1).f2.f0))⟩ : S70) [.int .i64 ((rd_T76 l0_1 x14_1).f1), .int .i64 ((rd_T76 l0_1 x14_1).f0), .int .i64 (wrap64 (-((rd_T76 l0_1 x14_1).f2.f0)))] (fun _ => True) (fun _ => False) rfl (by go_simp <;> rfl) ?aP (fun _ hk => hk.elim) ?aF ?aO ?aB ?aS ?aL ?_; (case aP => exact k70_mkM _ _ _ (⟨(rd_T76 l0_1 x14_1).f1, (rd_T76 l0_1 x14_1).f0, wrap64 (-((rd_T76 l0_1 x14_1).f2.f0))⟩ : S70)); (case aB => exact (bX HB)); (case aF => exact (fun _ _ => trivial)); (case aO => exact (by (with_reducible repeat first|apply rA|apply rN|apply rD); exact Kd.R_mono (Kd.R_far (p := ⟨gb382, 1, none⟩) (Kd.R_types HO393.out BK382.out (by decide)) (fun _ hk => hk.2) (.slice Ao63 y391.length co63)) (fun _ hk => trivial))); (case aS => exact (below_size (bX HB))); (case aL => have := LMc51.out; omega); intro v398 w66 ho hb hg hat; rw [← Ny397.out] at ho; have n0_ := mK (blk_grown (g := gb380) (o := .cells #[.int .i64 a0_0, .slice (some ad383) l0_1.length c0_1] 47 (0, 0)) (kF BK380 NB380_382) hg (Kd.R_ne HO393.out BK380.out (by decide))); have n1_ := mK (blk_grown (g := gb381) (o := .cells #[.int .i64 0, .slice none 0 0] 33 (0, 0)) (kF BK381 NB381_382) hg (Kd.R_ne HO393.out BK381.out (by decide))); have n2_ := mK (blk_grown (g := gb382) (o := .cells #[.int .i64 a0_0, .slice Ao63 y391.length co63] 33 (0, 0)) (by (with_reducible repeat first|apply kN|apply kD|apply kA); refine blk_put (cs := #[.int .i64 a0_0, u383001]) ?_ 1 _ rfl; (with_reducible repeat first|apply kN|apply kD|apply kA); exact BK382.out) hg (Kd.R_ne HO393.out BK382.out (by decide))); have n3_ := mK (blk_grown (g := gb384) (o := .cells #[.int .i64 ((rd_T76 l0_1 x14_1).f0), .int .i64 ((rd_T76 l0_1 x14_1).f1), .int .i64 ((rd_T76 l0_1 x14_1).f2.f0), .int .i64 ((rd_T76 l0_1 x14_1).f2.f1)] 76 (0, 0)) (kF BK384 NB384_382) hg (Kd.R_ne HO393.out BK384.out (by decide))); have n4_ := mK (Kd.R_over' (by (with_reducible repeat first|apply rA|apply rN|apply rD); exact (Kd.R_mono (Kd.R_far (p := ⟨gb382, 1, none⟩) (Kd.R_types HO396.out BK382.out (by decide)) (fun _ hk => hk.2) (.slice Ao63 y391.length co63)) (fun _ h_ => h_.1))) (Kd.R_typed (by (with_reducible repeat first|apply rA|apply rN|apply rD); exact (Kd.R_mono (Kd.R_far (p := ⟨gb382, 1, none⟩) (Kd.R_types HO393.out BK382.out (by decide)) (fun _ hk => hk.2) (.slice Ao63 y391.length co63)) (fun _ h_ => h_.1)))) (by decide) hg); have n5_ := mK (hb); have n6_ := mK (ho); clear BK380; clear BK381; clear BK382; clear BK384; clear HO396; clear HB; clear HO393; have BK380 := n0_; have BK381 := n1_; have BK382 := n2_; have BK384 := n3_; have HO396 := n4_; have HB := n5_; have HO399 := n6_; clear n0_ n1_ n2_ n3_ n4_ n5_ n6_; clear ho hb hg hat) | ((with_reducible refine gate_builtin (b := .append) (xs := #[.tmp 57, .tmp 59]) rfl ?_); at_builtin; refine Kd.R_append (Kd.int .i64) (w0 := w) w.heap.size rfl (.tmp 57) (.tmp 59) 26 3 (.int .i64 0) 8 rfl Try.underlying26 info3 rfl (by decide) (by omega) v395 y394 x14_1 [.int .i64 x14_1] (fun _ => True) (fun _ => False) rfl rfl ?aP (fun _ hk => hk.elim) ?aF ?aO ?aB ?aS ?aL ?_; (case aP => exact rfl); (case aB => exact (bX HB)); (case aF => exact (fun _ _ => trivial)); (case aO => exact (rX HO396)); (case aS => exact (below_size (bX HB))); (case aL => have := LMc52.out; omega); intro v401 w67 ho hb hg hat; rw [← Ny400.out] at ho; have n0_ := mK (blk_grown (kX BK380) hg (Kd.R_ne HO396.out BK380.out (by decide))); have n1_ := mK (blk_grown (kX BK381) hg (Kd.R_ne HO396.out BK381.out (by decide))); have n2_ := mK (blk_grown (kX BK382) hg (Kd.R_ne HO396.out BK382.out (by decide))); have n3_ := mK (blk_grown (kX BK384) hg (Kd.R_ne HO396.out BK384.out (by decide))); have n4_ := mK (Kd.R_over' (rX HO399) (Kd.R_typed (rX HO396)) (by decide) hg); have n5_ := mK (hb); have n6_ := mK (ho); clear BK380; clear BK381; clear BK382; clear BK384; clear HO399; clear HB; clear HO396; have BK380 := n0_; have BK381 := n1_; have BK382 := n2_; have BK384 := n3_; have HO399 := n4_; have HB := n5_; have HO402 := n6_; clear n0_ n1_ n2_ n3_ n4_ n5_ n6_; clear ho hb hg hat; obtain ⟨Ao68, co68, eo68⟩ := Kd.R_slice HO399.out; subst eo68; have hcz69_0 := q0 BK382; have hcz69_1 := q1 BK382; have hfz69_0 := fX BK382 0; have hfz69_1 := fX BK382 1))
 go_roundg k1
 case measure => have := HK1.out; omega
 case rel => exact ⟨(y400), (wrap64 (x14_1 + 1)), (y397), (.slice Ao68 y397.length co68), (by first | rfl | (simp; done) | (simp [*]; done)), H', ⟨by have := HK1.out; omega⟩, ⟨by (with_reducible repeat first|apply rA|apply rN|apply rD); exact Kd.R_mono (Kd.R_far (p := ⟨gb382, 1, none⟩) (Kd.R_types HO402.out BK382.out (by decide)) (fun _ hk => hk.2) (.slice Ao68 y397.length co68)) (fun _ hk => trivial)⟩, ⟨by (with_reducible repeat first|apply rA|apply rN|apply rD); exact Kd.R_mono (Kd.R_far (p := ⟨gb382, 1, none⟩) (Kd.R_types HO399.out BK382.out (by decide)) (fun _ hk => hk.2) (.slice Ao68 y397.length co68)) (fun _ hk => trivial)⟩, ⟨kF BK380 NB380_382⟩, ⟨kF BK381 NB381_382⟩, ⟨by (with_reducible repeat first|apply kN|apply kD|apply kA); refine blk_put (cs := #[.int .i64 a0_0, .slice Ao63 y391.length co63]) ?_ 1 _ rfl; (with_reducible repeat first|apply kN|apply kD|apply kA); exact BK382.out⟩, ⟨bX HB⟩⟩
 )
 )

/-! ### impl_GraphOf: function 67 -/
def impl_GraphOf.f (k : Nat) (a0_0 : Int) (l0_1 : List (S76)) : Option (Int × (List (S70))) := (impl_SimpleOk.f a0_0 l0_1).bind fun t405 => (if t405 = true then ((impl_graphOf.f k a0_0 l0_1).bind fun bt406 => (some (bt406.1, bt406.2.1))) else (some (0, ([] : List (S70)))))
theorem impl_GraphOf.mono : ∀ a0 a1 k, LeO (impl_GraphOf.f k a0 a1) (impl_GraphOf.f (k + 1) a0 a1) := by
  intro a0 a1 k
  unfold impl_GraphOf.f
  repeat' first|(with_reducible first|exact impl_graphOf.mono _ _ _|exact lR _|exact lN _|refine lI ?_ ?_|refine lB ?_ (fun _ => ?_))|exact impl_graphOf.mono _ _ _|exact lN _|refine lI ?_ ?_|refine lB ?_ (fun _ => ?_)
set_option maxHeartbeats 8000000 in
set_option maxRecDepth 100000 in
theorem impl_GraphOf.calls (k : Nat) (a0_0 : Int) (A0_1 : Option Addr) (c0_1 : Nat) (l0_1 : List (S76)) (r1 : Int) (r2 : List (S70)) (w : World) (hr0_1 : Kd.C k76 w A0_1 l0_1.length l0_1) (hc0_1 : l0_1.length ≤ c0_1) (h : impl_GraphOf.f k a0_0 l0_1 = some (r1, r2)) :
    Calls Try.prog 67 #[.agg #[.int .i64 a0_0, .slice A0_1 l0_1.length c0_1]] w fun e w' => ∃ v1_ : Value, e = .returned (.agg #[.int .i64 r1, v1_]) ∧ Kd.R k70 70 w' w.heap.size (fun _ => True) v1_ r2 ∧ Below w.heap.size w w' := by
  have hu47 := Try.underlying47
  have hu33 := Try.underlying33
  have HR0_1 := mK hr0_1
  have HC0_1 := mK hc0_1
  clear hr0_1 hc0_1
  have HB := mK (Below.refl w.heap.size w)
  have H : ((impl_SimpleOk.f a0_0 l0_1).bind fun t405 => (if t405 = true then ((impl_graphOf.f k a0_0 l0_1).bind fun bt406 => (some (bt406.1, bt406.2.1))) else (some (0, ([] : List (S70)))))) = some (r1, r2) := h
  clear h
  replace H := Option.bind_eq_some_iff.mp H
  obtain ⟨t405, A20, H⟩ := H
  replace H : (if t405 = true then ((impl_graphOf.f k a0_0 l0_1).bind fun bt406 => (some (bt406.1, bt406.2.1))) else (some (0, ([] : List (S70))))) = some (r1, r2) := H
  have A2 := mK A20
  clear A20
  by_cases c3 : t405 = true
  rotate_left
  · replace c3 := Bool.eq_false_iff.mpr c3
    subst c3
    rw [if_neg (show ¬ (false = true) by decide)] at H
    simp only [Option.some.injEq, Prod.mk.injEq] at H
    obtain ⟨rfl, rfl⟩ := H
    go_enter Try.func67, Try.ntmps67
    go_wp2_with (first | ((with_reducible refine gate_dst (N := 1) rfl ?_); refine bxE 1 #[.int .i64 a0_0, .slice A0_1 l0_1.length c0_1] 47 ?_; intro gb403 hg w18 hbox hb; have BK403 := mK hbox; have GW403 := mK (gX hg HB); have GE403 := mK (gX hg HB); replace HB := bB HB hb; clear hb hbox hg) | ((with_reducible refine gate_dst (N := 2) rfl ?_); refine bxE 2 #[.int .i64 0, .slice none 0 0] 33 ?_; intro gb404 hg w19 hbox hb; have BK404 := mK hbox; have GW404 := mK (gX hg HB); have GE404 := mK (gX hg HB); replace HB := bB HB hb; have NB403_404 := mK (lX hg BK403); have NB404_403 := mK (mX hg BK403); replace BK403 := kB BK403 hb; clear hb hbox hg; have hnb20 := NB403_404.out; have hnc20 := NB404_403.out; have hcz21_0 := q0 BK403; have hcz21_1 := q1 BK403; have hfz21_0 := fX BK403 0; have hfz21_1 := fX BK403 1) | ((with_reducible refine gate_callee (f := 49) rfl ?_); refine gsE (some 6) Try.func49 #[.agg #[.int .i64 a0_0, .slice A0_1 l0_1.length c0_1]] ?_; (with_reducible refine (impl_SimpleOk.calls a0_0 _ _ l0_1 false _ ?side1 ?side2 A2.out).mono ?_); (case side1 => exact cX HR0_1 HB); (case side2 => exact HC0_1.out); rintro e w22 ⟨rfl, hb⟩; refine ⟨_, rfl, ?_⟩; replace BK403 := kB BK403 hb; replace BK404 := kB BK404 hb; replace HB := bB HB hb; (try clear hb); (try clear hb2); (try clear hk); (try clear hi); have hcz23_0 := q0 BK404; have hcz23_1 := q1 BK404; have hfz23_0 := fX BK404 0; have hfz23_1 := fX BK404 1))
    refine bodyPost_ret (results_cell_row rfl _ _ gb404 33 #[.int .i64 0, .slice none 0 0] (0, 0) _ rfl (kP2 BK404) Try.underlying33 rfl (by kernel_rfl)) rfl ?_
    exact ⟨_, by first | rfl | (simp [errW_none, errW_some] <;> rfl) | (simp [*, errW_none, errW_some] <;> rfl), by first | exact Kd.R_nil _ _ _ _ _ | exact Kd.N_nil _ _ _ _ _ | exact Kd.V_nil _ _ _ _ _ | exact Kd.Q_nil _ _ _ _ _ | exact Kd.S_nil _ _ _ _ _, bX HB⟩
  subst c3
  rw [if_pos rfl] at H
  replace H := Option.bind_eq_some_iff.mp H
  obtain ⟨⟨t406, t407, t410⟩, A40, H⟩ := H
  replace H : (some (t406, t407)) = some (r1, r2) := H
  have A4 := mK A40
  clear A40
  simp only [Option.some.injEq, Prod.mk.injEq] at H
  obtain ⟨rfl, rfl⟩ := H
  go_enter Try.func67, Try.ntmps67
  go_wp2_with (first | ((with_reducible refine gate_dst (N := 1) rfl ?_); refine bxE 1 #[.int .i64 a0_0, .slice A0_1 l0_1.length c0_1] 47 ?_; intro gb403 hg w5 hbox hb; have BK403 := mK hbox; have GW403 := mK (gX hg HB); have GE403 := mK (gX hg HB); replace HB := bB HB hb; clear hb hbox hg) | ((with_reducible refine gate_dst (N := 2) rfl ?_); refine bxE 2 #[.int .i64 0, .slice none 0 0] 33 ?_; intro gb404 hg w6 hbox hb; have BK404 := mK hbox; have GW404 := mK (gX hg HB); have GE404 := mK (gX hg HB); replace HB := bB HB hb; have NB403_404 := mK (lX hg BK403); have NB404_403 := mK (mX hg BK403); replace BK403 := kB BK403 hb; clear hb hbox hg; have hnb7 := NB403_404.out; have hnc7 := NB404_403.out; have hcz8_0 := q0 BK403; have hcz8_1 := q1 BK403; have hfz8_0 := fX BK403 0; have hfz8_1 := fX BK403 1) | ((with_reducible refine gate_callee (f := 49) rfl ?_); refine gsE (some 6) Try.func49 #[.agg #[.int .i64 a0_0, .slice A0_1 l0_1.length c0_1]] ?_; (with_reducible refine (impl_SimpleOk.calls a0_0 _ _ l0_1 true _ ?side1 ?side2 A2.out).mono ?_); (case side1 => exact cX HR0_1 HB); (case side2 => exact HC0_1.out); rintro e w9 ⟨rfl, hb⟩; refine ⟨_, rfl, ?_⟩; replace BK403 := kB BK403 hb; replace BK404 := kB BK404 hb; replace HB := bB HB hb; (try clear hb); (try clear hb2); (try clear hk); (try clear hi); have hcz10_0 := q0 BK403; have hcz10_1 := q1 BK403; have hfz10_0 := fX BK403 0; have hfz10_1 := fX BK403 1) | ((with_reducible refine gate_callee (f := 87) rfl ?_); refine gsE (some 11) Try.func87 #[.agg #[.int .i64 a0_0, .slice A0_1 l0_1.length c0_1]] ?_; (with_reducible refine (impl_graphOf.calls k a0_0 _ _ l0_1 t406 t407 t410 _ ?side1 ?side2 A4.out).mono ?_); (case side1 => exact cX HR0_1 HB); (case side2 => exact HC0_1.out); rintro e w11 ⟨v408, v411, rfl, ho0, ho1, hb⟩; refine ⟨_, rfl, ?_⟩; have HO409 := mK (Kd.R_lower ho0 (below_size (bX HB))); have HO412 := mK (Kd.R_lower ho1 (below_size (bX HB))); replace BK403 := kB BK403 hb; replace BK404 := kB BK404 hb; replace HB := bB HB hb; (try clear hb); (try clear hb2); (try clear hk); (try clear hi); (try clear ho0); (try clear ho1)) | ((with_reducible refine gate_dst (N := 3) rfl ?_); refine bxE 3 #[.int .i64 0, .slice none 0 0] 33 ?_; intro gb413 hg w12 hbox hb; replace HO409 := mK (Kd.R_below (rX HO409) hb); replace HO412 := mK (Kd.R_below (rX HO412) hb); have BK413 := mK hbox; have GW413 := mK (gX hg HB); have GE413 := mK (gX hg HB); replace HB := bB HB hb; have NB403_413 := mK (lX hg BK403); have NB413_403 := mK (mX hg BK403); replace BK403 := kB BK403 hb; have NB404_413 := mK (lX hg BK404); have NB413_404 := mK (mX hg BK404); replace BK404 := kB BK404 hb; clear hb hbox hg; have hnb13 := NB413_403.out; have hnc13 := NB403_413.out; have hnb14 := NB413_404.out; have hnc14 := NB404_413.out; have hcz15_0 := q0 BK413; have hcz15_1 := q1 BK413; have hfz15_0 := fX BK413 0; have hfz15_1 := fX BK413 1; obtain ⟨Ao16, co16, eo16⟩ := Kd.R_slice HO409.out; subst eo16; have hcz17_0 := q0 BK404; have hcz17_1 := q1 BK404; have hfz17_0 := fX BK404 0; have hfz17_1 := fX BK404 1))
  refine bodyPost_ret (results_cell_row rfl _ _ gb404 33 #[.int .i64 t406, .slice Ao16 t407.length co16] (0, 0) _ rfl (by (with_reducible repeat first|apply kN|apply kD|apply kA); refine blk_put (cs := #[.int .i64 t406, .slice none 0 0]) ?_ 1 _ rfl; (with_reducible repeat first|apply kN|apply kD|apply kA); refine blk_put (cs := #[.int .i64 0, .slice none 0 0]) ?_ 0 _ rfl; (with_reducible repeat first|apply kN|apply kD|apply kA); refine blk_far ?_ NB404_413.out _; (with_reducible repeat first|apply kN|apply kD|apply kA); refine blk_far ?_ NB404_413.out _; (with_reducible repeat first|apply kN|apply kD|apply kA); exact BK404.out) Try.underlying33 rfl (by kernel_rfl)) rfl ?_
  exact ⟨_, by first | rfl | (simp [errW_none, errW_some] <;> rfl) | (simp [*, errW_none, errW_some] <;> rfl), by (with_reducible repeat first|apply rA|apply rN|apply rD); exact Kd.R_mono (Kd.R_far (p := ⟨gb404, 1, none⟩) (Kd.R_far (p := ⟨gb404, 0, none⟩) (Kd.R_far (p := ⟨gb413, 1, none⟩) (Kd.R_far (p := ⟨gb413, 0, none⟩) (Kd.R_types (Kd.R_types HO409.out BK413.out (by decide)) BK404.out (by decide)) (fun _ hk => hk.1.2) (.int .i64 t406)) (fun _ hk => hk.1.2) (.slice Ao16 t407.length co16)) (fun _ hk => hk.2) (.int .i64 t406)) (fun _ hk => hk.2) (.slice Ao16 t407.length co16)) (fun _ hk => trivial), bX HB⟩

/-! ### impl_IsConsistent: function 24 -/
section
open Go.Shelf Go.Lib
def impl_IsConsistent.f (k : Nat) (a0_0 : Int) (l0_1 : List (S76)) : Option (Bool) := (impl_SimpleOk.f a0_0 l0_1).bind fun t => if t = true then ((impl_GraphOf.f k a0_0 l0_1).bind fun g => (impl_NegativeCycle.f k g.1 g.2).bind fun c => some c.isEmpty) else some false
theorem impl_IsConsistent.mono : ∀ a0 a1 k, LeO (impl_IsConsistent.f k a0 a1) (impl_IsConsistent.f (k + 1) a0 a1) := by
  intro a0 a1 k
  unfold impl_IsConsistent.f
  refine LeO.bind (LeO.refl _) fun t => ?_
  exact LeO.ite (LeO.bind (impl_GraphOf.mono a0 a1 k) fun g => LeO.bind (impl_NegativeCycle.mono g.1 g.2 k) fun c => LeO.refl _) (LeO.refl _)
set_option maxHeartbeats 4000000 in
theorem impl_IsConsistent.calls (k : Nat) (a0_0 : Int) (A0_1 : Option Addr) (c0_1 : Nat) (l0_1 : List (S76)) (r : Bool) (w : World) (hr0_1 : Kd.C k76 w A0_1 l0_1.length l0_1) (hc0_1 : l0_1.length ≤ c0_1) (h : impl_IsConsistent.f k a0_0 l0_1 = some r) :
    Calls Try.prog 24 #[.agg #[.int .i64 a0_0, .slice A0_1 l0_1.length c0_1]] w fun e w' => e = .returned (.bool r) ∧ Below w.heap.size w w' := by
  have qn : ∀ (w : World) (a : Option Addr) (n c n' c' : Nat), (binOp .eql 26 (.slice a n c) (.slice none n' c')).run Try.prog w = .ok (.bool a.isNone) w := fun w a n c n' c' => Lib.run_eql_slice_nil w _ _ a n c n' c' Try.underlying26
  unfold impl_IsConsistent.f at h
  obtain ⟨t, ht, h⟩ := Option.bind_eq_some_iff.mp h
  have hS := fun W (hW : Below w.heap.size w W) => impl_SimpleOk.calls a0_0 A0_1 c0_1 l0_1 t W (Kd.C_below hr0_1 hW) hc0_1 ht
  cases t with
  | false =>
   obtain rfl := Option.some.inj h
   go_enter Try.func24, Try.ntmps24
   go_wp2_with (go_at_call 49; refine (hS _ ?sideB).mono ?_; (case sideB => exact (Below.refl _ w).alloc (Nat.le_refl _) _); rintro e w' ⟨rfl, hb'⟩; have hc0' : w'.cell? ⟨w.heap.size, 0, none⟩ = some (.int .i64 a0_0) := (hb'.cell (p := ⟨w.heap.size, 0, none⟩) (by simp)).trans (by simp); have hc1' : w'.cell? ⟨w.heap.size, 1, none⟩ = some (.slice A0_1 l0_1.length c0_1) := (hb'.cell (p := ⟨w.heap.size, 1, none⟩) (by simp)).trans (by simp); have hB : Below w.heap.size w w' := ((Below.refl _ w).alloc (Nat.le_refl _) _).trans (hb'.mono (by simp)))
   go_ret
   exact ⟨by simp, hB⟩
  | true =>
   rw [if_pos rfl] at h
   obtain ⟨g, hg, h⟩ := Option.bind_eq_some_iff.mp h
   obtain ⟨c, hc, h⟩ := Option.bind_eq_some_iff.mp h
   obtain ⟨g1, g2⟩ := g
   have hG := fun W (hW : Below w.heap.size w W) => impl_GraphOf.calls k a0_0 A0_1 c0_1 l0_1 g1 g2 W (Kd.C_below hr0_1 hW) hc0_1 hg
   have hN := fun W A c1 (h1 : Kd.C k70 W A g2.length g2) (h2 : g2.length ≤ c1) => impl_NegativeCycle.calls_nil k g1 A c1 g2 c W h1 h2 hc
   clear hg hc hr0_1
   cases c with
   | nil =>
    obtain rfl := Option.some.inj h
    go_enter Try.func24, Try.ntmps24
    go_wp2_with (first | (go_at_call 49; refine (hS _ ?sideB).mono ?_; (case sideB => exact (Below.refl _ w).alloc (Nat.le_refl _) _); rintro e w' ⟨rfl, hb'⟩; have hc0' : w'.cell? ⟨w.heap.size, 0, none⟩ = some (.int .i64 a0_0) := (hb'.cell (p := ⟨w.heap.size, 0, none⟩) (by simp)).trans (by simp); have hc1' : w'.cell? ⟨w.heap.size, 1, none⟩ = some (.slice A0_1 l0_1.length c0_1) := (hb'.cell (p := ⟨w.heap.size, 1, none⟩) (by simp)).trans (by simp); have hB : Below w.heap.size w w' := ((Below.refl _ w).alloc (Nat.le_refl _) _).trans (hb'.mono (by simp))) | (go_at_call 67; refine (hG _ hB).mono ?_; rintro e w2 ⟨v1, rfl, hR, hb2⟩; obtain ⟨A1, c1, rfl, hl1, hC1⟩ := Kd.R_reads hR; have hB2 := hB.trans (hb2.mono hB.size)) | (go_at_call 38; refine (hN _ A1 c1 hC1 hl1).mono ?_; rintro e w3 ⟨v0, rfl, hR0, hb3⟩; have hB3 := hB2.trans (hb3.mono hB2.size); obtain rfl : v0 = .slice none 0 0 := by (first | exact hR0.2 rfl | exact hR0.2 trivial | exact hR0.2)))
    go_ret
    exact ⟨by simp, hB3⟩
   | cons x c =>
    obtain rfl := Option.some.inj h
    go_enter Try.func24, Try.ntmps24
    go_wp2_with (first | (go_at_call 49; refine (hS _ ?sideB).mono ?_; (case sideB => exact (Below.refl _ w).alloc (Nat.le_refl _) _); rintro e w' ⟨rfl, hb'⟩; have hc0' : w'.cell? ⟨w.heap.size, 0, none⟩ = some (.int .i64 a0_0) := (hb'.cell (p := ⟨w.heap.size, 0, none⟩) (by simp)).trans (by simp); have hc1' : w'.cell? ⟨w.heap.size, 1, none⟩ = some (.slice A0_1 l0_1.length c0_1) := (hb'.cell (p := ⟨w.heap.size, 1, none⟩) (by simp)).trans (by simp); have hB : Below w.heap.size w w' := ((Below.refl _ w).alloc (Nat.le_refl _) _).trans (hb'.mono (by simp))) | (go_at_call 67; refine (hG _ hB).mono ?_; rintro e w2 ⟨v1, rfl, hR, hb2⟩; obtain ⟨A1, c1, rfl, hl1, hC1⟩ := Kd.R_reads hR; have hB2 := hB.trans (hb2.mono hB.size)) | (go_at_call 38; refine (hN _ A1 c1 hC1 hl1).mono ?_; rintro e w3 ⟨v0, rfl, hR0, hb3⟩; have hB3 := hB2.trans (hb3.mono hB2.size); obtain ⟨ad0, cp0, rfl⟩ := Kd.R_slice1 hR0.1 (by simp)))
    go_ret
    exact ⟨by simp, hB3⟩
end

end Go.Proofs.Ytbbblnmngjhadaa.QFnExactLatestTimes
