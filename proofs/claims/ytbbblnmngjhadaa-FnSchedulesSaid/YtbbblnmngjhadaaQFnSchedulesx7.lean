-- Written by this session's program wip/tools/mk.py out of the translation; Lean checks it.
import Derived.Test.YtbbblnmngjhadaaQFnSchedulesx0
namespace Go.Proofs.Ytbbblnmngjhadaa.QFnSchedules
open Go.RowKit Go.Proofs.YtbbblnmngjhadaaW.PrintWords Go.Proofs.YtbbblnmngjhadaaW.PrintLast Go.Proofs.YtbbblnmngjhadaaW.PrintMore
attribute [local go_sem] max2_int min2_int max_two min_two max_three min_three max_four min_four   -- for this text's walks alone
set_option linter.unusedVariables false
set_option linter.unusedSimpArgs false

/-- A state of type 132 at block g of W; what its slices lead to came in by w0. -/
def IsS132 (w0 W : World) (g : Nat) (f0 : List Int) (f1 : Int) (f2 : Int) : Prop := ∃ A0 c0, W.heap[g]? = some (.cells #[.slice A0 f0.length c0, .int .i64 f1, .int .i64 f2] 132 (0, 0)) ∧ w0.heap.size ≤ g ∧ Kd.C (Kd.int .u8) w0 A0 f0.length f0
theorem IsS132.grown {w0 W : World} {g : Nat} {f0 : List Int} {f1 : Int} {f2 : Int} {W1 : World} {row : Option Nat} (h : IsS132 w0 W g f0 f1 f2) (hw : W.grownBy W1 row) (hne : some g ≠ row) : IsS132 w0 W1 g f0 f1 f2 := by
  obtain ⟨A0, c0, hb, hg, hr0⟩ := h
  exact ⟨A0, c0, blk_grown hb hw hne, hg, hr0⟩
theorem IsS132.own_neN {w0 W : World} {g : Nat} {f0 : List Int} {f1 : Int} {f2 : Int} {α : Type} {d : Kd α} {e : Nat} {base : Nat} {ok : Nat → Prop} {v : Value} {xs : List α} (h : IsS132 w0 W g f0 f1 f2) (ho : Kd.N d e W base ok v xs) (ht : e ≠ 132) : some g ≠ v.ownBlock := by
  obtain ⟨A0, c0, hb, hg, hr0⟩ := h
  exact Kd.N_ne ho hb ht
theorem IsS132.fresh {w0 W : World} {g : Nat} {f0 : List Int} {f1 : Int} {f2 : Int} (h : IsS132 w0 W g f0 f1 f2) : ∀ k, W.heap.size ≤ k → k ≠ g := by
  obtain ⟨A0, c0, hb, hg, hr0⟩ := h
  exact Kd.freshB hb
theorem IsS132.kept {w0 W : World} {g : Nat} {f0 : List Int} {f1 : Int} {f2 : Int} {W1 : World} {S : Nat → Prop} (h : IsS132 w0 W g f0 f1 f2) (hk : Kept W W1 S) (hne : ¬ S g) : IsS132 w0 W1 g f0 f1 f2 := by
  obtain ⟨A0, c0, hb, hg, hr0⟩ := h
  exact ⟨A0, c0, blk_kept hb hk hne, hg, hr0⟩
theorem IsS132.below {w0 W : World} {g : Nat} {f0 : List Int} {f1 : Int} {f2 : Int} {W1 : World} (h : IsS132 w0 W g f0 f1 f2) (hw : Below W.heap.size W W1) : IsS132 w0 W1 g f0 f1 f2 := h.grown (grown_of_below hw none) (by simp)
theorem IsS132.alloc {w0 W : World} {g : Nat} {f0 : List Int} {f1 : Int} {f2 : Int} (h : IsS132 w0 W g f0 f1 f2) (o : Obj) : IsS132 w0 (W.alloc o) g f0 f1 f2 := h.below (below_alloc (Below.refl _ _) o)
theorem IsS132.drewN {w0 W : World} {g : Nat} {f0 : List Int} {f1 : Int} {f2 : Int} (h : IsS132 w0 W g f0 f1 f2) (m : Nat) : IsS132 w0 (W.drewN m) g f0 f1 f2 := h
theorem IsS132.drew {w0 W : World} {g : Nat} {f0 : List Int} {f1 : Int} {f2 : Int} (h : IsS132 w0 W g f0 f1 f2) : IsS132 w0 W.drew g f0 f1 f2 := h
theorem IsS132.at_ {w0 W : World} {g : Nat} {f0 : List Int} {f1 : Int} {f2 : Int} {w' : World} {m : Nat} (hq : W.drewN m = w') (h : IsS132 w0 W g f0 f1 f2) : IsS132 w0 w' g f0 f1 f2 := by subst hq; exact IsS132.drewN h m
theorem IsS132.apart {w0 W : World} {g : Nat} {f0 : List Int} {f1 : Int} {f2 : Int} {α : Type} {d : Kd α} {e : Nat} {base : Nat} {ok : Nat → Prop} {v : Value} {xs : List α} (h : IsS132 w0 W g f0 f1 f2) (ho : d.R e W base ok v xs) (ht : ∀ q, q ∈ e :: d.E → q ≠ 132) : d.R e W base (fun k => ok k ∧ k ≠ g) v xs := by
  obtain ⟨A0, c0, hb, hg, hr0⟩ := h
  exact Kd.R_types ho hb ht
theorem IsS132.own_ne {w0 W : World} {g : Nat} {f0 : List Int} {f1 : Int} {f2 : Int} {α : Type} {d : Kd α} {e : Nat} {base : Nat} {ok : Nat → Prop} {v : Value} {xs : List α} (h : IsS132 w0 W g f0 f1 f2) (ho : d.R e W base ok v xs) (ht : e ≠ 132) : some g ≠ v.ownBlock := by
  obtain ⟨A0, c0, hb, hg, hr0⟩ := h
  exact Kd.R_ne ho hb ht
theorem IsS132.apartQ {w0 W : World} {g : Nat} {f0 : List Int} {f1 : Int} {f2 : Int} {α : Type} {d : Kd α} {e : Nat} {base : Nat} {ok : Nat → Prop} {v : Value} {xs : List α} (h : IsS132 w0 W g f0 f1 f2) (ho : d.Q e W base ok v xs) (ht : ∀ q, q ∈ e :: d.E → q ≠ 132) : d.Q e W base (fun k => ok k ∧ k ≠ g) v xs := by
  obtain ⟨A0, c0, hb, hg, hr0⟩ := h
  exact Kd.Q_types ho hb ht
theorem IsS132.own_neQ {w0 W : World} {g : Nat} {f0 : List Int} {f1 : Int} {f2 : Int} {α : Type} {d : Kd α} {e : Nat} {base : Nat} {ok : Nat → Prop} {v : Value} {xs : List α} (h : IsS132 w0 W g f0 f1 f2) (ho : d.Q e W base ok v xs) (ht : e ≠ 132) : some g ≠ v.ownBlock := by
  obtain ⟨A0, c0, hb, hg, hr0⟩ := h
  exact Kd.Q_ne ho hb ht
theorem IsS132.apartS {w0 W : World} {g : Nat} {f0 : List Int} {f1 : Int} {f2 : Int} {α : Type} {d : Kd α} {e : Nat} {base : Nat} {ok : Nat → Prop} {v : Value} {xs : List α} (h : IsS132 w0 W g f0 f1 f2) (ho : d.S e W base ok v xs) (ht : ∀ q, q ∈ e :: d.E → q ≠ 132) : d.S e W base (fun k => ok k ∧ k ≠ g) v xs := by
  obtain ⟨A0, c0, hb, hg, hr0⟩ := h
  exact Kd.S_types ho hb ht
theorem IsS132.own_neS {w0 W : World} {g : Nat} {f0 : List Int} {f1 : Int} {f2 : Int} {α : Type} {d : Kd α} {e : Nat} {base : Nat} {ok : Nat → Prop} {v : Value} {xs : List α} (h : IsS132 w0 W g f0 f1 f2) (ho : d.S e W base ok v xs) (ht : e ≠ 132) : some g ≠ v.ownBlock := by
  obtain ⟨A0, c0, hb, hg, hr0⟩ := h
  exact Kd.S_ne ho hb ht
theorem IsS132.lt {w0 W : World} {g : Nat} {f0 : List Int} {f1 : Int} {f2 : Int} (h : IsS132 w0 W g f0 f1 f2) : g < W.heap.size := by
  obtain ⟨A0, c0, hb, hg, hr0⟩ := h
  exact blk_lt hb
theorem IsS132.ge {w0 W : World} {g : Nat} {f0 : List Int} {f1 : Int} {f2 : Int} (h : IsS132 w0 W g f0 f1 f2) : w0.heap.size ≤ g := by
  obtain ⟨A0, c0, hb, hg, hr0⟩ := h
  exact hg
theorem IsS132.ne_blk {w0 W : World} {g : Nat} {f0 : List Int} {f1 : Int} {f2 : Int} {a : Nat} {cs : Array Value} {t : TypeId} {fr : Nat × Nat} (h : IsS132 w0 W g f0 f1 f2) (hb2 : W.heap[a]? = some (.cells cs t fr)) (ht : t ≠ 132) : g ≠ a := by
  obtain ⟨A0, c0, hb, hg, hr0⟩ := h
  rintro rfl
  rw [hb] at hb2
  injection hb2 with hb2
  injection hb2 with _ ht2
  exact ht ht2.symm
theorem IsS132.far {w0 W : World} {g : Nat} {f0 : List Int} {f1 : Int} {f2 : Int} {p : Addr} (h : IsS132 w0 W g f0 f1 f2) (hne : g ≠ p.block) (u : Value) : IsS132 w0 (W.setCell p u) g f0 f1 f2 := by
  obtain ⟨A0, c0, hb, hg, hr0⟩ := h
  exact ⟨A0, c0, blk_far hb hne u, hg, hr0⟩
theorem cellS132_0 {W : World} {g : Nat} {A0 : Option Addr} {c0 : Nat} {f0 : List Int} {f1 : Int} {f2 : Int} (h : W.heap[g]? = some (.cells #[.slice A0 f0.length c0, .int .i64 f1, .int .i64 f2] 132 (0, 0))) : W.cell? ⟨g, 0, none⟩ = some (.slice A0 f0.length c0) := (blk_cell h 0).trans rfl
theorem cellS132_1 {W : World} {g : Nat} {A0 : Option Addr} {c0 : Nat} {f0 : List Int} {f1 : Int} {f2 : Int} (h : W.heap[g]? = some (.cells #[.slice A0 f0.length c0, .int .i64 f1, .int .i64 f2] 132 (0, 0))) : W.cell? ⟨g, 1, none⟩ = some (.int .i64 f1) := (blk_cell h 1).trans rfl
theorem IsS132.set_1 {w0 W : World} {g : Nat} {f0 : List Int} {f1 : Int} {f2 : Int} (h : IsS132 w0 W g f0 f1 f2) (x : Int) : IsS132 w0 (W.setCell ⟨g, 1, none⟩ (.int .i64 x)) g f0 x f2 := by
  obtain ⟨A0, c0, hb, hg, hr0⟩ := h
  exact ⟨A0, c0, by simpa using blk_set hb 1 (.int .i64 x), hg, hr0⟩
theorem cellS132_2 {W : World} {g : Nat} {A0 : Option Addr} {c0 : Nat} {f0 : List Int} {f1 : Int} {f2 : Int} (h : W.heap[g]? = some (.cells #[.slice A0 f0.length c0, .int .i64 f1, .int .i64 f2] 132 (0, 0))) : W.cell? ⟨g, 2, none⟩ = some (.int .i64 f2) := (blk_cell h 2).trans rfl
theorem IsS132.set_2 {w0 W : World} {g : Nat} {f0 : List Int} {f1 : Int} {f2 : Int} (h : IsS132 w0 W g f0 f1 f2) (x : Int) : IsS132 w0 (W.setCell ⟨g, 2, none⟩ (.int .i64 x)) g f0 f1 x := by
  obtain ⟨A0, c0, hb, hg, hr0⟩ := h
  exact ⟨A0, c0, by simpa using blk_set hb 2 (.int .i64 x), hg, hr0⟩
theorem IsS132.new (w0 W : World) (A0 : Option Addr) (c0 : Nat) (f0 : List Int) (f1 : Int) (f2 : Int) (hB : Below w0.heap.size w0 W) (hr0 : Kd.C (Kd.int .u8) w0 A0 f0.length f0) : IsS132 w0 (W.alloc (.cells #[.slice A0 f0.length c0, .int .i64 f1, .int .i64 f2] 132)) W.heap.size f0 f1 f2 := ⟨A0, c0, by simpa using heap_alloc_new W _, hB.size, hr0⟩

/-! ### spec_l01New: function 76 -/
def spec_l01New.l0 : Nat → List Int → Int → Int → Option (List Int × Int × Int)
  | 0, _, _, _ => none
  | k + 1, x0, x3, x4 => if x4 < (x0.length : Int) then (if x4 < 4000 then (if 0 ≤ x4 then (spec_l01New.l0 k x0 (Go.bits .and .i64 (wrap64 ((wrap64 ((wrap64 (x3 * 71)) + (wrap64 (rd x0 x4)))) + 7)) 1073741823) (wrap64 (x4 + 1))) else (none)) else (some (x0, 0, x3))) else (some (x0, 0, x3))
def spec_l01New.f (k : Nat) (l0 : List Int) : Option (List Int × Int × Int) := spec_l01New.l0 k l0 (wrap64 (1974 + (l0.length : Int))) 0
theorem spec_l01New.mono_l : ∀ k, (∀ y0 y1 y2, LeO (spec_l01New.l0 k y0 y1 y2) (spec_l01New.l0 (k + 1) y0 y1 y2))
  | 0 => fun _ _ _ r h => by simp [spec_l01New.l0] at h
  | k + 1 => by
    have ih0 := spec_l01New.mono_l k
    · intro y0 y1 y2
      unfold spec_l01New.l0
      repeat' first|(with_reducible first|exact ih0 _ _ _|exact lR _|exact lN _|refine lI ?_ ?_|refine lB ?_ (fun _ => ?_))|exact ih0 _ _ _|exact lN _|refine lI ?_ ?_|refine lB ?_ (fun _ => ?_)
theorem spec_l01New.mono : ∀ a0 k, LeO (spec_l01New.f k a0) (spec_l01New.f (k + 1) a0) := by
  intro a0 k
  have ih0 := spec_l01New.mono_l k
  unfold spec_l01New.f
  repeat' first|(with_reducible first|exact ih0 _ _ _|exact lR _|exact lN _|refine lI ?_ ?_|refine lB ?_ (fun _ => ?_))|exact ih0 _ _ _|exact lN _|refine lI ?_ ?_|refine lB ?_ (fun _ => ?_)
set_option maxHeartbeats 8000000 in
set_option maxRecDepth 100000 in
theorem spec_l01New.calls (k : Nat) (A0 : Option Addr) (c0 : Nat) (l0 : List Int) (r1 : List Int) (r2 : Int) (r3 : Int) (w0 w : World) (hB : Below w0.heap.size w0 w) (hr0 : Kd.C (Kd.int .u8) w0 A0 l0.length l0) (hc0 : l0.length ≤ c0) (h : spec_l01New.f k l0 = some (r1, r2, r3)) :
    Calls Try.prog 76 #[.slice A0 l0.length c0] w fun e w' => ∃ g_ : Nat, e = .returned (.pointer (some ⟨g_, 0, none⟩)) ∧ IsS132 w0 w' g_ r1 r2 r3 ∧ Below w0.heap.size w0 w' ∧ Below w.heap.size w w' := by
  have hu132 := Try.underlying132
  have HR0 := mK hr0
  have HC0 := mK hc0
  clear hr0 hc0
  have HBW := mK (Below.refl w.heap.size w)
  have HW0 := mK hB.size
  have HB := mK hB
  clear hB
  have H : (spec_l01New.l0 k l0 (wrap64 (1974 + (l0.length : Int))) 0) = some (r1, r2, r3) := h
  clear h
  have H' := mK H
  clear H
  go_enter Try.func76, Try.ntmps76
  go_wp2
  go_loopg [3, 4] k (fun kq v3 v4 w' => ∃ (x3_1 : Int) (x4_1 : Int), v3 = .int .i64 x3_1 ∧ v4 = .int .i64 x4_1 ∧ Aside0 (spec_l01New.l0 kq l0 x3_1 x4_1 = some (r1, r2, r3)) ∧ Aside0 (kq ≤ k) ∧ Aside0 (Below w0.heap.size w0 w') ∧ Aside0 (Below w.heap.size w w'))
  case atStart => exact ⟨(wrap64 (1974 + (l0.length : Int))), (0), (by first | rfl | (simp; done) | (simp [*]; done)), (by first | rfl | (simp; done) | (simp [*]; done)), H', ⟨Nat.le_refl _⟩, ⟨bX HB⟩, ⟨bX HBW⟩⟩
  case round =>
   clear H'
   obtain ⟨x3_1, x4_1, rfl, rfl, HA, HK1, HB, HBW⟩ := hrel
   cases gk with
   | zero => exact absurd HA.out (by simp [spec_l01New.l0])
   | succ k1 =>
    have H := HA.out
    clear HA
    simp only [spec_l01New.l0] at H
    by_cases c2 : x4_1 < (l0.length : Int)
    rotate_left
    · rw [if_neg c2] at H
      have c2b0 : decide (x4_1 < (l0.length : Int)) = false := decide_eq_false c2
      clear c2
      simp only [Option.some.injEq, Prod.mk.injEq] at H
      obtain ⟨rfl, rfl, rfl⟩ := H
      go_wp2_with (first | ((with_reducible refine gate_dst (N := 31) rfl ?_); refine bxE 31 #[.slice A0 l0.length c0, .int .i64 0, .int .i64 x3_1] 132 ?_; intro gb249 hg w6 hbox hb; replace HB := bB HB hb; have BK249 := mK hbox; have GW249 := mK (gX hg HBW); have GE249 := mK ((Nat.le_trans HW0.out (gX hg HBW : w.heap.size ≤ gb249) : w0.heap.size ≤ gb249)); replace HBW := mK (below_step HBW.out hb); clear hb hbox hg))
      go_ret
      exact ⟨_, rfl, (show IsS132 w0 _ gb249 l0 0 x3_1 from ⟨_, _, kX BK249, GE249.out, HR0.out⟩), bX HB, bX HBW⟩
    rw [if_pos c2] at H
    have c2b0 : decide (x4_1 < (l0.length : Int)) = true := decide_eq_true c2
    clear c2
    by_cases c3 : x4_1 < 4000
    · rw [if_pos c3] at H
      have c3b0 : decide (x4_1 < 4000) = true := decide_eq_true c3
      clear c3
      by_cases c4 : 0 ≤ x4_1
      rotate_left
      · rw [if_neg c4] at H
        exact absurd H (by simp)
      rw [if_pos c4] at H
      have c4b0 : decide (0 ≤ x4_1) = true := decide_eq_true c4
      clear c4
      have H' := mK H
      clear H
      have p247 : 0 ≤ (x4_1 : Int) := of_decide_eq_true oX
      have q247 : x4_1 < (l0.length : Int) := of_decide_eq_true oX
      obtain ⟨ad247, e247, hx247_0⟩ := Kd.at_int HR0.out x4_1 p247 q247
      cases e247
      replace hx247_0 := pw_cell_below HB.out hx247_0
      replace p247 := eq_true p247
      replace q247 := eq_true q247
      go_wp2
      go_roundg k1
      case measure => have := HK1.out; omega
      case rel => exact ⟨(Go.bits .and .i64 (wrap64 ((wrap64 ((wrap64 (x3_1 * 71)) + (wrap64 (rd l0 x4_1)))) + 7)) 1073741823), (wrap64 (x4_1 + 1)), (by first | rfl | (simp; done) | (simp [*]; done)), (by first | rfl | (simp; done) | (simp [*]; done)), H', ⟨by have := HK1.out; omega⟩, ⟨bX HB⟩, ⟨bX HBW⟩⟩
    rw [if_neg c3] at H
    have c3b0 : decide (x4_1 < 4000) = false := decide_eq_false c3
    clear c3
    simp only [Option.some.injEq, Prod.mk.injEq] at H
    obtain ⟨rfl, rfl, rfl⟩ := H
    go_wp2_with (first | ((with_reducible refine gate_dst (N := 31) rfl ?_); refine bxE 31 #[.slice A0 l0.length c0, .int .i64 0, .int .i64 x3_1] 132 ?_; intro gb248 hg w5 hbox hb; replace HB := bB HB hb; have BK248 := mK hbox; have GW248 := mK (gX hg HBW); have GE248 := mK ((Nat.le_trans HW0.out (gX hg HBW : w.heap.size ≤ gb248) : w0.heap.size ≤ gb248)); replace HBW := mK (below_step HBW.out hb); clear hb hbox hg))
    go_ret
    exact ⟨_, rfl, (show IsS132 w0 _ gb248 l0 0 x3_1 from ⟨_, _, kX BK248, GE248.out, HR0.out⟩), bX HB, bX HBW⟩

/-! ### spec_l01Byte: function 112 -/
def spec_l01Byte.f (s0_0 : List Int) (s0_1 : Int) (s0_2 : Int) : Option (Int × Int × Int) := if s0_1 < (s0_0.length : Int) then (if 0 ≤ s0_1 then (some (Go.bits .and .i64 (wrap64 ((Go.bits .and .i64 (Go.bits .xor .i64 ((wrap64 ((wrap64 (s0_2 * 6364136223846793005)) + 1442695040888963407)) / 8589934592) ((wrap64 ((wrap64 (s0_2 * 6364136223846793005)) + 1442695040888963407)) / 35184372088832)) 255) + (wrap64 (rd s0_0 s0_1)))) 255, wrap64 (s0_1 + 1), wrap64 ((wrap64 (s0_2 * 6364136223846793005)) + 1442695040888963407))) else (none)) else (some (Go.bits .and .i64 (Go.bits .xor .i64 ((wrap64 ((wrap64 (s0_2 * 6364136223846793005)) + 1442695040888963407)) / 8589934592) ((wrap64 ((wrap64 (s0_2 * 6364136223846793005)) + 1442695040888963407)) / 35184372088832)) 255, s0_1, wrap64 ((wrap64 (s0_2 * 6364136223846793005)) + 1442695040888963407)))
set_option maxHeartbeats 8000000 in
set_option maxRecDepth 100000 in
theorem spec_l01Byte.calls (g : Nat) (s0_0 : List Int) (s0_1 : Int) (s0_2 : Int) (r1 : Int) (r2 : Int) (r3 : Int) (w0 w : World) (hI : IsS132 w0 w g s0_0 s0_1 s0_2) (hB : Below w0.heap.size w0 w) (h : spec_l01Byte.f s0_0 s0_1 s0_2 = some (r1, r2, r3)) :
    Calls Try.prog 112 #[.pointer (some ⟨g, 0, none⟩)] w fun e w' => e = .returned (.int .i64 r1) ∧ IsS132 w0 w' g s0_0 r2 r3 ∧ Below w0.heap.size w0 w' ∧ KeepBut w w' g none := by
  have HI0 := mK hI
  have HK := mK (KeepBut.refl w g none)
  have HL := mK hB.size
  clear hI
  have HW0 := mK hB.size
  have HB := mK hB
  clear hB
  have H : (if s0_1 < (s0_0.length : Int) then (if 0 ≤ s0_1 then (some (Go.bits .and .i64 (wrap64 ((Go.bits .and .i64 (Go.bits .xor .i64 ((wrap64 ((wrap64 (s0_2 * 6364136223846793005)) + 1442695040888963407)) / 8589934592) ((wrap64 ((wrap64 (s0_2 * 6364136223846793005)) + 1442695040888963407)) / 35184372088832)) 255) + (wrap64 (rd s0_0 s0_1)))) 255, wrap64 (s0_1 + 1), wrap64 ((wrap64 (s0_2 * 6364136223846793005)) + 1442695040888963407))) else (none)) else (some (Go.bits .and .i64 (Go.bits .xor .i64 ((wrap64 ((wrap64 (s0_2 * 6364136223846793005)) + 1442695040888963407)) / 8589934592) ((wrap64 ((wrap64 (s0_2 * 6364136223846793005)) + 1442695040888963407)) / 35184372088832)) 255, s0_1, wrap64 ((wrap64 (s0_2 * 6364136223846793005)) + 1442695040888963407)))) = some (r1, r2, r3) := h
  clear h
  by_cases c2 : s0_1 < (s0_0.length : Int)
  rotate_left
  · rw [if_neg c2] at H
    have c2b0 : decide (s0_1 < (s0_0.length : Int)) = false := decide_eq_false c2
    clear c2
    simp only [Option.some.injEq, Prod.mk.injEq] at H
    obtain ⟨rfl, rfl, rfl⟩ := H
    obtain ⟨ASz5_0, cSz5_0, HGz5, hgz5, HSz5_0⟩ := HI0.out
    have hcz5_0 := cellS132_0 HGz5
    have hcz5_1 := cellS132_1 HGz5
    have hcz5_2 := cellS132_2 HGz5
    have hfz5_1 := blk_frozen HGz5 1
    have hfz5_2 := blk_frozen HGz5 2
    clear HGz5 hgz5
    go_enter Try.func112, Try.ntmps112
    go_wp2
    repeat (go_quiet (fail); try go_wp2)
    go_ret
    exact ⟨by first | rfl | (simp [errW_none, errW_some] <;> rfl) | (simp [*, errW_none, errW_some] <;> rfl), by repeat first|(with_reducible first|exact HI0.out|apply IsS132.alloc|apply IsS132.drewN|apply IsS132.drew|apply IsS132.set_1|apply IsS132.set_2)|exact HI0.out, by repeat (first | (with_reducible first | exact HB.out | apply below_alloc | apply pw_below_drewN | apply below_drew1 | refine below_set ?_ (IsS132.ge HI0.out)) | exact HB.out), by repeat first|(with_reducible first|exact HK.out|apply KeepBut.set_|apply keep_drewN|apply keep_drew|apply keep_alloc)|exact HK.out⟩
  rw [if_pos c2] at H
  have c2b0 : decide (s0_1 < (s0_0.length : Int)) = true := decide_eq_true c2
  clear c2
  by_cases c3 : 0 ≤ s0_1
  rotate_left
  · rw [if_neg c3] at H
    exact absurd H (by simp)
  rw [if_pos c3] at H
  have c3b0 : decide (0 ≤ s0_1) = true := decide_eq_true c3
  clear c3
  simp only [Option.some.injEq, Prod.mk.injEq] at H
  obtain ⟨rfl, rfl, rfl⟩ := H
  obtain ⟨ASz4_0, cSz4_0, HGz4, hgz4, HSz4_0⟩ := HI0.out
  have hcz4_0 := cellS132_0 HGz4
  have hcz4_1 := cellS132_1 HGz4
  have hcz4_2 := cellS132_2 HGz4
  have hfz4_1 := blk_frozen HGz4 1
  have hfz4_2 := blk_frozen HGz4 2
  clear HGz4 hgz4
  have p250 : 0 ≤ (s0_1 : Int) := of_decide_eq_true oX
  have q250 : s0_1 < (s0_0.length : Int) := of_decide_eq_true oX
  obtain ⟨ad250, e250, hx250_0⟩ := Kd.at_int HSz4_0 s0_1 p250 q250
  cases e250
  have hn250_0 : ad250.block ≠ g := Nat.ne_of_lt (Nat.lt_of_lt_of_le (by have := World.block_lt_of_cell? _ _ hx250_0; first | rwa [add_block] at this | exact this) (IsS132.ge HI0.out))
  replace hx250_0 := pw_cell_below HB.out hx250_0
  replace hx250_0 := (cell_far (p := ⟨g, 2, none⟩) (by first | (rw [add_block]; exact hn250_0) | (show (Addr.add _ _).block ≠ _; rw [add_block]; exact hn250_0) | exact hn250_0) (.int .i64 (wrap64 ((wrap64 (s0_2 * 6364136223846793005)) + 1442695040888963407)))).trans hx250_0
  (try have hy250_0 := fun (n_ : Nat) => (show (((w.drewN n_).setCell ⟨g, 2, none⟩ (.int .i64 (wrap64 ((wrap64 (s0_2 * 6364136223846793005)) + 1442695040888963407))))).cell? _ = some _ from hx250_0))
  clear hn250_0
  replace p250 := eq_true p250
  replace q250 := eq_true q250
  go_enter Try.func112, Try.ntmps112
  go_wp2
  repeat (go_quiet (fail); try go_wp2)
  go_ret
  exact ⟨by first | rfl | (simp [errW_none, errW_some] <;> rfl) | (simp [*, errW_none, errW_some] <;> rfl), by repeat first|(with_reducible first|exact HI0.out|apply IsS132.alloc|apply IsS132.drewN|apply IsS132.drew|apply IsS132.set_1|apply IsS132.set_2)|exact HI0.out, by repeat (first | (with_reducible first | exact HB.out | apply below_alloc | apply pw_below_drewN | apply below_drew1 | refine below_set ?_ (IsS132.ge HI0.out)) | exact HB.out), by repeat first|(with_reducible first|exact HK.out|apply KeepBut.set_|apply keep_drewN|apply keep_drew|apply keep_alloc)|exact HK.out⟩

/-! ### spec_l01Below: function 93 -/
def spec_l01Below.f (s0_0 : List Int) (s0_1 : Int) (s0_2 : Int) (a1 : Int) : Option (Int × Int × Int) := if a1 ≤ 0 then (some (0, s0_1, s0_2)) else (if a1 ≤ 256 then ((spec_l01Byte.f s0_0 s0_1 s0_2).bind fun bt251 => (if a1 = 0 then (none) else (some (Int.tmod bt251.1 a1, bt251.2.1, bt251.2.2)))) else ((spec_l01Byte.f s0_0 s0_1 s0_2).bind fun bt254 => ((spec_l01Byte.f s0_0 bt254.2.1 bt254.2.2).bind fun bt257 => ((spec_l01Byte.f s0_0 bt257.2.1 bt257.2.2).bind fun bt260 => ((spec_l01Byte.f s0_0 bt260.2.1 bt260.2.2).bind fun bt263 => (if a1 = 0 then (none) else (some (Int.tmod (wrap64 ((wrap64 ((wrap64 ((wrap64 (bt254.1 * 16777216)) + (wrap64 (bt257.1 * 65536)))) + (wrap64 (bt260.1 * 256)))) + bt263.1)) a1, bt263.2.1, bt263.2.2))))))))
set_option maxHeartbeats 8000000 in
set_option maxRecDepth 100000 in
theorem spec_l01Below.calls (g : Nat) (s0_0 : List Int) (s0_1 : Int) (s0_2 : Int) (a1 : Int) (r1 : Int) (r2 : Int) (r3 : Int) (w0 w : World) (hI : IsS132 w0 w g s0_0 s0_1 s0_2) (hB : Below w0.heap.size w0 w) (h : spec_l01Below.f s0_0 s0_1 s0_2 a1 = some (r1, r2, r3)) :
    Calls Try.prog 93 #[.pointer (some ⟨g, 0, none⟩), .int .i64 a1] w fun e w' => e = .returned (.int .i64 r1) ∧ IsS132 w0 w' g s0_0 r2 r3 ∧ Below w0.heap.size w0 w' ∧ KeepBut w w' g none := by
  have HI0 := mK hI
  have HK := mK (KeepBut.refl w g none)
  have HL := mK hB.size
  clear hI
  have HW0 := mK hB.size
  have HB := mK hB
  clear hB
  have H : (if a1 ≤ 0 then (some (0, s0_1, s0_2)) else (if a1 ≤ 256 then ((spec_l01Byte.f s0_0 s0_1 s0_2).bind fun bt251 => (if a1 = 0 then (none) else (some (Int.tmod bt251.1 a1, bt251.2.1, bt251.2.2)))) else ((spec_l01Byte.f s0_0 s0_1 s0_2).bind fun bt254 => ((spec_l01Byte.f s0_0 bt254.2.1 bt254.2.2).bind fun bt257 => ((spec_l01Byte.f s0_0 bt257.2.1 bt257.2.2).bind fun bt260 => ((spec_l01Byte.f s0_0 bt260.2.1 bt260.2.2).bind fun bt263 => (if a1 = 0 then (none) else (some (Int.tmod (wrap64 ((wrap64 ((wrap64 ((wrap64 (bt254.1 * 16777216)) + (wrap64 (bt257.1 * 65536)))) + (wrap64 (bt260.1 * 256)))) + bt263.1)) a1, bt263.2.1, bt263.2.2))))))))) = some (r1, r2, r3) := h
  clear h
  by_cases c3 : a1 ≤ 0
  · rw [if_pos c3] at H
    have c3b0 : decide (a1 ≤ 0) = true := decide_eq_true c3
    clear c3
    simp only [Option.some.injEq, Prod.mk.injEq] at H
    obtain ⟨rfl, rfl, rfl⟩ := H
    go_enter Try.func93, Try.ntmps93
    go_wp2
    go_ret
    exact ⟨by first | rfl | (simp [errW_none, errW_some] <;> rfl) | (simp [*, errW_none, errW_some] <;> rfl), by repeat first|(with_reducible first|exact HI0.out|apply IsS132.alloc|apply IsS132.drewN|apply IsS132.drew|apply IsS132.set_1|apply IsS132.set_2)|exact HI0.out, by repeat (first | (with_reducible first | exact HB.out | apply below_alloc | apply pw_below_drewN | apply below_drew1 | refine below_set ?_ (IsS132.ge HI0.out)) | exact HB.out), by repeat first|(with_reducible first|exact HK.out|apply KeepBut.set_|apply keep_drewN|apply keep_drew|apply keep_alloc)|exact HK.out⟩
  rw [if_neg c3] at H
  have c3b0 : decide (a1 ≤ 0) = false := decide_eq_false c3
  clear c3
  by_cases c4 : a1 ≤ 256
  · rw [if_pos c4] at H
    have c4b0 : decide (a1 ≤ 256) = true := decide_eq_true c4
    clear c4
    replace H := Option.bind_eq_some_iff.mp H
    obtain ⟨⟨t251, t252, t253⟩, A50, H⟩ := H
    replace H : (if a1 = 0 then (none) else (some (Int.tmod t251 a1, t252, t253))) = some (r1, r2, r3) := H
    have A5 := mK A50
    clear A50
    by_cases c6 : a1 = 0
    · rw [if_pos c6] at H
      exact absurd H (by simp)
    rw [if_neg c6] at H
    have c6b0 : (a1 == 0) = false := beq_eq_false_iff_ne.mpr c6
    have c6b1 : (a1 != 0) = true := bne_iff_ne.mpr c6
    simp only [Option.some.injEq, Prod.mk.injEq] at H
    obtain ⟨rfl, rfl, rfl⟩ := H
    go_enter Try.func93, Try.ntmps93
    go_wp2_with (first | ((with_reducible refine gate_callee (f := 112) rfl ?_); refine gsE (some 14) Try.func112 #[.pointer (some ⟨g, 0, none⟩)] ?_; (with_reducible refine (spec_l01Byte.calls g s0_0 s0_1 s0_2 t251 t252 t253 w0 _ ?side1 ?side2 A5.out).mono ?_); (case side1 => repeat (first | (with_reducible first | exact HI0.out | apply IsS132.alloc | apply IsS132.drewN | apply IsS132.drew | apply IsS132.set_1 | apply IsS132.set_2) | exact HI0.out)); (case side2 => repeat (first | (with_reducible first | exact HB.out | apply below_alloc | apply pw_below_drewN | apply below_drew1 | refine below_set ?_ (IsS132.ge HI0.out)) | exact HB.out)); rintro e w7 ⟨rfl, hi, hb, hk⟩; refine ⟨_, rfl, ?_⟩; replace HK := mK (KeepBut.trans (by repeat first|(with_reducible first|exact HK.out|apply KeepBut.set_|apply keep_drewN|apply keep_drew|apply keep_alloc)|exact HK.out) hk (.inl rfl)); replace HB := mK (hb); replace HI0 := mK (hi); (try clear hb); (try clear hb2); (try clear hk); (try clear hi)))
    go_ret
    exact ⟨by first | rfl | (simp [errW_none, errW_some] <;> rfl) | (simp [*, errW_none, errW_some] <;> rfl), by repeat first|(with_reducible first|exact HI0.out|apply IsS132.alloc|apply IsS132.drewN|apply IsS132.drew|apply IsS132.set_1|apply IsS132.set_2)|exact HI0.out, by repeat (first | (with_reducible first | exact HB.out | apply below_alloc | apply pw_below_drewN | apply below_drew1 | refine below_set ?_ (IsS132.ge HI0.out)) | exact HB.out), by repeat first|(with_reducible first|exact HK.out|apply KeepBut.set_|apply keep_drewN|apply keep_drew|apply keep_alloc)|exact HK.out⟩
  rw [if_neg c4] at H
  have c4b0 : decide (a1 ≤ 256) = false := decide_eq_false c4
  clear c4
  replace H := Option.bind_eq_some_iff.mp H
  obtain ⟨⟨t254, t255, t256⟩, A80, H⟩ := H
  replace H : ((spec_l01Byte.f s0_0 t255 t256).bind fun bt257 => ((spec_l01Byte.f s0_0 bt257.2.1 bt257.2.2).bind fun bt260 => ((spec_l01Byte.f s0_0 bt260.2.1 bt260.2.2).bind fun bt263 => (if a1 = 0 then (none) else (some (Int.tmod (wrap64 ((wrap64 ((wrap64 ((wrap64 (t254 * 16777216)) + (wrap64 (bt257.1 * 65536)))) + (wrap64 (bt260.1 * 256)))) + bt263.1)) a1, bt263.2.1, bt263.2.2)))))) = some (r1, r2, r3) := H
  have A8 := mK A80
  clear A80
  replace H := Option.bind_eq_some_iff.mp H
  obtain ⟨⟨t257, t258, t259⟩, A90, H⟩ := H
  replace H : ((spec_l01Byte.f s0_0 t258 t259).bind fun bt260 => ((spec_l01Byte.f s0_0 bt260.2.1 bt260.2.2).bind fun bt263 => (if a1 = 0 then (none) else (some (Int.tmod (wrap64 ((wrap64 ((wrap64 ((wrap64 (t254 * 16777216)) + (wrap64 (t257 * 65536)))) + (wrap64 (bt260.1 * 256)))) + bt263.1)) a1, bt263.2.1, bt263.2.2))))) = some (r1, r2, r3) := H
  have A9 := mK A90
  clear A90
  replace H := Option.bind_eq_some_iff.mp H
  obtain ⟨⟨t260, t261, t262⟩, A100, H⟩ := H
  replace H : ((spec_l01Byte.f s0_0 t261 t262).bind fun bt263 => (if a1 = 0 then (none) else (some (Int.tmod (wrap64 ((wrap64 ((wrap64 ((wrap64 (t254 * 16777216)) + (wrap64 (t257 * 65536)))) + (wrap64 (t260 * 256)))) + bt263.1)) a1, bt263.2.1, bt263.2.2)))) = some (r1, r2, r3) := H
  have A10 := mK A100
  clear A100
  replace H := Option.bind_eq_some_iff.mp H
  obtain ⟨⟨t263, t264, t265⟩, A110, H⟩ := H
  replace H : (if a1 = 0 then (none) else (some (Int.tmod (wrap64 ((wrap64 ((wrap64 ((wrap64 (t254 * 16777216)) + (wrap64 (t257 * 65536)))) + (wrap64 (t260 * 256)))) + t263)) a1, t264, t265))) = some (r1, r2, r3) := H
  have A11 := mK A110
  clear A110
  by_cases c12 : a1 = 0
  · rw [if_pos c12] at H
    exact absurd H (by simp)
  rw [if_neg c12] at H
  have c12b0 : (a1 == 0) = false := beq_eq_false_iff_ne.mpr c12
  have c12b1 : (a1 != 0) = true := bne_iff_ne.mpr c12
  simp only [Option.some.injEq, Prod.mk.injEq] at H
  obtain ⟨rfl, rfl, rfl⟩ := H
  go_enter Try.func93, Try.ntmps93
  go_wp2_with (first | ((with_reducible refine gate_callee (f := 112) rfl ?_); refine gsE (some 18) Try.func112 #[.pointer (some ⟨g, 0, none⟩)] ?_; (with_reducible refine (spec_l01Byte.calls g s0_0 s0_1 s0_2 t254 t255 t256 w0 _ ?side1 ?side2 A8.out).mono ?_); (case side1 => repeat (first | (with_reducible first | exact HI0.out | apply IsS132.alloc | apply IsS132.drewN | apply IsS132.drew | apply IsS132.set_1 | apply IsS132.set_2) | exact HI0.out)); (case side2 => repeat (first | (with_reducible first | exact HB.out | apply below_alloc | apply pw_below_drewN | apply below_drew1 | refine below_set ?_ (IsS132.ge HI0.out)) | exact HB.out)); rintro e w13 ⟨rfl, hi, hb, hk⟩; refine ⟨_, rfl, ?_⟩; replace HK := mK (KeepBut.trans (by repeat first|(with_reducible first|exact HK.out|apply KeepBut.set_|apply keep_drewN|apply keep_drew|apply keep_alloc)|exact HK.out) hk (.inl rfl)); replace HB := mK (hb); replace HI0 := mK (hi); (try clear hb); (try clear hb2); (try clear hk); (try clear hi)) | ((with_reducible refine gate_callee (f := 112) rfl ?_); refine gsE (some 20) Try.func112 #[.pointer (some ⟨g, 0, none⟩)] ?_; (with_reducible refine (spec_l01Byte.calls g s0_0 t255 t256 t257 t258 t259 w0 _ ?side1 ?side2 A9.out).mono ?_); (case side1 => repeat (first | (with_reducible first | exact HI0.out | apply IsS132.alloc | apply IsS132.drewN | apply IsS132.drew | apply IsS132.set_1 | apply IsS132.set_2) | exact HI0.out)); (case side2 => repeat (first | (with_reducible first | exact HB.out | apply below_alloc | apply pw_below_drewN | apply below_drew1 | refine below_set ?_ (IsS132.ge HI0.out)) | exact HB.out)); rintro e w14 ⟨rfl, hi, hb, hk⟩; refine ⟨_, rfl, ?_⟩; replace HK := mK (KeepBut.trans (by repeat first|(with_reducible first|exact HK.out|apply KeepBut.set_|apply keep_drewN|apply keep_drew|apply keep_alloc)|exact HK.out) hk (.inl rfl)); replace HB := mK (hb); replace HI0 := mK (hi); (try clear hb); (try clear hb2); (try clear hk); (try clear hi)) | ((with_reducible refine gate_callee (f := 112) rfl ?_); refine gsE (some 22) Try.func112 #[.pointer (some ⟨g, 0, none⟩)] ?_; (with_reducible refine (spec_l01Byte.calls g s0_0 t258 t259 t260 t261 t262 w0 _ ?side1 ?side2 A10.out).mono ?_); (case side1 => repeat (first | (with_reducible first | exact HI0.out | apply IsS132.alloc | apply IsS132.drewN | apply IsS132.drew | apply IsS132.set_1 | apply IsS132.set_2) | exact HI0.out)); (case side2 => repeat (first | (with_reducible first | exact HB.out | apply below_alloc | apply pw_below_drewN | apply below_drew1 | refine below_set ?_ (IsS132.ge HI0.out)) | exact HB.out)); rintro e w15 ⟨rfl, hi, hb, hk⟩; refine ⟨_, rfl, ?_⟩; replace HK := mK (KeepBut.trans (by repeat first|(with_reducible first|exact HK.out|apply KeepBut.set_|apply keep_drewN|apply keep_drew|apply keep_alloc)|exact HK.out) hk (.inl rfl)); replace HB := mK (hb); replace HI0 := mK (hi); (try clear hb); (try clear hb2); (try clear hk); (try clear hi)) | ((with_reducible refine gate_callee (f := 112) rfl ?_); refine gsE (some 24) Try.func112 #[.pointer (some ⟨g, 0, none⟩)] ?_; (with_reducible refine (spec_l01Byte.calls g s0_0 t261 t262 t263 t264 t265 w0 _ ?side1 ?side2 A11.out).mono ?_); (case side1 => repeat (first | (with_reducible first | exact HI0.out | apply IsS132.alloc | apply IsS132.drewN | apply IsS132.drew | apply IsS132.set_1 | apply IsS132.set_2) | exact HI0.out)); (case side2 => repeat (first | (with_reducible first | exact HB.out | apply below_alloc | apply pw_below_drewN | apply below_drew1 | refine below_set ?_ (IsS132.ge HI0.out)) | exact HB.out)); rintro e w16 ⟨rfl, hi, hb, hk⟩; refine ⟨_, rfl, ?_⟩; replace HK := mK (KeepBut.trans (by repeat first|(with_reducible first|exact HK.out|apply KeepBut.set_|apply keep_drewN|apply keep_drew|apply keep_alloc)|exact HK.out) hk (.inl rfl)); replace HB := mK (hb); replace HI0 := mK (hi); (try clear hb); (try clear hb2); (try clear hk); (try clear hi)))
  go_ret
  exact ⟨by first | rfl | (simp [errW_none, errW_some] <;> rfl) | (simp [*, errW_none, errW_some] <;> rfl), by repeat first|(with_reducible first|exact HI0.out|apply IsS132.alloc|apply IsS132.drewN|apply IsS132.drew|apply IsS132.set_1|apply IsS132.set_2)|exact HI0.out, by repeat (first | (with_reducible first | exact HB.out | apply below_alloc | apply pw_below_drewN | apply below_drew1 | refine below_set ?_ (IsS132.ge HI0.out)) | exact HB.out), by repeat first|(with_reducible first|exact HK.out|apply KeepBut.set_|apply keep_drewN|apply keep_drew|apply keep_alloc)|exact HK.out⟩

/-! ### spec_l02Bounded: function 116 -/
def spec_l02Bounded.f (s0_0 : List Int) (s0_1 : Int) (s0_2 : Int) : Option (Int × Int × Int × Int) := (spec_l01Below.f s0_0 s0_1 s0_2 21).bind fun bt267 => ((spec_l01Below.f s0_0 bt267.2.1 bt267.2.2 8).bind fun bt270 => (some (wrap64 (bt267.1 - 10), wrap64 ((wrap64 (bt267.1 - 10)) + bt270.1), bt270.2.1, bt270.2.2)))
set_option maxHeartbeats 8000000 in
set_option maxRecDepth 100000 in
theorem spec_l02Bounded.calls (g : Nat) (s0_0 : List Int) (s0_1 : Int) (s0_2 : Int) (r1 : Int) (r2 : Int) (r3 : Int) (r4 : Int) (w0 w : World) (hI : IsS132 w0 w g s0_0 s0_1 s0_2) (hB : Below w0.heap.size w0 w) (h : spec_l02Bounded.f s0_0 s0_1 s0_2 = some (r1, r2, r3, r4)) :
    Calls Try.prog 116 #[.pointer (some ⟨g, 0, none⟩)] w fun e w' => e = .returned (.agg #[.int .i64 r1, .int .i64 r2]) ∧ IsS132 w0 w' g s0_0 r3 r4 ∧ Below w0.heap.size w0 w' ∧ KeepBut w w' g none := by
  have hu52 := Try.underlying52
  have HI0 := mK hI
  have HK := mK (KeepBut.refl w g none)
  have HL := mK hB.size
  clear hI
  have HW0 := mK hB.size
  have HB := mK hB
  clear hB
  have H : ((spec_l01Below.f s0_0 s0_1 s0_2 21).bind fun bt267 => ((spec_l01Below.f s0_0 bt267.2.1 bt267.2.2 8).bind fun bt270 => (some (wrap64 (bt267.1 - 10), wrap64 ((wrap64 (bt267.1 - 10)) + bt270.1), bt270.2.1, bt270.2.2)))) = some (r1, r2, r3, r4) := h
  clear h
  replace H := Option.bind_eq_some_iff.mp H
  obtain ⟨⟨t267, t268, t269⟩, A20, H⟩ := H
  replace H : ((spec_l01Below.f s0_0 t268 t269 8).bind fun bt270 => (some (wrap64 (t267 - 10), wrap64 ((wrap64 (t267 - 10)) + bt270.1), bt270.2.1, bt270.2.2))) = some (r1, r2, r3, r4) := H
  have A2 := mK A20
  clear A20
  replace H := Option.bind_eq_some_iff.mp H
  obtain ⟨⟨t270, t271, t272⟩, A30, H⟩ := H
  replace H : (some (wrap64 (t267 - 10), wrap64 ((wrap64 (t267 - 10)) + t270), t271, t272)) = some (r1, r2, r3, r4) := H
  have A3 := mK A30
  clear A30
  simp only [Option.some.injEq, Prod.mk.injEq] at H
  obtain ⟨rfl, rfl, rfl, rfl⟩ := H
  go_enter Try.func116, Try.ntmps116
  go_wp2_with (first | ((with_reducible refine gate_dst (N := 2) rfl ?_); refine bxE 2 #[.int .i64 0, .int .i64 0] 52 ?_; intro gb266 hg w4 hbox hb; have n0_ := mK (IsS132.below (by repeat first|(with_reducible first|exact HI0.out|apply IsS132.alloc|apply IsS132.drewN|apply IsS132.drew|apply IsS132.set_1|apply IsS132.set_2)|exact HI0.out) hb); have n1_ := mK (KeepBut.trans (by repeat first|(with_reducible first|exact HK.out|apply KeepBut.set_|apply keep_drewN|apply keep_drew|apply keep_alloc)|exact HK.out) (KeepBut.of_below hb g none) (.inl rfl)); have n2_ := mK (below_step (by repeat (first | (with_reducible first | exact HB.out | apply below_alloc | apply pw_below_drewN | apply below_drew1 | refine below_set ?_ (IsS132.ge HI0.out)) | exact HB.out)) hb); have n3_ := mK hbox; have n4_ := mK ((by rw [hg]; exact (keep_size (w := w) (g := g) (row := none) (by repeat first|(with_reducible first|exact HK.out|apply KeepBut.set_|apply keep_drewN|apply keep_drew|apply keep_alloc)|exact HK.out)) : w.heap.size ≤ gb266)); have n5_ := mK ((Nat.le_trans HW0.out (by rw [hg]; exact (keep_size (w := w) (g := g) (row := none) (by repeat first|(with_reducible first|exact HK.out|apply KeepBut.set_|apply keep_drewN|apply keep_drew|apply keep_alloc)|exact HK.out)) : w.heap.size ≤ gb266) : w0.heap.size ≤ gb266)); have n6_ := mK ((by rw [hg]; exact Nat.ne_of_lt (IsS132.lt (show IsS132 w0 _ g s0_0 s0_1 s0_2 from by repeat first|(with_reducible first|exact HI0.out|apply IsS132.alloc|apply IsS132.drewN|apply IsS132.drew|apply IsS132.set_1|apply IsS132.set_2)|exact HI0.out)) : g ≠ gb266)); have n7_ := mK ((by rw [hg]; exact Nat.ne_of_gt (IsS132.lt (show IsS132 w0 _ g s0_0 s0_1 s0_2 from by repeat first|(with_reducible first|exact HI0.out|apply IsS132.alloc|apply IsS132.drewN|apply IsS132.drew|apply IsS132.set_1|apply IsS132.set_2)|exact HI0.out)) : gb266 ≠ g)); clear HI0; clear HK; clear HB; have HI0 := n0_; have HK := n1_; have HB := n2_; have BK266 := n3_; have GW266 := n4_; have GE266 := n5_; have NB0_266 := n6_; have NB266_0 := n7_; clear n0_ n1_ n2_ n3_ n4_ n5_ n6_ n7_; clear hb hbox hg) | ((with_reducible refine gate_callee (f := 93) rfl ?_); refine gsE (some 5) Try.func93 #[.pointer (some ⟨g, 0, none⟩), .int .i64 21] ?_; (with_reducible refine (spec_l01Below.calls g s0_0 s0_1 s0_2 21 t267 t268 t269 w0 _ ?side1 ?side2 A2.out).mono ?_); (case side1 => repeat (first | (with_reducible first | exact HI0.out | apply IsS132.alloc | apply IsS132.drewN | apply IsS132.drew | apply IsS132.set_1 | apply IsS132.set_2 | refine IsS132.far ?_ NB0_266.out _) | exact HI0.out)); (case side2 => repeat (first | (with_reducible first | exact HB.out | apply below_alloc | apply pw_below_drewN | apply below_drew1 | refine below_set ?_ (IsS132.ge HI0.out) | refine below_set ?_ GE266.out) | exact HB.out)); rintro e w5 ⟨rfl, hi, hb, hk⟩; refine ⟨_, rfl, ?_⟩; replace BK266 := mK (KeepBut.blk hk (g' := gb266) (o := .cells #[.int .i64 0, .int .i64 0] 52 (0, 0)) (kX BK266) NB266_0.out (by simp)); replace HK := mK (KeepBut.trans (by repeat first|(with_reducible first|exact HK.out|apply KeepBut.set_|apply keep_drewN|apply keep_drew|apply keep_alloc|refine keep_far ?_ GW266.out _)|exact HK.out) hk (.inl rfl)); replace HB := mK (hb); replace HI0 := mK (hi); (try clear hb); (try clear hb2); (try clear hk); (try clear hi)) | ((with_reducible refine gate_callee (f := 93) rfl ?_); refine gsE (some 10) Try.func93 #[.pointer (some ⟨g, 0, none⟩), .int .i64 8] ?_; (with_reducible refine (spec_l01Below.calls g s0_0 t268 t269 8 t270 t271 t272 w0 _ ?side1 ?side2 A3.out).mono ?_); (case side1 => repeat (first | (with_reducible first | exact HI0.out | apply IsS132.alloc | apply IsS132.drewN | apply IsS132.drew | apply IsS132.set_1 | apply IsS132.set_2 | refine IsS132.far ?_ NB0_266.out _) | exact HI0.out)); (case side2 => repeat (first | (with_reducible first | exact HB.out | apply below_alloc | apply pw_below_drewN | apply below_drew1 | refine below_set ?_ (IsS132.ge HI0.out) | refine below_set ?_ GE266.out) | exact HB.out)); rintro e w6 ⟨rfl, hi, hb, hk⟩; refine ⟨_, rfl, ?_⟩; replace BK266 := mK (KeepBut.blk hk (g' := gb266) (o := .cells #[.int .i64 0, .int .i64 0] 52 (0, 0)) (kX BK266) NB266_0.out (by simp)); replace HK := mK (KeepBut.trans (by repeat first|(with_reducible first|exact HK.out|apply KeepBut.set_|apply keep_drewN|apply keep_drew|apply keep_alloc|refine keep_far ?_ GW266.out _)|exact HK.out) hk (.inl rfl)); replace HB := mK (hb); replace HI0 := mK (hi); (try clear hb); (try clear hb2); (try clear hk); (try clear hi); have hnb7 := NB266_0.out; have hnc7 := NB0_266.out; have hcz8_0 := q0 BK266; have hcz8_1 := q1 BK266; have hfz8_0 := fX BK266 0; have hfz8_1 := fX BK266 1))
  refine bodyPost_ret (results_cell_row rfl _ _ gb266 52 #[.int .i64 (wrap64 (t267 - 10)), .int .i64 (wrap64 ((wrap64 (t267 - 10)) + t270))] (0, 0) _ rfl (kP2 BK266) Try.underlying52 rfl (by kernel_rfl)) rfl ?_
  exact ⟨by first | rfl | (simp [errW_none, errW_some] <;> rfl) | (simp [*, errW_none, errW_some] <;> rfl), by repeat first|(with_reducible first|exact HI0.out|apply IsS132.alloc|apply IsS132.drewN|apply IsS132.drew|apply IsS132.set_1|apply IsS132.set_2|refine IsS132.far ?_ NB0_266.out _)|exact HI0.out, by repeat (first | (with_reducible first | exact HB.out | apply below_alloc | apply pw_below_drewN | apply below_drew1 | refine below_set ?_ (IsS132.ge HI0.out) | refine below_set ?_ GE266.out) | exact HB.out), by repeat first|(with_reducible first|exact HK.out|apply KeepBut.set_|apply keep_drewN|apply keep_drew|apply keep_alloc|refine keep_far ?_ GW266.out _)|exact HK.out⟩

/-! ### spec_l02Draw: function 109 -/
def spec_l02Draw.f (s0_0 : List Int) (s0_1 : Int) (s0_2 : Int) : Option (Int × Int × Int × Int) := (spec_l02Bounded.f s0_0 s0_1 s0_2).bind fun bt274 => ((spec_l01Below.f s0_0 bt274.2.2.1 bt274.2.2.2 8).bind fun bt279 => (if bt279.1 = 0 then (some ((-1000000), bt274.2.1, bt279.2.1, bt279.2.2)) else (if bt279.1 = 1 then (some (bt274.1, 1000000, bt279.2.1, bt279.2.2)) else (if bt279.1 = 2 then (some ((-1000000), 1000000, bt279.2.1, bt279.2.2)) else (some (bt274.1, bt274.2.1, bt279.2.1, bt279.2.2))))))
set_option maxHeartbeats 8000000 in
set_option maxRecDepth 100000 in
theorem spec_l02Draw.calls (g : Nat) (s0_0 : List Int) (s0_1 : Int) (s0_2 : Int) (r1 : Int) (r2 : Int) (r3 : Int) (r4 : Int) (w0 w : World) (hI : IsS132 w0 w g s0_0 s0_1 s0_2) (hB : Below w0.heap.size w0 w) (h : spec_l02Draw.f s0_0 s0_1 s0_2 = some (r1, r2, r3, r4)) :
    Calls Try.prog 109 #[.pointer (some ⟨g, 0, none⟩)] w fun e w' => e = .returned (.agg #[.int .i64 r1, .int .i64 r2]) ∧ IsS132 w0 w' g s0_0 r3 r4 ∧ Below w0.heap.size w0 w' ∧ KeepBut w w' g none := by
 have hu52 := Try.underlying52
 have HI0 := mK hI
 have HK := mK (KeepBut.refl w g none)
 have HL := mK hB.size
 clear hI
 have HW0 := mK hB.size
 have HB := mK hB
 clear hB
 have H : ((spec_l02Bounded.f s0_0 s0_1 s0_2).bind fun bt274 => ((spec_l01Below.f s0_0 bt274.2.2.1 bt274.2.2.2 8).bind fun bt279 => (if bt279.1 = 0 then (some ((-1000000), bt274.2.1, bt279.2.1, bt279.2.2)) else (if bt279.1 = 1 then (some (bt274.1, 1000000, bt279.2.1, bt279.2.2)) else (if bt279.1 = 2 then (some ((-1000000), 1000000, bt279.2.1, bt279.2.2)) else (some (bt274.1, bt274.2.1, bt279.2.1, bt279.2.2))))))) = some (r1, r2, r3, r4) := h
 clear h
 replace H := Option.bind_eq_some_iff.mp H
 obtain ⟨⟨t274, t275, t276, t277⟩, A20, H⟩ := H
 replace H : ((spec_l01Below.f s0_0 t276 t277 8).bind fun bt279 => (if bt279.1 = 0 then (some ((-1000000), t275, bt279.2.1, bt279.2.2)) else (if bt279.1 = 1 then (some (t274, 1000000, bt279.2.1, bt279.2.2)) else (if bt279.1 = 2 then (some ((-1000000), 1000000, bt279.2.1, bt279.2.2)) else (some (t274, t275, bt279.2.1, bt279.2.2)))))) = some (r1, r2, r3, r4) := H
 have A2 := mK A20
 clear A20
 replace H := Option.bind_eq_some_iff.mp H
 obtain ⟨⟨t279, t280, t281⟩, A30, H⟩ := H
 replace H : (if t279 = 0 then (some ((-1000000), t275, t280, t281)) else (if t279 = 1 then (some (t274, 1000000, t280, t281)) else (if t279 = 2 then (some ((-1000000), 1000000, t280, t281)) else (some (t274, t275, t280, t281))))) = some (r1, r2, r3, r4) := H
 have A3 := mK A30
 clear A30
 by_cases c4 : t279 = 0
 {
 rw [if_pos c4] at H
 have c4b0 : (t279 == 0) = true := beq_iff_eq.mpr c4
 have c4b1 : (t279 != 0) = false := bne_eq_false_iff_eq.mpr c4
 clear c4
 simp only [Option.some.injEq, Prod.mk.injEq] at H
 obtain ⟨rfl, rfl, rfl, rfl⟩ := H
 go_enter Try.func109, Try.ntmps109
 go_wp2_with (first | ((with_reducible refine gate_dst (N := 2) rfl ?_); refine bxE 2 #[.int .i64 0, .int .i64 0] 52 ?_; intro gb273 hg w5 hbox hb; have n0_ := mK (IsS132.below (by repeat first|(with_reducible first|exact HI0.out|apply IsS132.alloc|apply IsS132.drewN|apply IsS132.drew|apply IsS132.set_1|apply IsS132.set_2)|exact HI0.out) hb); have n1_ := mK (KeepBut.trans (by repeat first|(with_reducible first|exact HK.out|apply KeepBut.set_|apply keep_drewN|apply keep_drew|apply keep_alloc)|exact HK.out) (KeepBut.of_below hb g none) (.inl rfl)); have n2_ := mK (below_step (by repeat (first | (with_reducible first | exact HB.out | apply below_alloc | apply pw_below_drewN | apply below_drew1 | refine below_set ?_ (IsS132.ge HI0.out)) | exact HB.out)) hb); have n3_ := mK hbox; have n4_ := mK ((by rw [hg]; exact (keep_size (w := w) (g := g) (row := none) (by repeat first|(with_reducible first|exact HK.out|apply KeepBut.set_|apply keep_drewN|apply keep_drew|apply keep_alloc)|exact HK.out)) : w.heap.size ≤ gb273)); have n5_ := mK ((Nat.le_trans HW0.out (by rw [hg]; exact (keep_size (w := w) (g := g) (row := none) (by repeat first|(with_reducible first|exact HK.out|apply KeepBut.set_|apply keep_drewN|apply keep_drew|apply keep_alloc)|exact HK.out)) : w.heap.size ≤ gb273) : w0.heap.size ≤ gb273)); have n6_ := mK ((by rw [hg]; exact Nat.ne_of_lt (IsS132.lt (show IsS132 w0 _ g s0_0 s0_1 s0_2 from by repeat first|(with_reducible first|exact HI0.out|apply IsS132.alloc|apply IsS132.drewN|apply IsS132.drew|apply IsS132.set_1|apply IsS132.set_2)|exact HI0.out)) : g ≠ gb273)); have n7_ := mK ((by rw [hg]; exact Nat.ne_of_gt (IsS132.lt (show IsS132 w0 _ g s0_0 s0_1 s0_2 from by repeat first|(with_reducible first|exact HI0.out|apply IsS132.alloc|apply IsS132.drewN|apply IsS132.drew|apply IsS132.set_1|apply IsS132.set_2)|exact HI0.out)) : gb273 ≠ g)); clear HI0; clear HK; clear HB; have HI0 := n0_; have HK := n1_; have HB := n2_; have BK273 := n3_; have GW273 := n4_; have GE273 := n5_; have NB0_273 := n6_; have NB273_0 := n7_; clear n0_ n1_ n2_ n3_ n4_ n5_ n6_ n7_; clear hb hbox hg) | ((with_reducible refine gate_callee (f := 116) rfl ?_); refine gsE (some 5) Try.func116 #[.pointer (some ⟨g, 0, none⟩)] ?_; (with_reducible refine (spec_l02Bounded.calls g s0_0 s0_1 s0_2 t274 t275 t276 t277 w0 _ ?side1 ?side2 A2.out).mono ?_); (case side1 => repeat (first | (with_reducible first | exact HI0.out | apply IsS132.alloc | apply IsS132.drewN | apply IsS132.drew | apply IsS132.set_1 | apply IsS132.set_2 | refine IsS132.far ?_ NB0_273.out _) | exact HI0.out)); (case side2 => repeat (first | (with_reducible first | exact HB.out | apply below_alloc | apply pw_below_drewN | apply below_drew1 | refine below_set ?_ (IsS132.ge HI0.out) | refine below_set ?_ GE273.out) | exact HB.out)); rintro e w6 ⟨rfl, hi, hb, hk⟩; refine ⟨_, rfl, ?_⟩; replace BK273 := mK (KeepBut.blk hk (g' := gb273) (o := .cells #[.int .i64 0, .int .i64 0] 52 (0, 0)) (kX BK273) NB273_0.out (by simp)); replace HK := mK (KeepBut.trans (by repeat first|(with_reducible first|exact HK.out|apply KeepBut.set_|apply keep_drewN|apply keep_drew|apply keep_alloc|refine keep_far ?_ GW273.out _)|exact HK.out) hk (.inl rfl)); replace HB := mK (hb); replace HI0 := mK (hi); (try clear hb); (try clear hb2); (try clear hk); (try clear hi)) | ((with_reducible refine gate_dst (N := 3) rfl ?_); refine bxE 3 #[.int .i64 0, .int .i64 0] 52 ?_; intro gb278 hg w7 hbox hb; have n0_ := mK (IsS132.below (by repeat first|(with_reducible first|exact HI0.out|apply IsS132.alloc|apply IsS132.drewN|apply IsS132.drew|apply IsS132.set_1|apply IsS132.set_2|refine IsS132.far ?_ NB0_273.out _)|exact HI0.out) hb); have n1_ := kB BK273 hb; have n2_ := mK (KeepBut.trans (by repeat first|(with_reducible first|exact HK.out|apply KeepBut.set_|apply keep_drewN|apply keep_drew|apply keep_alloc|refine keep_far ?_ GW273.out _)|exact HK.out) (KeepBut.of_below hb g none) (.inl rfl)); have n3_ := mK (below_step (by repeat (first | (with_reducible first | exact HB.out | apply below_alloc | apply pw_below_drewN | apply below_drew1 | refine below_set ?_ (IsS132.ge HI0.out) | refine below_set ?_ GE273.out) | exact HB.out)) hb); have n4_ := mK hbox; have n5_ := mK ((by rw [hg]; exact (keep_size (w := w) (g := g) (row := none) (by repeat first|(with_reducible first|exact HK.out|apply KeepBut.set_|apply keep_drewN|apply keep_drew|apply keep_alloc|refine keep_far ?_ GW273.out _)|exact HK.out)) : w.heap.size ≤ gb278)); have n6_ := mK ((Nat.le_trans HW0.out (by rw [hg]; exact (keep_size (w := w) (g := g) (row := none) (by repeat first|(with_reducible first|exact HK.out|apply KeepBut.set_|apply keep_drewN|apply keep_drew|apply keep_alloc|refine keep_far ?_ GW273.out _)|exact HK.out)) : w.heap.size ≤ gb278) : w0.heap.size ≤ gb278)); have n7_ := mK (lX hg BK273); have n8_ := mK (mX hg BK273); have n9_ := mK ((by rw [hg]; exact Nat.ne_of_lt (IsS132.lt (show IsS132 w0 _ g s0_0 t276 t277 from by repeat first|(with_reducible first|exact HI0.out|apply IsS132.alloc|apply IsS132.drewN|apply IsS132.drew|apply IsS132.set_1|apply IsS132.set_2|refine IsS132.far ?_ NB0_273.out _)|exact HI0.out)) : g ≠ gb278)); have n10_ := mK ((by rw [hg]; exact Nat.ne_of_gt (IsS132.lt (show IsS132 w0 _ g s0_0 t276 t277 from by repeat first|(with_reducible first|exact HI0.out|apply IsS132.alloc|apply IsS132.drewN|apply IsS132.drew|apply IsS132.set_1|apply IsS132.set_2|refine IsS132.far ?_ NB0_273.out _)|exact HI0.out)) : gb278 ≠ g)); clear HI0; clear BK273; clear HK; clear HB; have HI0 := n0_; have BK273 := n1_; have HK := n2_; have HB := n3_; have BK278 := n4_; have GW278 := n5_; have GE278 := n6_; have NB273_278 := n7_; have NB278_273 := n8_; have NB0_278 := n9_; have NB278_0 := n10_; clear n0_ n1_ n2_ n3_ n4_ n5_ n6_ n7_ n8_ n9_ n10_; clear hb hbox hg; have hnb8 := NB278_273.out; have hnc8 := NB273_278.out; have hnb9 := NB278_0.out; have hnc9 := NB0_278.out; have hcz10_0 := q0 BK278; have hcz10_1 := q1 BK278; have hfz10_0 := fX BK278 0; have hfz10_1 := fX BK278 1) | ((with_reducible refine gate_callee (f := 93) rfl ?_); refine gsE (some 7) Try.func93 #[.pointer (some ⟨g, 0, none⟩), .int .i64 8] ?_; (with_reducible refine (spec_l01Below.calls g s0_0 t276 t277 8 t279 t280 t281 w0 _ ?side1 ?side2 A3.out).mono ?_); (case side1 => repeat (first | (with_reducible first | exact HI0.out | apply IsS132.alloc | apply IsS132.drewN | apply IsS132.drew | apply IsS132.set_1 | apply IsS132.set_2 | refine IsS132.far ?_ NB0_273.out _ | refine IsS132.far ?_ NB0_278.out _) | exact HI0.out)); (case side2 => repeat (first | (with_reducible first | exact HB.out | apply below_alloc | apply pw_below_drewN | apply below_drew1 | refine below_set ?_ (IsS132.ge HI0.out) | refine below_set ?_ GE273.out | refine below_set ?_ GE278.out) | exact HB.out)); rintro e w11 ⟨rfl, hi, hb, hk⟩; refine ⟨_, rfl, ?_⟩; have n0_ := mK (KeepBut.blk hk (g' := gb273) (o := .cells #[.int .i64 0, .int .i64 0] 52 (0, 0)) (kF BK273 NB273_278) NB273_0.out (by simp)); have n1_ := mK (KeepBut.blk hk (g' := gb278) (o := .cells #[.int .i64 t274, .int .i64 t275] 52 (0, 0)) (kP2 BK278) NB278_0.out (by simp)); have n2_ := mK (KeepBut.trans (by repeat first|(with_reducible first|exact HK.out|apply KeepBut.set_|apply keep_drewN|apply keep_drew|apply keep_alloc|refine keep_far ?_ GW273.out _|refine keep_far ?_ GW278.out _)|exact HK.out) hk (.inl rfl)); have n3_ := mK (hb); have n4_ := mK (hi); clear BK273; clear BK278; clear HK; clear HB; clear HI0; have BK273 := n0_; have BK278 := n1_; have HK := n2_; have HB := n3_; have HI0 := n4_; clear n0_ n1_ n2_ n3_ n4_; (try clear hb); (try clear hb2); (try clear hk); (try clear hi); have hcz12_0 := q0 BK278; have hcz12_1 := q1 BK278; have hfz12_0 := fX BK278 0; have hfz12_1 := fX BK278 1; have hnb13 := NB273_0.out; have hnc13 := NB0_273.out; have hcz14_0 := q0 BK273; have hcz14_1 := q1 BK273; have hfz14_0 := fX BK273 0; have hfz14_1 := fX BK273 1))
 refine bodyPost_ret (results_cell_row rfl _ _ gb273 52 #[.int .i64 (-1000000), .int .i64 t275] (0, 0) _ rfl (by (with_reducible repeat first|apply kN|apply kD|apply kA); refine blk_put (cs := #[.int .i64 (-1000000), .int .i64 0]) ?_ 1 _ rfl; (with_reducible repeat first|apply kN|apply kD|apply kA); refine blk_put (cs := #[.int .i64 0, .int .i64 0]) ?_ 0 _ rfl; (with_reducible repeat first|apply kN|apply kD|apply kA); refine blk_far ?_ NB273_278.out _; (with_reducible repeat first|apply kN|apply kD|apply kA); exact BK273.out) Try.underlying52 rfl (by kernel_rfl)) rfl ?_
 exact ⟨by first | rfl | (simp [errW_none, errW_some] <;> rfl) | (simp [*, errW_none, errW_some] <;> rfl), by repeat first|(with_reducible first|exact HI0.out|apply IsS132.alloc|apply IsS132.drewN|apply IsS132.drew|apply IsS132.set_1|apply IsS132.set_2|refine IsS132.far ?_ NB0_273.out _|refine IsS132.far ?_ NB0_278.out _)|exact HI0.out, by repeat (first | (with_reducible first | exact HB.out | apply below_alloc | apply pw_below_drewN | apply below_drew1 | refine below_set ?_ (IsS132.ge HI0.out) | refine below_set ?_ GE273.out | refine below_set ?_ GE278.out) | exact HB.out), by repeat first|(with_reducible first|exact HK.out|apply KeepBut.set_|apply keep_drewN|apply keep_drew|apply keep_alloc|refine keep_far ?_ GW273.out _|refine keep_far ?_ GW278.out _)|exact HK.out⟩
 }
 rw [if_neg c4] at H
 have c4b0 : (t279 == 0) = false := beq_eq_false_iff_ne.mpr c4
 have c4b1 : (t279 != 0) = true := bne_iff_ne.mpr c4
 by_cases c15 : t279 = 1
 {
 rw [if_pos c15] at H
 have c15b0 : (t279 == 1) = true := beq_iff_eq.mpr c15
 have c15b1 : (t279 != 1) = false := bne_eq_false_iff_eq.mpr c15
 clear c15
 simp only [Option.some.injEq, Prod.mk.injEq] at H
 obtain ⟨rfl, rfl, rfl, rfl⟩ := H
 go_enter Try.func109, Try.ntmps109
 go_wp2_with (first | ((with_reducible refine gate_dst (N := 2) rfl ?_); refine bxE 2 #[.int .i64 0, .int .i64 0] 52 ?_; intro gb273 hg w16 hbox hb; have n0_ := mK (IsS132.below (by repeat first|(with_reducible first|exact HI0.out|apply IsS132.alloc|apply IsS132.drewN|apply IsS132.drew|apply IsS132.set_1|apply IsS132.set_2)|exact HI0.out) hb); have n1_ := mK (KeepBut.trans (by repeat first|(with_reducible first|exact HK.out|apply KeepBut.set_|apply keep_drewN|apply keep_drew|apply keep_alloc)|exact HK.out) (KeepBut.of_below hb g none) (.inl rfl)); have n2_ := mK (below_step (by repeat (first | (with_reducible first | exact HB.out | apply below_alloc | apply pw_below_drewN | apply below_drew1 | refine below_set ?_ (IsS132.ge HI0.out)) | exact HB.out)) hb); have n3_ := mK hbox; have n4_ := mK ((by rw [hg]; exact (keep_size (w := w) (g := g) (row := none) (by repeat first|(with_reducible first|exact HK.out|apply KeepBut.set_|apply keep_drewN|apply keep_drew|apply keep_alloc)|exact HK.out)) : w.heap.size ≤ gb273)); have n5_ := mK ((Nat.le_trans HW0.out (by rw [hg]; exact (keep_size (w := w) (g := g) (row := none) (by repeat first|(with_reducible first|exact HK.out|apply KeepBut.set_|apply keep_drewN|apply keep_drew|apply keep_alloc)|exact HK.out)) : w.heap.size ≤ gb273) : w0.heap.size ≤ gb273)); have n6_ := mK ((by rw [hg]; exact Nat.ne_of_lt (IsS132.lt (show IsS132 w0 _ g s0_0 s0_1 s0_2 from by repeat first|(with_reducible first|exact HI0.out|apply IsS132.alloc|apply IsS132.drewN|apply IsS132.drew|apply IsS132.set_1|apply IsS132.set_2)|exact HI0.out)) : g ≠ gb273)); have n7_ := mK ((by rw [hg]; exact Nat.ne_of_gt (IsS132.lt (show IsS132 w0 _ g s0_0 s0_1 s0_2 from by repeat first|(with_reducible first|exact HI0.out|apply IsS132.alloc|apply IsS132.drewN|apply IsS132.drew|apply IsS132.set_1|apply IsS132.set_2)|exact HI0.out)) : gb273 ≠ g)); clear HI0; clear HK; clear HB; have HI0 := n0_; have HK := n1_; have HB := n2_; have BK273 := n3_; have GW273 := n4_; have GE273 := n5_; have NB0_273 := n6_; have NB273_0 := n7_; clear n0_ n1_ n2_ n3_ n4_ n5_ n6_ n7_; clear hb hbox hg) | ((with_reducible refine gate_callee (f := 116) rfl ?_); refine gsE (some 5) Try.func116 #[.pointer (some ⟨g, 0, none⟩)] ?_; (with_reducible refine (spec_l02Bounded.calls g s0_0 s0_1 s0_2 t274 t275 t276 t277 w0 _ ?side1 ?side2 A2.out).mono ?_); (case side1 => repeat (first | (with_reducible first | exact HI0.out | apply IsS132.alloc | apply IsS132.drewN | apply IsS132.drew | apply IsS132.set_1 | apply IsS132.set_2 | refine IsS132.far ?_ NB0_273.out _) | exact HI0.out)); (case side2 => repeat (first | (with_reducible first | exact HB.out | apply below_alloc | apply pw_below_drewN | apply below_drew1 | refine below_set ?_ (IsS132.ge HI0.out) | refine below_set ?_ GE273.out) | exact HB.out)); rintro e w17 ⟨rfl, hi, hb, hk⟩; refine ⟨_, rfl, ?_⟩; replace BK273 := mK (KeepBut.blk hk (g' := gb273) (o := .cells #[.int .i64 0, .int .i64 0] 52 (0, 0)) (kX BK273) NB273_0.out (by simp)); replace HK := mK (KeepBut.trans (by repeat first|(with_reducible first|exact HK.out|apply KeepBut.set_|apply keep_drewN|apply keep_drew|apply keep_alloc|refine keep_far ?_ GW273.out _)|exact HK.out) hk (.inl rfl)); replace HB := mK (hb); replace HI0 := mK (hi); (try clear hb); (try clear hb2); (try clear hk); (try clear hi)) | ((with_reducible refine gate_dst (N := 3) rfl ?_); refine bxE 3 #[.int .i64 0, .int .i64 0] 52 ?_; intro gb278 hg w18 hbox hb; have n0_ := mK (IsS132.below (by repeat first|(with_reducible first|exact HI0.out|apply IsS132.alloc|apply IsS132.drewN|apply IsS132.drew|apply IsS132.set_1|apply IsS132.set_2|refine IsS132.far ?_ NB0_273.out _)|exact HI0.out) hb); have n1_ := kB BK273 hb; have n2_ := mK (KeepBut.trans (by repeat first|(with_reducible first|exact HK.out|apply KeepBut.set_|apply keep_drewN|apply keep_drew|apply keep_alloc|refine keep_far ?_ GW273.out _)|exact HK.out) (KeepBut.of_below hb g none) (.inl rfl)); have n3_ := mK (below_step (by repeat (first | (with_reducible first | exact HB.out | apply below_alloc | apply pw_below_drewN | apply below_drew1 | refine below_set ?_ (IsS132.ge HI0.out) | refine below_set ?_ GE273.out) | exact HB.out)) hb); have n4_ := mK hbox; have n5_ := mK ((by rw [hg]; exact (keep_size (w := w) (g := g) (row := none) (by repeat first|(with_reducible first|exact HK.out|apply KeepBut.set_|apply keep_drewN|apply keep_drew|apply keep_alloc|refine keep_far ?_ GW273.out _)|exact HK.out)) : w.heap.size ≤ gb278)); have n6_ := mK ((Nat.le_trans HW0.out (by rw [hg]; exact (keep_size (w := w) (g := g) (row := none) (by repeat first|(with_reducible first|exact HK.out|apply KeepBut.set_|apply keep_drewN|apply keep_drew|apply keep_alloc|refine keep_far ?_ GW273.out _)|exact HK.out)) : w.heap.size ≤ gb278) : w0.heap.size ≤ gb278)); have n7_ := mK (lX hg BK273); have n8_ := mK (mX hg BK273); have n9_ := mK ((by rw [hg]; exact Nat.ne_of_lt (IsS132.lt (show IsS132 w0 _ g s0_0 t276 t277 from by repeat first|(with_reducible first|exact HI0.out|apply IsS132.alloc|apply IsS132.drewN|apply IsS132.drew|apply IsS132.set_1|apply IsS132.set_2|refine IsS132.far ?_ NB0_273.out _)|exact HI0.out)) : g ≠ gb278)); have n10_ := mK ((by rw [hg]; exact Nat.ne_of_gt (IsS132.lt (show IsS132 w0 _ g s0_0 t276 t277 from by repeat first|(with_reducible first|exact HI0.out|apply IsS132.alloc|apply IsS132.drewN|apply IsS132.drew|apply IsS132.set_1|apply IsS132.set_2|refine IsS132.far ?_ NB0_273.out _)|exact HI0.out)) : gb278 ≠ g)); clear HI0; clear BK273; clear HK; clear HB; have HI0 := n0_; have BK273 := n1_; have HK := n2_; have HB := n3_; have BK278 := n4_; have GW278 := n5_; have GE278 := n6_; have NB273_278 := n7_; have NB278_273 := n8_; have NB0_278 := n9_; have NB278_0 := n10_; clear n0_ n1_ n2_ n3_ n4_ n5_ n6_ n7_ n8_ n9_ n10_; clear hb hbox hg; have hnb19 := NB278_273.out; have hnc19 := NB273_278.out; have hnb20 := NB278_0.out; have hnc20 := NB0_278.out; have hcz21_0 := q0 BK278; have hcz21_1 := q1 BK278; have hfz21_0 := fX BK278 0; have hfz21_1 := fX BK278 1) | ((with_reducible refine gate_callee (f := 93) rfl ?_); refine gsE (some 7) Try.func93 #[.pointer (some ⟨g, 0, none⟩), .int .i64 8] ?_; (with_reducible refine (spec_l01Below.calls g s0_0 t276 t277 8 t279 t280 t281 w0 _ ?side1 ?side2 A3.out).mono ?_); (case side1 => repeat (first | (with_reducible first | exact HI0.out | apply IsS132.alloc | apply IsS132.drewN | apply IsS132.drew | apply IsS132.set_1 | apply IsS132.set_2 | refine IsS132.far ?_ NB0_273.out _ | refine IsS132.far ?_ NB0_278.out _) | exact HI0.out)); (case side2 => repeat (first | (with_reducible first | exact HB.out | apply below_alloc | apply pw_below_drewN | apply below_drew1 | refine below_set ?_ (IsS132.ge HI0.out) | refine below_set ?_ GE273.out | refine below_set ?_ GE278.out) | exact HB.out)); rintro e w22 ⟨rfl, hi, hb, hk⟩; refine ⟨_, rfl, ?_⟩; have n0_ := mK (KeepBut.blk hk (g' := gb273) (o := .cells #[.int .i64 0, .int .i64 0] 52 (0, 0)) (kF BK273 NB273_278) NB273_0.out (by simp)); have n1_ := mK (KeepBut.blk hk (g' := gb278) (o := .cells #[.int .i64 t274, .int .i64 t275] 52 (0, 0)) (kP2 BK278) NB278_0.out (by simp)); have n2_ := mK (KeepBut.trans (by repeat first|(with_reducible first|exact HK.out|apply KeepBut.set_|apply keep_drewN|apply keep_drew|apply keep_alloc|refine keep_far ?_ GW273.out _|refine keep_far ?_ GW278.out _)|exact HK.out) hk (.inl rfl)); have n3_ := mK (hb); have n4_ := mK (hi); clear BK273; clear BK278; clear HK; clear HB; clear HI0; have BK273 := n0_; have BK278 := n1_; have HK := n2_; have HB := n3_; have HI0 := n4_; clear n0_ n1_ n2_ n3_ n4_; (try clear hb); (try clear hb2); (try clear hk); (try clear hi); have hcz23_0 := q0 BK278; have hcz23_1 := q1 BK278; have hfz23_0 := fX BK278 0; have hfz23_1 := fX BK278 1; have hnb24 := NB273_0.out; have hnc24 := NB0_273.out; have hcz25_0 := q0 BK273; have hcz25_1 := q1 BK273; have hfz25_0 := fX BK273 0; have hfz25_1 := fX BK273 1))
 refine bodyPost_ret (results_cell_row rfl _ _ gb273 52 #[.int .i64 t274, .int .i64 1000000] (0, 0) _ rfl (by (with_reducible repeat first|apply kN|apply kD|apply kA); refine blk_put (cs := #[.int .i64 t274, .int .i64 0]) ?_ 1 _ rfl; (with_reducible repeat first|apply kN|apply kD|apply kA); refine blk_put (cs := #[.int .i64 0, .int .i64 0]) ?_ 0 _ rfl; (with_reducible repeat first|apply kN|apply kD|apply kA); refine blk_far ?_ NB273_278.out _; (with_reducible repeat first|apply kN|apply kD|apply kA); exact BK273.out) Try.underlying52 rfl (by kernel_rfl)) rfl ?_
 exact ⟨by first | rfl | (simp [errW_none, errW_some] <;> rfl) | (simp [*, errW_none, errW_some] <;> rfl), by repeat first|(with_reducible first|exact HI0.out|apply IsS132.alloc|apply IsS132.drewN|apply IsS132.drew|apply IsS132.set_1|apply IsS132.set_2|refine IsS132.far ?_ NB0_273.out _|refine IsS132.far ?_ NB0_278.out _)|exact HI0.out, by repeat (first | (with_reducible first | exact HB.out | apply below_alloc | apply pw_below_drewN | apply below_drew1 | refine below_set ?_ (IsS132.ge HI0.out) | refine below_set ?_ GE273.out | refine below_set ?_ GE278.out) | exact HB.out), by repeat first|(with_reducible first|exact HK.out|apply KeepBut.set_|apply keep_drewN|apply keep_drew|apply keep_alloc|refine keep_far ?_ GW273.out _|refine keep_far ?_ GW278.out _)|exact HK.out⟩
 }
 rw [if_neg c15] at H
 have c15b0 : (t279 == 1) = false := beq_eq_false_iff_ne.mpr c15
 have c15b1 : (t279 != 1) = true := bne_iff_ne.mpr c15
 by_cases c26 : t279 = 2
 {
 rw [if_pos c26] at H
 have c26b0 : (t279 == 2) = true := beq_iff_eq.mpr c26
 have c26b1 : (t279 != 2) = false := bne_eq_false_iff_eq.mpr c26
 clear c26
 simp only [Option.some.injEq, Prod.mk.injEq] at H
 obtain ⟨rfl, rfl, rfl, rfl⟩ := H
 go_enter Try.func109, Try.ntmps109
 go_wp2_with (first | ((with_reducible refine gate_dst (N := 2) rfl ?_); refine bxE 2 #[.int .i64 0, .int .i64 0] 52 ?_; intro gb273 hg w27 hbox hb; have n0_ := mK (IsS132.below (by repeat first|(with_reducible first|exact HI0.out|apply IsS132.alloc|apply IsS132.drewN|apply IsS132.drew|apply IsS132.set_1|apply IsS132.set_2)|exact HI0.out) hb); have n1_ := mK (KeepBut.trans (by repeat first|(with_reducible first|exact HK.out|apply KeepBut.set_|apply keep_drewN|apply keep_drew|apply keep_alloc)|exact HK.out) (KeepBut.of_below hb g none) (.inl rfl)); have n2_ := mK (below_step (by repeat (first | (with_reducible first | exact HB.out | apply below_alloc | apply pw_below_drewN | apply below_drew1 | refine below_set ?_ (IsS132.ge HI0.out)) | exact HB.out)) hb); have n3_ := mK hbox; have n4_ := mK ((by rw [hg]; exact (keep_size (w := w) (g := g) (row := none) (by repeat first|(with_reducible first|exact HK.out|apply KeepBut.set_|apply keep_drewN|apply keep_drew|apply keep_alloc)|exact HK.out)) : w.heap.size ≤ gb273)); have n5_ := mK ((Nat.le_trans HW0.out (by rw [hg]; exact (keep_size (w := w) (g := g) (row := none) (by repeat first|(with_reducible first|exact HK.out|apply KeepBut.set_|apply keep_drewN|apply keep_drew|apply keep_alloc)|exact HK.out)) : w.heap.size ≤ gb273) : w0.heap.size ≤ gb273)); have n6_ := mK ((by rw [hg]; exact Nat.ne_of_lt (IsS132.lt (show IsS132 w0 _ g s0_0 s0_1 s0_2 from by repeat first|(with_reducible first|exact HI0.out|apply IsS132.alloc|apply IsS132.drewN|apply IsS132.drew|apply IsS132.set_1|apply IsS132.set_2)|exact HI0.out)) : g ≠ gb273)); have n7_ := mK ((by rw [hg]; exact Nat.ne_of_gt (IsS132.lt (show IsS132 w0 _ g s0_0 s0_1 s0_2 from by repeat first|(with_reducible first|exact HI0.out|apply IsS132.alloc|apply IsS132.drewN|apply IsS132.drew|apply IsS132.set_1|apply IsS132.set_2)|exact HI0.out)) : gb273 ≠ g)); clear HI0; clear HK; clear HB; have HI0 := n0_; have HK := n1_; have HB := n2_; have BK273 := n3_; have GW273 := n4_; have GE273 := n5_; have NB0_273 := n6_; have NB273_0 := n7_; clear n0_ n1_ n2_ n3_ n4_ n5_ n6_ n7_; clear hb hbox hg) | ((with_reducible refine gate_callee (f := 116) rfl ?_); refine gsE (some 5) Try.func116 #[.pointer (some ⟨g, 0, none⟩)] ?_; (with_reducible refine (spec_l02Bounded.calls g s0_0 s0_1 s0_2 t274 t275 t276 t277 w0 _ ?side1 ?side2 A2.out).mono ?_); (case side1 => repeat (first | (with_reducible first | exact HI0.out | apply IsS132.alloc | apply IsS132.drewN | apply IsS132.drew | apply IsS132.set_1 | apply IsS132.set_2 | refine IsS132.far ?_ NB0_273.out _) | exact HI0.out)); (case side2 => repeat (first | (with_reducible first | exact HB.out | apply below_alloc | apply pw_below_drewN | apply below_drew1 | refine below_set ?_ (IsS132.ge HI0.out) | refine below_set ?_ GE273.out) | exact HB.out)); rintro e w28 ⟨rfl, hi, hb, hk⟩; refine ⟨_, rfl, ?_⟩; replace BK273 := mK (KeepBut.blk hk (g' := gb273) (o := .cells #[.int .i64 0, .int .i64 0] 52 (0, 0)) (kX BK273) NB273_0.out (by simp)); replace HK := mK (KeepBut.trans (by repeat first|(with_reducible first|exact HK.out|apply KeepBut.set_|apply keep_drewN|apply keep_drew|apply keep_alloc|refine keep_far ?_ GW273.out _)|exact HK.out) hk (.inl rfl)); replace HB := mK (hb); replace HI0 := mK (hi); (try clear hb); (try clear hb2); (try clear hk); (try clear hi)) | ((with_reducible refine gate_dst (N := 3) rfl ?_); refine bxE 3 #[.int .i64 0, .int .i64 0] 52 ?_; intro gb278 hg w29 hbox hb; have n0_ := mK (IsS132.below (by repeat first|(with_reducible first|exact HI0.out|apply IsS132.alloc|apply IsS132.drewN|apply IsS132.drew|apply IsS132.set_1|apply IsS132.set_2|refine IsS132.far ?_ NB0_273.out _)|exact HI0.out) hb); have n1_ := kB BK273 hb; have n2_ := mK (KeepBut.trans (by repeat first|(with_reducible first|exact HK.out|apply KeepBut.set_|apply keep_drewN|apply keep_drew|apply keep_alloc|refine keep_far ?_ GW273.out _)|exact HK.out) (KeepBut.of_below hb g none) (.inl rfl)); have n3_ := mK (below_step (by repeat (first | (with_reducible first | exact HB.out | apply below_alloc | apply pw_below_drewN | apply below_drew1 | refine below_set ?_ (IsS132.ge HI0.out) | refine below_set ?_ GE273.out) | exact HB.out)) hb); have n4_ := mK hbox; have n5_ := mK ((by rw [hg]; exact (keep_size (w := w) (g := g) (row := none) (by repeat first|(with_reducible first|exact HK.out|apply KeepBut.set_|apply keep_drewN|apply keep_drew|apply keep_alloc|refine keep_far ?_ GW273.out _)|exact HK.out)) : w.heap.size ≤ gb278)); have n6_ := mK ((Nat.le_trans HW0.out (by rw [hg]; exact (keep_size (w := w) (g := g) (row := none) (by repeat first|(with_reducible first|exact HK.out|apply KeepBut.set_|apply keep_drewN|apply keep_drew|apply keep_alloc|refine keep_far ?_ GW273.out _)|exact HK.out)) : w.heap.size ≤ gb278) : w0.heap.size ≤ gb278)); have n7_ := mK (lX hg BK273); have n8_ := mK (mX hg BK273); have n9_ := mK ((by rw [hg]; exact Nat.ne_of_lt (IsS132.lt (show IsS132 w0 _ g s0_0 t276 t277 from by repeat first|(with_reducible first|exact HI0.out|apply IsS132.alloc|apply IsS132.drewN|apply IsS132.drew|apply IsS132.set_1|apply IsS132.set_2|refine IsS132.far ?_ NB0_273.out _)|exact HI0.out)) : g ≠ gb278)); have n10_ := mK ((by rw [hg]; exact Nat.ne_of_gt (IsS132.lt (show IsS132 w0 _ g s0_0 t276 t277 from by repeat first|(with_reducible first|exact HI0.out|apply IsS132.alloc|apply IsS132.drewN|apply IsS132.drew|apply IsS132.set_1|apply IsS132.set_2|refine IsS132.far ?_ NB0_273.out _)|exact HI0.out)) : gb278 ≠ g)); clear HI0; clear BK273; clear HK; clear HB; have HI0 := n0_; have BK273 := n1_; have HK := n2_; have HB := n3_; have BK278 := n4_; have GW278 := n5_; have GE278 := n6_; have NB273_278 := n7_; have NB278_273 := n8_; have NB0_278 := n9_; have NB278_0 := n10_; clear n0_ n1_ n2_ n3_ n4_ n5_ n6_ n7_ n8_ n9_ n10_; clear hb hbox hg; have hnb30 := NB278_273.out; have hnc30 := NB273_278.out; have hnb31 := NB278_0.out; have hnc31 := NB0_278.out; have hcz32_0 := q0 BK278; have hcz32_1 := q1 BK278; have hfz32_0 := fX BK278 0; have hfz32_1 := fX BK278 1) | ((with_reducible refine gate_callee (f := 93) rfl ?_); refine gsE (some 7) Try.func93 #[.pointer (some ⟨g, 0, none⟩), .int .i64 8] ?_; (with_reducible refine (spec_l01Below.calls g s0_0 t276 t277 8 t279 t280 t281 w0 _ ?side1 ?side2 A3.out).mono ?_); (case side1 => repeat (first | (with_reducible first | exact HI0.out | apply IsS132.alloc | apply IsS132.drewN | apply IsS132.drew | apply IsS132.set_1 | apply IsS132.set_2 | refine IsS132.far ?_ NB0_273.out _ | refine IsS132.far ?_ NB0_278.out _) | exact HI0.out)); (case side2 => repeat (first | (with_reducible first | exact HB.out | apply below_alloc | apply pw_below_drewN | apply below_drew1 | refine below_set ?_ (IsS132.ge HI0.out) | refine below_set ?_ GE273.out | refine below_set ?_ GE278.out) | exact HB.out)); rintro e w33 ⟨rfl, hi, hb, hk⟩; refine ⟨_, rfl, ?_⟩; have n0_ := mK (KeepBut.blk hk (g' := gb273) (o := .cells #[.int .i64 0, .int .i64 0] 52 (0, 0)) (kF BK273 NB273_278) NB273_0.out (by simp)); have n1_ := mK (KeepBut.blk hk (g' := gb278) (o := .cells #[.int .i64 t274, .int .i64 t275] 52 (0, 0)) (kP2 BK278) NB278_0.out (by simp)); have n2_ := mK (KeepBut.trans (by repeat first|(with_reducible first|exact HK.out|apply KeepBut.set_|apply keep_drewN|apply keep_drew|apply keep_alloc|refine keep_far ?_ GW273.out _|refine keep_far ?_ GW278.out _)|exact HK.out) hk (.inl rfl)); have n3_ := mK (hb); have n4_ := mK (hi); clear BK273; clear BK278; clear HK; clear HB; clear HI0; have BK273 := n0_; have BK278 := n1_; have HK := n2_; have HB := n3_; have HI0 := n4_; clear n0_ n1_ n2_ n3_ n4_; (try clear hb); (try clear hb2); (try clear hk); (try clear hi); have hnb34 := NB273_0.out; have hnc34 := NB0_273.out; have hcz35_0 := q0 BK273; have hcz35_1 := q1 BK273; have hfz35_0 := fX BK273 0; have hfz35_1 := fX BK273 1))
 refine bodyPost_ret (results_cell_row rfl _ _ gb273 52 #[.int .i64 (-1000000), .int .i64 1000000] (0, 0) _ rfl (kP2 BK273) Try.underlying52 rfl (by kernel_rfl)) rfl ?_
 exact ⟨by first | rfl | (simp [errW_none, errW_some] <;> rfl) | (simp [*, errW_none, errW_some] <;> rfl), by repeat first|(with_reducible first|exact HI0.out|apply IsS132.alloc|apply IsS132.drewN|apply IsS132.drew|apply IsS132.set_1|apply IsS132.set_2|refine IsS132.far ?_ NB0_273.out _|refine IsS132.far ?_ NB0_278.out _)|exact HI0.out, by repeat (first | (with_reducible first | exact HB.out | apply below_alloc | apply pw_below_drewN | apply below_drew1 | refine below_set ?_ (IsS132.ge HI0.out) | refine below_set ?_ GE273.out | refine below_set ?_ GE278.out) | exact HB.out), by repeat first|(with_reducible first|exact HK.out|apply KeepBut.set_|apply keep_drewN|apply keep_drew|apply keep_alloc|refine keep_far ?_ GW273.out _|refine keep_far ?_ GW278.out _)|exact HK.out⟩
 }
 rw [if_neg c26] at H
 have c26b0 : (t279 == 2) = false := beq_eq_false_iff_ne.mpr c26
 have c26b1 : (t279 != 2) = true := bne_iff_ne.mpr c26
 simp only [Option.some.injEq, Prod.mk.injEq] at H
 obtain ⟨rfl, rfl, rfl, rfl⟩ := H
 go_enter Try.func109, Try.ntmps109
 go_wp2_with (first | ((with_reducible refine gate_dst (N := 2) rfl ?_); refine bxE 2 #[.int .i64 0, .int .i64 0] 52 ?_; intro gb273 hg w36 hbox hb; have n0_ := mK (IsS132.below (by repeat first|(with_reducible first|exact HI0.out|apply IsS132.alloc|apply IsS132.drewN|apply IsS132.drew|apply IsS132.set_1|apply IsS132.set_2)|exact HI0.out) hb); have n1_ := mK (KeepBut.trans (by repeat first|(with_reducible first|exact HK.out|apply KeepBut.set_|apply keep_drewN|apply keep_drew|apply keep_alloc)|exact HK.out) (KeepBut.of_below hb g none) (.inl rfl)); have n2_ := mK (below_step (by repeat (first | (with_reducible first | exact HB.out | apply below_alloc | apply pw_below_drewN | apply below_drew1 | refine below_set ?_ (IsS132.ge HI0.out)) | exact HB.out)) hb); have n3_ := mK hbox; have n4_ := mK ((by rw [hg]; exact (keep_size (w := w) (g := g) (row := none) (by repeat first|(with_reducible first|exact HK.out|apply KeepBut.set_|apply keep_drewN|apply keep_drew|apply keep_alloc)|exact HK.out)) : w.heap.size ≤ gb273)); have n5_ := mK ((Nat.le_trans HW0.out (by rw [hg]; exact (keep_size (w := w) (g := g) (row := none) (by repeat first|(with_reducible first|exact HK.out|apply KeepBut.set_|apply keep_drewN|apply keep_drew|apply keep_alloc)|exact HK.out)) : w.heap.size ≤ gb273) : w0.heap.size ≤ gb273)); have n6_ := mK ((by rw [hg]; exact Nat.ne_of_lt (IsS132.lt (show IsS132 w0 _ g s0_0 s0_1 s0_2 from by repeat first|(with_reducible first|exact HI0.out|apply IsS132.alloc|apply IsS132.drewN|apply IsS132.drew|apply IsS132.set_1|apply IsS132.set_2)|exact HI0.out)) : g ≠ gb273)); have n7_ := mK ((by rw [hg]; exact Nat.ne_of_gt (IsS132.lt (show IsS132 w0 _ g s0_0 s0_1 s0_2 from by repeat first|(with_reducible first|exact HI0.out|apply IsS132.alloc|apply IsS132.drewN|apply IsS132.drew|apply IsS132.set_1|apply IsS132.set_2)|exact HI0.out)) : gb273 ≠ g)); clear HI0; clear HK; clear HB; have HI0 := n0_; have HK := n1_; have HB := n2_; have BK273 := n3_; have GW273 := n4_; have GE273 := n5_; have NB0_273 := n6_; have NB273_0 := n7_; clear n0_ n1_ n2_ n3_ n4_ n5_ n6_ n7_; clear hb hbox hg) | ((with_reducible refine gate_callee (f := 116) rfl ?_); refine gsE (some 5) Try.func116 #[.pointer (some ⟨g, 0, none⟩)] ?_; (with_reducible refine (spec_l02Bounded.calls g s0_0 s0_1 s0_2 t274 t275 t276 t277 w0 _ ?side1 ?side2 A2.out).mono ?_); (case side1 => repeat (first | (with_reducible first | exact HI0.out | apply IsS132.alloc | apply IsS132.drewN | apply IsS132.drew | apply IsS132.set_1 | apply IsS132.set_2 | refine IsS132.far ?_ NB0_273.out _) | exact HI0.out)); (case side2 => repeat (first | (with_reducible first | exact HB.out | apply below_alloc | apply pw_below_drewN | apply below_drew1 | refine below_set ?_ (IsS132.ge HI0.out) | refine below_set ?_ GE273.out) | exact HB.out)); rintro e w37 ⟨rfl, hi, hb, hk⟩; refine ⟨_, rfl, ?_⟩; replace BK273 := mK (KeepBut.blk hk (g' := gb273) (o := .cells #[.int .i64 0, .int .i64 0] 52 (0, 0)) (kX BK273) NB273_0.out (by simp)); replace HK := mK (KeepBut.trans (by repeat first|(with_reducible first|exact HK.out|apply KeepBut.set_|apply keep_drewN|apply keep_drew|apply keep_alloc|refine keep_far ?_ GW273.out _)|exact HK.out) hk (.inl rfl)); replace HB := mK (hb); replace HI0 := mK (hi); (try clear hb); (try clear hb2); (try clear hk); (try clear hi)) | ((with_reducible refine gate_dst (N := 3) rfl ?_); refine bxE 3 #[.int .i64 0, .int .i64 0] 52 ?_; intro gb278 hg w38 hbox hb; have n0_ := mK (IsS132.below (by repeat first|(with_reducible first|exact HI0.out|apply IsS132.alloc|apply IsS132.drewN|apply IsS132.drew|apply IsS132.set_1|apply IsS132.set_2|refine IsS132.far ?_ NB0_273.out _)|exact HI0.out) hb); have n1_ := kB BK273 hb; have n2_ := mK (KeepBut.trans (by repeat first|(with_reducible first|exact HK.out|apply KeepBut.set_|apply keep_drewN|apply keep_drew|apply keep_alloc|refine keep_far ?_ GW273.out _)|exact HK.out) (KeepBut.of_below hb g none) (.inl rfl)); have n3_ := mK (below_step (by repeat (first | (with_reducible first | exact HB.out | apply below_alloc | apply pw_below_drewN | apply below_drew1 | refine below_set ?_ (IsS132.ge HI0.out) | refine below_set ?_ GE273.out) | exact HB.out)) hb); have n4_ := mK hbox; have n5_ := mK ((by rw [hg]; exact (keep_size (w := w) (g := g) (row := none) (by repeat first|(with_reducible first|exact HK.out|apply KeepBut.set_|apply keep_drewN|apply keep_drew|apply keep_alloc|refine keep_far ?_ GW273.out _)|exact HK.out)) : w.heap.size ≤ gb278)); have n6_ := mK ((Nat.le_trans HW0.out (by rw [hg]; exact (keep_size (w := w) (g := g) (row := none) (by repeat first|(with_reducible first|exact HK.out|apply KeepBut.set_|apply keep_drewN|apply keep_drew|apply keep_alloc|refine keep_far ?_ GW273.out _)|exact HK.out)) : w.heap.size ≤ gb278) : w0.heap.size ≤ gb278)); have n7_ := mK (lX hg BK273); have n8_ := mK (mX hg BK273); have n9_ := mK ((by rw [hg]; exact Nat.ne_of_lt (IsS132.lt (show IsS132 w0 _ g s0_0 t276 t277 from by repeat first|(with_reducible first|exact HI0.out|apply IsS132.alloc|apply IsS132.drewN|apply IsS132.drew|apply IsS132.set_1|apply IsS132.set_2|refine IsS132.far ?_ NB0_273.out _)|exact HI0.out)) : g ≠ gb278)); have n10_ := mK ((by rw [hg]; exact Nat.ne_of_gt (IsS132.lt (show IsS132 w0 _ g s0_0 t276 t277 from by repeat first|(with_reducible first|exact HI0.out|apply IsS132.alloc|apply IsS132.drewN|apply IsS132.drew|apply IsS132.set_1|apply IsS132.set_2|refine IsS132.far ?_ NB0_273.out _)|exact HI0.out)) : gb278 ≠ g)); clear HI0; clear BK273; clear HK; clear HB; have HI0 := n0_; have BK273 := n1_; have HK := n2_; have HB := n3_; have BK278 := n4_; have GW278 := n5_; have GE278 := n6_; have NB273_278 := n7_; have NB278_273 := n8_; have NB0_278 := n9_; have NB278_0 := n10_; clear n0_ n1_ n2_ n3_ n4_ n5_ n6_ n7_ n8_ n9_ n10_; clear hb hbox hg; have hnb39 := NB278_273.out; have hnc39 := NB273_278.out; have hnb40 := NB278_0.out; have hnc40 := NB0_278.out; have hcz41_0 := q0 BK278; have hcz41_1 := q1 BK278; have hfz41_0 := fX BK278 0; have hfz41_1 := fX BK278 1) | ((with_reducible refine gate_callee (f := 93) rfl ?_); refine gsE (some 7) Try.func93 #[.pointer (some ⟨g, 0, none⟩), .int .i64 8] ?_; (with_reducible refine (spec_l01Below.calls g s0_0 t276 t277 8 t279 t280 t281 w0 _ ?side1 ?side2 A3.out).mono ?_); (case side1 => repeat (first | (with_reducible first | exact HI0.out | apply IsS132.alloc | apply IsS132.drewN | apply IsS132.drew | apply IsS132.set_1 | apply IsS132.set_2 | refine IsS132.far ?_ NB0_273.out _ | refine IsS132.far ?_ NB0_278.out _) | exact HI0.out)); (case side2 => repeat (first | (with_reducible first | exact HB.out | apply below_alloc | apply pw_below_drewN | apply below_drew1 | refine below_set ?_ (IsS132.ge HI0.out) | refine below_set ?_ GE273.out | refine below_set ?_ GE278.out) | exact HB.out)); rintro e w42 ⟨rfl, hi, hb, hk⟩; refine ⟨_, rfl, ?_⟩; have n0_ := mK (KeepBut.blk hk (g' := gb273) (o := .cells #[.int .i64 0, .int .i64 0] 52 (0, 0)) (kF BK273 NB273_278) NB273_0.out (by simp)); have n1_ := mK (KeepBut.blk hk (g' := gb278) (o := .cells #[.int .i64 t274, .int .i64 t275] 52 (0, 0)) (kP2 BK278) NB278_0.out (by simp)); have n2_ := mK (KeepBut.trans (by repeat first|(with_reducible first|exact HK.out|apply KeepBut.set_|apply keep_drewN|apply keep_drew|apply keep_alloc|refine keep_far ?_ GW273.out _|refine keep_far ?_ GW278.out _)|exact HK.out) hk (.inl rfl)); have n3_ := mK (hb); have n4_ := mK (hi); clear BK273; clear BK278; clear HK; clear HB; clear HI0; have BK273 := n0_; have BK278 := n1_; have HK := n2_; have HB := n3_; have HI0 := n4_; clear n0_ n1_ n2_ n3_ n4_; (try clear hb); (try clear hb2); (try clear hk); (try clear hi); have hcz43_0 := q0 BK278; have hcz43_1 := q1 BK278; have hfz43_0 := fX BK278 0; have hfz43_1 := fX BK278 1; have hnb44 := NB273_0.out; have hnc44 := NB0_273.out; have hcz45_0 := q0 BK273; have hcz45_1 := q1 BK273; have hfz45_0 := fX BK273 0; have hfz45_1 := fX BK273 1))
 refine bodyPost_ret (results_cell_row rfl _ _ gb273 52 #[.int .i64 t274, .int .i64 t275] (0, 0) _ rfl (kP2 BK273) Try.underlying52 rfl (by kernel_rfl)) rfl ?_
 exact ⟨by first | rfl | (simp [errW_none, errW_some] <;> rfl) | (simp [*, errW_none, errW_some] <;> rfl), by repeat first|(with_reducible first|exact HI0.out|apply IsS132.alloc|apply IsS132.drewN|apply IsS132.drew|apply IsS132.set_1|apply IsS132.set_2|refine IsS132.far ?_ NB0_273.out _|refine IsS132.far ?_ NB0_278.out _)|exact HI0.out, by repeat (first | (with_reducible first | exact HB.out | apply below_alloc | apply pw_below_drewN | apply below_drew1 | refine below_set ?_ (IsS132.ge HI0.out) | refine below_set ?_ GE273.out | refine below_set ?_ GE278.out) | exact HB.out), by repeat first|(with_reducible first|exact HK.out|apply KeepBut.set_|apply keep_drewN|apply keep_drew|apply keep_alloc|refine keep_far ?_ GW273.out _|refine keep_far ?_ GW278.out _)|exact HK.out⟩

end Go.Proofs.Ytbbblnmngjhadaa.QFnSchedules
