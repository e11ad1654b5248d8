/- The law FnExactWindowBetween answers true for every table and every two numbers. No condition. -/
import Derived.Test.YtegkkbncnmakaaaQFnExactWindowBetweenx4
import Derived.Test.YtegkkbncnmakaaaThy
namespace Go.Proofs.Ytegkkbncnmakaaa.Own
open Go.RowKit Go.Proofs.Ytegkkbncnmakaaa.QFnExactWindowBetween Go.Proofs.YtegkkbncnmakaaaW.PrintWords Go.Proofs.YtegkkbncnmakaaaW.PrintLast Go.Proofs.YtegkkbncnmakaaaW.PrintMore Go.Proofs.YtegkkbncnmakaaaT Go.Proofs.YtegkkbncnmakaaaT Go.Proofs.YtegkkbncnmakaaaT Go.Proofs.YtegkkbncnmakaaaT Go.Proofs.YtegkkbncnmakaaaT Go.Proofs.YtegkkbncnmakaaaT Go.Proofs.YtegkkbncnmakaaaT
set_option linter.unusedVariables false
set_option linter.unusedSimpArgs false

theorem szTable (s : Int) (l : List Int) (hl : l.length ≤ maxLen) : (laws_szTable.f s l 1048576 = some (-1) ∧ 1048576 < l.length) ∨ (laws_szTable.f s l 1048576 = some (1048576 - (l.length : Int)) ∧ l.length ≤ 1048576) := by
  unfold maxLen at hl
  unfold laws_szTable.f laws_szIntS.f
  rw [w64 (by omega) (by omega)]
  by_cases h : l.length ≤ 1048576
  · right
    rw [if_neg (by omega)]
    simp only [Option.bind_some]
    rw [if_neg (by omega)]
    exact ⟨rfl, h⟩
  · left
    rw [if_pos (by omega)]
    simp only [Option.bind_some]
    rw [if_pos (by omega)]
    exact ⟨rfl, by omega⟩
theorem toIntS_l (x : List Int) (hn : x.length ≤ 4194304) : ∀ (d i : Nat) (y : List Int), i + d = x.length → y.length = x.length → (∀ j, j < i → y[j]? = x[j]?) → Ev (fun k => laws_toIntS.l0 k x y (i : Int)) x
  | 0, i, y, hd, hy, hj => by
    have e : y = x := by
      apply List.ext_getElem?; intro j
      by_cases h : j < i
      · exact hj j h
      · rw [List.getElem?_eq_none (by omega), List.getElem?_eq_none (by omega)]
    subst e
    exact suc (f := fun _ => some y) (fun k => by rw [laws_toIntS.l0, if_neg (by omega)]) now
  | d + 1, i, y, hd, hy, hj => by
    refine suc (f := fun k => laws_toIntS.l0 k x (y.set i (rd x i)) ((i + 1 : Nat) : Int)) (fun k => ?_) (toIntS_l x hn d (i + 1) _ (by omega) (by simp [hy]) (fun j h => ?_))
    · rw [laws_toIntS.l0, if_pos (by omega), if_pos (by omega), if_pos (by omega), up1 (by omega) (by omega)]; rfl
    · by_cases e : j = i
      · subst e; rw [rd_at (by omega)]; simp [show j < y.length by omega, show j < x.length by omega]
      · rw [List.getElem?_set_ne (by omega)]; exact hj j (by omega)
theorem toIntS (x : List Int) (hn : x.length ≤ 4194304) : Ev (fun k => laws_toIntS.f k x) x := by
  unfold laws_toIntS.f
  exact ifp (by omega) (ifp (by simp; omega) (toIntS_l x hn x.length 0 _ (by omega) (by simp) (fun j h => by omega)))
theorem toTable (s : Int) (l : List Int) (hn : l.length ≤ 4194304) : Ev (fun k => laws_toTable.f k s l) (s, l) := by
  unfold laws_toTable.f
  exact bev (toIntS l hn) now
theorem eqIntS_l (x : List Int) (hn : x.length ≤ 4194304) : ∀ (d i : Nat), i + d = x.length → Ev (fun k => laws_eqIntS.l0 k x x (i : Int)) true
  | 0, i, hd => suc (f := fun _ => some true) (fun k => by rw [laws_eqIntS.l0, if_neg (by omega)]) now
  | d + 1, i, hd => by
    refine suc (f := fun k => laws_eqIntS.l0 k x x ((i + 1 : Nat) : Int)) (fun k => ?_) (eqIntS_l x hn d (i + 1) (by omega))
    rw [laws_eqIntS.l0, if_pos (by omega), if_pos (by omega), if_pos (by omega), if_pos rfl, up1 (by omega) (by omega)]; rfl
theorem eqIntS (x : List Int) (hn : x.length ≤ 4194304) : Ev (fun k => laws_eqIntS.f k x x) true := by
  unfold laws_eqIntS.f
  exact ifp rfl (eqIntS_l x hn x.length 0 (by omega))
theorem eqTable (s : Int) (l : List Int) (hn : l.length ≤ 4194304) : Ev (fun k => laws_eqTable.f k s l s l) true := by
  unfold laws_eqTable.f
  exact ifp rfl (bev (eqIntS l hn) (ifp rfl now))
theorem eqInterval (a b : Int) : laws_eqInterval.f a b a b = some true := by
  unfold laws_eqInterval.f
  simp
def windowB (s : Int) (l : List Int) (i k : Int) : Int × Int × Bool :=
  if tableOk s l = true ∧ (0 ≤ i ∧ i < s) ∧ (0 ≤ k ∧ k < s) then (if okB (-cellT s l k.toNat i.toNat) (cellT s l i.toNat k.toNat) = true then (-cellT s l k.toNat i.toNat, cellT s l i.toNat k.toNat, true) else (0, 0, false)) else (0, 0, false)
theorem cell_range {s : Int} {l : List Int} (h : tableOk s l = true) {i k : Nat} (hi : (i : Int) < s) (hk : (k : Int) < s) : -1000000 ≤ cellT s l i k ∧ cellT s l i k ≤ 1000000 := by
  obtain ⟨h1, h2, _, _⟩ := cell_in h hi hk
  unfold tableOk at h
  rw [Bool.and_eq_true] at h
  have := (allF0 _ _).1 h.2 ((i : Int) * s + k).toNat (by omega)
  simp only [cellOk, decide_eq_true_eq] at this
  unfold cellT
  rw [Int.toNat_of_nonneg h1] at this
  exact ⟨this.1, this.2.1⟩
theorem iTableOk_l (s : Int) (l : List Int) (h0 : 0 ≤ s) (h8 : s ≤ 8) (hl : (l.length : Int) = s * s) : ∀ (d i : Nat), i + d = l.length → Ev (fun k => impl_TableOk.l0 k l (l.length : Int) (i : Int) s l) (allF (cellOk s l) i d)
  | 0, i, hd => suc (f := fun _ => some true) (fun k => by rw [impl_TableOk.l0, if_neg (by omega)]) now
  | d + 1, i, hd => by
    have hs : 0 < s := by
      rcases Int.lt_or_eq_of_le h0 with h | h
      · exact h
      · rw [← h] at hl; omega
    have h64 : s * s ≤ 8 * 8 := Int.mul_le_mul h8 h8 h0 (by omega)
    have hq : wrap64 (Int.tdiv (i : Int) s) = (i : Int) / s := by
      rw [Int.tdiv_eq_ediv_of_nonneg (by omega)]
      have h1 : (i : Int) / s < s := Int.ediv_lt_of_lt_mul hs (by omega)
      have h2 : 0 ≤ (i : Int) / s := Int.ediv_nonneg (by omega) h0
      exact w64 (by omega) (by omega)
    have hr : Int.tmod (i : Int) s = (i : Int) % s := Int.tmod_eq_emod_of_nonneg (by omega)
    have ih := iTableOk_l s l h0 h8 hl d (i + 1) (by omega)
    simp only [allF]
    by_cases hc : cellOk s l i = true
    · have hc' := hc
      simp only [cellOk, decide_eq_true_eq] at hc'
      obtain ⟨c1, c2, c3⟩ := hc'
      rw [hc, Bool.true_and]
      refine suc (f := fun k => impl_TableOk.l0 k l (l.length : Int) ((i + 1 : Nat) : Int) s l) (fun k => ?_) ih
      rw [impl_TableOk.l0, if_pos (by omega), if_pos (by omega), if_pos (by omega), if_neg (by omega), if_neg (by omega), if_neg (by omega), hq, hr, up1 (by omega) (by omega)]
      by_cases e : (i : Int) / s = (i : Int) % s
      · rw [if_pos e, if_pos (c3 e)]; rfl
      · rw [if_neg e]; rfl
    · rw [Bool.not_eq_true] at hc
      have hc' := hc
      simp only [cellOk, decide_eq_false_iff_not] at hc'
      rw [hc, Bool.false_and]
      refine suc (f := fun _ => some false) (fun k => ?_) now
      rw [impl_TableOk.l0, if_pos (by omega), if_pos (by omega), if_pos (by omega)]
      by_cases c1 : rd l i < -1000000
      · rw [if_pos c1]
      · rw [if_neg c1]
        by_cases c2 : rd l i > 1000000
        · rw [if_pos c2]
        · rw [if_neg c2, if_neg (by omega), hq, hr]
          by_cases e : (i : Int) / s = (i : Int) % s
          · rw [if_pos e]
            by_cases c3 : rd l i = 0
            · exact absurd ⟨by omega, by omega, fun _ => c3⟩ hc'
            · rw [if_neg c3]
          · exact absurd ⟨by omega, by omega, fun h => absurd h e⟩ hc'
theorem iTableOk (s : Int) (l : List Int) (hn : l.length ≤ 4194304) : Ev (fun k => impl_TableOk.f k s l) (tableOk s l) := by
  have ww : 0 ≤ s → s ≤ 8 → wrap64 (s * s) = s * s := fun h0 h8 => by
    have : s * s ≤ 8 * 8 := Int.mul_le_mul h8 h8 h0 (by omega)
    exact w64 (by have := Int.mul_nonneg h0 h0; omega) (by omega)
  unfold impl_TableOk.f tableOk
  by_cases h0 : s < 0
  · rw [decide_eq_false (by omega), Bool.false_and]
    exact ifp h0 (suc (f := fun _ => some false) (fun k => by rw [impl_TableOk.j0, if_pos rfl]) now)
  · refine ifn h0 ?_
    by_cases h8 : s > 8
    · rw [decide_eq_false (by omega), Bool.false_and]
      exact ifp h8 (suc (f := fun _ => some false) (fun k => by rw [impl_TableOk.j0, if_pos rfl]) now)
    · refine ifn h8 ?_
      rw [ww (by omega) (by omega)]
      by_cases hl : (l.length : Int) = s * s
      · rw [decide_eq_true ⟨by omega, by omega, hl⟩, Bool.true_and]
        refine suc (f := fun k => impl_TableOk.l0 k l (l.length : Int) ((0 : Nat) : Int) s l) (fun k => ?_) (iTableOk_l s l (by omega) (by omega) hl l.length 0 (by omega))
        rw [impl_TableOk.j0, if_neg (by simp [hl])]; rfl
      · rw [decide_eq_false (by omega), Bool.false_and]
        exact suc (f := fun _ => some false) (fun k => by rw [impl_TableOk.j0, if_pos (by simp [hl])]) now
theorem isNode (n x : Int) : impl_isNode.f n x = some (decide (0 ≤ x ∧ x < n)) := by
  unfold impl_isNode.f
  by_cases h : x ≥ 0
  · rw [if_pos h]; congr 1; rw [Bool.eq_iff_iff]; simp only [decide_eq_true_eq]; omega
  · rw [if_neg h]; congr 1; symm; rw [decide_eq_false_iff_not]; omega
theorem icell {s : Int} {l : List Int} (h : tableOk s l = true) {i k : Nat} (hi : (i : Int) < s) (hk : (k : Int) < s) : impl_Table_cell.f s l (i : Int) (k : Int) = some (cellT s l i k) := by
  obtain ⟨h1, h2, h3, h4⟩ := cell_in h hi hk
  have h8 : s ≤ 8 := by unfold tableOk at h; simp only [Bool.and_eq_true, decide_eq_true_eq] at h; exact h.1.2.1
  unfold impl_Table_cell.f
  rw [w64 (i := (i : Int) * s) (by omega) (by omega), w64 (by omega) (by omega), if_pos h1, if_pos h2]
  rfl
theorem iok (a b : Int) : impl_IntervalOk.f a b = some (okB a b) := by
  unfold impl_IntervalOk.f okB
  repeat' split
  all_goals (congr 1; first | (symm; rw [decide_eq_false_iff_not]; omega) | (rw [Bool.eq_iff_iff]; simp only [bne_iff_ne, ne_eq, decide_eq_true_eq]; omega))
theorem checked (a b : Int) : impl_checked.f a b true = some (if okB a b = true then (a, b, true) else (0, 0, false)) := by
  unfold impl_checked.f
  rw [if_pos rfl, iok]
  simp only [Option.bind_some]
  split <;> rfl
theorem iWindow (s : Int) (l : List Int) (i k : Int) (hn : l.length ≤ 4194304) : Ev (fun n => impl_WindowBetween.f n s l i k) (windowB s l i k) := by
  have hf : Ev (fun n => impl_WindowBetween.j0 n i k true s l) (0, 0, false) := suc (f := fun _ => some (0, 0, false)) (fun n => by rw [impl_WindowBetween.j0, if_pos rfl]) now
  unfold impl_WindowBetween.f windowB
  refine bev (iTableOk s l hn) ?_
  by_cases h : tableOk s l = true
  · rw [h]
    refine ifp rfl (bnd (isNode s i) ?_)
    by_cases hi : 0 ≤ i ∧ i < s
    · refine ifp (decide_eq_true hi) (bnd (isNode s k) ?_)
      by_cases hk : 0 ≤ k ∧ k < s
      · refine eqr ?_ (if_pos ⟨rfl, hi, hk⟩).symm
        rw [decide_eq_true hk]
        have h1 := icell h (i := i.toNat) (k := k.toNat) (by omega) (by omega)
        have h2 := icell h (i := k.toNat) (k := i.toNat) (by omega) (by omega)
        have r2 := cell_range h (i := k.toNat) (k := i.toNat) (by omega) (by omega)
        rw [Int.toNat_of_nonneg hi.1, Int.toNat_of_nonneg hk.1] at h1 h2
        refine suc (f := fun _ => some (if okB (-cellT s l k.toNat i.toNat) (cellT s l i.toNat k.toNat) = true then (-cellT s l k.toNat i.toNat, cellT s l i.toNat k.toNat, true) else (0, 0, false))) (fun n => ?_) now
        rw [impl_WindowBetween.j0, if_neg (by simp), h1, h2]
        simp only [Option.bind_some]
        rw [w64 (by omega) (by omega), checked]
        rfl
      · rw [decide_eq_false hk]
        exact eqr hf (if_neg (fun x => hk x.2.2)).symm
    · exact eqr (ifn (by simpa using hi) hf) (if_neg (fun x => hi x.2.1)).symm
  · exact eqr (ifn h hf) (if_neg (fun x => h x.1)).symm
theorem l01In (n a b : Int) : spec_l01In.f n a b = some (decide (a ≤ n ∧ n ≤ b)) := by
  unfold spec_l01In.f
  by_cases h : n ≥ a
  · rw [if_pos h]; congr 1; rw [Bool.eq_iff_iff]; simp only [decide_eq_true_eq]; omega
  · rw [if_neg h]; congr 1; symm; rw [decide_eq_false_iff_not]; omega
theorem sTableOk_l (s : Int) (l : List Int) (h0 : 0 ≤ s) (h8 : s ≤ 8) (hl : (l.length : Int) = s * s) : ∀ (d i : Nat), i + d = l.length → Ev (fun k => spec_TableOk.l0 k l (l.length : Int) (i : Int) s l) (allF (cellOk s l) i d)
  | 0, i, hd => suc (f := fun _ => some true) (fun k => by rw [spec_TableOk.l0, if_neg (by omega)]) now
  | d + 1, i, hd => by
    have hs : 0 < s := by
      rcases Int.lt_or_eq_of_le h0 with h | h
      · exact h
      · rw [← h] at hl; omega
    have h64 : s * s ≤ 8 * 8 := Int.mul_le_mul h8 h8 h0 (by omega)
    have hw : wrap64 (s + 1) = s + 1 := w64 (by omega) (by omega)
    have hr : Int.tmod (i : Int) (s + 1) = (i : Int) % (s + 1) := Int.tmod_eq_emod_of_nonneg (by omega)
    have hd2 := diag s i hs (by omega) (by omega)
    have ih := sTableOk_l s l h0 h8 hl d (i + 1) (by omega)
    simp only [allF]
    by_cases hc : cellOk s l i = true
    · have hc' := hc
      simp only [cellOk, decide_eq_true_eq] at hc'
      obtain ⟨c1, c2, c3⟩ := hc'
      rw [hc, Bool.true_and]
      refine suc (f := fun k => spec_TableOk.l0 k l (l.length : Int) ((i + 1 : Nat) : Int) s l) (fun k => ?_) ih
      rw [spec_TableOk.l0, if_pos (by omega), if_pos (by omega), if_pos (by omega), l01In, decide_eq_true ⟨c1, c2⟩]
      simp only [Option.bind_some, if_true]
      rw [hw, if_neg (by omega), hr, up1 (by omega) (by omega)]
      by_cases e : (i : Int) / s = (i : Int) % s
      · rw [if_pos (hd2.1 e), if_pos (c3 e)]; rfl
      · rw [if_neg (fun h => e (hd2.2 h))]; rfl
    · rw [Bool.not_eq_true] at hc
      have hc' := hc
      simp only [cellOk, decide_eq_false_iff_not] at hc'
      rw [hc, Bool.false_and]
      refine suc (f := fun _ => some false) (fun k => ?_) now
      rw [spec_TableOk.l0, if_pos (by omega), if_pos (by omega), if_pos (by omega), l01In]
      simp only [Option.bind_some, decide_eq_true_eq]
      by_cases c1 : -1000000 ≤ rd l i ∧ rd l i ≤ 1000000
      · rw [if_pos c1, hw, if_neg (by omega), hr]
        by_cases e : (i : Int) / s = (i : Int) % s
        · rw [if_pos (hd2.1 e)]
          by_cases c3 : rd l i = 0
          · exact absurd ⟨by omega, by omega, fun _ => c3⟩ hc'
          · rw [if_neg c3]
        · exact absurd ⟨by omega, by omega, fun h => absurd h e⟩ hc'
      · rw [if_neg c1]
theorem sTableOk (s : Int) (l : List Int) (hn : l.length ≤ 4194304) : Ev (fun k => spec_TableOk.f k s l) (tableOk s l) := by
  unfold spec_TableOk.f tableOk
  refine bnd (l01In s 0 8) ?_
  by_cases h0 : 0 ≤ s ∧ s ≤ 8
  · refine ifp (by simpa using h0) ?_
    have : s * s ≤ 8 * 8 := Int.mul_le_mul h0.2 h0.2 h0.1 (by omega)
    rw [w64 (i := s * s) (by have := Int.mul_nonneg h0.1 h0.1; omega) (by omega)]
    by_cases hl : (l.length : Int) = s * s
    · rw [decide_eq_true ⟨by omega, by omega, hl⟩, Bool.true_and]
      refine suc (f := fun k => spec_TableOk.l0 k l (l.length : Int) ((0 : Nat) : Int) s l) (fun k => ?_) (sTableOk_l s l (by omega) (by omega) hl l.length 0 (by omega))
      rw [spec_TableOk.j0, if_neg (by simp [hl])]; rfl
    · rw [decide_eq_false (by omega), Bool.false_and]
      exact suc (f := fun _ => some false) (fun k => by rw [spec_TableOk.j0, if_pos (by simp [hl])]) now
  · refine ifn (by simpa using h0) ?_
    rw [decide_eq_false (by omega), Bool.false_and]
    exact suc (f := fun _ => some false) (fun k => by rw [spec_TableOk.j0, if_pos rfl]) now
theorem in_node {s i : Int} (h0 : 0 ≤ s) (h8 : s ≤ 8) : spec_l01In.f i 0 (wrap64 (s - 1)) = some (decide (0 ≤ i ∧ i < s)) := by
  rw [l01In, w64 (by omega) (by omega)]
  congr 1
  rw [Bool.eq_iff_iff]
  simp only [decide_eq_true_eq]
  omega
theorem tableOk_s {s : Int} {l : List Int} (h : tableOk s l = true) : 0 ≤ s ∧ s ≤ 8 ∧ (l.length : Int) = s * s := by
  unfold tableOk at h; simp only [Bool.and_eq_true, decide_eq_true_eq] at h; exact h.1
theorem scell {s : Int} {l : List Int} (h : tableOk s l = true) {i k : Nat} (hi : (i : Int) < s) (hk : (k : Int) < s) : spec_l04At.f s l (i : Int) (k : Int) = some (cellT s l i k) := by
  obtain ⟨h1, h2, h3, h4⟩ := cell_in h hi hk
  have h8 : s ≤ 8 := by unfold tableOk at h; simp only [Bool.and_eq_true, decide_eq_true_eq] at h; exact h.1.2.1
  unfold spec_l04At.f
  rw [w64 (i := (i : Int) * s) (by omega) (by omega), w64 (by omega) (by omega), if_pos h1, if_pos h2]
  rfl
theorem sok (a b : Int) : spec_IntervalOk.f a b = some (okB a b) := by
  unfold spec_IntervalOk.f okB
  repeat' split
  all_goals (congr 1; first | (symm; rw [decide_eq_false_iff_not]; omega) | (rw [Bool.eq_iff_iff]; simp only [bne_iff_ne, ne_eq, decide_eq_true_eq]; omega))
theorem sWindow (s : Int) (l : List Int) (i k : Int) (hn : l.length ≤ 4194304) : Ev (fun n => spec_WindowBetween.f n s l i k) (windowB s l i k) := by
  have hf : Ev (fun n => spec_WindowBetween.j0 n i k true s l) (0, 0, false) := suc (f := fun _ => some (0, 0, false)) (fun n => by rw [spec_WindowBetween.j0, if_pos rfl]) now
  unfold spec_WindowBetween.f windowB
  refine bev (sTableOk s l hn) ?_
  by_cases h : tableOk s l = true
  · rw [h]
    obtain ⟨h0, h8, _⟩ := tableOk_s h
    refine ifp rfl (bnd (in_node h0 h8) ?_)
    by_cases hi : 0 ≤ i ∧ i < s
    · refine ifp (decide_eq_true hi) (bnd (in_node h0 h8) ?_)
      by_cases hk : 0 ≤ k ∧ k < s
      · refine eqr ?_ (if_pos ⟨rfl, hi, hk⟩).symm
        rw [decide_eq_true hk]
        have h1 := scell h (i := i.toNat) (k := k.toNat) (by omega) (by omega)
        have h2 := scell h (i := k.toNat) (k := i.toNat) (by omega) (by omega)
        have r2 := cell_range h (i := k.toNat) (k := i.toNat) (by omega) (by omega)
        rw [Int.toNat_of_nonneg hi.1, Int.toNat_of_nonneg hk.1] at h1 h2
        refine suc (f := fun _ => some (if okB (-cellT s l k.toNat i.toNat) (cellT s l i.toNat k.toNat) = true then (-cellT s l k.toNat i.toNat, cellT s l i.toNat k.toNat, true) else (0, 0, false))) (fun n => ?_) now
        rw [spec_WindowBetween.j0, if_neg (by simp), h1, h2]
        simp only [Option.bind_some]
        rw [w64 (by omega) (by omega), sok]
        simp only [Option.bind_some]
        split <;> rfl
      · rw [decide_eq_false hk]
        exact eqr hf (if_neg (fun x => hk x.2.2)).symm
    · exact eqr (ifn (by simpa using hi) hf) (if_neg (fun x => hi x.2.1)).symm
  · exact eqr (ifn h hf) (if_neg (fun x => h x.1)).symm

theorem FnExactWindowBetween : laws_FnExactWindowBetween.Pure := by
  intro s l i k _ hl _ _ _
  refine Ev.rounds ?_
  unfold laws_FnExactWindowBetween.f
  rcases szTable s l hl with ⟨h, _⟩ | ⟨h, hn⟩
  · exact bnd h (ifp (by omega) now)
  · refine bnd h (ifn (by omega) ?_)
    have ht := toTable s l (by omega)

    refine bev ht (bev (sWindow s l i k (by omega)) (bev ht (bev (iWindow s l i k (by omega)) (bnd (eqInterval _ _) (ifp rfl ?_)))))
    refine suc (f := fun n => (laws_toTable.f n s l).bind fun bt => (laws_eqTable.f n s l bt.1 bt.2).bind fun t => if t = true then some true else some false) (fun n => ?_) (bev ht (bev (eqTable s l (by omega)) (ifp rfl now)))
    rw [laws_FnExactWindowBetween.j0, if_neg (by simp)]

end Go.Proofs.Ytegkkbncnmakaaa.Own
