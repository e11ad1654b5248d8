/- The law FnExactEdgesOf answers true for every table. No condition. -/
import Derived.Test.YtegkkbncnmakaaaQFnExactEdgesOfx4
import Derived.Test.YtegkkbncnmakaaaThy
namespace Go.Proofs.Ytegkkbncnmakaaa.Own
open Go.RowKit Go.Proofs.Ytegkkbncnmakaaa.QFnExactEdgesOf Go.Proofs.YtegkkbncnmakaaaW.PrintWords Go.Proofs.YtegkkbncnmakaaaW.PrintLast Go.Proofs.YtegkkbncnmakaaaW.PrintMore Go.Proofs.YtegkkbncnmakaaaT Go.Proofs.YtegkkbncnmakaaaT
set_option linter.unusedVariables false
set_option linter.unusedSimpArgs false

theorem szTable (s : Int) (l : List Int) (hl : l.length ≤ maxLen) : (laws_szTable.f s l 1048576 = some (-1) ∧ 1048576 < l.length) ∨ (laws_szTable.f s l 1048576 = some (1048576 - (l.length : Int)) ∧ l.length ≤ 1048576) := by
  unfold maxLen at hl
  unfold laws_szTable.f laws_szIntS.f
  rw [w64 (by omega) (by omega)]
  by_cases h : l.length ≤ 1048576
  · right
    rw [if_neg (by omega)]
    simp only [Option.bind_some]
    rw [if_neg (by omega)]
    exact ⟨rfl, h⟩
  · left
    rw [if_pos (by omega)]
    simp only [Option.bind_some]
    rw [if_pos (by omega)]
    exact ⟨rfl, by omega⟩
theorem toIntS_l (x : List Int) (hn : x.length ≤ 4194304) : ∀ (d i : Nat) (y : List Int), i + d = x.length → y.length = x.length → (∀ j, j < i → y[j]? = x[j]?) → Ev (fun k => laws_toIntS.l0 k x y (i : Int)) x
  | 0, i, y, hd, hy, hj => by
    have e : y = x := by
      apply List.ext_getElem?; intro j
      by_cases h : j < i
      · exact hj j h
      · rw [List.getElem?_eq_none (by omega), List.getElem?_eq_none (by omega)]
    subst e
    exact suc (f := fun _ => some y) (fun k => by rw [laws_toIntS.l0, if_neg (by omega)]) now
  | d + 1, i, y, hd, hy, hj => by
    refine suc (f := fun k => laws_toIntS.l0 k x (y.set i (rd x i)) ((i + 1 : Nat) : Int)) (fun k => ?_) (toIntS_l x hn d (i + 1) _ (by omega) (by simp [hy]) (fun j h => ?_))
    · rw [laws_toIntS.l0, if_pos (by omega), if_pos (by omega), if_pos (by omega), up1 (by omega) (by omega)]; rfl
    · by_cases e : j = i
      · subst e; rw [rd_at (by omega)]; simp [show j < y.length by omega, show j < x.length by omega]
      · rw [List.getElem?_set_ne (by omega)]; exact hj j (by omega)
theorem toIntS (x : List Int) (hn : x.length ≤ 4194304) : Ev (fun k => laws_toIntS.f k x) x := by
  unfold laws_toIntS.f
  exact ifp (by omega) (ifp (by simp; omega) (toIntS_l x hn x.length 0 _ (by omega) (by simp) (fun j h => by omega)))
theorem toTable (s : Int) (l : List Int) (hn : l.length ≤ 4194304) : Ev (fun k => laws_toTable.f k s l) (s, l) := by
  unfold laws_toTable.f
  exact bev (toIntS l hn) now
theorem eqIntS_l (x : List Int) (hn : x.length ≤ 4194304) : ∀ (d i : Nat), i + d = x.length → Ev (fun k => laws_eqIntS.l0 k x x (i : Int)) true
  | 0, i, hd => suc (f := fun _ => some true) (fun k => by rw [laws_eqIntS.l0, if_neg (by omega)]) now
  | d + 1, i, hd => by
    refine suc (f := fun k => laws_eqIntS.l0 k x x ((i + 1 : Nat) : Int)) (fun k => ?_) (eqIntS_l x hn d (i + 1) (by omega))
    rw [laws_eqIntS.l0, if_pos (by omega), if_pos (by omega), if_pos (by omega), if_pos rfl, up1 (by omega) (by omega)]; rfl
theorem eqIntS (x : List Int) (hn : x.length ≤ 4194304) : Ev (fun k => laws_eqIntS.f k x x) true := by
  unfold laws_eqIntS.f
  exact ifp rfl (eqIntS_l x hn x.length 0 (by omega))
theorem eqTable (s : Int) (l : List Int) (hn : l.length ≤ 4194304) : Ev (fun k => laws_eqTable.f k s l s l) true := by
  unfold laws_eqTable.f
  exact ifp rfl (bev (eqIntS l hn) (ifp rfl now))
theorem eqEdge (a b c : Int) : laws_eqEdge.f a b c a b c = some true := by
  unfold laws_eqEdge.f
  simp
theorem eqEdgeS_l (x : List S39) (hn : x.length ≤ 4194304) : ∀ (d i : Nat), i + d = x.length → Ev (fun k => laws_eqEdgeS.l0 k x x (i : Int)) true
  | 0, i, hd => suc (f := fun _ => some true) (fun k => by rw [laws_eqEdgeS.l0, if_neg (by omega)]) now
  | d + 1, i, hd => by
    refine suc (f := fun k => laws_eqEdgeS.l0 k x x ((i + 1 : Nat) : Int)) (fun k => ?_) (eqEdgeS_l x hn d (i + 1) (by omega))
    rw [laws_eqEdgeS.l0, if_pos (by omega), if_pos (by omega), if_pos (by omega), eqEdge]
    simp only [Option.bind_some, if_true]
    rw [up1 (by omega) (by omega)]; rfl
theorem eqEdgeS (x : List S39) (hn : x.length ≤ 4194304) : Ev (fun k => laws_eqEdgeS.f k x x) true := by
  unfold laws_eqEdgeS.f
  exact ifp rfl (eqEdgeS_l x hn x.length 0 (by omega))
def markI (m : Int) : List Int → List Int
  | [] => []
  | _ :: t => m :: markI (m + 1) t
theorem markIntS_l : ∀ (b a : List Int) (m : Int), 0 ≤ m → m + b.length ≤ 1073741824 → a.length + b.length ≤ 1073741824 → Ev (fun k => laws_markIntS.l0 k (a ++ b) m (a.length : Int)) (m + b.length, a ++ markI m b)
  | [], a, m, h0, hm, hn => by
    refine eqr (suc (f := fun _ => some (m, a ++ ([] : List Int))) (fun k => by rw [laws_markIntS.l0, if_neg (by simp)]) now) ?_
    simp [markI]
  | x :: b, a, m, h0, hm, hn => by
    simp only [List.length_cons] at hm hn
    have ih := markIntS_l b (a ++ [m]) (m + 1) (by omega) (by omega) (by simp only [List.length_append, List.length_cons, List.length_nil]; omega)
    refine eqr (suc (f := fun k => laws_markIntS.l0 k (a ++ [m] ++ b) (m + 1) ((a ++ [m]).length : Int)) (fun k => ?_) ih) ?_
    · rw [laws_markIntS.l0, if_pos (by simp only [List.length_append, List.length_cons]; omega), if_pos (by omega), w64 (by omega) (by omega), w64 (by omega) (by omega)]
      simp
    · simp only [markI, List.length_cons, List.append_assoc, List.singleton_append, Prod.mk.injEq]
      exact ⟨by omega, trivial⟩
theorem markIntS (x : List Int) (m : Int) (h0 : 0 ≤ m) (hm : m + x.length ≤ 1073741824) : Ev (fun k => laws_markIntS.f k x m) (m + x.length, markI m x) := by
  unfold laws_markIntS.f
  exact markIntS_l x [] m h0 hm (by simp only [List.length_nil]; omega)
theorem markTable (s : Int) (x : List Int) (m : Int) (h0 : 0 ≤ m) (hm : m + x.length ≤ 1073741824) : Ev (fun k => laws_markTable.f k s x m) (m + x.length, markI m x) := by
  unfold laws_markTable.f
  exact bev (markIntS x m h0 hm) now
def markE (m : Int) : List S39 → List S39
  | [] => []
  | _ :: t => ⟨m, m + 1, m + 1 + 1⟩ :: markE (m + 1 + 1 + 1) t
theorem rdE_mid (a b : List S39) (x : S39) : rd_T39 (a ++ x :: b) (a.length : Int) = x := by unfold rd_T39; simp [List.getD_eq_getElem?_getD]
theorem setE_mid (a b : List S39) (x y : S39) : (a ++ x :: b).set (a.length : Int).toNat y = a ++ y :: b := by simp
theorem markEdgeS_l : ∀ (b a : List S39) (m : Int), 0 ≤ m → m + 3 * b.length ≤ 1073741824 → a.length + b.length ≤ 1073741824 → Ev (fun k => laws_markEdgeS.l0 k (a ++ b) m (a.length : Int)) (m + 3 * b.length, a ++ markE m b)
  | [], a, m, h0, hm, hn => by
    refine eqr (suc (f := fun _ => some (m, a ++ ([] : List S39))) (fun k => by rw [laws_markEdgeS.l0, if_neg (by simp)]) now) ?_
    simp [markE]
  | x :: b, a, m, h0, hm, hn => by
    simp only [List.length_cons] at hm hn
    have ih := markEdgeS_l b (a ++ [⟨m, m + 1, m + 1 + 1⟩]) (m + 1 + 1 + 1) (by omega) (by omega) (by simp only [List.length_append, List.length_cons, List.length_nil]; omega)
    refine eqr (suc (f := fun k => laws_markEdgeS.l0 k (a ++ [⟨m, m + 1, m + 1 + 1⟩] ++ b) (m + 1 + 1 + 1) ((a ++ [(⟨m, m + 1, m + 1 + 1⟩ : S39)]).length : Int)) (fun k => ?_) ih) ?_
    · rw [laws_markEdgeS.l0, if_pos (by simp only [List.length_append, List.length_cons]; omega), if_pos (by omega)]
      simp only [rdE_mid, setE_mid, Option.bind_some]
      rw [w64 (i := m + 1) (by omega) (by omega), w64 (i := m + 1 + 1) (by omega) (by omega), w64 (i := m + 1 + 1 + 1) (by omega) (by omega), w64 (i := (a.length : Int) + 1) (by omega) (by omega)]
      simp
    · simp only [markE, List.length_cons, List.append_assoc, List.singleton_append, Prod.mk.injEq]
      exact ⟨by omega, trivial⟩
theorem markEdgeS (x : List S39) (m : Int) (h0 : 0 ≤ m) (hm : m + 3 * x.length ≤ 1073741824) : Ev (fun k => laws_markEdgeS.f k x m) (m + 3 * x.length, markE m x) := by
  unfold laws_markEdgeS.f
  exact markEdgeS_l x [] m h0 hm (by simp only [List.length_nil]; omega)
theorem heldEdgeS_l : ∀ (b a : List S39) (m : Int), 0 ≤ m → m + 3 * b.length ≤ 1073741824 → a.length + b.length ≤ 1073741824 → Ev (fun k => laws_heldEdgeS.l0 k (a ++ markE m b) m (a.length : Int)) (m + 3 * b.length)
  | [], a, m, h0, hm, hn => by
    refine eqr (suc (f := fun _ => some m) (fun k => by rw [laws_heldEdgeS.l0, if_neg (by simp [markE])]) now) ?_
    simp
  | x :: b, a, m, h0, hm, hn => by
    simp only [List.length_cons] at hm hn
    have ih := heldEdgeS_l b (a ++ [⟨m, m + 1, m + 1 + 1⟩]) (m + 1 + 1 + 1) (by omega) (by omega) (by simp only [List.length_append, List.length_cons, List.length_nil]; omega)
    refine eqr (suc (f := fun k => laws_heldEdgeS.l0 k (a ++ [⟨m, m + 1, m + 1 + 1⟩] ++ markE (m + 1 + 1 + 1) b) (m + 1 + 1 + 1) ((a ++ [(⟨m, m + 1, m + 1 + 1⟩ : S39)]).length : Int)) (fun k => ?_) ih) ?_
    · rw [laws_heldEdgeS.l0, if_pos (by simp only [markE, List.length_append, List.length_cons]; omega), if_pos (by omega)]
      simp only [markE, rdE_mid]
      rw [w64 (i := m + 1) (by omega) (by omega), w64 (i := m + 1 + 1) (by omega) (by omega), w64 (i := m + 1 + 1 + 1) (by omega) (by omega), w64 (i := (a.length : Int) + 1) (by omega) (by omega)]
      simp
    · simp only [List.length_cons]; omega
theorem heldEdgeS (x : List S39) (m : Int) (h0 : 0 ≤ m) (hm : m + 3 * x.length ≤ 1073741824) : Ev (fun k => laws_heldEdgeS.f k (markE m x) m) (m + 3 * x.length) := by
  unfold laws_heldEdgeS.f
  exact heldEdgeS_l x [] m h0 hm (by simp only [List.length_nil]; omega)
def mkE (s : Int) (l : List Int) (i k : Nat) : List S39 := if i = k then [] else if -1000000 < cellT s l i k ∧ cellT s l i k < 1000000 then [⟨i, k, cellT s l i k⟩] else []
def edgesRow (s : Int) (l : List Int) (i : Nat) : Nat → Nat → List S39
  | _, 0 => []
  | k, d + 1 => mkE s l i k ++ edgesRow s l i (k + 1) d
def edgesAll (s : Int) (l : List Int) : Nat → Nat → List S39
  | _, 0 => []
  | i, d + 1 => edgesRow s l i 0 s.toNat ++ edgesAll s l (i + 1) d
def edgesT (s : Int) (l : List Int) : List S39 := if tableOk s l = true then edgesAll s l 0 s.toNat else []
theorem mkE_len (s : Int) (l : List Int) (i k : Nat) : (mkE s l i k).length ≤ 1 := by
  unfold mkE
  repeat' split
  all_goals simp
theorem edgesRow_len (s : Int) (l : List Int) (i : Nat) : ∀ (d k : Nat), (edgesRow s l i k d).length ≤ d
  | 0, _ => by simp [edgesRow]
  | d + 1, k => by
    have := mkE_len s l i k
    have := edgesRow_len s l i d (k + 1)
    simp only [edgesRow, List.length_append]; omega
theorem edgesAll_len (s : Int) (l : List Int) : ∀ (d i : Nat), (edgesAll s l i d).length ≤ d * s.toNat
  | 0, _ => by simp [edgesAll]
  | d + 1, i => by
    have := edgesRow_len s l i s.toNat 0
    have := edgesAll_len s l d (i + 1)
    simp only [edgesAll, List.length_append, Nat.add_mul]; omega
theorem edgesT_len (s : Int) (l : List Int) : (edgesT s l).length ≤ 64 := by
  unfold edgesT
  split
  · rename_i h
    unfold tableOk at h
    simp only [Bool.and_eq_true, decide_eq_true_eq] at h
    have h1 := edgesAll_len s l s.toNat 0
    have h2 : s.toNat * s.toNat ≤ 8 * 8 := Nat.mul_le_mul (by omega) (by omega)
    omega
  · simp
theorem iTableOk_l (s : Int) (l : List Int) (h0 : 0 ≤ s) (h8 : s ≤ 8) (hl : (l.length : Int) = s * s) : ∀ (d i : Nat), i + d = l.length → Ev (fun k => impl_TableOk.l0 k l (l.length : Int) (i : Int) s l) (allF (cellOk s l) i d)
  | 0, i, hd => suc (f := fun _ => some true) (fun k => by rw [impl_TableOk.l0, if_neg (by omega)]) now
  | d + 1, i, hd => by
    have hs : 0 < s := by
      rcases Int.lt_or_eq_of_le h0 with h | h
      · exact h
      · rw [← h] at hl; omega
    have h64 : s * s ≤ 8 * 8 := Int.mul_le_mul h8 h8 h0 (by omega)
    have hq : wrap64 (Int.tdiv (i : Int) s) = (i : Int) / s := by
      rw [Int.tdiv_eq_ediv_of_nonneg (by omega)]
      have h1 : (i : Int) / s < s := Int.ediv_lt_of_lt_mul hs (by omega)
      have h2 : 0 ≤ (i : Int) / s := Int.ediv_nonneg (by omega) h0
      exact w64 (by omega) (by omega)
    have hr : Int.tmod (i : Int) s = (i : Int) % s := Int.tmod_eq_emod_of_nonneg (by omega)
    have ih := iTableOk_l s l h0 h8 hl d (i + 1) (by omega)
    simp only [allF]
    by_cases hc : cellOk s l i = true
    · have hc' := hc
      simp only [cellOk, decide_eq_true_eq] at hc'
      obtain ⟨c1, c2, c3⟩ := hc'
      rw [hc, Bool.true_and]
      refine suc (f := fun k => impl_TableOk.l0 k l (l.length : Int) ((i + 1 : Nat) : Int) s l) (fun k => ?_) ih
      rw [impl_TableOk.l0, if_pos (by omega), if_pos (by omega), if_pos (by omega), if_neg (by omega), if_neg (by omega), if_neg (by omega), hq, hr, up1 (by omega) (by omega)]
      by_cases e : (i : Int) / s = (i : Int) % s
      · rw [if_pos e, if_pos (c3 e)]; rfl
      · rw [if_neg e]; rfl
    · rw [Bool.not_eq_true] at hc
      have hc' := hc
      simp only [cellOk, decide_eq_false_iff_not] at hc'
      rw [hc, Bool.false_and]
      refine suc (f := fun _ => some false) (fun k => ?_) now
      rw [impl_TableOk.l0, if_pos (by omega), if_pos (by omega), if_pos (by omega)]
      by_cases c1 : rd l i < -1000000
      · rw [if_pos c1]
      · rw [if_neg c1]
        by_cases c2 : rd l i > 1000000
        · rw [if_pos c2]
        · rw [if_neg c2, if_neg (by omega), hq, hr]
          by_cases e : (i : Int) / s = (i : Int) % s
          · rw [if_pos e]
            by_cases c3 : rd l i = 0
            · exact absurd ⟨by omega, by omega, fun _ => c3⟩ hc'
            · rw [if_neg c3]
          · exact absurd ⟨by omega, by omega, fun h => absurd h e⟩ hc'
theorem iTableOk (s : Int) (l : List Int) (hn : l.length ≤ 4194304) : Ev (fun k => impl_TableOk.f k s l) (tableOk s l) := by
  have ww : 0 ≤ s → s ≤ 8 → wrap64 (s * s) = s * s := fun h0 h8 => by
    have : s * s ≤ 8 * 8 := Int.mul_le_mul h8 h8 h0 (by omega)
    exact w64 (by have := Int.mul_nonneg h0 h0; omega) (by omega)
  unfold impl_TableOk.f tableOk
  by_cases h0 : s < 0
  · rw [decide_eq_false (by omega), Bool.false_and]
    exact ifp h0 (suc (f := fun _ => some false) (fun k => by rw [impl_TableOk.j0, if_pos rfl]) now)
  · refine ifn h0 ?_
    by_cases h8 : s > 8
    · rw [decide_eq_false (by omega), Bool.false_and]
      exact ifp h8 (suc (f := fun _ => some false) (fun k => by rw [impl_TableOk.j0, if_pos rfl]) now)
    · refine ifn h8 ?_
      rw [ww (by omega) (by omega)]
      by_cases hl : (l.length : Int) = s * s
      · rw [decide_eq_true ⟨by omega, by omega, hl⟩, Bool.true_and]
        refine suc (f := fun k => impl_TableOk.l0 k l (l.length : Int) ((0 : Nat) : Int) s l) (fun k => ?_) (iTableOk_l s l (by omega) (by omega) hl l.length 0 (by omega))
        rw [impl_TableOk.j0, if_neg (by simp [hl])]; rfl
      · rw [decide_eq_false (by omega), Bool.false_and]
        exact suc (f := fun _ => some false) (fun k => by rw [impl_TableOk.j0, if_pos (by simp [hl])]) now
theorem icell {s : Int} {l : List Int} (h : tableOk s l = true) {i k : Nat} (hi : (i : Int) < s) (hk : (k : Int) < s) : impl_Table_cell.f s l (i : Int) (k : Int) = some (cellT s l i k) := by
  obtain ⟨h1, h2, h3, h4⟩ := cell_in h hi hk
  have h8 : s ≤ 8 := by unfold tableOk at h; simp only [Bool.and_eq_true, decide_eq_true_eq] at h; exact h.1.2.1
  unfold impl_Table_cell.f
  rw [w64 (i := (i : Int) * s) (by omega) (by omega), w64 (by omega) (by omega), if_pos h1, if_pos h2]
  rfl
theorem isWeight (n : Int) : impl_isWeight.f n = some (decide (-1000000 < n ∧ n < 1000000)) := by
  unfold impl_isWeight.f
  by_cases h : n > -1000000
  · rw [if_pos h]; congr 1; rw [Bool.eq_iff_iff]; simp only [decide_eq_true_eq]; omega
  · rw [if_neg h]; congr 1; symm; rw [decide_eq_false_iff_not]; omega
theorem iEdges_1 (s : Int) (l : List Int) (h : tableOk s l = true) (i m : Nat) (hi : (i : Int) < s) (R : List S39 → List S39) (hr : ∀ y : List S39, y.length + 8 * m ≤ 1000 → Ev (fun n => impl_EdgesOf.l0 n y ((i + 1 : Nat) : Int) s l) (R y)) : ∀ (d k : Nat) (y : List S39), ((k + d : Nat) : Int) = s → y.length + d + 8 * m ≤ 1000 → Ev (fun n => impl_EdgesOf.l1 n y (i : Int) (k : Int) s l) (R (y ++ edgesRow s l i k d))
  | 0, k, y, hd, hy => by
    have h8 : s ≤ 8 := by unfold tableOk at h; simp only [Bool.and_eq_true, decide_eq_true_eq] at h; exact h.1.2.1
    simp only [edgesRow, List.append_nil]
    refine suc (f := fun n => impl_EdgesOf.l0 n y ((i + 1 : Nat) : Int) s l) (fun n => ?_) (hr y (by omega))
    rw [impl_EdgesOf.l1, if_neg (by omega), up1 (by omega) (by omega)]; rfl
  | d + 1, k, y, hd, hy => by
    have h8 : s ≤ 8 := by unfold tableOk at h; simp only [Bool.and_eq_true, decide_eq_true_eq] at h; exact h.1.2.1
    have hl1 := mkE_len s l i k
    have ih := iEdges_1 s l h i m hi R hr d (k + 1) (y ++ mkE s l i k) (by omega) (by simp only [List.length_append]; omega)
    simp only [edgesRow]
    rw [← List.append_assoc]
    refine suc (f := fun n => impl_EdgesOf.l1 n (y ++ mkE s l i k) (i : Int) ((k + 1 : Nat) : Int) s l) (fun n => ?_) ih
    rw [impl_EdgesOf.l1, if_pos (by omega), up1 (by omega) (by omega)]
    unfold mkE
    by_cases e : i = k
    · rw [if_pos (by omega), if_pos e, List.append_nil]; rfl
    · rw [if_neg (by omega), if_neg e, icell h hi (by omega)]
      simp only [Option.bind_some]
      rw [isWeight]
      simp only [Option.bind_some, decide_eq_true_eq]
      by_cases w : -1000000 < cellT s l i k ∧ cellT s l i k < 1000000
      · rw [if_pos w, if_pos w, if_pos (by omega)]; rfl
      · rw [if_neg w, if_neg w, List.append_nil]; rfl
theorem iEdges_0 (s : Int) (l : List Int) (h : tableOk s l = true) : ∀ (d i : Nat) (y : List S39), ((i + d : Nat) : Int) = s → y.length + 8 * d ≤ 1000 → Ev (fun n => impl_EdgesOf.l0 n y (i : Int) s l) (y ++ edgesAll s l i d)
  | 0, i, y, hd, hy => by
    simp only [edgesAll, List.append_nil]
    exact suc (f := fun _ => some y) (fun n => by rw [impl_EdgesOf.l0, if_neg (by omega)]) now
  | d + 1, i, y, hd, hy => by
    have h8 : s ≤ 8 := by unfold tableOk at h; simp only [Bool.and_eq_true, decide_eq_true_eq] at h; exact h.1.2.1
    simp only [edgesAll]
    rw [← List.append_assoc]
    refine suc (f := fun n => impl_EdgesOf.l1 n y (i : Int) ((0 : Nat) : Int) s l) (fun n => ?_) (iEdges_1 s l h i d (by omega) (fun z => z ++ edgesAll s l (i + 1) d) (fun z hz => iEdges_0 s l h d (i + 1) z (by omega) hz) s.toNat 0 y (by omega) (by omega))
    rw [impl_EdgesOf.l0, if_pos (by omega)]; rfl
theorem iEdges (s : Int) (l : List Int) (hn : l.length ≤ 4194304) : Ev (fun n => impl_EdgesOf.f n s l) (edgesT s l) := by
  unfold impl_EdgesOf.f edgesT
  refine bev (iTableOk s l hn) ?_
  by_cases h : tableOk s l = true
  · obtain ⟨h0, h8⟩ : 0 ≤ s ∧ s ≤ 8 := by unfold tableOk at h; simp only [Bool.and_eq_true, decide_eq_true_eq] at h; exact ⟨h.1.1, h.1.2.1⟩
    exact eqr (ifp h (iEdges_0 s l h s.toNat 0 [] (by omega) (by simp; omega))) (by rw [if_pos h]; rfl)
  · exact eqr (ifn h now) (by rw [if_neg h])
theorem l01In (n a b : Int) : spec_l01In.f n a b = some (decide (a ≤ n ∧ n ≤ b)) := by
  unfold spec_l01In.f
  by_cases h : n ≥ a
  · rw [if_pos h]; congr 1; rw [Bool.eq_iff_iff]; simp only [decide_eq_true_eq]; omega
  · rw [if_neg h]; congr 1; symm; rw [decide_eq_false_iff_not]; omega
theorem sTableOk_l (s : Int) (l : List Int) (h0 : 0 ≤ s) (h8 : s ≤ 8) (hl : (l.length : Int) = s * s) : ∀ (d i : Nat), i + d = l.length → Ev (fun k => spec_TableOk.l0 k l (l.length : Int) (i : Int) s l) (allF (cellOk s l) i d)
  | 0, i, hd => suc (f := fun _ => some true) (fun k => by rw [spec_TableOk.l0, if_neg (by omega)]) now
  | d + 1, i, hd => by
    have hs : 0 < s := by
      rcases Int.lt_or_eq_of_le h0 with h | h
      · exact h
      · rw [← h] at hl; omega
    have h64 : s * s ≤ 8 * 8 := Int.mul_le_mul h8 h8 h0 (by omega)
    have hw : wrap64 (s + 1) = s + 1 := w64 (by omega) (by omega)
    have hr : Int.tmod (i : Int) (s + 1) = (i : Int) % (s + 1) := Int.tmod_eq_emod_of_nonneg (by omega)
    have hd2 := diag s i hs (by omega) (by omega)
    have ih := sTableOk_l s l h0 h8 hl d (i + 1) (by omega)
    simp only [allF]
    by_cases hc : cellOk s l i = true
    · have hc' := hc
      simp only [cellOk, decide_eq_true_eq] at hc'
      obtain ⟨c1, c2, c3⟩ := hc'
      rw [hc, Bool.true_and]
      refine suc (f := fun k => spec_TableOk.l0 k l (l.length : Int) ((i + 1 : Nat) : Int) s l) (fun k => ?_) ih
      rw [spec_TableOk.l0, if_pos (by omega), if_pos (by omega), if_pos (by omega), l01In, decide_eq_true ⟨c1, c2⟩]
      simp only [Option.bind_some, if_true]
      rw [hw, if_neg (by omega), hr, up1 (by omega) (by omega)]
      by_cases e : (i : Int) / s = (i : Int) % s
      · rw [if_pos (hd2.1 e), if_pos (c3 e)]; rfl
      · rw [if_neg (fun h => e (hd2.2 h))]; rfl
    · rw [Bool.not_eq_true] at hc
      have hc' := hc
      simp only [cellOk, decide_eq_false_iff_not] at hc'
      rw [hc, Bool.false_and]
      refine suc (f := fun _ => some false) (fun k => ?_) now
      rw [spec_TableOk.l0, if_pos (by omega), if_pos (by omega), if_pos (by omega), l01In]
      simp only [Option.bind_some, decide_eq_true_eq]
      by_cases c1 : -1000000 ≤ rd l i ∧ rd l i ≤ 1000000
      · rw [if_pos c1, hw, if_neg (by omega), hr]
        by_cases e : (i : Int) / s = (i : Int) % s
        · rw [if_pos (hd2.1 e)]
          by_cases c3 : rd l i = 0
          · exact absurd ⟨by omega, by omega, fun _ => c3⟩ hc'
          · rw [if_neg c3]
        · exact absurd ⟨by omega, by omega, fun h => absurd h e⟩ hc'
      · rw [if_neg c1]
theorem sTableOk (s : Int) (l : List Int) (hn : l.length ≤ 4194304) : Ev (fun k => spec_TableOk.f k s l) (tableOk s l) := by
  unfold spec_TableOk.f tableOk
  refine bnd (l01In s 0 8) ?_
  by_cases h0 : 0 ≤ s ∧ s ≤ 8
  · refine ifp (by simpa using h0) ?_
    have : s * s ≤ 8 * 8 := Int.mul_le_mul h0.2 h0.2 h0.1 (by omega)
    rw [w64 (i := s * s) (by have := Int.mul_nonneg h0.1 h0.1; omega) (by omega)]
    by_cases hl : (l.length : Int) = s * s
    · rw [decide_eq_true ⟨by omega, by omega, hl⟩, Bool.true_and]
      refine suc (f := fun k => spec_TableOk.l0 k l (l.length : Int) ((0 : Nat) : Int) s l) (fun k => ?_) (sTableOk_l s l (by omega) (by omega) hl l.length 0 (by omega))
      rw [spec_TableOk.j0, if_neg (by simp [hl])]; rfl
    · rw [decide_eq_false (by omega), Bool.false_and]
      exact suc (f := fun _ => some false) (fun k => by rw [spec_TableOk.j0, if_pos (by simp [hl])]) now
  · refine ifn (by simpa using h0) ?_
    rw [decide_eq_false (by omega), Bool.false_and]
    exact suc (f := fun _ => some false) (fun k => by rw [spec_TableOk.j0, if_pos rfl]) now
theorem scell {s : Int} {l : List Int} (h : tableOk s l = true) {i k : Nat} (hi : (i : Int) < s) (hk : (k : Int) < s) : spec_l04At.f s l (i : Int) (k : Int) = some (cellT s l i k) := by
  obtain ⟨h1, h2, h3, h4⟩ := cell_in h hi hk
  have h8 : s ≤ 8 := by unfold tableOk at h; simp only [Bool.and_eq_true, decide_eq_true_eq] at h; exact h.1.2.1
  unfold spec_l04At.f
  rw [w64 (i := (i : Int) * s) (by omega) (by omega), w64 (by omega) (by omega), if_pos h1, if_pos h2]
  rfl
theorem sEdges_1 (s : Int) (l : List Int) (h : tableOk s l = true) (i m : Nat) (hi : (i : Int) < s) (R : List S39 → List S39) (hr : ∀ y : List S39, y.length + 8 * m ≤ 1000 → Ev (fun n => spec_EdgesOf.l0 n y ((i + 1 : Nat) : Int) s l) (R y)) : ∀ (d k : Nat) (y : List S39), ((k + d : Nat) : Int) = s → y.length + d + 8 * m ≤ 1000 → Ev (fun n => spec_EdgesOf.l1 n y (i : Int) (k : Int) s l) (R (y ++ edgesRow s l i k d))
  | 0, k, y, hd, hy => by
    have h8 : s ≤ 8 := by unfold tableOk at h; simp only [Bool.and_eq_true, decide_eq_true_eq] at h; exact h.1.2.1
    simp only [edgesRow, List.append_nil]
    refine suc (f := fun n => spec_EdgesOf.l0 n y ((i + 1 : Nat) : Int) s l) (fun n => ?_) (hr y (by omega))
    rw [spec_EdgesOf.l1, if_neg (by omega), up1 (by omega) (by omega)]; rfl
  | d + 1, k, y, hd, hy => by
    have h8 : s ≤ 8 := by unfold tableOk at h; simp only [Bool.and_eq_true, decide_eq_true_eq] at h; exact h.1.2.1
    have hl1 := mkE_len s l i k
    have ih := sEdges_1 s l h i m hi R hr d (k + 1) (y ++ mkE s l i k) (by omega) (by simp only [List.length_append]; omega)
    simp only [edgesRow]
    rw [← List.append_assoc]
    refine suc (f := fun n => spec_EdgesOf.l1 n (y ++ mkE s l i k) (i : Int) ((k + 1 : Nat) : Int) s l) (fun n => ?_) ih
    rw [spec_EdgesOf.l1, if_pos (by omega), up1 (by omega) (by omega)]
    unfold mkE
    by_cases e : i = k
    · rw [if_pos (by omega), if_pos e, List.append_nil]; rfl
    · rw [if_neg (by omega), if_neg e, scell h hi (by omega)]
      simp only [Option.bind_some]
      rw [l01In]
      simp only [Option.bind_some, decide_eq_true_eq]
      by_cases w : -1000000 < cellT s l i k ∧ cellT s l i k < 1000000
      · rw [if_pos (by omega), if_pos w, if_pos (by omega)]; rfl
      · rw [if_neg (by omega), if_neg w, List.append_nil]; rfl
theorem sEdges_0 (s : Int) (l : List Int) (h : tableOk s l = true) : ∀ (d i : Nat) (y : List S39), ((i + d : Nat) : Int) = s → y.length + 8 * d ≤ 1000 → Ev (fun n => spec_EdgesOf.l0 n y (i : Int) s l) (y ++ edgesAll s l i d)
  | 0, i, y, hd, hy => by
    simp only [edgesAll, List.append_nil]
    exact suc (f := fun _ => some y) (fun n => by rw [spec_EdgesOf.l0, if_neg (by omega)]) now
  | d + 1, i, y, hd, hy => by
    have h8 : s ≤ 8 := by unfold tableOk at h; simp only [Bool.and_eq_true, decide_eq_true_eq] at h; exact h.1.2.1
    simp only [edgesAll]
    rw [← List.append_assoc]
    refine suc (f := fun n => spec_EdgesOf.l1 n y (i : Int) ((0 : Nat) : Int) s l) (fun n => ?_) (sEdges_1 s l h i d (by omega) (fun z => z ++ edgesAll s l (i + 1) d) (fun z hz => sEdges_0 s l h d (i + 1) z (by omega) hz) s.toNat 0 y (by omega) (by omega))
    rw [spec_EdgesOf.l0, if_pos (by omega)]; rfl
theorem sEdges (s : Int) (l : List Int) (hn : l.length ≤ 4194304) : Ev (fun n => spec_EdgesOf.f n s l) (edgesT s l) := by
  unfold spec_EdgesOf.f edgesT
  refine bev (sTableOk s l hn) ?_
  by_cases h : tableOk s l = true
  · obtain ⟨h0, h8⟩ : 0 ≤ s ∧ s ≤ 8 := by unfold tableOk at h; simp only [Bool.and_eq_true, decide_eq_true_eq] at h; exact ⟨h.1.1, h.1.2.1⟩
    exact eqr (ifp h (sEdges_0 s l h s.toNat 0 [] (by omega) (by simp; omega))) (by rw [if_pos h]; rfl)
  · exact eqr (ifn h now) (by rw [if_neg h])

theorem FnExactEdgesOf : laws_FnExactEdgesOf.Pure := by
  intro s l _ hl _
  refine Ev.rounds ?_
  unfold laws_FnExactEdgesOf.f
  rcases szTable s l hl with ⟨h, _⟩ | ⟨h, hn⟩
  · exact bnd h (ifp (by omega) now)
  · refine bnd h (ifn (by omega) ?_)
    have ht := toTable s l (by omega)

    have hE := edgesT_len s l
    have hq := eqEdgeS (edgesT s l) (by omega)
    have hm := markEdgeS (edgesT s l) 1 (by omega) (by omega)
    have hh := heldEdgeS (edgesT s l) 1 (by omega) (by omega)
    have hi := iEdges s l (by omega)
    refine bev ht (bev (sEdges s l (by omega)) (bev ht (bev hi (bev hq (ifp rfl (bev ht (bev (eqTable s l (by omega)) (ifp rfl (bev (markTable s l 1 (by omega) (by omega)) (ifn (by omega) (bev hq ?_)))))))))))
    refine suc (fun k => by rw [laws_FnExactEdgesOf.j0, if_neg (by simp)]) ?_
    exact bev hm (bev hh (ifn (by omega) (ifp rfl (bev ht (bev hi (bev hq (ifp rfl (bev hh (ifn (by omega) (ifp rfl now))))))))))

end Go.Proofs.Ytegkkbncnmakaaa.Own
