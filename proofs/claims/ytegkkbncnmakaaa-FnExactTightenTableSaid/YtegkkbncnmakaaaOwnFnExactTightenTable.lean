/- The law FnExactTightenTable answers true for every table and edge. No condition. -/
import Derived.Test.YtegkkbncnmakaaaQFnExactTightenTablex9
import Derived.Test.YtegkkbncnmakaaaThy
namespace Go.Proofs.Ytegkkbncnmakaaa.Own
open Go.RowKit Go.Proofs.Ytegkkbncnmakaaa.QFnExactTightenTable Go.Proofs.YtegkkbncnmakaaaW.PrintWords Go.Proofs.YtegkkbncnmakaaaW.PrintLast Go.Proofs.YtegkkbncnmakaaaW.PrintMore Go.Proofs.YtegkkbncnmakaaaT Go.Proofs.YtegkkbncnmakaaaT
set_option linter.unusedVariables false
set_option linter.unusedSimpArgs false

theorem szTable (s : Int) (l : List Int) (hl : l.length ≤ maxLen) : (laws_szTable.f s l 1048576 = some (-1) ∧ 1048576 < l.length) ∨ (laws_szTable.f s l 1048576 = some (1048576 - (l.length : Int)) ∧ l.length ≤ 1048576) := by
  unfold maxLen at hl
  unfold laws_szTable.f laws_szIntS.f
  rw [w64 (by omega) (by omega)]
  by_cases h : l.length ≤ 1048576
  · right
    rw [if_neg (by omega)]
    simp only [Option.bind_some]
    rw [if_neg (by omega)]
    exact ⟨rfl, h⟩
  · left
    rw [if_pos (by omega)]
    simp only [Option.bind_some]
    rw [if_pos (by omega)]
    exact ⟨rfl, by omega⟩
theorem toIntS_l (x : List Int) (hn : x.length ≤ 4194304) : ∀ (d i : Nat) (y : List Int), i + d = x.length → y.length = x.length → (∀ j, j < i → y[j]? = x[j]?) → Ev (fun k => laws_toIntS.l0 k x y (i : Int)) x
  | 0, i, y, hd, hy, hj => by
    have e : y = x := by
      apply List.ext_getElem?; intro j
      by_cases h : j < i
      · exact hj j h
      · rw [List.getElem?_eq_none (by omega), List.getElem?_eq_none (by omega)]
    subst e
    exact suc (f := fun _ => some y) (fun k => by rw [laws_toIntS.l0, if_neg (by omega)]) now
  | d + 1, i, y, hd, hy, hj => by
    refine suc (f := fun k => laws_toIntS.l0 k x (y.set i (rd x i)) ((i + 1 : Nat) : Int)) (fun k => ?_) (toIntS_l x hn d (i + 1) _ (by omega) (by simp [hy]) (fun j h => ?_))
    · rw [laws_toIntS.l0, if_pos (by omega), if_pos (by omega), if_pos (by omega), up1 (by omega) (by omega)]; rfl
    · by_cases e : j = i
      · subst e; rw [rd_at (by omega)]; simp [show j < y.length by omega, show j < x.length by omega]
      · rw [List.getElem?_set_ne (by omega)]; exact hj j (by omega)
theorem toIntS (x : List Int) (hn : x.length ≤ 4194304) : Ev (fun k => laws_toIntS.f k x) x := by
  unfold laws_toIntS.f
  exact ifp (by omega) (ifp (by simp; omega) (toIntS_l x hn x.length 0 _ (by omega) (by simp) (fun j h => by omega)))
theorem toTable (s : Int) (l : List Int) (hn : l.length ≤ 4194304) : Ev (fun k => laws_toTable.f k s l) (s, l) := by
  unfold laws_toTable.f
  exact bev (toIntS l hn) now
theorem eqIntS_l (x : List Int) (hn : x.length ≤ 4194304) : ∀ (d i : Nat), i + d = x.length → Ev (fun k => laws_eqIntS.l0 k x x (i : Int)) true
  | 0, i, hd => suc (f := fun _ => some true) (fun k => by rw [laws_eqIntS.l0, if_neg (by omega)]) now
  | d + 1, i, hd => by
    refine suc (f := fun k => laws_eqIntS.l0 k x x ((i + 1 : Nat) : Int)) (fun k => ?_) (eqIntS_l x hn d (i + 1) (by omega))
    rw [laws_eqIntS.l0, if_pos (by omega), if_pos (by omega), if_pos (by omega), if_pos rfl, up1 (by omega) (by omega)]; rfl
theorem eqIntS (x : List Int) (hn : x.length ≤ 4194304) : Ev (fun k => laws_eqIntS.f k x x) true := by
  unfold laws_eqIntS.f
  exact ifp rfl (eqIntS_l x hn x.length 0 (by omega))
theorem eqTable (s : Int) (l : List Int) (hn : l.length ≤ 4194304) : Ev (fun k => laws_eqTable.f k s l s l) true := by
  unfold laws_eqTable.f
  exact ifp rfl (bev (eqIntS l hn) (ifp rfl now))
def markI (m : Int) : List Int → List Int
  | [] => []
  | _ :: t => m :: markI (m + 1) t
theorem markIntS_l : ∀ (b a : List Int) (m : Int), 0 ≤ m → m + b.length ≤ 1073741824 → a.length + b.length ≤ 1073741824 → Ev (fun k => laws_markIntS.l0 k (a ++ b) m (a.length : Int)) (m + b.length, a ++ markI m b)
  | [], a, m, h0, hm, hn => by
    refine eqr (suc (f := fun _ => some (m, a ++ ([] : List Int))) (fun k => by rw [laws_markIntS.l0, if_neg (by simp)]) now) ?_
    simp [markI]
  | x :: b, a, m, h0, hm, hn => by
    simp only [List.length_cons] at hm hn
    have ih := markIntS_l b (a ++ [m]) (m + 1) (by omega) (by omega) (by simp only [List.length_append, List.length_cons, List.length_nil]; omega)
    refine eqr (suc (f := fun k => laws_markIntS.l0 k (a ++ [m] ++ b) (m + 1) ((a ++ [m]).length : Int)) (fun k => ?_) ih) ?_
    · rw [laws_markIntS.l0, if_pos (by simp only [List.length_append, List.length_cons]; omega), if_pos (by omega), w64 (by omega) (by omega), w64 (by omega) (by omega)]
      simp
    · simp only [markI, List.length_cons, List.append_assoc, List.singleton_append, Prod.mk.injEq]
      exact ⟨by omega, trivial⟩
theorem markIntS (x : List Int) (m : Int) (h0 : 0 ≤ m) (hm : m + x.length ≤ 1073741824) : Ev (fun k => laws_markIntS.f k x m) (m + x.length, markI m x) := by
  unfold laws_markIntS.f
  exact markIntS_l x [] m h0 hm (by simp only [List.length_nil]; omega)
theorem markTable (s : Int) (x : List Int) (m : Int) (h0 : 0 ≤ m) (hm : m + x.length ≤ 1073741824) : Ev (fun k => laws_markTable.f k s x m) (m + x.length, markI m x) := by
  unfold laws_markTable.f
  exact bev (markIntS x m h0 hm) now
theorem heldIntS_l : ∀ (b a : List Int) (m : Int), 0 ≤ m → m + b.length ≤ 1073741824 → a.length + b.length ≤ 1073741824 → Ev (fun k => laws_heldIntS.l0 k (a ++ markI m b) m (a.length : Int)) (m + b.length)
  | [], a, m, h0, hm, hn => by
    refine eqr (suc (f := fun _ => some m) (fun k => by rw [laws_heldIntS.l0, if_neg (by simp [markI])]) now) ?_
    simp
  | x :: b, a, m, h0, hm, hn => by
    simp only [List.length_cons] at hm hn
    have ih := heldIntS_l b (a ++ [m]) (m + 1) (by omega) (by omega) (by simp only [List.length_append, List.length_cons, List.length_nil]; omega)
    refine eqr (suc (f := fun k => laws_heldIntS.l0 k (a ++ [m] ++ markI (m + 1) b) (m + 1) ((a ++ [m]).length : Int)) (fun k => ?_) ih) ?_
    · have e : rd (a ++ markI m (x :: b)) (a.length : Int) = m := by unfold rd; simp [markI, List.getD_eq_getElem?_getD]
      rw [laws_heldIntS.l0, if_pos (by simp only [markI, List.length_append, List.length_cons]; omega), if_pos (by omega), if_pos e, w64 (by omega) (by omega), w64 (by omega) (by omega)]
      simp [markI]
    · simp only [List.length_cons]; omega
theorem heldIntS (x : List Int) (m : Int) (h0 : 0 ≤ m) (hm : m + x.length ≤ 1073741824) : Ev (fun k => laws_heldIntS.f k (markI m x) m) (m + x.length) := by
  unfold laws_heldIntS.f
  exact heldIntS_l x [] m h0 hm (by simp only [List.length_nil]; omega)
theorem heldTable (s : Int) (x : List Int) (m : Int) (h0 : 0 ≤ m) (hm : m + x.length ≤ 1073741824) : Ev (fun k => laws_heldTable.f k s (markI m x) m) (m + x.length) := by
  unfold laws_heldTable.f
  exact bev (heldIntS x m h0 hm) (ifn (by omega) now)
def closedOk (s : Int) (l : List Int) (i j k : Nat) : Bool := decide (cellT s l i k ≤ addB (cellT s l i j) (cellT s l j k))
def closedT (s : Int) (l : List Int) : Bool := tableOk s l && allF (fun i => allF (fun j => allF (closedOk s l i j) 0 s.toNat) 0 s.toNat) 0 s.toNat
def tightC (n : Int) (l : List Int) (f t : Nat) (w : Int) (i k : Nat) : Int := if cellT n l i k < addB (addB (cellT n l i f) w) (cellT n l t k) then cellT n l i k else addB (addB (cellT n l i f) w) (cellT n l t k)
def tightRow (n : Int) (l : List Int) (f t : Nat) (w : Int) (i : Nat) : Nat → Nat → List Int
  | 0, _ => []
  | d + 1, k => tightC n l f t w i k :: tightRow n l f t w i d (k + 1)
def tightAll (n : Int) (l : List Int) (f t : Nat) (w : Int) : Nat → Nat → List Int
  | 0, _ => []
  | d + 1, i => tightRow n l f t w i n.toNat 0 ++ tightAll n l f t w d (i + 1)
theorem tightRow_len (n : Int) (l : List Int) (f t : Nat) (w : Int) (i : Nat) : ∀ d k, (tightRow n l f t w i d k).length = d
  | 0, _ => rfl
  | d + 1, k => by rw [tightRow, List.length_cons, tightRow_len n l f t w i d]
theorem tightAll_len (n : Int) (l : List Int) (f t : Nat) (w : Int) : ∀ d i, (tightAll n l f t w d i).length = d * n.toNat
  | 0, _ => by simp [tightAll]
  | d + 1, i => by rw [tightAll, List.length_append, tightRow_len, tightAll_len n l f t w d, Nat.add_mul, Nat.one_mul]; omega
def tightM (n : Int) (l : List Int) (f t w : Int) : Int × List Int × Bool := if closedT n l = true ∧ (0 ≤ f ∧ f < n) ∧ (0 ≤ t ∧ t < n) ∧ (-1000000 < w ∧ w < 1000000) ∧ ¬ addB w (cellT n l t.toNat f.toNat) < 0 then (n, tightAll n l f.toNat t.toNat w n.toNat 0, true) else (0, [], false)
theorem closed_table {n : Int} {l : List Int} (h : closedT n l = true) : tableOk n l = true := by
  unfold closedT at h
  rw [Bool.and_eq_true] at h
  exact h.1
theorem table_le {n : Int} {l : List Int} (h : tableOk n l = true) : 0 ≤ n ∧ n ≤ 8 := by
  unfold tableOk at h
  rw [Bool.and_eq_true, decide_eq_true_eq] at h
  exact ⟨h.1.1, h.1.2.1⟩
theorem tightM_len (n : Int) (l : List Int) (f t w : Int) : (tightM n l f t w).2.1.length ≤ 64 := by
  unfold tightM
  split
  · rename_i h
    obtain ⟨h0, h8⟩ := table_le (closed_table h.1)
    show (tightAll n l f.toNat t.toNat w n.toNat 0).length ≤ 64
    rw [tightAll_len]
    have := Nat.mul_le_mul (show n.toNat ≤ 8 by omega) (show n.toNat ≤ 8 by omega)
    omega
  · simp
theorem mn_tight (a b : Int) : mn a b = if a < b then a else b := by
  unfold mn
  split <;> split <;> omega
theorem iTableOk_l (s : Int) (l : List Int) (h0 : 0 ≤ s) (h8 : s ≤ 8) (hl : (l.length : Int) = s * s) : ∀ (d i : Nat), i + d = l.length → Ev (fun k => impl_TableOk.l0 k l (l.length : Int) (i : Int) s l) (allF (cellOk s l) i d)
  | 0, i, hd => suc (f := fun _ => some true) (fun k => by rw [impl_TableOk.l0, if_neg (by omega)]) now
  | d + 1, i, hd => by
    have hs : 0 < s := by
      rcases Int.lt_or_eq_of_le h0 with h | h
      · exact h
      · rw [← h] at hl; omega
    have h64 : s * s ≤ 8 * 8 := Int.mul_le_mul h8 h8 h0 (by omega)
    have hq : wrap64 (Int.tdiv (i : Int) s) = (i : Int) / s := by
      rw [Int.tdiv_eq_ediv_of_nonneg (by omega)]
      have h1 : (i : Int) / s < s := Int.ediv_lt_of_lt_mul hs (by omega)
      have h2 : 0 ≤ (i : Int) / s := Int.ediv_nonneg (by omega) h0
      exact w64 (by omega) (by omega)
    have hr : Int.tmod (i : Int) s = (i : Int) % s := Int.tmod_eq_emod_of_nonneg (by omega)
    have ih := iTableOk_l s l h0 h8 hl d (i + 1) (by omega)
    simp only [allF]
    by_cases hc : cellOk s l i = true
    · have hc' := hc
      simp only [cellOk, decide_eq_true_eq] at hc'
      obtain ⟨c1, c2, c3⟩ := hc'
      rw [hc, Bool.true_and]
      refine suc (f := fun k => impl_TableOk.l0 k l (l.length : Int) ((i + 1 : Nat) : Int) s l) (fun k => ?_) ih
      rw [impl_TableOk.l0, if_pos (by omega), if_pos (by omega), if_pos (by omega), if_neg (by omega), if_neg (by omega), if_neg (by omega), hq, hr, up1 (by omega) (by omega)]
      by_cases e : (i : Int) / s = (i : Int) % s
      · rw [if_pos e, if_pos (c3 e)]; rfl
      · rw [if_neg e]; rfl
    · rw [Bool.not_eq_true] at hc
      have hc' := hc
      simp only [cellOk, decide_eq_false_iff_not] at hc'
      rw [hc, Bool.false_and]
      refine suc (f := fun _ => some false) (fun k => ?_) now
      rw [impl_TableOk.l0, if_pos (by omega), if_pos (by omega), if_pos (by omega)]
      by_cases c1 : rd l i < -1000000
      · rw [if_pos c1]
      · rw [if_neg c1]
        by_cases c2 : rd l i > 1000000
        · rw [if_pos c2]
        · rw [if_neg c2, if_neg (by omega), hq, hr]
          by_cases e : (i : Int) / s = (i : Int) % s
          · rw [if_pos e]
            by_cases c3 : rd l i = 0
            · exact absurd ⟨by omega, by omega, fun _ => c3⟩ hc'
            · rw [if_neg c3]
          · exact absurd ⟨by omega, by omega, fun h => absurd h e⟩ hc'
theorem iTableOk (s : Int) (l : List Int) (hn : l.length ≤ 4194304) : Ev (fun k => impl_TableOk.f k s l) (tableOk s l) := by
  have ww : 0 ≤ s → s ≤ 8 → wrap64 (s * s) = s * s := fun h0 h8 => by
    have : s * s ≤ 8 * 8 := Int.mul_le_mul h8 h8 h0 (by omega)
    exact w64 (by have := Int.mul_nonneg h0 h0; omega) (by omega)
  unfold impl_TableOk.f tableOk
  by_cases h0 : s < 0
  · rw [decide_eq_false (by omega), Bool.false_and]
    exact ifp h0 (suc (f := fun _ => some false) (fun k => by rw [impl_TableOk.j0, if_pos rfl]) now)
  · refine ifn h0 ?_
    by_cases h8 : s > 8
    · rw [decide_eq_false (by omega), Bool.false_and]
      exact ifp h8 (suc (f := fun _ => some false) (fun k => by rw [impl_TableOk.j0, if_pos rfl]) now)
    · refine ifn h8 ?_
      rw [ww (by omega) (by omega)]
      by_cases hl : (l.length : Int) = s * s
      · rw [decide_eq_true ⟨by omega, by omega, hl⟩, Bool.true_and]
        refine suc (f := fun k => impl_TableOk.l0 k l (l.length : Int) ((0 : Nat) : Int) s l) (fun k => ?_) (iTableOk_l s l (by omega) (by omega) hl l.length 0 (by omega))
        rw [impl_TableOk.j0, if_neg (by simp [hl])]; rfl
      · rw [decide_eq_false (by omega), Bool.false_and]
        exact suc (f := fun _ => some false) (fun k => by rw [impl_TableOk.j0, if_pos (by simp [hl])]) now
theorem icell {s : Int} {l : List Int} (h : tableOk s l = true) {i k : Nat} (hi : (i : Int) < s) (hk : (k : Int) < s) : impl_Table_cell.f s l (i : Int) (k : Int) = some (cellT s l i k) := by
  obtain ⟨h1, h2, h3, h4⟩ := cell_in h hi hk
  have h8 : s ≤ 8 := by unfold tableOk at h; simp only [Bool.and_eq_true, decide_eq_true_eq] at h; exact h.1.2.1
  unfold impl_Table_cell.f
  rw [w64 (i := (i : Int) * s) (by omega) (by omega), w64 (by omega) (by omega), if_pos h1, if_pos h2]
  rfl
theorem iAddB (a b : Int) : Ev (fun k => impl_AddBounds.f k a b) (addB a b) := by
  refine suc (f := fun _ => some (addB a b)) (fun k => ?_) now
  unfold impl_AddBounds.f addB
  simp only [impl_AddBounds.j0, impl_ClampBound.f, mx, mn]
  repeat' split
  all_goals simp only [Option.bind_some, decide_eq_true_eq, Option.some.injEq, reduceCtorEq] at *
  all_goals first | omega | contradiction | (exfalso; simp_all; done) | (unfold wrap64 at *; omega)
theorem iClosed_2 (s : Int) (l : List Int) (h : tableOk s l = true) (i j : Nat) (hi : (i : Int) < s) (hj : (j : Int) < s) (r : Bool) (hr : Ev (fun n => impl_IsClosed.l1 n (i : Int) ((j + 1 : Nat) : Int) s l) r) : ∀ (d k : Nat), ((k + d : Nat) : Int) = s → Ev (fun n => impl_IsClosed.l2 n (i : Int) (j : Int) (k : Int) s l) (allF (closedOk s l i j) k d && r)
  | 0, k, hd => by
    simp only [allF, Bool.true_and]
    refine suc (f := fun n => impl_IsClosed.l1 n (i : Int) ((j + 1 : Nat) : Int) s l) (fun n => ?_) hr
    have h8 : s ≤ 8 := by unfold tableOk at h; simp only [Bool.and_eq_true, decide_eq_true_eq] at h; exact h.1.2.1
    rw [impl_IsClosed.l2, if_neg (by omega), up1 (by omega) (by omega)]; rfl
  | d + 1, k, hd => by
    have ih := iClosed_2 s l h i j hi hj r hr d (k + 1) (by omega)
    have h8 : s ≤ 8 := by unfold tableOk at h; simp only [Bool.and_eq_true, decide_eq_true_eq] at h; exact h.1.2.1
    refine suc (f := fun n => (impl_AddBounds.f n (cellT s l i j) (cellT s l j k)).bind fun t => if cellT s l i k > t then some false else impl_IsClosed.l2 n (i : Int) (j : Int) ((k + 1 : Nat) : Int) s l) (fun n => ?_) (bev (iAddB _ _) ?_)
    · rw [impl_IsClosed.l2, if_pos (by omega), icell h hi (by omega), icell h hi hj, icell h hj (by omega), up1 (by omega) (by omega)]; rfl
    · simp only [allF]
      by_cases hc : cellT s l i k > addB (cellT s l i j) (cellT s l j k)
      · rw [show closedOk s l i j k = false by simp only [closedOk, decide_eq_false_iff_not]; omega, Bool.false_and, Bool.false_and]
        exact ifp hc now
      · rw [show closedOk s l i j k = true by simp only [closedOk, decide_eq_true_eq]; omega, Bool.true_and]
        exact ifn hc ih
theorem iClosed_1 (s : Int) (l : List Int) (h : tableOk s l = true) (i : Nat) (hi : (i : Int) < s) (r : Bool) (hr : Ev (fun n => impl_IsClosed.l0 n ((i + 1 : Nat) : Int) s l) r) : ∀ (d j : Nat), ((j + d : Nat) : Int) = s → Ev (fun n => impl_IsClosed.l1 n (i : Int) (j : Int) s l) (allF (fun j => allF (closedOk s l i j) 0 s.toNat) j d && r)
  | 0, j, hd => by
    simp only [allF, Bool.true_and]
    have h8 : s ≤ 8 := by unfold tableOk at h; simp only [Bool.and_eq_true, decide_eq_true_eq] at h; exact h.1.2.1
    refine suc (f := fun n => impl_IsClosed.l0 n ((i + 1 : Nat) : Int) s l) (fun n => ?_) hr
    rw [impl_IsClosed.l1, if_neg (by omega), up1 (by omega) (by omega)]; rfl
  | d + 1, j, hd => by
    have ih := iClosed_1 s l h i hi r hr d (j + 1) (by omega)
    simp only [allF]
    rw [Bool.and_assoc]
    refine suc (f := fun n => impl_IsClosed.l2 n (i : Int) (j : Int) ((0 : Nat) : Int) s l) (fun n => ?_) (iClosed_2 s l h i j hi (by omega) _ ih s.toNat 0 (by omega))
    rw [impl_IsClosed.l1, if_pos (by omega)]; rfl
theorem iClosed_0 (s : Int) (l : List Int) (h : tableOk s l = true) : ∀ (d i : Nat), ((i + d : Nat) : Int) = s → Ev (fun n => impl_IsClosed.l0 n (i : Int) s l) (allF (fun i => allF (fun j => allF (closedOk s l i j) 0 s.toNat) 0 s.toNat) i d)
  | 0, i, hd => by
    simp only [allF]
    exact suc (f := fun _ => some true) (fun n => by rw [impl_IsClosed.l0, if_neg (by omega)]) now
  | d + 1, i, hd => by
    have ih := iClosed_0 s l h d (i + 1) (by omega)
    simp only [allF]
    refine suc (f := fun n => impl_IsClosed.l1 n (i : Int) ((0 : Nat) : Int) s l) (fun n => ?_) (iClosed_1 s l h i (by omega) _ ih s.toNat 0 (by omega))
    rw [impl_IsClosed.l0, if_pos (by omega)]; rfl
theorem iClosed (s : Int) (l : List Int) (hn : l.length ≤ 4194304) : Ev (fun n => impl_IsClosed.f n s l) (closedT s l) := by
  unfold impl_IsClosed.f closedT
  refine bev (iTableOk s l hn) ?_
  by_cases h : tableOk s l = true
  · rw [h, Bool.true_and]
    have h0 : 0 ≤ s := by unfold tableOk at h; simp only [Bool.and_eq_true, decide_eq_true_eq] at h; exact h.1.1
    exact ifp rfl (iClosed_0 s l h s.toNat 0 (by omega))
  · rw [Bool.not_eq_true] at h
    rw [h, Bool.false_and]
    exact ifn (by simp) now
theorem isNode (n x : Int) : impl_isNode.f n x = some (decide (0 ≤ x ∧ x < n)) := by
  unfold impl_isNode.f
  by_cases h : x ≥ 0
  · rw [if_pos h]; congr 1; rw [Bool.eq_iff_iff]; simp only [decide_eq_true_eq]; omega
  · rw [if_neg h]; congr 1; symm; rw [decide_eq_false_iff_not]; omega
theorem isWeight (n : Int) : impl_isWeight.f n = some (decide (-1000000 < n ∧ n < 1000000)) := by
  unfold impl_isWeight.f
  by_cases h : n > -1000000
  · rw [if_pos h]; congr 1; rw [Bool.eq_iff_iff]; simp only [decide_eq_true_eq]; omega
  · rw [if_neg h]; congr 1; symm; rw [decide_eq_false_iff_not]; omega
theorem iTi_1 (n : Nat) (hn : n ≤ 8) (l : List Int) (h : tableOk (n : Int) l = true) (f t : Nat) (hf : f < n) (ht : t < n) (w : Int) (i : Nat) (hi : i < n) (R : Int × List Int × Bool) : ∀ (d k : Nat) (y : List Int), k + d = n → y.length + d ≤ 1000 →
    Ev (fun q => impl_TightenTable.l0 q ((i + 1 : Nat) : Int) (n : Int) l (f : Int) (t : Int) w (n : Int) (y ++ tightRow (n : Int) l f t w i d k)) R → Ev (fun q => impl_TightenTable.l1 q (i : Int) (k : Int) (n : Int) l (f : Int) (t : Int) w (n : Int) y) R
  | 0, k, y, hd, hy, hR => by
    rw [tightRow, List.append_nil] at hR
    exact suc (fun q => by rw [impl_TightenTable.l1, if_neg (by omega), up1 (by omega) (by omega)]; rfl) hR
  | d + 1, k, y, hd, hy, hR => by
    have ih := iTi_1 n hn l h f t hf ht w i hi R d (k + 1) (y ++ [tightC (n : Int) l f t w i k]) (by omega) (by simp only [List.length_append, List.length_cons, List.length_nil]; omega) (by rw [List.append_assoc]; exact hR)
    refine suc (fun q => by rw [impl_TightenTable.l1, if_pos (by omega)]) ?_
    refine bnd (icell h (by omega) (by omega)) (bev (iAddB _ _) (bnd (icell h (by omega) (by omega)) (bev (iAddB _ _) (bnd (icell h (by omega) (by omega)) (ifp (by omega) ?_)))))
    rw [mn_tight, up1 (by omega) (by omega)]
    exact ih
theorem iTi_0 (n : Nat) (hn : n ≤ 8) (l : List Int) (h : tableOk (n : Int) l = true) (f t : Nat) (hf : f < n) (ht : t < n) (w : Int) : ∀ (d i : Nat) (y : List Int), i + d = n → y.length + 8 * d ≤ 1000 →
    Ev (fun q => impl_TightenTable.l0 q (i : Int) (n : Int) l (f : Int) (t : Int) w (n : Int) y) ((n : Int), y ++ tightAll (n : Int) l f t w d i, true)
  | 0, i, y, hd, hy => by
    rw [tightAll, List.append_nil]
    exact suc (f := fun _ => some ((n : Int), y, true)) (fun q => by rw [impl_TightenTable.l0, if_neg (by omega)]) now
  | d + 1, i, y, hd, hy => by
    have ih := iTi_0 n hn l h f t hf ht w d (i + 1) (y ++ tightRow (n : Int) l f t w i n 0) (by omega) (by rw [List.length_append, tightRow_len]; omega)
    rw [tightAll, Int.toNat_natCast, ← List.append_assoc]
    exact suc (fun q => by rw [impl_TightenTable.l0, if_pos (by omega)]; rfl) (iTi_1 n hn l h f t hf ht w i (by omega) _ n 0 y (by omega) (by omega) ih)
theorem iTight (n : Int) (l : List Int) (f t w : Int) (hl : l.length ≤ 4194304) : Ev (fun k => impl_TightenTable.f k n l f t w) (tightM n l f t w) := by
  have hF : Ev (fun k => impl_TightenTable.j0 k true n l f t w) (0, [], false) := suc (f := fun _ => some (0, [], false)) (fun k => by rw [impl_TightenTable.j0, if_pos rfl]) now
  unfold impl_TightenTable.f tightM
  refine bev (iClosed n l hl) ?_
  by_cases h : closedT n l = true
  · have hT := closed_table h
    obtain ⟨h0, h8⟩ := table_le hT
    refine ifp h (bnd (isNode n f) ?_)
    by_cases hf : 0 ≤ f ∧ f < n
    · refine ifp (by simpa using hf) (bnd (isNode n t) ?_)
      by_cases ht : 0 ≤ t ∧ t < n
      · refine ifp (by simpa using ht) (bnd (isWeight w) ?_)
        by_cases hw : -1000000 < w ∧ w < 1000000
        · refine ifp (by rw [decide_eq_true_eq]; omega) ?_
          obtain ⟨m, rfl⟩ : ∃ m : Nat, n = (m : Int) := ⟨n.toNat, by omega⟩
          obtain ⟨a, rfl⟩ : ∃ a : Nat, f = (a : Int) := ⟨f.toNat, by omega⟩
          obtain ⟨b, rfl⟩ : ∃ b : Nat, t = (b : Int) := ⟨t.toNat, by omega⟩
          simp only [Int.toNat_natCast]
          refine bnd (icell hT (by omega) (by omega)) (bev (iAddB _ _) ?_)
          by_cases ha : addB w (cellT (m : Int) l b a) < 0
          · rw [decide_eq_true ha, if_neg (fun x => x.2.2.2.2 ha)]; exact hF
          · rw [decide_eq_false ha, if_pos ⟨h, hf, ht, hw, ha⟩]
            have := iTi_0 m (by omega) l hT a b (by omega) (by omega) w m 0 [] (by omega) (by simp only [List.length_nil]; omega)
            exact suc (fun k => by rw [impl_TightenTable.j0, if_neg (by simp)]; rfl) this
        · exact eqr (ifn (by rw [decide_eq_true_eq]; omega) hF) (if_neg (fun x => hw x.2.2.2.1)).symm
      · exact eqr (ifn (by simpa using ht) hF) (if_neg (fun x => ht x.2.2.1)).symm
    · exact eqr (ifn (by simpa using hf) hF) (if_neg (fun x => hf x.2.1)).symm
  · exact eqr (ifn h hF) (if_neg (fun x => h x.1)).symm
theorem l01In (n a b : Int) : spec_l01In.f n a b = some (decide (a ≤ n ∧ n ≤ b)) := by
  unfold spec_l01In.f
  by_cases h : n ≥ a
  · rw [if_pos h]; congr 1; rw [Bool.eq_iff_iff]; simp only [decide_eq_true_eq]; omega
  · rw [if_neg h]; congr 1; symm; rw [decide_eq_false_iff_not]; omega
theorem sTableOk_l (s : Int) (l : List Int) (h0 : 0 ≤ s) (h8 : s ≤ 8) (hl : (l.length : Int) = s * s) : ∀ (d i : Nat), i + d = l.length → Ev (fun k => spec_TableOk.l0 k l (l.length : Int) (i : Int) s l) (allF (cellOk s l) i d)
  | 0, i, hd => suc (f := fun _ => some true) (fun k => by rw [spec_TableOk.l0, if_neg (by omega)]) now
  | d + 1, i, hd => by
    have hs : 0 < s := by
      rcases Int.lt_or_eq_of_le h0 with h | h
      · exact h
      · rw [← h] at hl; omega
    have h64 : s * s ≤ 8 * 8 := Int.mul_le_mul h8 h8 h0 (by omega)
    have hw : wrap64 (s + 1) = s + 1 := w64 (by omega) (by omega)
    have hr : Int.tmod (i : Int) (s + 1) = (i : Int) % (s + 1) := Int.tmod_eq_emod_of_nonneg (by omega)
    have hd2 := diag s i hs (by omega) (by omega)
    have ih := sTableOk_l s l h0 h8 hl d (i + 1) (by omega)
    simp only [allF]
    by_cases hc : cellOk s l i = true
    · have hc' := hc
      simp only [cellOk, decide_eq_true_eq] at hc'
      obtain ⟨c1, c2, c3⟩ := hc'
      rw [hc, Bool.true_and]
      refine suc (f := fun k => spec_TableOk.l0 k l (l.length : Int) ((i + 1 : Nat) : Int) s l) (fun k => ?_) ih
      rw [spec_TableOk.l0, if_pos (by omega), if_pos (by omega), if_pos (by omega), l01In, decide_eq_true ⟨c1, c2⟩]
      simp only [Option.bind_some, if_true]
      rw [hw, if_neg (by omega), hr, up1 (by omega) (by omega)]
      by_cases e : (i : Int) / s = (i : Int) % s
      · rw [if_pos (hd2.1 e), if_pos (c3 e)]; rfl
      · rw [if_neg (fun h => e (hd2.2 h))]; rfl
    · rw [Bool.not_eq_true] at hc
      have hc' := hc
      simp only [cellOk, decide_eq_false_iff_not] at hc'
      rw [hc, Bool.false_and]
      refine suc (f := fun _ => some false) (fun k => ?_) now
      rw [spec_TableOk.l0, if_pos (by omega), if_pos (by omega), if_pos (by omega), l01In]
      simp only [Option.bind_some, decide_eq_true_eq]
      by_cases c1 : -1000000 ≤ rd l i ∧ rd l i ≤ 1000000
      · rw [if_pos c1, hw, if_neg (by omega), hr]
        by_cases e : (i : Int) / s = (i : Int) % s
        · rw [if_pos (hd2.1 e)]
          by_cases c3 : rd l i = 0
          · exact absurd ⟨by omega, by omega, fun _ => c3⟩ hc'
          · rw [if_neg c3]
        · exact absurd ⟨by omega, by omega, fun h => absurd h e⟩ hc'
      · rw [if_neg c1]
theorem sTableOk (s : Int) (l : List Int) (hn : l.length ≤ 4194304) : Ev (fun k => spec_TableOk.f k s l) (tableOk s l) := by
  unfold spec_TableOk.f tableOk
  refine bnd (l01In s 0 8) ?_
  by_cases h0 : 0 ≤ s ∧ s ≤ 8
  · refine ifp (by simpa using h0) ?_
    have : s * s ≤ 8 * 8 := Int.mul_le_mul h0.2 h0.2 h0.1 (by omega)
    rw [w64 (i := s * s) (by have := Int.mul_nonneg h0.1 h0.1; omega) (by omega)]
    by_cases hl : (l.length : Int) = s * s
    · rw [decide_eq_true ⟨by omega, by omega, hl⟩, Bool.true_and]
      refine suc (f := fun k => spec_TableOk.l0 k l (l.length : Int) ((0 : Nat) : Int) s l) (fun k => ?_) (sTableOk_l s l (by omega) (by omega) hl l.length 0 (by omega))
      rw [spec_TableOk.j0, if_neg (by simp [hl])]; rfl
    · rw [decide_eq_false (by omega), Bool.false_and]
      exact suc (f := fun _ => some false) (fun k => by rw [spec_TableOk.j0, if_pos (by simp [hl])]) now
  · refine ifn (by simpa using h0) ?_
    rw [decide_eq_false (by omega), Bool.false_and]
    exact suc (f := fun _ => some false) (fun k => by rw [spec_TableOk.j0, if_pos rfl]) now
theorem scell {s : Int} {l : List Int} (h : tableOk s l = true) {i k : Nat} (hi : (i : Int) < s) (hk : (k : Int) < s) : spec_l04At.f s l (i : Int) (k : Int) = some (cellT s l i k) := by
  obtain ⟨h1, h2, h3, h4⟩ := cell_in h hi hk
  have h8 : s ≤ 8 := by unfold tableOk at h; simp only [Bool.and_eq_true, decide_eq_true_eq] at h; exact h.1.2.1
  unfold spec_l04At.f
  rw [w64 (i := (i : Int) * s) (by omega) (by omega), w64 (by omega) (by omega), if_pos h1, if_pos h2]
  rfl
theorem sAddB (a b : Int) : Ev (fun k => spec_AddBounds.f k a b) (addB a b) := by
  refine suc (f := fun _ => some (addB a b)) (fun k => ?_) now
  unfold spec_AddBounds.f addB
  simp only [spec_AddBounds.j0, spec_ClampBound.f]
  repeat' split
  all_goals simp only [Option.bind_some, decide_eq_true_eq, Option.some.injEq, reduceCtorEq] at *
  all_goals first | omega | contradiction | (exfalso; simp_all; done) | (unfold wrap64 at *; omega)
theorem sClosed_2 (s : Int) (l : List Int) (h : tableOk s l = true) (i j : Nat) (hi : (i : Int) < s) (hj : (j : Int) < s) (r : Bool) (hr : Ev (fun n => spec_IsClosed.l1 n (i : Int) ((j + 1 : Nat) : Int) s l) r) : ∀ (d k : Nat), ((k + d : Nat) : Int) = s → Ev (fun n => spec_IsClosed.l2 n (i : Int) (j : Int) (k : Int) s l) (allF (closedOk s l i j) k d && r)
  | 0, k, hd => by
    simp only [allF, Bool.true_and]
    refine suc (f := fun n => spec_IsClosed.l1 n (i : Int) ((j + 1 : Nat) : Int) s l) (fun n => ?_) hr
    have h8 : s ≤ 8 := by unfold tableOk at h; simp only [Bool.and_eq_true, decide_eq_true_eq] at h; exact h.1.2.1
    rw [spec_IsClosed.l2, if_neg (by omega), up1 (by omega) (by omega)]; rfl
  | d + 1, k, hd => by
    have ih := sClosed_2 s l h i j hi hj r hr d (k + 1) (by omega)
    have h8 : s ≤ 8 := by unfold tableOk at h; simp only [Bool.and_eq_true, decide_eq_true_eq] at h; exact h.1.2.1
    refine suc (f := fun n => (spec_AddBounds.f n (cellT s l i j) (cellT s l j k)).bind fun t => if cellT s l i k > t then some false else spec_IsClosed.l2 n (i : Int) (j : Int) ((k + 1 : Nat) : Int) s l) (fun n => ?_) (bev (sAddB _ _) ?_)
    · rw [spec_IsClosed.l2, if_pos (by omega), scell h hi (by omega), scell h hi hj, scell h hj (by omega), up1 (by omega) (by omega)]; rfl
    · simp only [allF]
      by_cases hc : cellT s l i k > addB (cellT s l i j) (cellT s l j k)
      · rw [show closedOk s l i j k = false by simp only [closedOk, decide_eq_false_iff_not]; omega, Bool.false_and, Bool.false_and]
        exact ifp hc now
      · rw [show closedOk s l i j k = true by simp only [closedOk, decide_eq_true_eq]; omega, Bool.true_and]
        exact ifn hc ih
theorem sClosed_1 (s : Int) (l : List Int) (h : tableOk s l = true) (i : Nat) (hi : (i : Int) < s) (r : Bool) (hr : Ev (fun n => spec_IsClosed.l0 n ((i + 1 : Nat) : Int) s l) r) : ∀ (d j : Nat), ((j + d : Nat) : Int) = s → Ev (fun n => spec_IsClosed.l1 n (i : Int) (j : Int) s l) (allF (fun j => allF (closedOk s l i j) 0 s.toNat) j d && r)
  | 0, j, hd => by
    simp only [allF, Bool.true_and]
    have h8 : s ≤ 8 := by unfold tableOk at h; simp only [Bool.and_eq_true, decide_eq_true_eq] at h; exact h.1.2.1
    refine suc (f := fun n => spec_IsClosed.l0 n ((i + 1 : Nat) : Int) s l) (fun n => ?_) hr
    rw [spec_IsClosed.l1, if_neg (by omega), up1 (by omega) (by omega)]; rfl
  | d + 1, j, hd => by
    have ih := sClosed_1 s l h i hi r hr d (j + 1) (by omega)
    simp only [allF]
    rw [Bool.and_assoc]
    refine suc (f := fun n => spec_IsClosed.l2 n (i : Int) (j : Int) ((0 : Nat) : Int) s l) (fun n => ?_) (sClosed_2 s l h i j hi (by omega) _ ih s.toNat 0 (by omega))
    rw [spec_IsClosed.l1, if_pos (by omega)]; rfl
theorem sClosed_0 (s : Int) (l : List Int) (h : tableOk s l = true) : ∀ (d i : Nat), ((i + d : Nat) : Int) = s → Ev (fun n => spec_IsClosed.l0 n (i : Int) s l) (allF (fun i => allF (fun j => allF (closedOk s l i j) 0 s.toNat) 0 s.toNat) i d)
  | 0, i, hd => by
    simp only [allF]
    exact suc (f := fun _ => some true) (fun n => by rw [spec_IsClosed.l0, if_neg (by omega)]) now
  | d + 1, i, hd => by
    have ih := sClosed_0 s l h d (i + 1) (by omega)
    simp only [allF]
    refine suc (f := fun n => spec_IsClosed.l1 n (i : Int) ((0 : Nat) : Int) s l) (fun n => ?_) (sClosed_1 s l h i (by omega) _ ih s.toNat 0 (by omega))
    rw [spec_IsClosed.l0, if_pos (by omega)]; rfl
theorem sClosed (s : Int) (l : List Int) (hn : l.length ≤ 4194304) : Ev (fun n => spec_IsClosed.f n s l) (closedT s l) := by
  unfold spec_IsClosed.f closedT
  refine bev (sTableOk s l hn) ?_
  by_cases h : tableOk s l = true
  · rw [h, Bool.true_and]
    have h0 : 0 ≤ s := by unfold tableOk at h; simp only [Bool.and_eq_true, decide_eq_true_eq] at h; exact h.1.1
    exact ifp rfl (sClosed_0 s l h s.toNat 0 (by omega))
  · rw [Bool.not_eq_true] at h
    rw [h, Bool.false_and]
    exact ifn (by simp) now
theorem in_node {s i : Int} (h0 : 0 ≤ s) (h8 : s ≤ 8) : spec_l01In.f i 0 (wrap64 (s - 1)) = some (decide (0 ≤ i ∧ i < s)) := by
  rw [l01In, w64 (by omega) (by omega)]
  congr 1
  rw [Bool.eq_iff_iff]
  simp only [decide_eq_true_eq]
  omega
theorem tableOk_s {s : Int} {l : List Int} (h : tableOk s l = true) : 0 ≤ s ∧ s ≤ 8 ∧ (l.length : Int) = s * s := by
  unfold tableOk at h; simp only [Bool.and_eq_true, decide_eq_true_eq] at h; exact h.1
theorem sTi_1 (n : Nat) (hn : n ≤ 8) (l : List Int) (h : tableOk (n : Int) l = true) (f t : Nat) (hf : f < n) (ht : t < n) (w : Int) (i : Nat) (hi : i < n) (R : Int × List Int × Bool) : ∀ (d k : Nat) (y : List Int), k + d = n → y.length + d ≤ 1000 →
    Ev (fun q => spec_TightenTable.l0 q ((i + 1 : Nat) : Int) (n : Int) l (f : Int) (t : Int) w (n : Int) (y ++ tightRow (n : Int) l f t w i d k)) R → Ev (fun q => spec_TightenTable.l1 q (i : Int) (k : Int) (n : Int) l (f : Int) (t : Int) w (n : Int) y) R
  | 0, k, y, hd, hy, hR => by
    rw [tightRow, List.append_nil] at hR
    exact suc (fun q => by rw [spec_TightenTable.l1, if_neg (by omega), up1 (by omega) (by omega)]; rfl) hR
  | d + 1, k, y, hd, hy, hR => by
    have ih := sTi_1 n hn l h f t hf ht w i hi R d (k + 1) (y ++ [tightC (n : Int) l f t w i k]) (by omega) (by simp only [List.length_append, List.length_cons, List.length_nil]; omega) (by rw [List.append_assoc]; exact hR)
    refine suc (fun q => by rw [spec_TightenTable.l1, if_pos (by omega)]) ?_
    refine bnd (scell h (by omega) (by omega)) (bev (sAddB _ _) (bnd (scell h (by omega) (by omega)) (bev (sAddB _ _) (bnd (scell h (by omega) (by omega)) (ifp (by omega) ?_)))))
    rw [mn_tight, up1 (by omega) (by omega)]
    exact ih
theorem sTi_0 (n : Nat) (hn : n ≤ 8) (l : List Int) (h : tableOk (n : Int) l = true) (f t : Nat) (hf : f < n) (ht : t < n) (w : Int) : ∀ (d i : Nat) (y : List Int), i + d = n → y.length + 8 * d ≤ 1000 →
    Ev (fun q => spec_TightenTable.l0 q (i : Int) (n : Int) l (f : Int) (t : Int) w (n : Int) y) ((n : Int), y ++ tightAll (n : Int) l f t w d i, true)
  | 0, i, y, hd, hy => by
    rw [tightAll, List.append_nil]
    exact suc (f := fun _ => some ((n : Int), y, true)) (fun q => by rw [spec_TightenTable.l0, if_neg (by omega)]) now
  | d + 1, i, y, hd, hy => by
    have ih := sTi_0 n hn l h f t hf ht w d (i + 1) (y ++ tightRow (n : Int) l f t w i n 0) (by omega) (by rw [List.length_append, tightRow_len]; omega)
    rw [tightAll, Int.toNat_natCast, ← List.append_assoc]
    exact suc (fun q => by rw [spec_TightenTable.l0, if_pos (by omega)]; rfl) (sTi_1 n hn l h f t hf ht w i (by omega) _ n 0 y (by omega) (by omega) ih)
theorem sTight (n : Int) (l : List Int) (f t w : Int) (hl : l.length ≤ 4194304) : Ev (fun k => spec_TightenTable.f k n l f t w) (tightM n l f t w) := by
  have hF : Ev (fun k => spec_TightenTable.j0 k true n l f t w) (0, [], false) := suc (f := fun _ => some (0, [], false)) (fun k => by rw [spec_TightenTable.j0, if_pos rfl]) now
  unfold spec_TightenTable.f tightM
  refine bev (sClosed n l hl) ?_
  by_cases h : closedT n l = true
  · have hT := closed_table h
    obtain ⟨h0, h8⟩ := table_le hT
    refine ifp h (bnd (in_node h0 h8) ?_)
    by_cases hf : 0 ≤ f ∧ f < n
    · refine ifp (by simpa using hf) (bnd (in_node h0 h8) ?_)
      by_cases ht : 0 ≤ t ∧ t < n
      · refine ifp (by simpa using ht) (bnd (l01In w (-999999) 999999) ?_)
        by_cases hw : -1000000 < w ∧ w < 1000000
        · refine ifp (by rw [decide_eq_true_eq]; omega) ?_
          obtain ⟨m, rfl⟩ : ∃ m : Nat, n = (m : Int) := ⟨n.toNat, by omega⟩
          obtain ⟨a, rfl⟩ : ∃ a : Nat, f = (a : Int) := ⟨f.toNat, by omega⟩
          obtain ⟨b, rfl⟩ : ∃ b : Nat, t = (b : Int) := ⟨t.toNat, by omega⟩
          simp only [Int.toNat_natCast]
          refine bnd (scell hT (by omega) (by omega)) (bev (sAddB _ _) ?_)
          by_cases ha : addB w (cellT (m : Int) l b a) < 0
          · rw [decide_eq_true ha, if_neg (fun x => x.2.2.2.2 ha)]; exact hF
          · rw [decide_eq_false ha, if_pos ⟨h, hf, ht, hw, ha⟩]
            have := sTi_0 m (by omega) l hT a b (by omega) (by omega) w m 0 [] (by omega) (by simp only [List.length_nil]; omega)
            exact suc (fun k => by rw [spec_TightenTable.j0, if_neg (by simp)]; rfl) this
        · exact eqr (ifn (by rw [decide_eq_true_eq]; omega) hF) (if_neg (fun x => hw x.2.2.2.1)).symm
      · exact eqr (ifn (by simpa using ht) hF) (if_neg (fun x => ht x.2.2.1)).symm
    · exact eqr (ifn (by simpa using hf) hF) (if_neg (fun x => hf x.2.1)).symm
  · exact eqr (ifn h hF) (if_neg (fun x => h x.1)).symm

theorem FnExactTightenTable : laws_FnExactTightenTable.Pure := by
  intro s l f t w _ hl _ _ _ _
  refine Ev.rounds ?_
  unfold laws_FnExactTightenTable.f
  rcases szTable s l hl with ⟨h, _⟩ | ⟨h, hn⟩
  · exact bnd h (ifp (by omega) now)
  · refine bnd h (ifn (by omega) ?_)
    have ht := toTable s l (by omega)

    have hE : laws_toEdge.f f t w = some (f, t, w) := rfl
    have hq := tightM_len s l f t w
    have hi := iTight s l f t w (by omega)
    have hs := sTight s l f t w (by omega)
    generalize tightM s l f t w = r at hq hi hs
    obtain ⟨r1, r2, r3⟩ := r
    simp only at hq
    have he := eqTable r1 r2 (by omega)
    have hm := markTable r1 r2 1 (by omega) (by omega)
    have hh := heldTable r1 r2 1 (by omega) (by omega)
    refine bev ht (bnd hE (bev hs (bev ht (bnd hE (bev hi (bev he (ifp rfl (suc (fun k => by rw [laws_FnExactTightenTable.j0, if_neg (by simp)]) ?_))))))))
    refine bev ht (bev (eqTable s l (by omega)) (ifp rfl (bev (markTable s l 1 (by omega) (by omega)) (ifn (by omega) (bev he (ifp rfl (suc (fun k => by rw [laws_FnExactTightenTable.j1, if_neg (by simp)]) ?_)))))))
    refine bev hm (bev hh (ifn (by omega) (ifp rfl (bev ht (bnd hE (bev hi (bev he (ifp rfl (suc (fun k => by rw [laws_FnExactTightenTable.j2, if_neg (by simp)]) ?_)))))))))
    exact bev hh (ifn (by omega) (ifp rfl now))

end Go.Proofs.Ytegkkbncnmakaaa.Own
