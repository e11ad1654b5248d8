/- The law FnExactGraphOk answers true for every graph. No condition. -/
import Derived.Test.YtegkkbncnmakaaaQFnExactGraphOkx2
import Derived.Test.YtegkkbncnmakaaaThy
namespace Go.Proofs.Ytegkkbncnmakaaa.Own
open Go.RowKit Go.Proofs.Ytegkkbncnmakaaa.QFnExactGraphOk Go.Proofs.YtegkkbncnmakaaaW.PrintWords Go.Proofs.YtegkkbncnmakaaaW.PrintLast Go.Proofs.YtegkkbncnmakaaaW.PrintMore Go.Proofs.YtegkkbncnmakaaaT Go.Proofs.YtegkkbncnmakaaaT Go.Proofs.YtegkkbncnmakaaaT Go.Proofs.YtegkkbncnmakaaaT
set_option linter.unusedVariables false
set_option linter.unusedSimpArgs false

theorem szGraph (s : Int) (l : List S68) (hl : l.length ≤ maxLen) : (laws_szGraph.f s l 1048576 = some (-1) ∧ 1048576 < l.length) ∨ (laws_szGraph.f s l 1048576 = some (1048576 - (l.length : Int)) ∧ l.length ≤ 1048576) := by
  unfold maxLen at hl
  unfold laws_szGraph.f laws_szEdgeS.f
  rw [w64 (by omega) (by omega)]
  by_cases h : l.length ≤ 1048576
  · right
    rw [if_neg (by omega)]
    simp only [Option.bind_some]
    rw [if_neg (by omega)]
    exact ⟨rfl, h⟩
  · left
    rw [if_pos (by omega)]
    simp only [Option.bind_some]
    rw [if_pos (by omega)]
    exact ⟨rfl, by omega⟩
def cvE (e : S68) : S39 := ⟨e.f0, e.f1, e.f2⟩
theorem rdL_at {l : List S68} {i : Nat} (h : i < l.length) : rd_T68 l (i : Int) = l[i] := by
  unfold rd_T68; simp [List.getD_eq_getElem?_getD, h]
theorem toEdgeS_l (x : List S68) (hn : x.length ≤ 4194304) : ∀ (d i : Nat) (y : List S39), i + d = x.length → y.length = x.length → (∀ j, j < i → y[j]? = (x.map cvE)[j]?) → Ev (fun k => laws_toEdgeS.l0 k x y (i : Int)) (x.map cvE)
  | 0, i, y, hd, hy, hj => by
    have e : y = x.map cvE := by
      apply List.ext_getElem?; intro j
      by_cases h : j < i
      · exact hj j h
      · rw [List.getElem?_eq_none (by omega), List.getElem?_eq_none (by simp; omega)]
    subst e
    exact suc (f := fun _ => some (x.map cvE)) (fun k => by rw [laws_toEdgeS.l0, if_neg (by omega)]) now
  | d + 1, i, y, hd, hy, hj => by
    refine suc (f := fun k => laws_toEdgeS.l0 k x (y.set i (cvE (rd_T68 x i))) ((i + 1 : Nat) : Int)) (fun k => ?_) (toEdgeS_l x hn d (i + 1) _ (by omega) (by simp [hy]) (fun j h => ?_))
    · rw [laws_toEdgeS.l0, if_pos (by omega), if_pos (by omega), laws_toEdge.f]
      simp only [Option.bind_some]
      rw [if_pos (by omega), up1 (by omega) (by omega)]; rfl
    · by_cases e : j = i
      · subst e; rw [rdL_at (by omega)]; simp [show j < y.length by omega, show j < x.length by omega]
      · rw [List.getElem?_set_ne (by omega)]; exact hj j (by omega)
theorem toEdgeS (x : List S68) (hn : x.length ≤ 4194304) : Ev (fun k => laws_toEdgeS.f k x) (x.map cvE) := by
  unfold laws_toEdgeS.f
  exact ifp (by omega) (ifp (by simp; omega) (toEdgeS_l x hn x.length 0 _ (by omega) (by simp) (fun j h => by omega)))
theorem toGraph (s : Int) (l : List S68) (hn : l.length ≤ 4194304) : Ev (fun k => laws_toGraph.f k s l) (s, l.map cvE) := by
  unfold laws_toGraph.f
  exact bev (toEdgeS l hn) now
theorem eqEdge (a b c : Int) : laws_eqEdge.f a b c a b c = some true := by
  unfold laws_eqEdge.f
  simp
theorem eqEdgeS_l (x : List S39) (hn : x.length ≤ 4194304) : ∀ (d i : Nat), i + d = x.length → Ev (fun k => laws_eqEdgeS.l0 k x x (i : Int)) true
  | 0, i, hd => suc (f := fun _ => some true) (fun k => by rw [laws_eqEdgeS.l0, if_neg (by omega)]) now
  | d + 1, i, hd => by
    refine suc (f := fun k => laws_eqEdgeS.l0 k x x ((i + 1 : Nat) : Int)) (fun k => ?_) (eqEdgeS_l x hn d (i + 1) (by omega))
    rw [laws_eqEdgeS.l0, if_pos (by omega), if_pos (by omega), if_pos (by omega), eqEdge]
    simp only [Option.bind_some, if_true]
    rw [up1 (by omega) (by omega)]; rfl
theorem eqEdgeS (x : List S39) (hn : x.length ≤ 4194304) : Ev (fun k => laws_eqEdgeS.f k x x) true := by
  unfold laws_eqEdgeS.f
  exact ifp rfl (eqEdgeS_l x hn x.length 0 (by omega))
theorem eqGraph (s : Int) (l : List S39) (hn : l.length ≤ 4194304) : Ev (fun k => laws_eqGraph.f k s l s l) true := by
  unfold laws_eqGraph.f
  exact ifp rfl (bev (eqEdgeS l hn) (ifp rfl now))
def tr (e : S39) : E3 := (e.f0, e.f1, e.f2)
theorem tr_rd (l : List S39) (p : Int) : eAt (l.map tr) p = tr (rd_T39 l p) := by
  unfold eAt rd_T39
  simp only [List.getD_eq_getElem?_getD, List.getElem?_map]
  cases l[p.toNat]? <;> rfl
theorem tr0 (l : List S39) (p : Int) : (rd_T39 l p).f0 = (eAt (l.map tr) p).1 := by rw [tr_rd]; rfl
theorem tr1 (l : List S39) (p : Int) : (rd_T39 l p).f1 = (eAt (l.map tr) p).2.1 := by rw [tr_rd]; rfl
theorem tr2 (l : List S39) (p : Int) : (rd_T39 l p).f2 = (eAt (l.map tr) p).2.2 := by rw [tr_rd]; rfl
theorem rdE_at {l : List S39} {i : Nat} (h : i < l.length) : rd_T39 l (i : Int) = l[i] := by
  unfold rd_T39; simp [List.getD_eq_getElem?_getD, h]
theorem badE (n : Int) (e : S39) : badEdge n e = !(edgeOk n (tr e)) := by
  unfold badEdge gNodeB gWeightB edgeOk tr
  rw [Bool.eq_iff_iff]
  simp only [Bool.or_eq_true, Bool.not_eq_true', decide_eq_false_iff_not]
  by_cases h1 : 0 ≤ e.f0 ∧ e.f0 < n <;> by_cases h2 : 0 ≤ e.f1 ∧ e.f1 < n <;> by_cases h3 : -1000000 < e.f2 ∧ e.f2 < 1000000 <;> simp [h1, h2, h3]
theorem iGraphOk (n : Int) (l : List S39) : impl_GraphOk.f n l = some (graphOk n (l.map tr)) := by
  unfold impl_GraphOk.f graphOk
  have e : (!(l.any (badEdge n))) = (l.map tr).all (edgeOk n) := by
    rw [List.all_map, List.all_eq_not_any_not]
    congr 2
    funext x
    simp [badE]
  congr 1
  by_cases h1 : n < 0
  · rw [if_pos h1, decide_eq_false (by omega), Bool.false_and]
  · rw [if_neg h1]
    by_cases h2 : n > 8
    · rw [if_pos h2, decide_eq_false (by omega), Bool.false_and]
    · rw [if_neg h2]
      by_cases h3 : (l.length : Int) > 80
      · rw [if_pos h3, decide_eq_false (by simp only [List.length_map]; omega), Bool.false_and]
      · rw [if_neg h3, decide_eq_true (by simp only [List.length_map]; omega), Bool.true_and, e]
theorem l01In (n a b : Int) : spec_l01In.f n a b = some (decide (a ≤ n ∧ n ≤ b)) := by
  unfold spec_l01In.f
  by_cases h : n ≥ a
  · rw [if_pos h]; congr 1; rw [Bool.eq_iff_iff]; simp only [decide_eq_true_eq]; omega
  · rw [if_neg h]; congr 1; symm; rw [decide_eq_false_iff_not]; omega
theorem in_node {s i : Int} (h0 : 0 ≤ s) (h8 : s ≤ 8) : spec_l01In.f i 0 (wrap64 (s - 1)) = some (decide (0 ≤ i ∧ i < s)) := by
  rw [l01In, w64 (by omega) (by omega)]
  congr 1
  rw [Bool.eq_iff_iff]
  simp only [decide_eq_true_eq]
  omega
theorem tableOk_s {s : Int} {l : List Int} (h : tableOk s l = true) : 0 ≤ s ∧ s ≤ 8 ∧ (l.length : Int) = s * s := by
  unfold tableOk at h; simp only [Bool.and_eq_true, decide_eq_true_eq] at h; exact h.1
theorem sGraphOk_l (n : Int) (l : List S39) (h0 : 0 ≤ n) (h8 : n ≤ 8) (hl : l.length ≤ 80) : ∀ (d i : Nat), i + d = l.length → Ev (fun k => spec_GraphOk.l0 k l (l.length : Int) (i : Int) n l) (allF (fun j => edgeOk n ((l.map tr).getD j (0, 0, 0))) i d)
  | 0, i, hd => suc (f := fun _ => some true) (fun k => by rw [spec_GraphOk.l0, if_neg (by omega)]) now
  | d + 1, i, hd => by
    have ih := sGraphOk_l n l h0 h8 hl d (i + 1) (by omega)
    simp only [allF]
    have e0 : (l.map tr).getD i (0, 0, 0) = eAt (l.map tr) (i : Int) := rfl
    rw [e0]
    have hu : ∀ k, spec_GraphOk.l0 (k + 1) l (l.length : Int) (i : Int) n l = (if 0 ≤ (eAt (l.map tr) i).1 ∧ (eAt (l.map tr) i).1 < n then (if 0 ≤ (eAt (l.map tr) i).2.1 ∧ (eAt (l.map tr) i).2.1 < n then (if -1000000 < (eAt (l.map tr) i).2.2 ∧ (eAt (l.map tr) i).2.2 < 1000000 then spec_GraphOk.l0 k l (l.length : Int) ((i + 1 : Nat) : Int) n l else some false) else some false) else some false) := by
      intro k
      rw [spec_GraphOk.l0, if_pos (by omega), if_pos (by omega), if_pos (by omega), in_node h0 h8, in_node h0 h8, l01In, tr0, tr1, tr2, up1 (by omega) (by omega)]
      simp only [Option.bind_some, decide_eq_true_eq]
      have : (-999999 ≤ (eAt (l.map tr) ↑i).2.2 ∧ (eAt (l.map tr) ↑i).2.2 ≤ 999999) = (-1000000 < (eAt (l.map tr) ↑i).2.2 ∧ (eAt (l.map tr) ↑i).2.2 < 1000000) := by apply propext; omega
      simp only [this]; rfl
    refine suc hu ?_
    unfold edgeOk
    by_cases h1 : 0 ≤ (eAt (l.map tr) i).1 ∧ (eAt (l.map tr) i).1 < n
    · refine ifp h1 ?_
      by_cases h2 : 0 ≤ (eAt (l.map tr) i).2.1 ∧ (eAt (l.map tr) i).2.1 < n
      · refine ifp h2 ?_
        by_cases h3 : -1000000 < (eAt (l.map tr) i).2.2 ∧ (eAt (l.map tr) i).2.2 < 1000000
        · rw [decide_eq_true ⟨h1, h2, h3⟩, Bool.true_and]
          exact ifp h3 ih
        · rw [decide_eq_false (fun x => h3 x.2.2), Bool.false_and]
          exact ifn h3 now
      · rw [decide_eq_false (fun x => h2 x.2.1), Bool.false_and]
        exact ifn h2 now
    · rw [decide_eq_false (fun x => h1 x.1), Bool.false_and]
      exact ifn h1 now
theorem sGraphOk (n : Int) (l : List S39) : Ev (fun k => spec_GraphOk.f k n l) (graphOk n (l.map tr)) := by
  unfold spec_GraphOk.f graphOk
  refine bnd (l01In n 0 8) ?_
  by_cases h : 0 ≤ n ∧ n ≤ 8
  · refine ifp (decide_eq_true h) ?_
    by_cases hl : l.length ≤ 80
    · have e : (decide (0 ≤ n ∧ n ≤ 8 ∧ (l.map tr).length ≤ 80) && (l.map tr).all (edgeOk n)) = allF (fun j => edgeOk n ((l.map tr).getD j (0, 0, 0))) 0 l.length := by
        rw [decide_eq_true (show 0 ≤ n ∧ n ≤ 8 ∧ (l.map tr).length ≤ 80 from ⟨h.1, h.2, by simpa using hl⟩), Bool.true_and, ← allF_all (0, 0, 0), List.length_map]
      rw [show decide ((l.length : Int) > 80) = false from decide_eq_false (by omega)]
      exact eqr (suc (f := fun k => spec_GraphOk.l0 k l (l.length : Int) ((0 : Nat) : Int) n l) (fun k => by rw [spec_GraphOk.j0, if_neg (by simp)]; rfl) (sGraphOk_l n l h.1 h.2 hl l.length 0 (by omega))) e.symm
    · have e : (decide (0 ≤ n ∧ n ≤ 8 ∧ (l.map tr).length ≤ 80) && (l.map tr).all (edgeOk n)) = false := by
        rw [decide_eq_false (show ¬ (0 ≤ n ∧ n ≤ 8 ∧ (l.map tr).length ≤ 80) from fun x => hl (by simpa using x.2.2)), Bool.false_and]
      rw [show decide ((l.length : Int) > 80) = true from decide_eq_true (by omega)]
      exact eqr (suc (f := fun _ => some false) (fun k => by rw [spec_GraphOk.j0, if_pos rfl]) now) e.symm
  · have e : (decide (0 ≤ n ∧ n ≤ 8 ∧ (l.map tr).length ≤ 80) && (l.map tr).all (edgeOk n)) = false := by
      rw [decide_eq_false (show ¬ (0 ≤ n ∧ n ≤ 8 ∧ (l.map tr).length ≤ 80) from fun x => h ⟨x.1, x.2.1⟩), Bool.false_and]
    exact eqr (ifn (by simpa using h) (suc (f := fun _ => some false) (fun k => by rw [spec_GraphOk.j0, if_pos rfl]) now)) e.symm

theorem FnExactGraphOk : laws_FnExactGraphOk.Pure := by
  intro s l _ hl _
  refine Ev.rounds ?_
  unfold laws_FnExactGraphOk.f
  rcases szGraph s l hl with ⟨h, _⟩ | ⟨h, hn⟩
  · exact bnd h (ifp (by omega) now)
  · refine bnd h (ifn (by omega) ?_)
    have ht := toGraph s l (by omega)
    have hc : (l.map cvE).length ≤ 4194304 := by simp only [List.length_map]; omega

    refine bev ht (bev (sGraphOk s _) (bev ht (bnd (iGraphOk s _) ?_)))
    exact ifn (by simp) (bev ht (bev (eqGraph s _ hc) (ifp rfl now)))

end Go.Proofs.Ytegkkbncnmakaaa.Own
