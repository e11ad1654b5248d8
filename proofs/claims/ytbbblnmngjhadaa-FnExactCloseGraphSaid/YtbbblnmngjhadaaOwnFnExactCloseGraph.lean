/- The law FnExactCloseGraph answers true for every graph. No condition. -/
import Derived.Test.YtbbblnmngjhadaaQFnExactCloseGraphx10
import Derived.Test.YtbbblnmngjhadaaBf
namespace Go.Proofs.Ytbbblnmngjhadaa.Own
open Go.RowKit Go.Proofs.Ytbbblnmngjhadaa.QFnExactCloseGraph Go.Proofs.YtbbblnmngjhadaaW.PrintWords Go.Proofs.YtbbblnmngjhadaaW.PrintLast Go.Proofs.YtbbblnmngjhadaaW.PrintMore Go.Proofs.YtbbblnmngjhadaaT
set_option linter.unusedVariables false
set_option linter.unusedSimpArgs false

theorem szGraph (s : Int) (l : List S121) (hl : l.length ≤ maxLen) : (laws_szGraph.f s l 1048576 = some (-1) ∧ 1048576 < l.length) ∨ (laws_szGraph.f s l 1048576 = some (1048576 - (l.length : Int)) ∧ l.length ≤ 1048576) := by
  unfold maxLen at hl
  unfold laws_szGraph.f laws_szEdgeS.f
  rw [w64 (by omega) (by omega)]
  by_cases h : l.length ≤ 1048576
  · right
    rw [if_neg (by omega)]
    simp only [Option.bind_some]
    rw [if_neg (by omega)]
    exact ⟨rfl, h⟩
  · left
    rw [if_pos (by omega)]
    simp only [Option.bind_some]
    rw [if_pos (by omega)]
    exact ⟨rfl, by omega⟩
def cvE (e : S121) : S70 := ⟨e.f0, e.f1, e.f2⟩
theorem rdL_at {l : List S121} {i : Nat} (h : i < l.length) : rd_T121 l (i : Int) = l[i] := by
  unfold rd_T121; simp [List.getD_eq_getElem?_getD, h]
theorem toEdgeS_l (x : List S121) (hn : x.length ≤ 4194304) : ∀ (d i : Nat) (y : List S70), i + d = x.length → y.length = x.length → (∀ j, j < i → y[j]? = (x.map cvE)[j]?) → Ev (fun k => laws_toEdgeS.l0 k x y (i : Int)) (x.map cvE)
  | 0, i, y, hd, hy, hj => by
    have e : y = x.map cvE := by
      apply List.ext_getElem?; intro j
      by_cases h : j < i
      · exact hj j h
      · rw [List.getElem?_eq_none (by omega), List.getElem?_eq_none (by simp; omega)]
    subst e
    exact suc (f := fun _ => some (x.map cvE)) (fun k => by rw [laws_toEdgeS.l0, if_neg (by omega)]) now
  | d + 1, i, y, hd, hy, hj => by
    refine suc (f := fun k => laws_toEdgeS.l0 k x (y.set i (cvE (rd_T121 x i))) ((i + 1 : Nat) : Int)) (fun k => ?_) (toEdgeS_l x hn d (i + 1) _ (by omega) (by simp [hy]) (fun j h => ?_))
    · rw [laws_toEdgeS.l0, if_pos (by omega), if_pos (by omega), laws_toEdge.f]
      simp only [Option.bind_some]
      rw [if_pos (by omega), up1 (by omega) (by omega)]; rfl
    · by_cases e : j = i
      · subst e; rw [rdL_at (by omega)]; simp [show j < y.length by omega, show j < x.length by omega]
      · rw [List.getElem?_set_ne (by omega)]; exact hj j (by omega)
theorem toEdgeS (x : List S121) (hn : x.length ≤ 4194304) : Ev (fun k => laws_toEdgeS.f k x) (x.map cvE) := by
  unfold laws_toEdgeS.f
  exact ifp (by omega) (ifp (by simp; omega) (toEdgeS_l x hn x.length 0 _ (by omega) (by simp) (fun j h => by omega)))
theorem toGraph (s : Int) (l : List S121) (hn : l.length ≤ 4194304) : Ev (fun k => laws_toGraph.f k s l) (s, l.map cvE) := by
  unfold laws_toGraph.f
  exact bev (toEdgeS l hn) now
theorem eqEdge (a b c : Int) : laws_eqEdge.f a b c a b c = some true := by
  unfold laws_eqEdge.f
  simp
theorem eqEdgeS_l (x : List S70) (hn : x.length ≤ 4194304) : ∀ (d i : Nat), i + d = x.length → Ev (fun k => laws_eqEdgeS.l0 k x x (i : Int)) true
  | 0, i, hd => suc (f := fun _ => some true) (fun k => by rw [laws_eqEdgeS.l0, if_neg (by omega)]) now
  | d + 1, i, hd => by
    refine suc (f := fun k => laws_eqEdgeS.l0 k x x ((i + 1 : Nat) : Int)) (fun k => ?_) (eqEdgeS_l x hn d (i + 1) (by omega))
    rw [laws_eqEdgeS.l0, if_pos (by omega), if_pos (by omega), if_pos (by omega), eqEdge]
    simp only [Option.bind_some, if_true]
    rw [up1 (by omega) (by omega)]; rfl
theorem eqEdgeS (x : List S70) (hn : x.length ≤ 4194304) : Ev (fun k => laws_eqEdgeS.f k x x) true := by
  unfold laws_eqEdgeS.f
  exact ifp rfl (eqEdgeS_l x hn x.length 0 (by omega))
theorem eqGraph (s : Int) (l : List S70) (hn : l.length ≤ 4194304) : Ev (fun k => laws_eqGraph.f k s l s l) true := by
  unfold laws_eqGraph.f
  exact ifp rfl (bev (eqEdgeS l hn) (ifp rfl now))
def markE (m : Int) : List S70 → List S70
  | [] => []
  | _ :: t => ⟨m, m + 1, m + 1 + 1⟩ :: markE (m + 1 + 1 + 1) t
theorem rdE_mid (a b : List S70) (x : S70) : rd_T70 (a ++ x :: b) (a.length : Int) = x := by unfold rd_T70; simp [List.getD_eq_getElem?_getD]
theorem setE_mid (a b : List S70) (x y : S70) : (a ++ x :: b).set (a.length : Int).toNat y = a ++ y :: b := by simp
theorem markEdgeS_l : ∀ (b a : List S70) (m : Int), 0 ≤ m → m + 3 * b.length ≤ 1073741824 → a.length + b.length ≤ 1073741824 → Ev (fun k => laws_markEdgeS.l0 k (a ++ b) m (a.length : Int)) (m + 3 * b.length, a ++ markE m b)
  | [], a, m, h0, hm, hn => by
    refine eqr (suc (f := fun _ => some (m, a ++ ([] : List S70))) (fun k => by rw [laws_markEdgeS.l0, if_neg (by simp)]) now) ?_
    simp [markE]
  | x :: b, a, m, h0, hm, hn => by
    simp only [List.length_cons] at hm hn
    have ih := markEdgeS_l b (a ++ [⟨m, m + 1, m + 1 + 1⟩]) (m + 1 + 1 + 1) (by omega) (by omega) (by simp only [List.length_append, List.length_cons, List.length_nil]; omega)
    refine eqr (suc (f := fun k => laws_markEdgeS.l0 k (a ++ [⟨m, m + 1, m + 1 + 1⟩] ++ b) (m + 1 + 1 + 1) ((a ++ [(⟨m, m + 1, m + 1 + 1⟩ : S70)]).length : Int)) (fun k => ?_) ih) ?_
    · rw [laws_markEdgeS.l0, if_pos (by simp only [List.length_append, List.length_cons]; omega), if_pos (by omega)]
      simp only [rdE_mid, setE_mid, Option.bind_some]
      rw [w64 (i := m + 1) (by omega) (by omega), w64 (i := m + 1 + 1) (by omega) (by omega), w64 (i := m + 1 + 1 + 1) (by omega) (by omega), w64 (i := (a.length : Int) + 1) (by omega) (by omega)]
      simp
    · simp only [markE, List.length_cons, List.append_assoc, List.singleton_append, Prod.mk.injEq]
      exact ⟨by omega, trivial⟩
theorem markEdgeS (x : List S70) (m : Int) (h0 : 0 ≤ m) (hm : m + 3 * x.length ≤ 1073741824) : Ev (fun k => laws_markEdgeS.f k x m) (m + 3 * x.length, markE m x) := by
  unfold laws_markEdgeS.f
  exact markEdgeS_l x [] m h0 hm (by simp only [List.length_nil]; omega)
theorem markGraph (s : Int) (x : List S70) (m : Int) (h0 : 0 ≤ m) (hm : m + 3 * x.length ≤ 1073741824) : Ev (fun k => laws_markGraph.f k s x m) (m + 3 * x.length, markE m x) := by
  unfold laws_markGraph.f
  exact bev (markEdgeS x m h0 hm) now
theorem eqIntS_l (x : List Int) (hn : x.length ≤ 4194304) : ∀ (d i : Nat), i + d = x.length → Ev (fun k => laws_eqIntS.l0 k x x (i : Int)) true
  | 0, i, hd => suc (f := fun _ => some true) (fun k => by rw [laws_eqIntS.l0, if_neg (by omega)]) now
  | d + 1, i, hd => by
    refine suc (f := fun k => laws_eqIntS.l0 k x x ((i + 1 : Nat) : Int)) (fun k => ?_) (eqIntS_l x hn d (i + 1) (by omega))
    rw [laws_eqIntS.l0, if_pos (by omega), if_pos (by omega), if_pos (by omega), if_pos rfl, up1 (by omega) (by omega)]; rfl
theorem eqIntS (x : List Int) (hn : x.length ≤ 4194304) : Ev (fun k => laws_eqIntS.f k x x) true := by
  unfold laws_eqIntS.f
  exact ifp rfl (eqIntS_l x hn x.length 0 (by omega))
theorem eqTable (s : Int) (l : List Int) (hn : l.length ≤ 4194304) : Ev (fun k => laws_eqTable.f k s l s l) true := by
  unfold laws_eqTable.f
  exact ifp rfl (bev (eqIntS l hn) (ifp rfl now))
def markI (m : Int) : List Int → List Int
  | [] => []
  | _ :: t => m :: markI (m + 1) t
theorem markIntS_l : ∀ (b a : List Int) (m : Int), 0 ≤ m → m + b.length ≤ 1073741824 → a.length + b.length ≤ 1073741824 → Ev (fun k => laws_markIntS.l0 k (a ++ b) m (a.length : Int)) (m + b.length, a ++ markI m b)
  | [], a, m, h0, hm, hn => by
    refine eqr (suc (f := fun _ => some (m, a ++ ([] : List Int))) (fun k => by rw [laws_markIntS.l0, if_neg (by simp)]) now) ?_
    simp [markI]
  | x :: b, a, m, h0, hm, hn => by
    simp only [List.length_cons] at hm hn
    have ih := markIntS_l b (a ++ [m]) (m + 1) (by omega) (by omega) (by simp only [List.length_append, List.length_cons, List.length_nil]; omega)
    refine eqr (suc (f := fun k => laws_markIntS.l0 k (a ++ [m] ++ b) (m + 1) ((a ++ [m]).length : Int)) (fun k => ?_) ih) ?_
    · rw [laws_markIntS.l0, if_pos (by simp only [List.length_append, List.length_cons]; omega), if_pos (by omega), w64 (by omega) (by omega), w64 (by omega) (by omega)]
      simp
    · simp only [markI, List.length_cons, List.append_assoc, List.singleton_append, Prod.mk.injEq]
      exact ⟨by omega, trivial⟩
theorem markIntS (x : List Int) (m : Int) (h0 : 0 ≤ m) (hm : m + x.length ≤ 1073741824) : Ev (fun k => laws_markIntS.f k x m) (m + x.length, markI m x) := by
  unfold laws_markIntS.f
  exact markIntS_l x [] m h0 hm (by simp only [List.length_nil]; omega)
theorem markTable (s : Int) (x : List Int) (m : Int) (h0 : 0 ≤ m) (hm : m + x.length ≤ 1073741824) : Ev (fun k => laws_markTable.f k s x m) (m + x.length, markI m x) := by
  unfold laws_markTable.f
  exact bev (markIntS x m h0 hm) now
theorem heldIntS_l : ∀ (b a : List Int) (m : Int), 0 ≤ m → m + b.length ≤ 1073741824 → a.length + b.length ≤ 1073741824 → Ev (fun k => laws_heldIntS.l0 k (a ++ markI m b) m (a.length : Int)) (m + b.length)
  | [], a, m, h0, hm, hn => by
    refine eqr (suc (f := fun _ => some m) (fun k => by rw [laws_heldIntS.l0, if_neg (by simp [markI])]) now) ?_
    simp
  | x :: b, a, m, h0, hm, hn => by
    simp only [List.length_cons] at hm hn
    have ih := heldIntS_l b (a ++ [m]) (m + 1) (by omega) (by omega) (by simp only [List.length_append, List.length_cons, List.length_nil]; omega)
    refine eqr (suc (f := fun k => laws_heldIntS.l0 k (a ++ [m] ++ markI (m + 1) b) (m + 1) ((a ++ [m]).length : Int)) (fun k => ?_) ih) ?_
    · have e : rd (a ++ markI m (x :: b)) (a.length : Int) = m := by unfold rd; simp [markI, List.getD_eq_getElem?_getD]
      rw [laws_heldIntS.l0, if_pos (by simp only [markI, List.length_append, List.length_cons]; omega), if_pos (by omega), if_pos e, w64 (by omega) (by omega), w64 (by omega) (by omega)]
      simp [markI]
    · simp only [List.length_cons]; omega
theorem heldIntS (x : List Int) (m : Int) (h0 : 0 ≤ m) (hm : m + x.length ≤ 1073741824) : Ev (fun k => laws_heldIntS.f k (markI m x) m) (m + x.length) := by
  unfold laws_heldIntS.f
  exact heldIntS_l x [] m h0 hm (by simp only [List.length_nil]; omega)
theorem heldTable (s : Int) (x : List Int) (m : Int) (h0 : 0 ≤ m) (hm : m + x.length ≤ 1073741824) : Ev (fun k => laws_heldTable.f k s (markI m x) m) (m + x.length) := by
  unfold laws_heldTable.f
  exact bev (heldIntS x m h0 hm) (ifn (by omega) now)
theorem sfLoop_len (es : List E3) (n : Nat) : ∀ (d : Nat) (L : LS), GoodL n L → (sfLoop es d L).1.length ≤ n
  | 0, L, _ => by simp [sfLoop]
  | d + 1, L, h => by
    have h' := good_round (es := es) h
    simp only [sfLoop]
    split
    · show (finL _ _).length ≤ n
      rw [finL_len _ _ (by rw [h'.1, h'.2.2]), h'.1]
      exact Nat.le_refl _
    · exact sfLoop_len es n d _ h'
theorem sfM_len (n : Int) (es : List E3) (s : Int) : (sfM n es s).1.length ≤ 8 := by
  unfold sfM
  split
  · rename_i h
    have h1 := sfLoop_len es n.toNat n.toNat (sfInit n.toNat s.toNat) (good_init _ _)
    have := (graphOk_iff h.1).2.1
    omega
  · simp
def clampB (x : Int) : Int := if x < -1000000 then -1000000 else if x > 1000000 then 1000000 else x
def closeL (n : Int) (es : List E3) : Nat → Nat → List Int → Int × List Int × Bool
  | 0, _, o => (n, o, true)
  | d + 1, i, o => if (sfM n es (i : Int)).2 = true then closeL n es d (i + 1) (o ++ (sfM n es (i : Int)).1.map clampB) else (0, [], false)
theorem closeL_len (n : Int) (es : List E3) : ∀ (d i : Nat) (o : List Int), o.length ≤ 8 * i → (closeL n es d i o).2.1.length ≤ 8 * (i + d)
  | 0, i, o, h => by simpa [closeL] using h
  | d + 1, i, o, h => by
    unfold closeL
    have hs := sfM_len n es (i : Int)
    split
    · have := closeL_len n es d (i + 1) (o ++ (sfM n es (i : Int)).1.map clampB) (by simp only [List.length_append, List.length_map]; omega)
      omega
    · simp
def closeM (n : Int) (es : List E3) : Int × List Int × Bool := if graphOk n es = true then closeL n es n.toNat 0 [] else (0, [], false)
theorem closeM_len (n : Int) (es : List E3) : (closeM n es).2.1.length ≤ 64 := by
  unfold closeM
  split
  · rename_i h
    have h8 := (graphOk_iff h).2.1
    have := closeL_len n es n.toNat 0 [] (by simp)
    omega
  · simp
def tr (e : S70) : E3 := (e.f0, e.f1, e.f2)
theorem tr_rd (l : List S70) (p : Int) : eAt (l.map tr) p = tr (rd_T70 l p) := by
  unfold eAt rd_T70
  simp only [List.getD_eq_getElem?_getD, List.getElem?_map]
  cases l[p.toNat]? <;> rfl
theorem tr0 (l : List S70) (p : Int) : (rd_T70 l p).f0 = (eAt (l.map tr) p).1 := by rw [tr_rd]; rfl
theorem tr1 (l : List S70) (p : Int) : (rd_T70 l p).f1 = (eAt (l.map tr) p).2.1 := by rw [tr_rd]; rfl
theorem tr2 (l : List S70) (p : Int) : (rd_T70 l p).f2 = (eAt (l.map tr) p).2.2 := by rw [tr_rd]; rfl
theorem rdE_at {l : List S70} {i : Nat} (h : i < l.length) : rd_T70 l (i : Int) = l[i] := by
  unfold rd_T70; simp [List.getD_eq_getElem?_getD, h]
theorem badE (n : Int) (e : S70) : badEdge n e = !(edgeOk n (tr e)) := by
  unfold badEdge gNodeB gWeightB edgeOk tr
  rw [Bool.eq_iff_iff]
  simp only [Bool.or_eq_true, Bool.not_eq_true', decide_eq_false_iff_not]
  by_cases h1 : 0 ≤ e.f0 ∧ e.f0 < n <;> by_cases h2 : 0 ≤ e.f1 ∧ e.f1 < n <;> by_cases h3 : -1000000 < e.f2 ∧ e.f2 < 1000000 <;> simp [h1, h2, h3]
theorem iGraphOk (n : Int) (l : List S70) : impl_GraphOk.f n l = some (graphOk n (l.map tr)) := by
  unfold impl_GraphOk.f graphOk
  have e : (!(l.any (badEdge n))) = (l.map tr).all (edgeOk n) := by
    rw [List.all_map, List.all_eq_not_any_not]
    congr 2
    funext x
    simp [badE]
  congr 1
  by_cases h1 : n < 0
  · rw [if_pos h1, decide_eq_false (by omega), Bool.false_and]
  · rw [if_neg h1]
    by_cases h2 : n > 8
    · rw [if_pos h2, decide_eq_false (by omega), Bool.false_and]
    · rw [if_neg h2]
      by_cases h3 : (l.length : Int) > 80
      · rw [if_pos h3, decide_eq_false (by simp only [List.length_map]; omega), Bool.false_and]
      · rw [if_neg h3, decide_eq_true (by simp only [List.length_map]; omega), Bool.true_and, e]
theorem isNode (n x : Int) : impl_isNode.f n x = some (decide (0 ≤ x ∧ x < n)) := by
  unfold impl_isNode.f
  by_cases h : x ≥ 0
  · rw [if_pos h]; congr 1; rw [Bool.eq_iff_iff]; simp only [decide_eq_true_eq]; omega
  · rw [if_neg h]; congr 1; symm; rw [decide_eq_false_iff_not]; omega
theorem rd_mid (a b : List Int) (x : Int) : rd (a ++ x :: b) (a.length : Int) = x := by unfold rd; simp [List.getD_eq_getElem?_getD]
theorem rb_mid (a b : List Bool) (x : Bool) {n : Nat} (h : a.length = n) : rdOf false (a ++ x :: b) (n : Int) = x := by subst h; unfold rdOf; simp [List.getD_eq_getElem?_getD]
theorem set_mid (a b : List Int) (x y : Int) : (a ++ x :: b).set (a.length : Int).toNat y = a ++ y :: b := by simp
theorem iFin : ∀ (ob : List Int) (kb : List Bool) (a : List Int) (ka : List Bool), ka.length = a.length → ob.length = kb.length → a.length + ob.length ≤ 1000 → Ev (fun k => impl_ShortestFrom.l2 k (a ++ ob) (ka ++ kb) ((a.length + ob.length : Nat) : Int) (a.length : Int)) (a ++ finL ob kb, true)
  | [], [], a, ka, hk, ho, hn => by
    simp only [finL]
    exact suc (f := fun _ => some (a ++ [], true)) (fun k => by rw [impl_ShortestFrom.l2, if_neg (by simp)]) now
  | x :: ob, b :: kb, a, ka, hk, ho, hn => by
    simp only [List.length_cons] at ho hn
    have ih := iFin ob kb (a ++ [if b = true then (if x > 1000000 then 1000000 else x) else 1000000]) (ka ++ [b]) (by simp [hk]) (by omega) (by simp only [List.length_append, List.length_cons, List.length_nil]; omega)
    refine eqr (suc (f := fun k => impl_ShortestFrom.l2 k (a ++ [if b = true then (if x > 1000000 then 1000000 else x) else 1000000] ++ ob) (ka ++ [b] ++ kb) (((a ++ [if b = true then (if x > 1000000 then 1000000 else x) else (1000000 : Int)]).length + ob.length : Nat) : Int) ((a ++ [if b = true then (if x > 1000000 then 1000000 else x) else (1000000 : Int)]).length : Int)) (fun k => ?_) ih) (by simp [finL])
    have hlen : (a.length : Int) < ((ka ++ b :: kb).length : Int) := by simp only [List.length_append, List.length_cons]; omega
    have hlen2 : (a.length : Int) < ((a ++ x :: ob).length : Int) := by simp only [List.length_append, List.length_cons]; omega
    rw [impl_ShortestFrom.l2, if_pos (by simp only [List.length_cons]; omega), if_pos (by omega), if_pos hlen, rb_mid ka kb b hk, rd_mid, set_mid, set_mid, w64 (i := (a.length : Int) + 1) (by omega) (by omega)]
    have e1 : (((a ++ [if b = true then (if x > 1000000 then 1000000 else x) else (1000000 : Int)]).length : Nat) : Int) = (a.length : Int) + 1 := by simp
    have e2 : (((a ++ [if b = true then (if x > 1000000 then 1000000 else x) else (1000000 : Int)]).length + ob.length : Nat) : Int) = ((a.length + (x :: ob).length : Nat) : Int) := by simp only [List.length_append, List.length_cons, List.length_nil]; omega
    rw [e1, e2]
    cases b with
    | true =>
      rw [if_pos rfl, if_pos hlen2]
      unfold mn
      by_cases hx : 1000000 < x
      · rw [if_pos hx]; simp [hx]
      · rw [if_neg hx]; simp [hx]
    | false =>
      rw [if_neg (by simp), if_pos hlen2]
      simp only [Option.bind_some]
      rw [rd_mid, set_mid]
      unfold mn
      simp
  | [], b :: kb, a, ka, hk, ho, hn => by simp at ho
  | x :: ob, [], a, ka, hk, ho, hn => by simp at ho
theorem iRound_l (n : Nat) (l : List S70) (hl : l.length ≤ 80) (hv : ValidE n (l.map tr)) (r : Int) (R : List Int × Bool) : ∀ (d i : Nat) (L : LS) (B : Int), i + d = l.length → GoodL n L → SmallL B L → B + 1000000 * d ≤ 1000000000000 → 0 ≤ B →
    Ev (fun k => if decide (0 ≤ (lrnd (l.map tr) i d L).ch) = true then (if r = (n : Int) then some (([] : List Int), false) else impl_ShortestFrom.l0 k (lrnd (l.map tr) i d L).o (lrnd (l.map tr) i d L).k (wrap64 (r + 1)) (n : Int) l) else impl_ShortestFrom.l2 k (lrnd (l.map tr) i d L).o (lrnd (l.map tr) i d L).k ((lrnd (l.map tr) i d L).o.length : Int) 0) R →
    Ev (fun k => impl_ShortestFrom.l1 k L.o L.k r (decide (0 ≤ L.ch)) l (l.length : Int) (i : Int) (n : Int) l) R
  | 0, i, L, B, hd, hg, hs, hB, h0, h => suc (fun k => by rw [impl_ShortestFrom.l1, if_neg (by omega)]; rfl) h
  | d + 1, i, L, B, hd, hg, hs, hB, h0, h => by
    have ih := iRound_l n l hl hv r R d (i + 1) (lstep (l.map tr) i L) (B + 1000000) (by omega) (good_step i hg) (small_step hv (by simp only [List.length_map]; omega) hg hs) (by omega) (by omega) h
    have hu : ∀ k, impl_ShortestFrom.l1 (k + 1) L.o L.k r (decide (0 ≤ L.ch)) l (l.length : Int) (i : Int) (n : Int) l = impl_ShortestFrom.l1 k (lstep (l.map tr) i L).o (lstep (l.map tr) i L).k r (decide (0 ≤ (lstep (l.map tr) i L).ch)) l (l.length : Int) ((i + 1 : Nat) : Int) (n : Int) l := by

      intro k
      obtain ⟨⟨f0, f1⟩, ⟨t0, t1⟩, w0, w1⟩ := hv i (by simp only [List.length_map]; omega)
      obtain ⟨h1, h2, h3⟩ := hg
      have hb := hs _ (rd_mem (l := L.o) f0 (by omega))
      rw [impl_ShortestFrom.l1, if_pos (by omega), if_pos (by omega), if_pos (by omega)]
      simp only [tr0, tr1, tr2]
      rw [up1 (by omega) (by omega), w64 (i := rd L.o _ + _) (by omega) (by omega), if_pos f0, if_pos (by omega), if_pos (by omega)]
      unfold lstep better rb
      by_cases k1 : rdOf false L.k (eAt (l.map tr) i).1 = true
      · rw [if_pos k1, if_pos t0, if_pos (by omega)]
        by_cases k2 : rdOf false L.k (eAt (l.map tr) i).2.1 = true
        · rw [if_pos k2, if_pos (by omega)]
          by_cases c : rd L.o (eAt (l.map tr) i).1 + (eAt (l.map tr) i).2.2 < rd L.o (eAt (l.map tr) i).2.1
          · rw [if_pos c]
            simp only [k1, k2, c, decide_true, Bool.not_true, Bool.false_or, Bool.and_self, if_true]
            rw [show decide (0 ≤ (i : Int)) = true from decide_eq_true (by omega)]; rfl
          · rw [if_neg c]
            simp only [k1, k2, c, decide_false, Bool.not_true, Bool.or_self, Bool.and_false, Bool.false_eq_true, if_false]
            rfl
        · rw [if_neg k2, if_pos (by omega)]
          rw [Bool.not_eq_true] at k2
          simp only [k1, k2, Bool.not_false, Bool.true_or, Bool.and_self, if_true]
          rw [show decide (0 ≤ (i : Int)) = true from decide_eq_true (by omega)]; rfl
      · rw [if_neg k1]
        rw [Bool.not_eq_true] at k1
        simp only [k1, Bool.false_and, Bool.false_eq_true, if_false]
        rfl

    exact suc hu ih
theorem iSf_l (n : Nat) (hn : n ≤ 8) (l : List S70) (hl : l.length ≤ 80) (hv : ValidE n (l.map tr)) : ∀ (d i : Nat) (L : LS) (B : Int), i + d = n → GoodL n L → SmallL B L → B + 80000000 * (d + 1) ≤ 1000000000 → 0 ≤ B →
    Ev (fun k => impl_ShortestFrom.l0 k L.o L.k (i : Int) (n : Int) l) (sfLoop (l.map tr) (d + 1) L) := by
  intro d
  induction d with
  | zero =>
    intro i L B hd hg hs hB h0
    have hg' := good_round (es := l.map tr) hg
    refine suc (f := fun k => impl_ShortestFrom.l1 k L.o L.k (i : Int) false l (l.length : Int) ((0 : Nat) : Int) (n : Int) l) (fun k => by rw [impl_ShortestFrom.l0]; rfl) ?_
    refine iRound_l n l hl hv (i : Int) _ l.length 0 { L with ch := -1 } B (by omega) hg hs (by omega) h0 ?_
    show Ev (fun k => if decide (0 ≤ (lrnd (l.map tr) 0 l.length { L with ch := -1 }).ch) = true then _ else _) _
    have e : lrnd (l.map tr) 0 l.length { L with ch := -1 } = lround (l.map tr) L := by unfold lround; rw [List.length_map]
    rw [e]
    simp only [sfLoop]
    by_cases hq : (lround (l.map tr) L).ch < 0
    · refine ifn (by simpa using hq) ?_
      rw [if_pos hq]
      have := iFin (lround (l.map tr) L).o (lround (l.map tr) L).k [] [] rfl (by rw [hg'.1, hg'.2.2]) (by simp only [List.length_nil]; rw [hg'.1]; omega)
      simp only [List.nil_append, List.length_nil, Nat.zero_add] at this
      exact this
    · rw [if_neg hq]
      exact ifp (by simpa using hq) (ifp (by omega) now)
  | succ d ih =>
    intro i L B hd hg hs hB h0
    have hg' := good_round (es := l.map tr) hg
    have hs' := small_round hv (by simpa using hl) hg hs
    have ih' := ih (i + 1) (lround (l.map tr) L) (B + 80000000) (by omega) hg' hs' (by omega) (by omega)
    refine suc (f := fun k => impl_ShortestFrom.l1 k L.o L.k (i : Int) false l (l.length : Int) ((0 : Nat) : Int) (n : Int) l) (fun k => by rw [impl_ShortestFrom.l0]; rfl) ?_
    refine iRound_l n l hl hv (i : Int) _ l.length 0 { L with ch := -1 } B (by omega) hg hs (by omega) h0 ?_
    show Ev (fun k => if decide (0 ≤ (lrnd (l.map tr) 0 l.length { L with ch := -1 }).ch) = true then _ else _) _
    have e : lrnd (l.map tr) 0 l.length { L with ch := -1 } = lround (l.map tr) L := by unfold lround; rw [List.length_map]
    rw [e]
    show Ev _ (if (lround (l.map tr) L).ch < 0 then _ else sfLoop (l.map tr) (d + 1) (lround (l.map tr) L))
    by_cases hq : (lround (l.map tr) L).ch < 0
    · refine ifn (by simpa using hq) ?_
      rw [if_pos hq]
      have := iFin (lround (l.map tr) L).o (lround (l.map tr) L).k [] [] rfl (by rw [hg'.1, hg'.2.2]) (by simp only [List.length_nil]; rw [hg'.1]; omega)
      simp only [List.nil_append, List.length_nil, Nat.zero_add] at this
      exact this
    · rw [if_neg hq]
      refine ifp (by simpa using hq) (ifn (by omega) ?_)
      rw [up1 (by omega) (by omega)]
      exact ih'
theorem iSf (n : Int) (l : List S70) (s : Int) : Ev (fun k => impl_ShortestFrom.f k n l s) (sfM n (l.map tr) s) := by
  have hf : Ev (fun k => impl_ShortestFrom.j0 k s true n l) ([], false) := suc (f := fun _ => some ([], false)) (fun k => by rw [impl_ShortestFrom.j0, if_pos rfl]) now
  unfold impl_ShortestFrom.f sfM
  refine bnd (iGraphOk n l) ?_
  by_cases hg : graphOk n (l.map tr) = true
  · obtain ⟨h0, h8, hl, _⟩ := graphOk_iff hg
    refine ifp hg (bnd (isNode n s) ?_)
    by_cases hs : 0 ≤ s ∧ s < n
    · rw [show decide (0 ≤ s ∧ s < n) = true from decide_eq_true hs]
      refine eqr ?_ (if_pos ⟨hg, hs⟩).symm
      have hv := valid_of hg
      have h := iSf_l n.toNat (by omega) l (by simpa using hl) hv n.toNat 0 (sfInit n.toNat s.toNat) 0 (by omega) (good_init _ _) (small_init _ _) (by omega) (by omega)
      rw [Int.toNat_of_nonneg h0, sf_once hg hs] at h
      refine suc (fun k => ?_) h
      rw [impl_ShortestFrom.j0, if_neg (by simp), if_pos h0, if_pos (by omega), if_pos (by omega)]
      simp only [Option.bind_some]
      rw [if_pos hs.1, if_pos (by simp only [List.length_replicate]; omega)]
      rfl
    · rw [show decide (0 ≤ s ∧ s < n) = false from decide_eq_false hs]
      exact eqr hf (if_neg (fun h => hs h.2)).symm
  · exact eqr (ifn hg hf) (if_neg (fun h => hg h.1)).symm
theorem iClamp (x : Int) : impl_ClampBound.f x = some (clampB x) := by
  unfold impl_ClampBound.f clampB mx mn
  congr 1
  repeat' split
  all_goals omega

theorem iCl_in (n : Int) (l : List S70) (i : Nat) (hi8 : i ≤ 8) (r : List Int) (hr : r.length ≤ 8) (R : Int × List Int × Bool) : ∀ (d j : Nat) (o : List Int), j + d = r.length → o.length + d ≤ 100000 →
    Ev (fun k => impl_CloseGraph.l0 k ((i + 1 : Nat) : Int) n l n (o ++ (r.drop j).map clampB)) R → Ev (fun k => impl_CloseGraph.l1 k (i : Int) r (r.length : Int) (j : Int) n l n o) R
  | 0, j, o, hd, ho, h => by
    rw [List.drop_eq_nil_of_le (by omega), List.map_nil, List.append_nil] at h
    exact suc (f := fun k => impl_CloseGraph.l0 k ((i + 1 : Nat) : Int) n l n o) (fun k => by rw [impl_CloseGraph.l1, if_neg (by omega), up1 (by omega) (by omega)]; rfl) h
  | d + 1, j, o, hd, ho, h => by
    have hj : j < r.length := by omega
    have e : rd r (j : Int) = r[j] := by unfold rd; simp [List.getD_eq_getElem?_getD, hj]
    rw [List.drop_eq_getElem_cons hj, List.map_cons, ← e] at h
    refine suc (f := fun k => impl_CloseGraph.l1 k (i : Int) r (r.length : Int) ((j + 1 : Nat) : Int) n l n (o ++ [clampB (rd r (j : Int))])) (fun k => ?_) (iCl_in n l i hi8 r hr R d (j + 1) _ (by omega) (by simp only [List.length_append, List.length_cons, List.length_nil]; omega) (by rw [List.append_assoc]; exact h))
    rw [impl_CloseGraph.l1, if_pos (by omega), if_pos (by omega), if_pos (by omega), iClamp, up1 (by omega) (by omega)]
    simp only [Option.bind_some]
    rw [if_pos (by omega)]; rfl
theorem iCl (n : Nat) (hn : n ≤ 8) (l : List S70) : ∀ (d i : Nat) (o : List Int), i + d = n → o.length ≤ 8 * i → Ev (fun k => impl_CloseGraph.l0 k (i : Int) (n : Int) l (n : Int) o) (closeL n (l.map tr) d i o)
  | 0, i, o, hd, ho => by
    simp only [closeL]
    exact suc (f := fun _ => some ((n : Int), o, true)) (fun k => by rw [impl_CloseGraph.l0, if_neg (by omega)]) now
  | d + 1, i, o, hd, ho => by
    simp only [closeL]
    have hs := sfM_len n (l.map tr) (i : Int)
    refine suc (fun k => by rw [impl_CloseGraph.l0, if_pos (by omega)]) ?_
    refine bev (iSf n l (i : Int)) ?_
    by_cases h : (sfM n (l.map tr) (i : Int)).2 = true
    · rw [if_pos h]
      refine ifp h (iCl_in n l i (by omega) _ hs _ (sfM n (l.map tr) (i : Int)).1.length 0 o (by omega) (by omega) ?_)
      rw [List.drop_zero]
      exact iCl n hn l d (i + 1) _ (by omega) (by simp only [List.length_append, List.length_map]; omega)
    · rw [if_neg h]
      exact ifn h now
theorem iClose (n : Int) (l : List S70) : Ev (fun k => impl_CloseGraph.f k n l) (closeM n (l.map tr)) := by
  unfold impl_CloseGraph.f closeM
  refine bnd (iGraphOk n l) ?_
  by_cases h : graphOk n (l.map tr) = true
  · rw [if_pos h]
    have h8 := (graphOk_iff h).2.1
    have h0 := (graphOk_iff h).1
    obtain ⟨m, rfl⟩ : ∃ m : Nat, n = (m : Int) := ⟨n.toNat, by omega⟩
    exact ifp h (iCl m (by omega) l m 0 [] (by omega) (by simp))
  · rw [if_neg h]; exact ifn h now
theorem sRound_l (n : Nat) (l : List S70) (hl : l.length ≤ 80) (hv : ValidE n (l.map tr)) : ∀ (d i : Nat) (L : LS) (B : Int), i + d = l.length → GoodL n L → SmallL B L → B + 1000000 * d ≤ 1000000000000 → 0 ≤ B →
    Ev (fun k => spec_l03Round.l0 k L.o L.l L.k L.ch l (l.length : Int) (i : Int)) ((lrnd (l.map tr) i d L).ch, (lrnd (l.map tr) i d L).o, (lrnd (l.map tr) i d L).l, (lrnd (l.map tr) i d L).k)
  | 0, i, L, B, hd, hg, hs, hB, h0 => suc (f := fun _ => some (L.ch, L.o, L.l, L.k)) (fun k => by rw [spec_l03Round.l0, if_neg (by omega)]) now
  | d + 1, i, L, B, hd, hg, hs, hB, h0 => by
    have ih := sRound_l n l hl hv d (i + 1) (lstep (l.map tr) i L) (B + 1000000) (by omega) (good_step i hg) (small_step hv (by simp only [List.length_map]; omega) hg hs) (by omega) (by omega)
    have hu : ∀ k, spec_l03Round.l0 (k + 1) L.o L.l L.k L.ch l (l.length : Int) (i : Int) = spec_l03Round.l0 k (lstep (l.map tr) i L).o (lstep (l.map tr) i L).l (lstep (l.map tr) i L).k (lstep (l.map tr) i L).ch l (l.length : Int) ((i + 1 : Nat) : Int) := by

      intro k
      obtain ⟨⟨f0, f1⟩, ⟨t0, t1⟩, w0, w1⟩ := hv i (by simp only [List.length_map]; omega)
      obtain ⟨h1, h2, h3⟩ := hg
      have hb := hs _ (rd_mem (l := L.o) f0 (by omega))
      rw [spec_l03Round.l0, if_pos (by omega), if_pos (by omega), if_pos (by omega)]
      simp only [tr0, tr1, tr2]
      rw [up1 (by omega) (by omega), w64 (i := rd L.o _ + _) (by omega) (by omega), if_pos f0, if_pos (by omega)]
      unfold lstep better rb
      by_cases k1 : rdOf false L.k (eAt (l.map tr) i).1 = true
      · rw [if_pos k1, if_pos t0, if_pos (by omega)]
        by_cases k2 : rdOf false L.k (eAt (l.map tr) i).2.1 = true
        · rw [if_pos k2, if_pos (by omega), if_pos (by omega)]
          by_cases c : rd L.o (eAt (l.map tr) i).1 + (eAt (l.map tr) i).2.2 < rd L.o (eAt (l.map tr) i).2.1
          · rw [if_pos c, if_pos (by omega)]
            simp only [k1, k2, c, decide_true, Bool.not_true, Bool.false_or, Bool.and_self, if_true]
            rfl
          · rw [if_neg c]
            simp only [k1, k2, c, decide_false, Bool.not_true, Bool.or_self, Bool.and_false, Bool.false_eq_true, if_false]
            rfl
        · rw [if_neg k2, if_pos (by omega), if_pos (by omega), if_pos (by omega)]
          rw [Bool.not_eq_true] at k2
          simp only [k1, k2, Bool.not_false, Bool.true_or, Bool.and_self, if_true]
          rfl
      · rw [if_neg k1]
        rw [Bool.not_eq_true] at k1
        simp only [k1, Bool.false_and, Bool.false_eq_true, if_false]
        rfl

    exact suc hu ih
theorem sRound (n : Nat) (m : Int) (l : List S70) (hl : l.length ≤ 80) (hv : ValidE n (l.map tr)) (L : LS) (B : Int) (hg : GoodL n L) (hs : SmallL B L) (hB : B ≤ 100000000000) (h0 : 0 ≤ B) :
    Ev (fun k => spec_l03Round.f k m l L.o L.l L.k) ((lround (l.map tr) L).ch, (lround (l.map tr) L).o, (lround (l.map tr) L).l, (lround (l.map tr) L).k) := by
  unfold spec_l03Round.f lround
  have := sRound_l n l hl hv l.length 0 { L with ch := -1 } B (by omega) hg hs (by omega) h0
  rw [List.length_map]
  exact this
theorem l01In (n a b : Int) : spec_l01In.f n a b = some (decide (a ≤ n ∧ n ≤ b)) := by
  unfold spec_l01In.f
  by_cases h : n ≥ a
  · rw [if_pos h]; congr 1; rw [Bool.eq_iff_iff]; simp only [decide_eq_true_eq]; omega
  · rw [if_neg h]; congr 1; symm; rw [decide_eq_false_iff_not]; omega
theorem in_node {s i : Int} (h0 : 0 ≤ s) (h8 : s ≤ 8) : spec_l01In.f i 0 (wrap64 (s - 1)) = some (decide (0 ≤ i ∧ i < s)) := by
  rw [l01In, w64 (by omega) (by omega)]
  congr 1
  rw [Bool.eq_iff_iff]
  simp only [decide_eq_true_eq]
  omega
theorem tableOk_s {s : Int} {l : List Int} (h : tableOk s l = true) : 0 ≤ s ∧ s ≤ 8 ∧ (l.length : Int) = s * s := by
  unfold tableOk at h; simp only [Bool.and_eq_true, decide_eq_true_eq] at h; exact h.1
theorem sGraphOk_l (n : Int) (l : List S70) (h0 : 0 ≤ n) (h8 : n ≤ 8) (hl : l.length ≤ 80) : ∀ (d i : Nat), i + d = l.length → Ev (fun k => spec_GraphOk.l0 k l (l.length : Int) (i : Int) n l) (allF (fun j => edgeOk n ((l.map tr).getD j (0, 0, 0))) i d)
  | 0, i, hd => suc (f := fun _ => some true) (fun k => by rw [spec_GraphOk.l0, if_neg (by omega)]) now
  | d + 1, i, hd => by
    have ih := sGraphOk_l n l h0 h8 hl d (i + 1) (by omega)
    simp only [allF]
    have e0 : (l.map tr).getD i (0, 0, 0) = eAt (l.map tr) (i : Int) := rfl
    rw [e0]
    have hu : ∀ k, spec_GraphOk.l0 (k + 1) l (l.length : Int) (i : Int) n l = (if 0 ≤ (eAt (l.map tr) i).1 ∧ (eAt (l.map tr) i).1 < n then (if 0 ≤ (eAt (l.map tr) i).2.1 ∧ (eAt (l.map tr) i).2.1 < n then (if -1000000 < (eAt (l.map tr) i).2.2 ∧ (eAt (l.map tr) i).2.2 < 1000000 then spec_GraphOk.l0 k l (l.length : Int) ((i + 1 : Nat) : Int) n l else some false) else some false) else some false) := by
      intro k
      rw [spec_GraphOk.l0, if_pos (by omega), if_pos (by omega), if_pos (by omega), in_node h0 h8, in_node h0 h8, l01In, tr0, tr1, tr2, up1 (by omega) (by omega)]
      simp only [Option.bind_some, decide_eq_true_eq]
      have : (-999999 ≤ (eAt (l.map tr) ↑i).2.2 ∧ (eAt (l.map tr) ↑i).2.2 ≤ 999999) = (-1000000 < (eAt (l.map tr) ↑i).2.2 ∧ (eAt (l.map tr) ↑i).2.2 < 1000000) := by apply propext; omega
      simp only [this]; rfl
    refine suc hu ?_
    unfold edgeOk
    by_cases h1 : 0 ≤ (eAt (l.map tr) i).1 ∧ (eAt (l.map tr) i).1 < n
    · refine ifp h1 ?_
      by_cases h2 : 0 ≤ (eAt (l.map tr) i).2.1 ∧ (eAt (l.map tr) i).2.1 < n
      · refine ifp h2 ?_
        by_cases h3 : -1000000 < (eAt (l.map tr) i).2.2 ∧ (eAt (l.map tr) i).2.2 < 1000000
        · rw [decide_eq_true ⟨h1, h2, h3⟩, Bool.true_and]
          exact ifp h3 ih
        · rw [decide_eq_false (fun x => h3 x.2.2), Bool.false_and]
          exact ifn h3 now
      · rw [decide_eq_false (fun x => h2 x.2.1), Bool.false_and]
        exact ifn h2 now
    · rw [decide_eq_false (fun x => h1 x.1), Bool.false_and]
      exact ifn h1 now
theorem sGraphOk (n : Int) (l : List S70) : Ev (fun k => spec_GraphOk.f k n l) (graphOk n (l.map tr)) := by
  unfold spec_GraphOk.f graphOk
  refine bnd (l01In n 0 8) ?_
  by_cases h : 0 ≤ n ∧ n ≤ 8
  · refine ifp (decide_eq_true h) ?_
    by_cases hl : l.length ≤ 80
    · have e : (decide (0 ≤ n ∧ n ≤ 8 ∧ (l.map tr).length ≤ 80) && (l.map tr).all (edgeOk n)) = allF (fun j => edgeOk n ((l.map tr).getD j (0, 0, 0))) 0 l.length := by
        rw [decide_eq_true (show 0 ≤ n ∧ n ≤ 8 ∧ (l.map tr).length ≤ 80 from ⟨h.1, h.2, by simpa using hl⟩), Bool.true_and, ← allF_all (0, 0, 0), List.length_map]
      rw [show decide ((l.length : Int) > 80) = false from decide_eq_false (by omega)]
      exact eqr (suc (f := fun k => spec_GraphOk.l0 k l (l.length : Int) ((0 : Nat) : Int) n l) (fun k => by rw [spec_GraphOk.j0, if_neg (by simp)]; rfl) (sGraphOk_l n l h.1 h.2 hl l.length 0 (by omega))) e.symm
    · have e : (decide (0 ≤ n ∧ n ≤ 8 ∧ (l.map tr).length ≤ 80) && (l.map tr).all (edgeOk n)) = false := by
        rw [decide_eq_false (show ¬ (0 ≤ n ∧ n ≤ 8 ∧ (l.map tr).length ≤ 80) from fun x => hl (by simpa using x.2.2)), Bool.false_and]
      rw [show decide ((l.length : Int) > 80) = true from decide_eq_true (by omega)]
      exact eqr (suc (f := fun _ => some false) (fun k => by rw [spec_GraphOk.j0, if_pos rfl]) now) e.symm
  · have e : (decide (0 ≤ n ∧ n ≤ 8 ∧ (l.map tr).length ≤ 80) && (l.map tr).all (edgeOk n)) = false := by
      rw [decide_eq_false (show ¬ (0 ≤ n ∧ n ≤ 8 ∧ (l.map tr).length ≤ 80) from fun x => h ⟨x.1, x.2.1⟩), Bool.false_and]
    exact eqr (ifn (by simpa using h) (suc (f := fun _ => some false) (fun k => by rw [spec_GraphOk.j0, if_pos rfl]) now)) e.symm
theorem sFin : ∀ (ob : List Int) (kb : List Bool) (a : List Int) (ka : List Bool), ka.length = a.length → ob.length = kb.length → a.length + ob.length ≤ 1000 → Ev (fun k => spec_ShortestFrom.l1 k (a ++ ob) (ka ++ kb) ((a.length + ob.length : Nat) : Int) (a.length : Int)) (a ++ finL ob kb, true)
  | [], [], a, ka, hk, ho, hn => by
    simp only [finL]
    exact suc (f := fun _ => some (a ++ [], true)) (fun k => by rw [spec_ShortestFrom.l1, if_neg (by simp)]) now
  | x :: ob, b :: kb, a, ka, hk, ho, hn => by
    simp only [List.length_cons] at ho hn
    have ih := sFin ob kb (a ++ [if b = true then (if x > 1000000 then 1000000 else x) else 1000000]) (ka ++ [b]) (by simp [hk]) (by omega) (by simp only [List.length_append, List.length_cons, List.length_nil]; omega)
    refine eqr (suc (f := fun k => spec_ShortestFrom.l1 k (a ++ [if b = true then (if x > 1000000 then 1000000 else x) else 1000000] ++ ob) (ka ++ [b] ++ kb) (((a ++ [if b = true then (if x > 1000000 then 1000000 else x) else (1000000 : Int)]).length + ob.length : Nat) : Int) ((a ++ [if b = true then (if x > 1000000 then 1000000 else x) else (1000000 : Int)]).length : Int)) (fun k => ?_) ih) (by simp [finL])
    have hlen : (a.length : Int) < ((ka ++ b :: kb).length : Int) := by simp only [List.length_append, List.length_cons]; omega
    have hlen2 : (a.length : Int) < ((a ++ x :: ob).length : Int) := by simp only [List.length_append, List.length_cons]; omega
    rw [spec_ShortestFrom.l1, if_pos (by simp only [List.length_cons]; omega), if_pos (by omega), if_pos hlen, rb_mid ka kb b hk, rd_mid, set_mid, w64 (i := (a.length : Int) + 1) (by omega) (by omega)]
    have e1 : (((a ++ [if b = true then (if x > 1000000 then 1000000 else x) else (1000000 : Int)]).length : Nat) : Int) = (a.length : Int) + 1 := by simp
    have e2 : (((a ++ [if b = true then (if x > 1000000 then 1000000 else x) else (1000000 : Int)]).length + ob.length : Nat) : Int) = ((a.length + (x :: ob).length : Nat) : Int) := by simp only [List.length_append, List.length_cons, List.length_nil]; omega
    rw [e1, e2]
    cases b with
    | true =>
      rw [if_pos rfl, if_pos hlen2]
      by_cases hx : x > 1000000
      · rw [if_pos hx]; simp [hx]
      · rw [if_neg hx]; simp [hx]
    | false =>
      rw [if_neg (by simp), if_pos hlen2]; simp
  | [], b :: kb, a, ka, hk, ho, hn => by simp at ho
  | x :: ob, [], a, ka, hk, ho, hn => by simp at ho
theorem sSf_l (n : Nat) (hn : n ≤ 8) (l : List S70) (hl : l.length ≤ 80) (hv : ValidE n (l.map tr)) : ∀ (d i : Nat) (L : LS) (B : Int), i + d = n → GoodL n L → SmallL B L → B + 80000000 * d ≤ 1000000000 → 0 ≤ B →
    Ev (fun k => spec_ShortestFrom.l0 k L.o L.l L.k (i : Int) (n : Int) l) (sfLoop (l.map tr) d L)
  | 0, i, L, B, hd, hg, hs, hB, h0 => by
    simp only [sfLoop]
    exact suc (f := fun _ => some ([], false)) (fun k => by rw [spec_ShortestFrom.l0, if_neg (by omega)]) now
  | d + 1, i, L, B, hd, hg, hs, hB, h0 => by
    have hg' := good_round (es := l.map tr) hg
    have hs' := small_round hv (by simpa using hl) hg hs
    have ih := sSf_l n hn l hl hv d (i + 1) (lround (l.map tr) L) (B + 80000000) (by omega) hg' hs' (by omega) (by omega)
    have hr := sRound n (n : Int) l hl hv L B hg hs (by omega) h0
    simp only [sfLoop]
    refine suc (f := fun k => (spec_l03Round.f k (n : Int) l L.o L.l L.k).bind fun bt => if bt.1 < 0 then spec_ShortestFrom.l1 k bt.2.1 bt.2.2.2 (L.o.length : Int) 0 else spec_ShortestFrom.l0 k bt.2.1 bt.2.2.1 bt.2.2.2 ((i + 1 : Nat) : Int) (n : Int) l) (fun k => ?_) (bev hr ?_)
    · rw [spec_ShortestFrom.l0, if_pos (by omega), up1 (by omega) (by omega)]; rfl
    · by_cases hq : (lround (l.map tr) L).ch < 0
      · refine ifp hq ?_
        rw [if_pos hq]
        have := sFin (lround (l.map tr) L).o (lround (l.map tr) L).k [] [] rfl (by rw [hg'.1, hg'.2.2]) (by simp only [List.length_nil]; rw [hg'.1]; omega)
        simp only [List.nil_append, List.length_nil, Nat.zero_add, hg'.1] at this
        rw [hg.1]
        exact this
      · refine ifn hq ?_
        rw [if_neg hq]
        exact ih
theorem sSf (n : Int) (l : List S70) (s : Int) : Ev (fun k => spec_ShortestFrom.f k n l s) (sfM n (l.map tr) s) := by
  have hf : Ev (fun k => spec_ShortestFrom.j0 k s true n l) ([], false) := suc (f := fun _ => some ([], false)) (fun k => by rw [spec_ShortestFrom.j0, if_pos rfl]) now
  unfold spec_ShortestFrom.f sfM
  refine bev (sGraphOk n l) ?_
  by_cases hg : graphOk n (l.map tr) = true
  · obtain ⟨h0, h8, hl, _⟩ := graphOk_iff hg
    refine ifp hg (bnd (in_node h0 h8) ?_)
    by_cases hs : 0 ≤ s ∧ s < n
    · rw [show decide (0 ≤ s ∧ s < n) = true from decide_eq_true hs]
      refine eqr ?_ (if_pos ⟨hg, hs⟩).symm
      have hv := valid_of hg
      have h := sSf_l n.toNat (by omega) l (by simpa using hl) hv n.toNat 0 (sfInit n.toNat s.toNat) 0 (by omega) (good_init _ _) (small_init _ _) (by omega) (by omega)
      rw [Int.toNat_of_nonneg h0] at h
      refine suc (fun k => ?_) h
      rw [spec_ShortestFrom.j0, if_neg (by simp), if_pos h0, if_pos (by omega), if_pos (by omega)]
      simp only [Option.bind_some]
      rw [if_pos hs.1, if_pos (by simp only [List.length_replicate]; omega)]
      rfl
    · rw [show decide (0 ≤ s ∧ s < n) = false from decide_eq_false hs]
      exact eqr hf (if_neg (fun h => hs h.2)).symm
  · exact eqr (ifn hg hf) (if_neg (fun h => hg h.1)).symm
theorem sClamp (x : Int) : spec_ClampBound.f x = some (clampB x) := by
  unfold spec_ClampBound.f clampB
  repeat' split
  all_goals rfl

theorem sCl_in (n : Int) (l : List S70) (i : Nat) (hi8 : i ≤ 8) (r : List Int) (hr : r.length ≤ 8) (R : Int × List Int × Bool) : ∀ (d j : Nat) (o : List Int), j + d = r.length → o.length + d ≤ 100000 →
    Ev (fun k => spec_CloseGraph.l0 k ((i + 1 : Nat) : Int) n l n (o ++ (r.drop j).map clampB)) R → Ev (fun k => spec_CloseGraph.l1 k (i : Int) r (r.length : Int) (j : Int) n l n o) R
  | 0, j, o, hd, ho, h => by
    rw [List.drop_eq_nil_of_le (by omega), List.map_nil, List.append_nil] at h
    exact suc (f := fun k => spec_CloseGraph.l0 k ((i + 1 : Nat) : Int) n l n o) (fun k => by rw [spec_CloseGraph.l1, if_neg (by omega), up1 (by omega) (by omega)]; rfl) h
  | d + 1, j, o, hd, ho, h => by
    have hj : j < r.length := by omega
    have e : rd r (j : Int) = r[j] := by unfold rd; simp [List.getD_eq_getElem?_getD, hj]
    rw [List.drop_eq_getElem_cons hj, List.map_cons, ← e] at h
    refine suc (f := fun k => spec_CloseGraph.l1 k (i : Int) r (r.length : Int) ((j + 1 : Nat) : Int) n l n (o ++ [clampB (rd r (j : Int))])) (fun k => ?_) (sCl_in n l i hi8 r hr R d (j + 1) _ (by omega) (by simp only [List.length_append, List.length_cons, List.length_nil]; omega) (by rw [List.append_assoc]; exact h))
    rw [spec_CloseGraph.l1, if_pos (by omega), if_pos (by omega), if_pos (by omega), sClamp, up1 (by omega) (by omega)]
    simp only [Option.bind_some]
    rw [if_pos (by omega)]; rfl
theorem sCl (n : Nat) (hn : n ≤ 8) (l : List S70) : ∀ (d i : Nat) (o : List Int), i + d = n → o.length ≤ 8 * i → Ev (fun k => spec_CloseGraph.l0 k (i : Int) (n : Int) l (n : Int) o) (closeL n (l.map tr) d i o)
  | 0, i, o, hd, ho => by
    simp only [closeL]
    exact suc (f := fun _ => some ((n : Int), o, true)) (fun k => by rw [spec_CloseGraph.l0, if_neg (by omega)]) now
  | d + 1, i, o, hd, ho => by
    simp only [closeL]
    have hs := sfM_len n (l.map tr) (i : Int)
    refine suc (fun k => by rw [spec_CloseGraph.l0, if_pos (by omega)]) ?_
    refine bev (sSf n l (i : Int)) ?_
    by_cases h : (sfM n (l.map tr) (i : Int)).2 = true
    · rw [if_pos h]
      refine ifp h (sCl_in n l i (by omega) _ hs _ (sfM n (l.map tr) (i : Int)).1.length 0 o (by omega) (by omega) ?_)
      rw [List.drop_zero]
      exact sCl n hn l d (i + 1) _ (by omega) (by simp only [List.length_append, List.length_map]; omega)
    · rw [if_neg h]
      exact ifn h now
theorem sClose (n : Int) (l : List S70) : Ev (fun k => spec_CloseGraph.f k n l) (closeM n (l.map tr)) := by
  unfold spec_CloseGraph.f closeM
  refine bev (sGraphOk n l) ?_
  by_cases h : graphOk n (l.map tr) = true
  · rw [if_pos h]
    have h8 := (graphOk_iff h).2.1
    have h0 := (graphOk_iff h).1
    obtain ⟨m, rfl⟩ : ∃ m : Nat, n = (m : Int) := ⟨n.toNat, by omega⟩
    exact ifp h (sCl m (by omega) l m 0 [] (by omega) (by simp))
  · rw [if_neg h]; exact ifn h now

theorem FnExactCloseGraph : laws_FnExactCloseGraph.Pure := by
  intro s l _ hl _
  refine Ev.rounds ?_
  unfold laws_FnExactCloseGraph.f
  rcases szGraph s l hl with ⟨h, _⟩ | ⟨h, hn⟩
  · exact bnd h (ifp (by omega) now)
  · refine bnd h (ifn (by omega) ?_)
    have ht := toGraph s l (by omega)
    have hc : (l.map cvE).length ≤ 4194304 := by simp only [List.length_map]; omega

    have hq := closeM_len s ((l.map cvE).map tr)
    have hi := iClose s (l.map cvE)
    have hs := sClose s (l.map cvE)
    generalize closeM s ((l.map cvE).map tr) = r at hq hi hs
    obtain ⟨r1, r2, r3⟩ := r
    simp only at hq
    have he := eqTable r1 r2 (by omega)
    have hm := markTable r1 r2 1 (by omega) (by omega)
    have hh := heldTable r1 r2 1 (by omega) (by omega)
    have hc3 : 1 + 3 * ((l.map cvE).length : Int) ≤ 1073741824 := by omega
    have hc4 : ¬ (1 + 3 * ((l.map cvE).length : Int) < 0) := by omega
    refine bev ht (bev hs (bev ht (bev hi (bev he (ifp rfl (suc (fun k => by rw [laws_FnExactCloseGraph.j0, if_neg (by simp)]) ?_))))))
    refine bev ht (bev (eqGraph s _ hc) (ifp rfl (bev (markGraph s _ 1 (by omega) hc3) (ifn hc4 (bev he (ifp rfl (suc (fun k => by rw [laws_FnExactCloseGraph.j1, if_neg (by simp)]) ?_)))))))
    refine bev hm (bev hh (ifn (by omega) (ifp rfl (bev ht (bev hi (bev he (ifp rfl (suc (fun k => by rw [laws_FnExactCloseGraph.j2, if_neg (by simp)]) ?_))))))))
    exact bev hh (ifn (by omega) (ifp rfl now))

end Go.Proofs.Ytbbblnmngjhadaa.Own
