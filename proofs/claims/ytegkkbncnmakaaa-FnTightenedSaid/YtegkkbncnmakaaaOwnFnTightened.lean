/- The law FnTightened answers true for every code. No condition. -/
import Derived.Test.YtegkkbncnmakaaaQFnTightenedx8
import Derived.Test.YtegkkbncnmakaaaNc
namespace Go.Proofs.Ytegkkbncnmakaaa.Own
open Go.RowKit Go.Proofs.Ytegkkbncnmakaaa.QFnTightened Go.Proofs.YtegkkbncnmakaaaW.PrintWords Go.Proofs.YtegkkbncnmakaaaW.PrintLast Go.Proofs.YtegkkbncnmakaaaW.PrintMore Go.Proofs.YtegkkbncnmakaaaT Go.Proofs.YtegkkbncnmakaaaT Go.Proofs.YtegkkbncnmakaaaT
set_option linter.unusedVariables false
set_option linter.unusedSimpArgs false

theorem sfLoop_len (es : List E3) (n : Nat) : ∀ (d : Nat) (L : LS), GoodL n L → (sfLoop es d L).1.length ≤ n
  | 0, L, _ => by simp [sfLoop]
  | d + 1, L, h => by
    have h' := good_round (es := es) h
    simp only [sfLoop]
    split
    · show (finL _ _).length ≤ n
      rw [finL_len _ _ (by rw [h'.1, h'.2.2]), h'.1]
      exact Nat.le_refl _
    · exact sfLoop_len es n d _ h'
theorem sfM_len (n : Int) (es : List E3) (s : Int) : (sfM n es s).1.length ≤ 8 := by
  unfold sfM
  split
  · rename_i h
    have h1 := sfLoop_len es n.toNat n.toNat (sfInit n.toNat s.toNat) (good_init _ _)
    have := (graphOk_iff h.1).2.1
    omega
  · simp
def clampB (x : Int) : Int := if x < -1000000 then -1000000 else if x > 1000000 then 1000000 else x
def closeL (n : Int) (es : List E3) : Nat → Nat → List Int → Int × List Int × Bool
  | 0, _, o => (n, o, true)
  | d + 1, i, o => if (sfM n es (i : Int)).2 = true then closeL n es d (i + 1) (o ++ (sfM n es (i : Int)).1.map clampB) else (0, [], false)
theorem closeL_len (n : Int) (es : List E3) : ∀ (d i : Nat) (o : List Int), o.length ≤ 8 * i → (closeL n es d i o).2.1.length ≤ 8 * (i + d)
  | 0, i, o, h => by simpa [closeL] using h
  | d + 1, i, o, h => by
    unfold closeL
    have hs := sfM_len n es (i : Int)
    split
    · have := closeL_len n es d (i + 1) (o ++ (sfM n es (i : Int)).1.map clampB) (by simp only [List.length_append, List.length_map]; omega)
      omega
    · simp
def closeM (n : Int) (es : List E3) : Int × List Int × Bool := if graphOk n es = true then closeL n es n.toNat 0 [] else (0, [], false)
theorem closeM_len (n : Int) (es : List E3) : (closeM n es).2.1.length ≤ 64 := by
  unfold closeM
  split
  · rename_i h
    have h8 := (graphOk_iff h).2.1
    have := closeL_len n es n.toNat 0 [] (by simp)
    omega
  · simp
def tr (e : S39) : E3 := (e.f0, e.f1, e.f2)
theorem tr_rd (l : List S39) (p : Int) : eAt (l.map tr) p = tr (rd_T39 l p) := by
  unfold eAt rd_T39
  simp only [List.getD_eq_getElem?_getD, List.getElem?_map]
  cases l[p.toNat]? <;> rfl
theorem tr0 (l : List S39) (p : Int) : (rd_T39 l p).f0 = (eAt (l.map tr) p).1 := by rw [tr_rd]; rfl
theorem tr1 (l : List S39) (p : Int) : (rd_T39 l p).f1 = (eAt (l.map tr) p).2.1 := by rw [tr_rd]; rfl
theorem tr2 (l : List S39) (p : Int) : (rd_T39 l p).f2 = (eAt (l.map tr) p).2.2 := by rw [tr_rd]; rfl
theorem rdE_at {l : List S39} {i : Nat} (h : i < l.length) : rd_T39 l (i : Int) = l[i] := by
  unfold rd_T39; simp [List.getD_eq_getElem?_getD, h]
theorem badE (n : Int) (e : S39) : badEdge n e = !(edgeOk n (tr e)) := by
  unfold badEdge gNodeB gWeightB edgeOk tr
  rw [Bool.eq_iff_iff]
  simp only [Bool.or_eq_true, Bool.not_eq_true', decide_eq_false_iff_not]
  by_cases h1 : 0 ≤ e.f0 ∧ e.f0 < n <;> by_cases h2 : 0 ≤ e.f1 ∧ e.f1 < n <;> by_cases h3 : -1000000 < e.f2 ∧ e.f2 < 1000000 <;> simp [h1, h2, h3]
theorem iGraphOk (n : Int) (l : List S39) : impl_GraphOk.f n l = some (graphOk n (l.map tr)) := by
  unfold impl_GraphOk.f graphOk
  have e : (!(l.any (badEdge n))) = (l.map tr).all (edgeOk n) := by
    rw [List.all_map, List.all_eq_not_any_not]
    congr 2
    funext x
    simp [badE]
  congr 1
  by_cases h1 : n < 0
  · rw [if_pos h1, decide_eq_false (by omega), Bool.false_and]
  · rw [if_neg h1]
    by_cases h2 : n > 8
    · rw [if_pos h2, decide_eq_false (by omega), Bool.false_and]
    · rw [if_neg h2]
      by_cases h3 : (l.length : Int) > 80
      · rw [if_pos h3, decide_eq_false (by simp only [List.length_map]; omega), Bool.false_and]
      · rw [if_neg h3, decide_eq_true (by simp only [List.length_map]; omega), Bool.true_and, e]
theorem isNode (n x : Int) : impl_isNode.f n x = some (decide (0 ≤ x ∧ x < n)) := by
  unfold impl_isNode.f
  by_cases h : x ≥ 0
  · rw [if_pos h]; congr 1; rw [Bool.eq_iff_iff]; simp only [decide_eq_true_eq]; omega
  · rw [if_neg h]; congr 1; symm; rw [decide_eq_false_iff_not]; omega
theorem rd_mid (a b : List Int) (x : Int) : rd (a ++ x :: b) (a.length : Int) = x := by unfold rd; simp [List.getD_eq_getElem?_getD]
theorem rb_mid (a b : List Bool) (x : Bool) {n : Nat} (h : a.length = n) : rdOf false (a ++ x :: b) (n : Int) = x := by subst h; unfold rdOf; simp [List.getD_eq_getElem?_getD]
theorem set_mid (a b : List Int) (x y : Int) : (a ++ x :: b).set (a.length : Int).toNat y = a ++ y :: b := by simp
theorem iFin : ∀ (ob : List Int) (kb : List Bool) (a : List Int) (ka : List Bool), ka.length = a.length → ob.length = kb.length → a.length + ob.length ≤ 1000 → Ev (fun k => impl_ShortestFrom.l2 k (a ++ ob) (ka ++ kb) ((a.length + ob.length : Nat) : Int) (a.length : Int)) (a ++ finL ob kb, true)
  | [], [], a, ka, hk, ho, hn => by
    simp only [finL]
    exact suc (f := fun _ => some (a ++ [], true)) (fun k => by rw [impl_ShortestFrom.l2, if_neg (by simp)]) now
  | x :: ob, b :: kb, a, ka, hk, ho, hn => by
    simp only [List.length_cons] at ho hn
    have ih := iFin ob kb (a ++ [if b = true then (if x > 1000000 then 1000000 else x) else 1000000]) (ka ++ [b]) (by simp [hk]) (by omega) (by simp only [List.length_append, List.length_cons, List.length_nil]; omega)
    refine eqr (suc (f := fun k => impl_ShortestFrom.l2 k (a ++ [if b = true then (if x > 1000000 then 1000000 else x) else 1000000] ++ ob) (ka ++ [b] ++ kb) (((a ++ [if b = true then (if x > 1000000 then 1000000 else x) else (1000000 : Int)]).length + ob.length : Nat) : Int) ((a ++ [if b = true then (if x > 1000000 then 1000000 else x) else (1000000 : Int)]).length : Int)) (fun k => ?_) ih) (by simp [finL])
    have hlen : (a.length : Int) < ((ka ++ b :: kb).length : Int) := by simp only [List.length_append, List.length_cons]; omega
    have hlen2 : (a.length : Int) < ((a ++ x :: ob).length : Int) := by simp only [List.length_append, List.length_cons]; omega
    rw [impl_ShortestFrom.l2, if_pos (by simp only [List.length_cons]; omega), if_pos (by omega), if_pos hlen, rb_mid ka kb b hk, rd_mid, set_mid, set_mid, w64 (i := (a.length : Int) + 1) (by omega) (by omega)]
    have e1 : (((a ++ [if b = true then (if x > 1000000 then 1000000 else x) else (1000000 : Int)]).length : Nat) : Int) = (a.length : Int) + 1 := by simp
    have e2 : (((a ++ [if b = true then (if x > 1000000 then 1000000 else x) else (1000000 : Int)]).length + ob.length : Nat) : Int) = ((a.length + (x :: ob).length : Nat) : Int) := by simp only [List.length_append, List.length_cons, List.length_nil]; omega
    rw [e1, e2]
    cases b with
    | true =>
      rw [if_pos rfl, if_pos hlen2]
      unfold mn
      by_cases hx : 1000000 < x
      · rw [if_pos hx]; simp [hx]
      · rw [if_neg hx]; simp [hx]
    | false =>
      rw [if_neg (by simp), if_pos hlen2]
      simp only [Option.bind_some]
      rw [rd_mid, set_mid]
      unfold mn
      simp
  | [], b :: kb, a, ka, hk, ho, hn => by simp at ho
  | x :: ob, [], a, ka, hk, ho, hn => by simp at ho
theorem iRound_l (n : Nat) (l : List S39) (hl : l.length ≤ 80) (hv : ValidE n (l.map tr)) (r : Int) (R : List Int × Bool) : ∀ (d i : Nat) (L : LS) (B : Int), i + d = l.length → GoodL n L → SmallL B L → B + 1000000 * d ≤ 1000000000000 → 0 ≤ B →
    Ev (fun k => if decide (0 ≤ (lrnd (l.map tr) i d L).ch) = true then (if r = (n : Int) then some (([] : List Int), false) else impl_ShortestFrom.l0 k (lrnd (l.map tr) i d L).o (lrnd (l.map tr) i d L).k (wrap64 (r + 1)) (n : Int) l) else impl_ShortestFrom.l2 k (lrnd (l.map tr) i d L).o (lrnd (l.map tr) i d L).k ((lrnd (l.map tr) i d L).o.length : Int) 0) R →
    Ev (fun k => impl_ShortestFrom.l1 k L.o L.k r (decide (0 ≤ L.ch)) l (l.length : Int) (i : Int) (n : Int) l) R
  | 0, i, L, B, hd, hg, hs, hB, h0, h => suc (fun k => by rw [impl_ShortestFrom.l1, if_neg (by omega)]; rfl) h
  | d + 1, i, L, B, hd, hg, hs, hB, h0, h => by
    have ih := iRound_l n l hl hv r R d (i + 1) (lstep (l.map tr) i L) (B + 1000000) (by omega) (good_step i hg) (small_step hv (by simp only [List.length_map]; omega) hg hs) (by omega) (by omega) h
    have hu : ∀ k, impl_ShortestFrom.l1 (k + 1) L.o L.k r (decide (0 ≤ L.ch)) l (l.length : Int) (i : Int) (n : Int) l = impl_ShortestFrom.l1 k (lstep (l.map tr) i L).o (lstep (l.map tr) i L).k r (decide (0 ≤ (lstep (l.map tr) i L).ch)) l (l.length : Int) ((i + 1 : Nat) : Int) (n : Int) l := by

      intro k
      obtain ⟨⟨f0, f1⟩, ⟨t0, t1⟩, w0, w1⟩ := hv i (by simp only [List.length_map]; omega)
      obtain ⟨h1, h2, h3⟩ := hg
      have hb := hs _ (rd_mem (l := L.o) f0 (by omega))
      rw [impl_ShortestFrom.l1, if_pos (by omega), if_pos (by omega), if_pos (by omega)]
      simp only [tr0, tr1, tr2]
      rw [up1 (by omega) (by omega), w64 (i := rd L.o _ + _) (by omega) (by omega), if_pos f0, if_pos (by omega), if_pos (by omega)]
      unfold lstep better rb
      by_cases k1 : rdOf false L.k (eAt (l.map tr) i).1 = true
      · rw [if_pos k1, if_pos t0, if_pos (by omega)]
        by_cases k2 : rdOf false L.k (eAt (l.map tr) i).2.1 = true
        · rw [if_pos k2, if_pos (by omega)]
          by_cases c : rd L.o (eAt (l.map tr) i).1 + (eAt (l.map tr) i).2.2 < rd L.o (eAt (l.map tr) i).2.1
          · rw [if_pos c]
            simp only [k1, k2, c, decide_true, Bool.not_true, Bool.false_or, Bool.and_self, if_true]
            rw [show decide (0 ≤ (i : Int)) = true from decide_eq_true (by omega)]; rfl
          · rw [if_neg c]
            simp only [k1, k2, c, decide_false, Bool.not_true, Bool.or_self, Bool.and_false, Bool.false_eq_true, if_false]
            rfl
        · rw [if_neg k2, if_pos (by omega)]
          rw [Bool.not_eq_true] at k2
          simp only [k1, k2, Bool.not_false, Bool.true_or, Bool.and_self, if_true]
          rw [show decide (0 ≤ (i : Int)) = true from decide_eq_true (by omega)]; rfl
      · rw [if_neg k1]
        rw [Bool.not_eq_true] at k1
        simp only [k1, Bool.false_and, Bool.false_eq_true, if_false]
        rfl

    exact suc hu ih
theorem iSf_l (n : Nat) (hn : n ≤ 8) (l : List S39) (hl : l.length ≤ 80) (hv : ValidE n (l.map tr)) : ∀ (d i : Nat) (L : LS) (B : Int), i + d = n → GoodL n L → SmallL B L → B + 80000000 * (d + 1) ≤ 1000000000 → 0 ≤ B →
    Ev (fun k => impl_ShortestFrom.l0 k L.o L.k (i : Int) (n : Int) l) (sfLoop (l.map tr) (d + 1) L) := by
  intro d
  induction d with
  | zero =>
    intro i L B hd hg hs hB h0
    have hg' := good_round (es := l.map tr) hg
    refine suc (f := fun k => impl_ShortestFrom.l1 k L.o L.k (i : Int) false l (l.length : Int) ((0 : Nat) : Int) (n : Int) l) (fun k => by rw [impl_ShortestFrom.l0]; rfl) ?_
    refine iRound_l n l hl hv (i : Int) _ l.length 0 { L with ch := -1 } B (by omega) hg hs (by omega) h0 ?_
    show Ev (fun k => if decide (0 ≤ (lrnd (l.map tr) 0 l.length { L with ch := -1 }).ch) = true then _ else _) _
    have e : lrnd (l.map tr) 0 l.length { L with ch := -1 } = lround (l.map tr) L := by unfold lround; rw [List.length_map]
    rw [e]
    simp only [sfLoop]
    by_cases hq : (lround (l.map tr) L).ch < 0
    · refine ifn (by simpa using hq) ?_
      rw [if_pos hq]
      have := iFin (lround (l.map tr) L).o (lround (l.map tr) L).k [] [] rfl (by rw [hg'.1, hg'.2.2]) (by simp only [List.length_nil]; rw [hg'.1]; omega)
      simp only [List.nil_append, List.length_nil, Nat.zero_add] at this
      exact this
    · rw [if_neg hq]
      exact ifp (by simpa using hq) (ifp (by omega) now)
  | succ d ih =>
    intro i L B hd hg hs hB h0
    have hg' := good_round (es := l.map tr) hg
    have hs' := small_round hv (by simpa using hl) hg hs
    have ih' := ih (i + 1) (lround (l.map tr) L) (B + 80000000) (by omega) hg' hs' (by omega) (by omega)
    refine suc (f := fun k => impl_ShortestFrom.l1 k L.o L.k (i : Int) false l (l.length : Int) ((0 : Nat) : Int) (n : Int) l) (fun k => by rw [impl_ShortestFrom.l0]; rfl) ?_
    refine iRound_l n l hl hv (i : Int) _ l.length 0 { L with ch := -1 } B (by omega) hg hs (by omega) h0 ?_
    show Ev (fun k => if decide (0 ≤ (lrnd (l.map tr) 0 l.length { L with ch := -1 }).ch) = true then _ else _) _
    have e : lrnd (l.map tr) 0 l.length { L with ch := -1 } = lround (l.map tr) L := by unfold lround; rw [List.length_map]
    rw [e]
    show Ev _ (if (lround (l.map tr) L).ch < 0 then _ else sfLoop (l.map tr) (d + 1) (lround (l.map tr) L))
    by_cases hq : (lround (l.map tr) L).ch < 0
    · refine ifn (by simpa using hq) ?_
      rw [if_pos hq]
      have := iFin (lround (l.map tr) L).o (lround (l.map tr) L).k [] [] rfl (by rw [hg'.1, hg'.2.2]) (by simp only [List.length_nil]; rw [hg'.1]; omega)
      simp only [List.nil_append, List.length_nil, Nat.zero_add] at this
      exact this
    · rw [if_neg hq]
      refine ifp (by simpa using hq) (ifn (by omega) ?_)
      rw [up1 (by omega) (by omega)]
      exact ih'
theorem iSf (n : Int) (l : List S39) (s : Int) : Ev (fun k => impl_ShortestFrom.f k n l s) (sfM n (l.map tr) s) := by
  have hf : Ev (fun k => impl_ShortestFrom.j0 k s true n l) ([], false) := suc (f := fun _ => some ([], false)) (fun k => by rw [impl_ShortestFrom.j0, if_pos rfl]) now
  unfold impl_ShortestFrom.f sfM
  refine bnd (iGraphOk n l) ?_
  by_cases hg : graphOk n (l.map tr) = true
  · obtain ⟨h0, h8, hl, _⟩ := graphOk_iff hg
    refine ifp hg (bnd (isNode n s) ?_)
    by_cases hs : 0 ≤ s ∧ s < n
    · rw [show decide (0 ≤ s ∧ s < n) = true from decide_eq_true hs]
      refine eqr ?_ (if_pos ⟨hg, hs⟩).symm
      have hv := valid_of hg
      have h := iSf_l n.toNat (by omega) l (by simpa using hl) hv n.toNat 0 (sfInit n.toNat s.toNat) 0 (by omega) (good_init _ _) (small_init _ _) (by omega) (by omega)
      rw [Int.toNat_of_nonneg h0, sf_once hg hs] at h
      refine suc (fun k => ?_) h
      rw [impl_ShortestFrom.j0, if_neg (by simp), if_pos h0, if_pos (by omega), if_pos (by omega)]
      simp only [Option.bind_some]
      rw [if_pos hs.1, if_pos (by simp only [List.length_replicate]; omega)]
      rfl
    · rw [show decide (0 ≤ s ∧ s < n) = false from decide_eq_false hs]
      exact eqr hf (if_neg (fun h => hs h.2)).symm
  · exact eqr (ifn hg hf) (if_neg (fun h => hg h.1)).symm
theorem iClamp (x : Int) : impl_ClampBound.f x = some (clampB x) := by
  unfold impl_ClampBound.f clampB mx mn
  congr 1
  repeat' split
  all_goals omega

theorem iCl_in (n : Int) (l : List S39) (i : Nat) (hi8 : i ≤ 8) (r : List Int) (hr : r.length ≤ 8) (R : Int × List Int × Bool) : ∀ (d j : Nat) (o : List Int), j + d = r.length → o.length + d ≤ 100000 →
    Ev (fun k => impl_CloseGraph.l0 k ((i + 1 : Nat) : Int) n l n (o ++ (r.drop j).map clampB)) R → Ev (fun k => impl_CloseGraph.l1 k (i : Int) r (r.length : Int) (j : Int) n l n o) R
  | 0, j, o, hd, ho, h => by
    rw [List.drop_eq_nil_of_le (by omega), List.map_nil, List.append_nil] at h
    exact suc (f := fun k => impl_CloseGraph.l0 k ((i + 1 : Nat) : Int) n l n o) (fun k => by rw [impl_CloseGraph.l1, if_neg (by omega), up1 (by omega) (by omega)]; rfl) h
  | d + 1, j, o, hd, ho, h => by
    have hj : j < r.length := by omega
    have e : rd r (j : Int) = r[j] := by unfold rd; simp [List.getD_eq_getElem?_getD, hj]
    rw [List.drop_eq_getElem_cons hj, List.map_cons, ← e] at h
    refine suc (f := fun k => impl_CloseGraph.l1 k (i : Int) r (r.length : Int) ((j + 1 : Nat) : Int) n l n (o ++ [clampB (rd r (j : Int))])) (fun k => ?_) (iCl_in n l i hi8 r hr R d (j + 1) _ (by omega) (by simp only [List.length_append, List.length_cons, List.length_nil]; omega) (by rw [List.append_assoc]; exact h))
    rw [impl_CloseGraph.l1, if_pos (by omega), if_pos (by omega), if_pos (by omega), iClamp, up1 (by omega) (by omega)]
    simp only [Option.bind_some]
    rw [if_pos (by omega)]; rfl
theorem iCl (n : Nat) (hn : n ≤ 8) (l : List S39) : ∀ (d i : Nat) (o : List Int), i + d = n → o.length ≤ 8 * i → Ev (fun k => impl_CloseGraph.l0 k (i : Int) (n : Int) l (n : Int) o) (closeL n (l.map tr) d i o)
  | 0, i, o, hd, ho => by
    simp only [closeL]
    exact suc (f := fun _ => some ((n : Int), o, true)) (fun k => by rw [impl_CloseGraph.l0, if_neg (by omega)]) now
  | d + 1, i, o, hd, ho => by
    simp only [closeL]
    have hs := sfM_len n (l.map tr) (i : Int)
    refine suc (fun k => by rw [impl_CloseGraph.l0, if_pos (by omega)]) ?_
    refine bev (iSf n l (i : Int)) ?_
    by_cases h : (sfM n (l.map tr) (i : Int)).2 = true
    · rw [if_pos h]
      refine ifp h (iCl_in n l i (by omega) _ hs _ (sfM n (l.map tr) (i : Int)).1.length 0 o (by omega) (by omega) ?_)
      rw [List.drop_zero]
      exact iCl n hn l d (i + 1) _ (by omega) (by simp only [List.length_append, List.length_map]; omega)
    · rw [if_neg h]
      exact ifn h now
theorem iClose (n : Int) (l : List S39) : Ev (fun k => impl_CloseGraph.f k n l) (closeM n (l.map tr)) := by
  unfold impl_CloseGraph.f closeM
  refine bnd (iGraphOk n l) ?_
  by_cases h : graphOk n (l.map tr) = true
  · rw [if_pos h]
    have h8 := (graphOk_iff h).2.1
    have h0 := (graphOk_iff h).1
    obtain ⟨m, rfl⟩ : ∃ m : Nat, n = (m : Int) := ⟨n.toNat, by omega⟩
    exact ifp h (iCl m (by omega) l m 0 [] (by omega) (by simp))
  · rw [if_neg h]; exact ifn h now
def closedOk (s : Int) (l : List Int) (i j k : Nat) : Bool := decide (cellT s l i k ≤ addB (cellT s l i j) (cellT s l j k))
def closedT (s : Int) (l : List Int) : Bool := tableOk s l && allF (fun i => allF (fun j => allF (closedOk s l i j) 0 s.toNat) 0 s.toNat) 0 s.toNat
def tightC (n : Int) (l : List Int) (f t : Nat) (w : Int) (i k : Nat) : Int := if cellT n l i k < addB (addB (cellT n l i f) w) (cellT n l t k) then cellT n l i k else addB (addB (cellT n l i f) w) (cellT n l t k)
def tightRow (n : Int) (l : List Int) (f t : Nat) (w : Int) (i : Nat) : Nat → Nat → List Int
  | 0, _ => []
  | d + 1, k => tightC n l f t w i k :: tightRow n l f t w i d (k + 1)
def tightAll (n : Int) (l : List Int) (f t : Nat) (w : Int) : Nat → Nat → List Int
  | 0, _ => []
  | d + 1, i => tightRow n l f t w i n.toNat 0 ++ tightAll n l f t w d (i + 1)
theorem tightRow_len (n : Int) (l : List Int) (f t : Nat) (w : Int) (i : Nat) : ∀ d k, (tightRow n l f t w i d k).length = d
  | 0, _ => rfl
  | d + 1, k => by rw [tightRow, List.length_cons, tightRow_len n l f t w i d]
theorem tightAll_len (n : Int) (l : List Int) (f t : Nat) (w : Int) : ∀ d i, (tightAll n l f t w d i).length = d * n.toNat
  | 0, _ => by simp [tightAll]
  | d + 1, i => by rw [tightAll, List.length_append, tightRow_len, tightAll_len n l f t w d, Nat.add_mul, Nat.one_mul]; omega
def tightM (n : Int) (l : List Int) (f t w : Int) : Int × List Int × Bool := if closedT n l = true ∧ (0 ≤ f ∧ f < n) ∧ (0 ≤ t ∧ t < n) ∧ (-1000000 < w ∧ w < 1000000) ∧ ¬ addB w (cellT n l t.toNat f.toNat) < 0 then (n, tightAll n l f.toNat t.toNat w n.toNat 0, true) else (0, [], false)
theorem closed_table {n : Int} {l : List Int} (h : closedT n l = true) : tableOk n l = true := by
  unfold closedT at h
  rw [Bool.and_eq_true] at h
  exact h.1
theorem table_le {n : Int} {l : List Int} (h : tableOk n l = true) : 0 ≤ n ∧ n ≤ 8 := by
  unfold tableOk at h
  rw [Bool.and_eq_true, decide_eq_true_eq] at h
  exact ⟨h.1.1, h.1.2.1⟩
theorem tightM_len (n : Int) (l : List Int) (f t w : Int) : (tightM n l f t w).2.1.length ≤ 64 := by
  unfold tightM
  split
  · rename_i h
    obtain ⟨h0, h8⟩ := table_le (closed_table h.1)
    show (tightAll n l f.toNat t.toNat w n.toNat 0).length ≤ 64
    rw [tightAll_len]
    have := Nat.mul_le_mul (show n.toNat ≤ 8 by omega) (show n.toNat ≤ 8 by omega)
    omega
  · simp
theorem mn_tight (a b : Int) : mn a b = if a < b then a else b := by
  unfold mn
  split <;> split <;> omega
theorem iTableOk_l (s : Int) (l : List Int) (h0 : 0 ≤ s) (h8 : s ≤ 8) (hl : (l.length : Int) = s * s) : ∀ (d i : Nat), i + d = l.length → Ev (fun k => impl_TableOk.l0 k l (l.length : Int) (i : Int) s l) (allF (cellOk s l) i d)
  | 0, i, hd => suc (f := fun _ => some true) (fun k => by rw [impl_TableOk.l0, if_neg (by omega)]) now
  | d + 1, i, hd => by
    have hs : 0 < s := by
      rcases Int.lt_or_eq_of_le h0 with h | h
      · exact h
      · rw [← h] at hl; omega
    have h64 : s * s ≤ 8 * 8 := Int.mul_le_mul h8 h8 h0 (by omega)
    have hq : wrap64 (Int.tdiv (i : Int) s) = (i : Int) / s := by
      rw [Int.tdiv_eq_ediv_of_nonneg (by omega)]
      have h1 : (i : Int) / s < s := Int.ediv_lt_of_lt_mul hs (by omega)
      have h2 : 0 ≤ (i : Int) / s := Int.ediv_nonneg (by omega) h0
      exact w64 (by omega) (by omega)
    have hr : Int.tmod (i : Int) s = (i : Int) % s := Int.tmod_eq_emod_of_nonneg (by omega)
    have ih := iTableOk_l s l h0 h8 hl d (i + 1) (by omega)
    simp only [allF]
    by_cases hc : cellOk s l i = true
    · have hc' := hc
      simp only [cellOk, decide_eq_true_eq] at hc'
      obtain ⟨c1, c2, c3⟩ := hc'
      rw [hc, Bool.true_and]
      refine suc (f := fun k => impl_TableOk.l0 k l (l.length : Int) ((i + 1 : Nat) : Int) s l) (fun k => ?_) ih
      rw [impl_TableOk.l0, if_pos (by omega), if_pos (by omega), if_pos (by omega), if_neg (by omega), if_neg (by omega), if_neg (by omega), hq, hr, up1 (by omega) (by omega)]
      by_cases e : (i : Int) / s = (i : Int) % s
      · rw [if_pos e, if_pos (c3 e)]; rfl
      · rw [if_neg e]; rfl
    · rw [Bool.not_eq_true] at hc
      have hc' := hc
      simp only [cellOk, decide_eq_false_iff_not] at hc'
      rw [hc, Bool.false_and]
      refine suc (f := fun _ => some false) (fun k => ?_) now
      rw [impl_TableOk.l0, if_pos (by omega), if_pos (by omega), if_pos (by omega)]
      by_cases c1 : rd l i < -1000000
      · rw [if_pos c1]
      · rw [if_neg c1]
        by_cases c2 : rd l i > 1000000
        · rw [if_pos c2]
        · rw [if_neg c2, if_neg (by omega), hq, hr]
          by_cases e : (i : Int) / s = (i : Int) % s
          · rw [if_pos e]
            by_cases c3 : rd l i = 0
            · exact absurd ⟨by omega, by omega, fun _ => c3⟩ hc'
            · rw [if_neg c3]
          · exact absurd ⟨by omega, by omega, fun h => absurd h e⟩ hc'
theorem iTableOk (s : Int) (l : List Int) (hn : l.length ≤ 4194304) : Ev (fun k => impl_TableOk.f k s l) (tableOk s l) := by
  have ww : 0 ≤ s → s ≤ 8 → wrap64 (s * s) = s * s := fun h0 h8 => by
    have : s * s ≤ 8 * 8 := Int.mul_le_mul h8 h8 h0 (by omega)
    exact w64 (by have := Int.mul_nonneg h0 h0; omega) (by omega)
  unfold impl_TableOk.f tableOk
  by_cases h0 : s < 0
  · rw [decide_eq_false (by omega), Bool.false_and]
    exact ifp h0 (suc (f := fun _ => some false) (fun k => by rw [impl_TableOk.j0, if_pos rfl]) now)
  · refine ifn h0 ?_
    by_cases h8 : s > 8
    · rw [decide_eq_false (by omega), Bool.false_and]
      exact ifp h8 (suc (f := fun _ => some false) (fun k => by rw [impl_TableOk.j0, if_pos rfl]) now)
    · refine ifn h8 ?_
      rw [ww (by omega) (by omega)]
      by_cases hl : (l.length : Int) = s * s
      · rw [decide_eq_true ⟨by omega, by omega, hl⟩, Bool.true_and]
        refine suc (f := fun k => impl_TableOk.l0 k l (l.length : Int) ((0 : Nat) : Int) s l) (fun k => ?_) (iTableOk_l s l (by omega) (by omega) hl l.length 0 (by omega))
        rw [impl_TableOk.j0, if_neg (by simp [hl])]; rfl
      · rw [decide_eq_false (by omega), Bool.false_and]
        exact suc (f := fun _ => some false) (fun k => by rw [impl_TableOk.j0, if_pos (by simp [hl])]) now
theorem icell {s : Int} {l : List Int} (h : tableOk s l = true) {i k : Nat} (hi : (i : Int) < s) (hk : (k : Int) < s) : impl_Table_cell.f s l (i : Int) (k : Int) = some (cellT s l i k) := by
  obtain ⟨h1, h2, h3, h4⟩ := cell_in h hi hk
  have h8 : s ≤ 8 := by unfold tableOk at h; simp only [Bool.and_eq_true, decide_eq_true_eq] at h; exact h.1.2.1
  unfold impl_Table_cell.f
  rw [w64 (i := (i : Int) * s) (by omega) (by omega), w64 (by omega) (by omega), if_pos h1, if_pos h2]
  rfl
theorem iAddB (a b : Int) : Ev (fun k => impl_AddBounds.f k a b) (addB a b) := by
  refine suc (f := fun _ => some (addB a b)) (fun k => ?_) now
  unfold impl_AddBounds.f addB
  simp only [impl_AddBounds.j0, impl_ClampBound.f, mx, mn]
  repeat' split
  all_goals simp only [Option.bind_some, decide_eq_true_eq, Option.some.injEq, reduceCtorEq] at *
  all_goals first | omega | contradiction | (exfalso; simp_all; done) | (unfold wrap64 at *; omega)
theorem iClosed_2 (s : Int) (l : List Int) (h : tableOk s l = true) (i j : Nat) (hi : (i : Int) < s) (hj : (j : Int) < s) (r : Bool) (hr : Ev (fun n => impl_IsClosed.l1 n (i : Int) ((j + 1 : Nat) : Int) s l) r) : ∀ (d k : Nat), ((k + d : Nat) : Int) = s → Ev (fun n => impl_IsClosed.l2 n (i : Int) (j : Int) (k : Int) s l) (allF (closedOk s l i j) k d && r)
  | 0, k, hd => by
    simp only [allF, Bool.true_and]
    refine suc (f := fun n => impl_IsClosed.l1 n (i : Int) ((j + 1 : Nat) : Int) s l) (fun n => ?_) hr
    have h8 : s ≤ 8 := by unfold tableOk at h; simp only [Bool.and_eq_true, decide_eq_true_eq] at h; exact h.1.2.1
    rw [impl_IsClosed.l2, if_neg (by omega), up1 (by omega) (by omega)]; rfl
  | d + 1, k, hd => by
    have ih := iClosed_2 s l h i j hi hj r hr d (k + 1) (by omega)
    have h8 : s ≤ 8 := by unfold tableOk at h; simp only [Bool.and_eq_true, decide_eq_true_eq] at h; exact h.1.2.1
    refine suc (f := fun n => (impl_AddBounds.f n (cellT s l i j) (cellT s l j k)).bind fun t => if cellT s l i k > t then some false else impl_IsClosed.l2 n (i : Int) (j : Int) ((k + 1 : Nat) : Int) s l) (fun n => ?_) (bev (iAddB _ _) ?_)
    · rw [impl_IsClosed.l2, if_pos (by omega), icell h hi (by omega), icell h hi hj, icell h hj (by omega), up1 (by omega) (by omega)]; rfl
    · simp only [allF]
      by_cases hc : cellT s l i k > addB (cellT s l i j) (cellT s l j k)
      · rw [show closedOk s l i j k = false by simp only [closedOk, decide_eq_false_iff_not]; omega, Bool.false_and, Bool.false_and]
        exact ifp hc now
      · rw [show closedOk s l i j k = true by simp only [closedOk, decide_eq_true_eq]; omega, Bool.true_and]
        exact ifn hc ih
theorem iClosed_1 (s : Int) (l : List Int) (h : tableOk s l = true) (i : Nat) (hi : (i : Int) < s) (r : Bool) (hr : Ev (fun n => impl_IsClosed.l0 n ((i + 1 : Nat) : Int) s l) r) : ∀ (d j : Nat), ((j + d : Nat) : Int) = s → Ev (fun n => impl_IsClosed.l1 n (i : Int) (j : Int) s l) (allF (fun j => allF (closedOk s l i j) 0 s.toNat) j d && r)
  | 0, j, hd => by
    simp only [allF, Bool.true_and]
    have h8 : s ≤ 8 := by unfold tableOk at h; simp only [Bool.and_eq_true, decide_eq_true_eq] at h; exact h.1.2.1
    refine suc (f := fun n => impl_IsClosed.l0 n ((i + 1 : Nat) : Int) s l) (fun n => ?_) hr
    rw [impl_IsClosed.l1, if_neg (by omega), up1 (by omega) (by omega)]; rfl
  | d + 1, j, hd => by
    have ih := iClosed_1 s l h i hi r hr d (j + 1) (by omega)
    simp only [allF]
    rw [Bool.and_assoc]
    refine suc (f := fun n => impl_IsClosed.l2 n (i : Int) (j : Int) ((0 : Nat) : Int) s l) (fun n => ?_) (iClosed_2 s l h i j hi (by omega) _ ih s.toNat 0 (by omega))
    rw [impl_IsClosed.l1, if_pos (by omega)]; rfl
theorem iClosed_0 (s : Int) (l : List Int) (h : tableOk s l = true) : ∀ (d i : Nat), ((i + d : Nat) : Int) = s → Ev (fun n => impl_IsClosed.l0 n (i : Int) s l) (allF (fun i => allF (fun j => allF (closedOk s l i j) 0 s.toNat) 0 s.toNat) i d)
  | 0, i, hd => by
    simp only [allF]
    exact suc (f := fun _ => some true) (fun n => by rw [impl_IsClosed.l0, if_neg (by omega)]) now
  | d + 1, i, hd => by
    have ih := iClosed_0 s l h d (i + 1) (by omega)
    simp only [allF]
    refine suc (f := fun n => impl_IsClosed.l1 n (i : Int) ((0 : Nat) : Int) s l) (fun n => ?_) (iClosed_1 s l h i (by omega) _ ih s.toNat 0 (by omega))
    rw [impl_IsClosed.l0, if_pos (by omega)]; rfl
theorem iClosed (s : Int) (l : List Int) (hn : l.length ≤ 4194304) : Ev (fun n => impl_IsClosed.f n s l) (closedT s l) := by
  unfold impl_IsClosed.f closedT
  refine bev (iTableOk s l hn) ?_
  by_cases h : tableOk s l = true
  · rw [h, Bool.true_and]
    have h0 : 0 ≤ s := by unfold tableOk at h; simp only [Bool.and_eq_true, decide_eq_true_eq] at h; exact h.1.1
    exact ifp rfl (iClosed_0 s l h s.toNat 0 (by omega))
  · rw [Bool.not_eq_true] at h
    rw [h, Bool.false_and]
    exact ifn (by simp) now
theorem isWeight (n : Int) : impl_isWeight.f n = some (decide (-1000000 < n ∧ n < 1000000)) := by
  unfold impl_isWeight.f
  by_cases h : n > -1000000
  · rw [if_pos h]; congr 1; rw [Bool.eq_iff_iff]; simp only [decide_eq_true_eq]; omega
  · rw [if_neg h]; congr 1; symm; rw [decide_eq_false_iff_not]; omega
theorem iTi_1 (n : Nat) (hn : n ≤ 8) (l : List Int) (h : tableOk (n : Int) l = true) (f t : Nat) (hf : f < n) (ht : t < n) (w : Int) (i : Nat) (hi : i < n) (R : Int × List Int × Bool) : ∀ (d k : Nat) (y : List Int), k + d = n → y.length + d ≤ 1000 →
    Ev (fun q => impl_TightenTable.l0 q ((i + 1 : Nat) : Int) (n : Int) l (f : Int) (t : Int) w (n : Int) (y ++ tightRow (n : Int) l f t w i d k)) R → Ev (fun q => impl_TightenTable.l1 q (i : Int) (k : Int) (n : Int) l (f : Int) (t : Int) w (n : Int) y) R
  | 0, k, y, hd, hy, hR => by
    rw [tightRow, List.append_nil] at hR
    exact suc (fun q => by rw [impl_TightenTable.l1, if_neg (by omega), up1 (by omega) (by omega)]; rfl) hR
  | d + 1, k, y, hd, hy, hR => by
    have ih := iTi_1 n hn l h f t hf ht w i hi R d (k + 1) (y ++ [tightC (n : Int) l f t w i k]) (by omega) (by simp only [List.length_append, List.length_cons, List.length_nil]; omega) (by rw [List.append_assoc]; exact hR)
    refine suc (fun q => by rw [impl_TightenTable.l1, if_pos (by omega)]) ?_
    refine bnd (icell h (by omega) (by omega)) (bev (iAddB _ _) (bnd (icell h (by omega) (by omega)) (bev (iAddB _ _) (bnd (icell h (by omega) (by omega)) (ifp (by omega) ?_)))))
    rw [mn_tight, up1 (by omega) (by omega)]
    exact ih
theorem iTi_0 (n : Nat) (hn : n ≤ 8) (l : List Int) (h : tableOk (n : Int) l = true) (f t : Nat) (hf : f < n) (ht : t < n) (w : Int) : ∀ (d i : Nat) (y : List Int), i + d = n → y.length + 8 * d ≤ 1000 →
    Ev (fun q => impl_TightenTable.l0 q (i : Int) (n : Int) l (f : Int) (t : Int) w (n : Int) y) ((n : Int), y ++ tightAll (n : Int) l f t w d i, true)
  | 0, i, y, hd, hy => by
    rw [tightAll, List.append_nil]
    exact suc (f := fun _ => some ((n : Int), y, true)) (fun q => by rw [impl_TightenTable.l0, if_neg (by omega)]) now
  | d + 1, i, y, hd, hy => by
    have ih := iTi_0 n hn l h f t hf ht w d (i + 1) (y ++ tightRow (n : Int) l f t w i n 0) (by omega) (by rw [List.length_append, tightRow_len]; omega)
    rw [tightAll, Int.toNat_natCast, ← List.append_assoc]
    exact suc (fun q => by rw [impl_TightenTable.l0, if_pos (by omega)]; rfl) (iTi_1 n hn l h f t hf ht w i (by omega) _ n 0 y (by omega) (by omega) ih)
theorem iTight (n : Int) (l : List Int) (f t w : Int) (hl : l.length ≤ 4194304) : Ev (fun k => impl_TightenTable.f k n l f t w) (tightM n l f t w) := by
  have hF : Ev (fun k => impl_TightenTable.j0 k true n l f t w) (0, [], false) := suc (f := fun _ => some (0, [], false)) (fun k => by rw [impl_TightenTable.j0, if_pos rfl]) now
  unfold impl_TightenTable.f tightM
  refine bev (iClosed n l hl) ?_
  by_cases h : closedT n l = true
  · have hT := closed_table h
    obtain ⟨h0, h8⟩ := table_le hT
    refine ifp h (bnd (isNode n f) ?_)
    by_cases hf : 0 ≤ f ∧ f < n
    · refine ifp (by simpa using hf) (bnd (isNode n t) ?_)
      by_cases ht : 0 ≤ t ∧ t < n
      · refine ifp (by simpa using ht) (bnd (isWeight w) ?_)
        by_cases hw : -1000000 < w ∧ w < 1000000
        · refine ifp (by rw [decide_eq_true_eq]; omega) ?_
          obtain ⟨m, rfl⟩ : ∃ m : Nat, n = (m : Int) := ⟨n.toNat, by omega⟩
          obtain ⟨a, rfl⟩ : ∃ a : Nat, f = (a : Int) := ⟨f.toNat, by omega⟩
          obtain ⟨b, rfl⟩ : ∃ b : Nat, t = (b : Int) := ⟨t.toNat, by omega⟩
          simp only [Int.toNat_natCast]
          refine bnd (icell hT (by omega) (by omega)) (bev (iAddB _ _) ?_)
          by_cases ha : addB w (cellT (m : Int) l b a) < 0
          · rw [decide_eq_true ha, if_neg (fun x => x.2.2.2.2 ha)]; exact hF
          · rw [decide_eq_false ha, if_pos ⟨h, hf, ht, hw, ha⟩]
            have := iTi_0 m (by omega) l hT a b (by omega) (by omega) w m 0 [] (by omega) (by simp only [List.length_nil]; omega)
            exact suc (fun k => by rw [impl_TightenTable.j0, if_neg (by simp)]; rfl) this
        · exact eqr (ifn (by rw [decide_eq_true_eq]; omega) hF) (if_neg (fun x => hw x.2.2.2.1)).symm
      · exact eqr (ifn (by simpa using ht) hF) (if_neg (fun x => ht x.2.2.1)).symm
    · exact eqr (ifn (by simpa using hf) hF) (if_neg (fun x => hf x.2.1)).symm
  · exact eqr (ifn h hF) (if_neg (fun x => h x.1)).symm
def mkE (s : Int) (l : List Int) (i k : Nat) : List S39 := if i = k then [] else if -1000000 < cellT s l i k ∧ cellT s l i k < 1000000 then [⟨i, k, cellT s l i k⟩] else []
def edgesRow (s : Int) (l : List Int) (i : Nat) : Nat → Nat → List S39
  | _, 0 => []
  | k, d + 1 => mkE s l i k ++ edgesRow s l i (k + 1) d
def edgesAll (s : Int) (l : List Int) : Nat → Nat → List S39
  | _, 0 => []
  | i, d + 1 => edgesRow s l i 0 s.toNat ++ edgesAll s l (i + 1) d
def edgesT (s : Int) (l : List Int) : List S39 := if tableOk s l = true then edgesAll s l 0 s.toNat else []
theorem mkE_len (s : Int) (l : List Int) (i k : Nat) : (mkE s l i k).length ≤ 1 := by
  unfold mkE
  repeat' split
  all_goals simp
theorem edgesRow_len (s : Int) (l : List Int) (i : Nat) : ∀ (d k : Nat), (edgesRow s l i k d).length ≤ d
  | 0, _ => by simp [edgesRow]
  | d + 1, k => by
    have := mkE_len s l i k
    have := edgesRow_len s l i d (k + 1)
    simp only [edgesRow, List.length_append]; omega
theorem edgesAll_len (s : Int) (l : List Int) : ∀ (d i : Nat), (edgesAll s l i d).length ≤ d * s.toNat
  | 0, _ => by simp [edgesAll]
  | d + 1, i => by
    have := edgesRow_len s l i s.toNat 0
    have := edgesAll_len s l d (i + 1)
    simp only [edgesAll, List.length_append, Nat.add_mul]; omega
theorem edgesT_len (s : Int) (l : List Int) : (edgesT s l).length ≤ 64 := by
  unfold edgesT
  split
  · rename_i h
    unfold tableOk at h
    simp only [Bool.and_eq_true, decide_eq_true_eq] at h
    have h1 := edgesAll_len s l s.toNat 0
    have h2 : s.toNat * s.toNat ≤ 8 * 8 := Nat.mul_le_mul (by omega) (by omega)
    omega
  · simp
theorem iEdges_1 (s : Int) (l : List Int) (h : tableOk s l = true) (i m : Nat) (hi : (i : Int) < s) (R : List S39 → List S39) (hr : ∀ y : List S39, y.length + 8 * m ≤ 1000 → Ev (fun n => impl_EdgesOf.l0 n y ((i + 1 : Nat) : Int) s l) (R y)) : ∀ (d k : Nat) (y : List S39), ((k + d : Nat) : Int) = s → y.length + d + 8 * m ≤ 1000 → Ev (fun n => impl_EdgesOf.l1 n y (i : Int) (k : Int) s l) (R (y ++ edgesRow s l i k d))
  | 0, k, y, hd, hy => by
    have h8 : s ≤ 8 := by unfold tableOk at h; simp only [Bool.and_eq_true, decide_eq_true_eq] at h; exact h.1.2.1
    simp only [edgesRow, List.append_nil]
    refine suc (f := fun n => impl_EdgesOf.l0 n y ((i + 1 : Nat) : Int) s l) (fun n => ?_) (hr y (by omega))
    rw [impl_EdgesOf.l1, if_neg (by omega), up1 (by omega) (by omega)]; rfl
  | d + 1, k, y, hd, hy => by
    have h8 : s ≤ 8 := by unfold tableOk at h; simp only [Bool.and_eq_true, decide_eq_true_eq] at h; exact h.1.2.1
    have hl1 := mkE_len s l i k
    have ih := iEdges_1 s l h i m hi R hr d (k + 1) (y ++ mkE s l i k) (by omega) (by simp only [List.length_append]; omega)
    simp only [edgesRow]
    rw [← List.append_assoc]
    refine suc (f := fun n => impl_EdgesOf.l1 n (y ++ mkE s l i k) (i : Int) ((k + 1 : Nat) : Int) s l) (fun n => ?_) ih
    rw [impl_EdgesOf.l1, if_pos (by omega), up1 (by omega) (by omega)]
    unfold mkE
    by_cases e : i = k
    · rw [if_pos (by omega), if_pos e, List.append_nil]; rfl
    · rw [if_neg (by omega), if_neg e, icell h hi (by omega)]
      simp only [Option.bind_some]
      rw [isWeight]
      simp only [Option.bind_some, decide_eq_true_eq]
      by_cases w : -1000000 < cellT s l i k ∧ cellT s l i k < 1000000
      · rw [if_pos w, if_pos w, if_pos (by omega)]; rfl
      · rw [if_neg w, if_neg w, List.append_nil]; rfl
theorem iEdges_0 (s : Int) (l : List Int) (h : tableOk s l = true) : ∀ (d i : Nat) (y : List S39), ((i + d : Nat) : Int) = s → y.length + 8 * d ≤ 1000 → Ev (fun n => impl_EdgesOf.l0 n y (i : Int) s l) (y ++ edgesAll s l i d)
  | 0, i, y, hd, hy => by
    simp only [edgesAll, List.append_nil]
    exact suc (f := fun _ => some y) (fun n => by rw [impl_EdgesOf.l0, if_neg (by omega)]) now
  | d + 1, i, y, hd, hy => by
    have h8 : s ≤ 8 := by unfold tableOk at h; simp only [Bool.and_eq_true, decide_eq_true_eq] at h; exact h.1.2.1
    simp only [edgesAll]
    rw [← List.append_assoc]
    refine suc (f := fun n => impl_EdgesOf.l1 n y (i : Int) ((0 : Nat) : Int) s l) (fun n => ?_) (iEdges_1 s l h i d (by omega) (fun z => z ++ edgesAll s l (i + 1) d) (fun z hz => iEdges_0 s l h d (i + 1) z (by omega) hz) s.toNat 0 y (by omega) (by omega))
    rw [impl_EdgesOf.l0, if_pos (by omega)]; rfl
theorem iEdges (s : Int) (l : List Int) (hn : l.length ≤ 4194304) : Ev (fun n => impl_EdgesOf.f n s l) (edgesT s l) := by
  unfold impl_EdgesOf.f edgesT
  refine bev (iTableOk s l hn) ?_
  by_cases h : tableOk s l = true
  · obtain ⟨h0, h8⟩ : 0 ≤ s ∧ s ≤ 8 := by unfold tableOk at h; simp only [Bool.and_eq_true, decide_eq_true_eq] at h; exact ⟨h.1.1, h.1.2.1⟩
    exact eqr (ifp h (iEdges_0 s l h s.toNat 0 [] (by omega) (by simp; omega))) (by rw [if_pos h]; rfl)
  · exact eqr (ifn h now) (by rw [if_neg h])
theorem and255 (n : Int) : Go.bits .and .i64 n 255 = n % 256 := by
  have h : (BitVec.ofInt 64 255).toNat = 2 ^ 8 - 1 := by decide
  have key : (BitVec.ofInt 64 n &&& BitVec.ofInt 64 255).toNat = (n % ((2 ^ 64 : Nat) : Int)).toNat % 2 ^ 8 := by
    rw [BitVec.toNat_and, BitVec.toNat_ofInt, h, Nat.and_two_pow_sub_one_eq_mod]
  show IntKind.i64.wrap ((BitVec.ofInt 64 n &&& BitVec.ofInt 64 255).toNat : Nat) = n % 256
  rw [key, IntKind.wrap_i64]
  omega
theorem byteM (s : List Int) (i h : Int) (hs : s.length ≤ 1048576) (h0 : 0 ≤ i) : ∃ b i' h', spec_l01Byte.f s i h = some (b, i', h') ∧ 0 ≤ b ∧ b < 256 ∧ 0 ≤ i' := by
  unfold spec_l01Byte.f
  by_cases c : i < (s.length : Int)
  · rw [if_pos c, if_pos h0, and255]
    refine ⟨_, _, _, rfl, ?_, ?_, ?_⟩
    · omega
    · omega
    · rw [w64 (by omega) (by omega)]; omega
  · rw [if_neg c, and255]
    exact ⟨_, _, _, rfl, by omega, by omega, h0⟩
theorem belowM (s : List Int) (i h : Int) (hs : s.length ≤ 1048576) (h0 : 0 ≤ i) (n : Int) (hn : 0 < n) (hn2 : n ≤ 256) : ∃ b i' h', spec_l01Below.f s i h n = some (b, i', h') ∧ 0 ≤ b ∧ b < n ∧ 0 ≤ i' := by
  obtain ⟨b, i', h', e, b0, b1, i0⟩ := byteM s i h hs h0
  unfold spec_l01Below.f
  rw [if_neg (by omega), if_pos hn2, e]
  simp only [Option.bind_some]
  rw [if_neg (by omega)]
  refine ⟨_, _, _, rfl, ?_, ?_, i0⟩
  · rw [Int.tmod_eq_emod_of_nonneg b0]; exact Int.emod_nonneg _ (by omega)
  · rw [Int.tmod_eq_emod_of_nonneg b0]; exact Int.emod_lt_of_pos _ hn
theorem newM_l (s : List Int) (hs : s.length ≤ 1048576) : ∀ (d : Nat) (i : Nat) (h : Int), i + d = s.length → ∃ h', Ev (fun k => spec_l01New.l0 k s h (i : Int)) (s, 0, h')
  | 0, i, h, hd => ⟨h, suc (f := fun _ => some (s, 0, h)) (fun k => by rw [spec_l01New.l0, if_neg (by omega)]) now⟩
  | d + 1, i, h, hd => by
    by_cases c : (i : Int) < 4000
    · obtain ⟨h', e⟩ := newM_l s hs d (i + 1) (Go.bits .and .i64 (wrap64 ((wrap64 ((wrap64 (h * 71)) + (wrap64 (rd s (i : Int))))) + 7)) 1073741823) (by omega)
      refine ⟨h', suc (fun k => ?_) e⟩
      rw [spec_l01New.l0, if_pos (by omega), if_pos c, if_pos (by omega), up1 (by omega) (by omega)]; rfl
    · exact ⟨h, suc (f := fun _ => some (s, 0, h)) (fun k => by rw [spec_l01New.l0, if_pos (by omega), if_neg c]) now⟩
theorem newM (s : List Int) (hs : s.length ≤ 1048576) : ∃ h', Ev (fun k => spec_l01New.f k s) (s, 0, h') := by
  unfold spec_l01New.f
  exact newM_l s hs s.length 0 _ (by omega)
theorem skipM (s : List Int) (hs : s.length ≤ 1048576) : ∀ (n : Nat) (i h : Int), 0 ≤ i → ∃ i' h', mnSkip s n i h = some (i', h') ∧ 0 ≤ i'
  | 0, i, h, h0 => ⟨i, h, rfl, h0⟩
  | n + 1, i, h, h0 => by
    obtain ⟨b, i1, h1, e, _, _, p⟩ := byteM s i h hs h0
    obtain ⟨i', h', e2, q⟩ := skipM s hs n i1 h1 p
    refine ⟨i', h', ?_, q⟩
    rw [mnSkip, e]; exact e2
theorem makeNum (s : List Int) (hs : s.length ≤ 1048576) (a : Int) (h0 : 0 ≤ a) (h1 : a ≤ 1000) : ∃ r, Ev (fun k => spec_MakeNum.f k s a) r ∧ 0 ≤ r ∧ r ≤ 65535 := by
  obtain ⟨h, e⟩ := newM s hs
  obtain ⟨i1, h1', e1, p1⟩ := skipM s hs a.toNat 0 h (by omega)
  obtain ⟨x, i2, h2, e2, x0, x1, p2⟩ := byteM s i1 h1' hs p1
  obtain ⟨y, i3, h3, e3, y0, y1, p3⟩ := byteM s i2 h2 hs p2
  refine ⟨wrap64 ((wrap64 (x * 256)) + y), ?_, ?_⟩
  · unfold spec_MakeNum.f
    exact ifp ⟨h0, h1⟩ (bev e (bnd e1 (bnd e2 (bnd e3 now))))
  · rw [w64 (i := x * 256) (by omega) (by omega), w64 (by omega) (by omega)]; omega
theorem mono_step {es : List E3} {s : FS} {i v : Nat} (h : s.k v = true) : (fstep es i s).o v ≤ s.o v := by
  unfold fstep
  split
  · rename_i c
    by_cases e : v = To es i
    · subst e
      unfold improves at c
      simp only [h, Bool.and_eq_true, Bool.not_true, Bool.false_or, decide_eq_true_eq] at c
      simp only [upd_same]; omega
    · simp only [upd_ne _ _ e]; omega
  · omega
theorem mono_rnd {es : List E3} {v : Nat} : ∀ (d i : Nat) (s : FS), s.k v = true → (frnd es i d s).o v ≤ s.o v
  | 0, _, s, _ => Int.le_refl _
  | d + 1, i, s, h => Int.le_trans (mono_rnd d (i + 1) _ (known_step h)) (mono_step h)
theorem mono_rounds {es : List E3} {v : Nat} : ∀ (r : Nat) (s : FS), s.k v = true → (frounds es r s).o v ≤ s.o v
  | 0, s, _ => Int.le_refl _
  | r + 1, s, h => Int.le_trans (mono_rounds r _ (known_rnd es.length 0 _ h)) (mono_rnd es.length 0 { s with ch := -1 } h)
theorem sf_true (es : List E3) : ∀ (d : Nat) (L : LS), (sfLoop es d L).2 = true → ∃ r, r < d ∧ (lrounds es (r + 1) L).ch < 0 ∧ (sfLoop es d L).1 = finL (lrounds es (r + 1) L).o (lrounds es (r + 1) L).k
  | 0, L, h => by simp [sfLoop] at h
  | d + 1, L, h => by
    simp only [sfLoop] at h ⊢
    by_cases c : (lround es L).ch < 0
    · exact ⟨0, by omega, c, by rw [if_pos c]; rfl⟩
    · rw [if_neg c] at h ⊢
      obtain ⟨r, h1, h2, h3⟩ := sf_true es d _ h
      exact ⟨r + 1, by omega, h2, h3⟩
theorem sf_false (es : List E3) : ∀ (d : Nat) (L : LS), ¬ (sfLoop es d L).2 = true → ∀ r, r < d → 0 ≤ (lrounds es (r + 1) L).ch
  | 0, L, h => by intro r hr; omega
  | d + 1, L, h => by
    simp only [sfLoop] at h
    by_cases c : (lround es L).ch < 0
    · rw [if_pos c] at h; exact absurd rfl h
    · rw [if_neg c] at h
      intro r hr
      cases r with
      | zero => show 0 ≤ (lround es L).ch; omega
      | succ r => exact sf_false es d _ h r (by omega)
theorem sumP_walk {n : Nat} {es : List E3} (N : Neg n es) : ∀ m, Walk es (parN es (negS n es) m (negC n es)) (negC n es) (sumP es (negS n es) (negC n es) m)
  | 0 => Walk.nil _
  | m + 1 => by
    obtain ⟨a, b, _⟩ := neg_lastC N m
    have w := sumP_walk N m
    rw [← b] at w
    exact Walk.cons (by omega) w
theorem neg_walk {n : Nat} {es : List E3} (N : Neg n es) : ∃ c w, c < n ∧ Walk es c c w ∧ w < 0 := by
  obtain ⟨m, _, _, h1, _, h2⟩ := N.back
  have w := sumP_walk N m
  rw [h1] at w
  exact ⟨negC n es, _, (neg_lastC N 0).2.2, w, h2⟩
/-- No edge is too short for the numbers of the last round: no walk back is negative. -/
theorem no_walk {n : Nat} {es : List E3} (hv : ValidE n es) (h : (negS n es).ch < 0) {c : Nat} {w : Int} (hc : c < n) (hw : Walk es c c w) : 0 ≤ w := by
  obtain ⟨k, rfl⟩ : ∃ k, n = k + 1 := ⟨n - 1, by omega⟩
  have hk : ∀ s : FS, s.k c = true → (frounds es (k + 1) s).ch < 0 → 0 ≤ w := by
    intro s hs hq
    rw [frounds_succ] at hq
    exact no_neg (fround_quiet es _ hq).2 hw (known_rounds k s hs)
  rw [neg_fs hv] at h
  refine hk _ ?_ h
  show rb (List.replicate (k + 1) true) (c : Int) = true
  unfold rb rdOf
  simp [List.getD_eq_getElem?_getD, hc]
/-- What a told row of distances is: a state of numbers in which every edge holds. -/
structure Dist (n : Nat) (es : List E3) (s : Nat) (row : List Int) (F : FS) : Prop where
  len : row.length = n
  at_ : ∀ v, v < n → rd row (v : Int) = if F.k v = true then (if F.o v > 1000000 then 1000000 else F.o v) else 1000000
  holds_ : ∀ j, j < es.length → holds es F j
  sound : ∀ v, F.k v = true → ∃ a, Walk es s v a ∧ F.o v = a
  src : F.k s = true ∧ F.o s = 0
theorem fin_init (n s : Nat) (h : s < n) : (fsOf (sfInit n s)).k s = true ∧ (fsOf (sfInit n s)).o s = 0 ∧ ∀ u, (fsOf (sfInit n s)).k u = true → u = s := by
  refine ⟨?_, ?_, fun u hu => ?_⟩
  · show rb ((List.replicate n false).set s true) (s : Int) = true
    unfold rb rdOf; simp [List.getD_eq_getElem?_getD, h]
  · show rd (List.replicate n 0) (s : Int) = 0
    unfold rd; simp [List.getD_eq_getElem?_getD, h]
  · have hu : rb ((List.replicate n false).set s true) (u : Int) = true := hu
    by_cases e : u = s
    · exact e
    · exfalso
      unfold rb rdOf at hu
      simp only [Int.toNat_natCast, List.getD_eq_getElem?_getD] at hu
      rw [List.getElem?_set_ne (by omega)] at hu
      rw [List.getElem?_replicate] at hu
      split at hu <;> simp at hu
theorem sf_dist {n : Nat} {es : List E3} (hv : ValidE n es) {s : Nat} (hs : s < n) (h : (sfLoop es n (sfInit n s)).2 = true) : ∃ F, Dist n es s (sfLoop es n (sfInit n s)).1 F ∧ ∃ r, r < n ∧ F = fsOf (lrounds es (r + 1) (sfInit n s)) := by
  obtain ⟨r, hr, hq, e⟩ := sf_true es n _ h
  have hg := good_rounds (es := es) (r + 1) _ (good_init n s)
  have hf := fs_rounds hv (r + 1) _ (good_init n s)
  obtain ⟨i1, i2, i3⟩ := fin_init n s hs
  have hq' : (frounds es (r + 1) (fsOf (sfInit n s))).ch < 0 := by rw [← hf]; exact hq
  have hq2 := hq'
  rw [frounds_succ] at hq2
  obtain ⟨q1, q2⟩ := fround_quiet es _ hq2
  have hh : ∀ j, j < es.length → holds es (frounds es (r + 1) (fsOf (sfInit n s))) j := by
    intro j hj
    rw [frounds_succ, q1]
    exact q2 j hj
  have snd : Sound es (fsOf (sfInit n s)) (frounds es (r + 1) (fsOf (sfInit n s))) := sound_rounds (r + 1) _ (fun v hv => ⟨v, 0, hv, Walk.nil v, by omega⟩)
  have snd' : ∀ v, (frounds es (r + 1) (fsOf (sfInit n s))).k v = true → ∃ a, Walk es s v a ∧ (frounds es (r + 1) (fsOf (sfInit n s))).o v = a := by
    intro v hk
    obtain ⟨u, a, h1, h2, h3⟩ := snd v hk
    obtain rfl := i3 u h1
    rw [i2, Int.zero_add] at h3
    exact ⟨a, h2, h3⟩
  have ks := known_rounds (es := es) (r + 1) _ i1
  refine ⟨frounds es (r + 1) (fsOf (sfInit n s)), ⟨?_, ?_, hh, snd', ks, ?_⟩, r, hr, hf.symm⟩
  · rw [e, finL_len _ _ (by rw [hg.1, hg.2.2]), hg.1]
  · intro v hvn
    rw [e, finL_get _ _ v (by rw [hg.1, hg.2.2]) (by rw [hg.1]; exact hvn), ← hf]
    rfl
  · obtain ⟨a, h1, h2⟩ := snd' s ks
    have h3 := no_neg hh h1 ks
    have h4 := mono_rounds (es := es) (r + 1) _ i1
    omega
theorem sf_ok {n : Nat} {es : List E3} (hv : ValidE n es) (hq : (negS n es).ch < 0) {s : Nat} (hs : s < n) : (sfLoop es n (sfInit n s)).2 = true := by
  refine Classical.byContradiction fun h => ?_
  have h1 := sf_false es n _ h (n - 1) (by omega)
  rw [show n - 1 + 1 = n by omega] at h1
  have h2 : 0 ≤ (frounds es n (fsOf (sfInit n s))).ch := by rw [← fs_rounds hv n _ (good_init n s)]; exact h1
  have hI := neg_of_change n (by omega) (valid_nodes hv) _ h2
  obtain ⟨v, w, _, h3, h4⟩ := hI
  have hvn : v < n := by
    cases h3 with
    | nil => omega
    | cons hi _ => exact (valid_nodes hv _ hi).1
  have := no_walk hv hq hvn h3
  omega
theorem sf_bad {n : Nat} {es : List E3} (hv : ValidE n es) (hq : 0 ≤ (negS n es).ch) : ∃ c, c < n ∧ ¬ (sfLoop es n (sfInit n c)).2 = true := by
  obtain ⟨c, w, hc, h1, h2⟩ := neg_walk (neg_of hv hq)
  refine ⟨c, hc, fun h => ?_⟩
  obtain ⟨F, D, _⟩ := sf_dist hv hc h
  have := no_neg D.holds_ h1 D.src.1
  omega
theorem sfM_at {n : Int} {es : List E3} (hg : graphOk n es = true) {i : Nat} (hi : (i : Int) < n) : sfM n es (i : Int) = sfLoop es n.toNat (sfInit n.toNat i) := by
  unfold sfM
  rw [if_pos ⟨hg, by omega, hi⟩]; rfl
def rowsC (n : Int) (es : List E3) : Nat → Nat → List Int
  | 0, _ => []
  | d + 1, i => (sfM n es (i : Int)).1.map clampB ++ rowsC n es d (i + 1)
theorem closeL_ok (n : Int) (es : List E3) : ∀ (d i : Nat) (o : List Int), (∀ j, i ≤ j → j < i + d → (sfM n es (j : Int)).2 = true) → closeL n es d i o = (n, o ++ rowsC n es d i, true)
  | 0, i, o, _ => by simp [closeL, rowsC]
  | d + 1, i, o, h => by
    rw [closeL, if_pos (h i (by omega) (by omega)), closeL_ok n es d (i + 1) _ (fun j h1 h2 => h j (by omega) (by omega)), rowsC, List.append_assoc]
theorem closeL_bad (n : Int) (es : List E3) : ∀ (d i : Nat) (o : List Int), (∃ j, i ≤ j ∧ j < i + d ∧ ¬ (sfM n es (j : Int)).2 = true) → closeL n es d i o = (0, [], false)
  | 0, i, o, h => by obtain ⟨j, h1, h2, _⟩ := h; omega
  | d + 1, i, o, h => by
    by_cases c : (sfM n es (i : Int)).2 = true
    · rw [closeL, if_pos c]
      obtain ⟨j, h1, h2, h3⟩ := h
      exact closeL_bad n es d (i + 1) _ ⟨j, by
        rcases Nat.lt_or_ge i j with h4 | h4
        · exact h4
        · have : i = j := by omega
          subst this; exact absurd c h3, by omega, h3⟩
    · rw [closeL, if_neg c]
theorem close_ok {n : Int} {es : List E3} (hg : graphOk n es = true) (h : negM n es = []) : closeM n es = (n, rowsC n es n.toNat 0, true) ∧ ∀ i : Nat, (i : Int) < n → (sfM n es (i : Int)).2 = true := by
  have hv := valid_of hg
  have hq : (negS n.toNat es).ch < 0 := by
    have := negM_nil.1 h
    rcases Int.lt_or_le (negS n.toNat es).ch 0 with h1 | h1
    · exact h1
    · exact absurd ⟨hg, h1⟩ this
  have ha : ∀ i : Nat, (i : Int) < n → (sfM n es (i : Int)).2 = true := fun i hi => by
    rw [sfM_at hg hi]; exact sf_ok hv hq (by omega)
  refine ⟨?_, ha⟩
  unfold closeM
  rw [if_pos hg, closeL_ok n es n.toNat 0 [] (fun j _ hj => ha j (by omega)), List.nil_append]
theorem close_bad {n : Int} {es : List E3} (h : negM n es ≠ []) : closeM n es = (0, [], false) := by
  have c : graphOk n es = true ∧ 0 ≤ (negS n.toNat es).ch := Classical.byContradiction fun c => h (negM_nil.2 c)
  obtain ⟨i, hi, h1⟩ := sf_bad (valid_of c.1) c.2
  unfold closeM
  rw [if_pos c.1]
  have h0 := (graphOk_iff c.1).1
  exact closeL_bad n es n.toNat 0 [] ⟨i, by omega, by omega, by rw [sfM_at c.1 (by omega)]; exact h1⟩
def cellOf (s : Int) (l : List Int) (i k : Int) : Int := if tableOk s l = true ∧ (0 ≤ i ∧ i < s) ∧ (0 ≤ k ∧ k < s) then cellT s l i.toNat k.toNat else 0
theorem rd_app {a b : List Int} (x : Nat) : rd (a ++ b) (x : Int) = if x < a.length then rd a x else rd b ((x - a.length : Nat) : Int) := by
  unfold rd
  simp only [Int.toNat_natCast, List.getD_eq_getElem?_getD]
  split
  · rename_i h; rw [List.getElem?_append_left h]
  · rename_i h; rw [List.getElem?_append_right (by omega)]
theorem rd_map (f : Int → Int) {a : List Int} (x : Nat) (h : x < a.length) : rd (a.map f) (x : Int) = f (rd a x) := by
  rw [rd_at (by simpa using h), rd_at h, List.getElem_map]
theorem rowsC_len {n : Int} {es : List E3} (m : Nat) : ∀ (d i : Nat), (∀ j, i ≤ j → j < i + d → (sfM n es (j : Int)).1.length = m) → (rowsC n es d i).length = d * m
  | 0, i, _ => by simp [rowsC]
  | d + 1, i, h => by
    rw [rowsC, List.length_append, List.length_map, h i (by omega) (by omega), rowsC_len m d (i + 1) (fun j h1 h2 => h j (by omega) (by omega)), Nat.add_mul, Nat.one_mul]; omega
theorem rowsC_at {n : Int} {es : List E3} (m : Nat) : ∀ (d i : Nat), (∀ j, i ≤ j → j < i + d → (sfM n es (j : Int)).1.length = m) → ∀ a k, a < d → k < m → rd (rowsC n es d i) ((a * m + k : Nat) : Int) = clampB (rd (sfM n es ((i + a : Nat) : Int)).1 (k : Int))
  | 0, i, _, a, k, ha, _ => by omega
  | d + 1, i, h, a, k, ha, hk => by
    rw [rowsC, rd_app, List.length_map, h i (by omega) (by omega)]
    cases a with
    | zero => 
      rw [if_pos (by omega), Nat.zero_mul, Nat.zero_add, rd_map _ _ (by rw [h i (by omega) (by omega)]; exact hk)]; rfl
    | succ a =>
      have e : (a + 1) * m + k = m + (a * m + k) := by rw [Nat.add_mul, Nat.one_mul]; omega
      rw [e, if_neg (by omega), Nat.add_sub_cancel_left, rowsC_at m d (i + 1) (fun j h1 h2 => h j (by omega) (by omega)) a k (by omega) hk, show i + 1 + a = i + (a + 1) by omega]
/-- The table of distances: each cell is the distance of a walk, or a million where none is. -/
structure Tab (n : Nat) (es : List E3) (cells : List Int) : Prop where
  len : cells.length = n * n
  row : ∀ i, i < n → ∃ F row, (∀ k, k < n → rd cells ((i * n + k : Nat) : Int) = clampB (rd row k)) ∧ Dist n es i row F ∧ sfM (n : Int) es (i : Int) = (row, true) ∧ ∃ r, r < n ∧ F = fsOf (lrounds es (r + 1) (sfInit n i))
theorem tab_of {n : Int} {es : List E3} (hg : graphOk n es = true) (h : negM n es = []) : closeM n es = (n, rowsC n es n.toNat 0, true) ∧ Tab n.toNat es (rowsC n es n.toNat 0) := by
  obtain ⟨h1, h2⟩ := close_ok hg h
  have hv := valid_of hg
  have h0 := (graphOk_iff hg).1
  have hD : ∀ i : Nat, i < n.toNat → ∃ F, Dist n.toNat es i (sfM n es (i : Int)).1 F ∧ ∃ r, r < n.toNat ∧ F = fsOf (lrounds es (r + 1) (sfInit n.toNat i)) := fun i hi => by
    have := h2 i (by omega)
    rw [sfM_at hg (by omega)] at this ⊢
    exact sf_dist hv hi this
  have hl : ∀ j, 0 ≤ j → j < 0 + n.toNat → (sfM n es (j : Int)).1.length = n.toNat := fun j _ hj => by
    obtain ⟨F, D, _⟩ := hD j (by omega)
    exact D.len
  refine ⟨h1, rowsC_len n.toNat n.toNat 0 hl, fun i hi => ?_⟩
  obtain ⟨F, D, hr⟩ := hD i hi
  refine ⟨F, _, fun k hk => ?_, D, ?_, hr⟩
  · rw [rowsC_at n.toNat n.toNat 0 hl i k hi hk, Nat.zero_add]
  · rw [Int.toNat_of_nonneg h0]
    exact Prod.ext rfl (h2 i (by omega))
theorem clampB_in (x : Int) : -1000000 ≤ clampB x ∧ clampB x ≤ 1000000 := by
  unfold clampB
  repeat' split
  all_goals omega
theorem tab_cell {n : Nat} {es : List E3} {cells : List Int} (T : Tab n es cells) {i k : Nat} (hi : i < n) (hk : k < n) : cellT (n : Int) cells i k = rd cells ((i * n + k : Nat) : Int) := by
  unfold cellT
  congr 1
theorem tab_ok {n : Nat} {es : List E3} {cells : List Int} (h8 : n ≤ 8) (T : Tab n es cells) : tableOk (n : Int) cells = true := by
  unfold tableOk
  rw [Bool.and_eq_true, decide_eq_true_eq, allF0]
  refine ⟨⟨by omega, by omega, by rw [T.len]; simp⟩, fun x hx => ?_⟩
  rw [T.len] at hx
  have hn : 0 < n := by
    rcases Nat.eq_zero_or_pos n with e | e
    · subst e; simp at hx
    · exact e
  have hq : x / n < n := Nat.div_lt_of_lt_mul hx
  have hr : x % n < n := Nat.mod_lt _ hn
  have e := Nat.div_add_mod x n
  rw [Nat.mul_comm] at e
  obtain ⟨F, row, h1, D, _⟩ := T.row _ hq
  have h2 := h1 _ hr
  rw [e] at h2
  unfold cellOk
  rw [decide_eq_true_eq, h2]
  refine ⟨(clampB_in _).1, (clampB_in _).2, fun hd => ?_⟩
  have hd' : x / n = x % n := by omega
  rw [D.at_ _ hr, ← hd', if_pos D.src.1, D.src.2]
  decide
theorem tab_edge {n : Nat} {es : List E3} {cells : List Int} (hv : ValidE n es) (T : Tab n es cells) {j : Nat} (hj : j < es.length) : cellT (n : Int) cells (Fr es j) (To es j) ≤ Wt es j := by
  obtain ⟨hf, ht⟩ := valid_nodes hv j hj
  rw [tab_cell T hf ht]
  obtain ⟨F, row, h1, D, _⟩ := T.row _ hf
  obtain ⟨k1, k2⟩ := D.holds_ j hj D.src.1
  rw [h1 _ ht, D.at_ _ ht, if_pos k1]
  rw [D.src.2] at k2
  have hw := (hv j hj).2.2
  unfold Wt at k2 ⊢
  unfold clampB
  repeat' split
  all_goals omega
/-- Weights of at most a hundred: no distance comes near a million. -/
def SmallW (es : List E3) : Prop := ∀ i : Nat, i < es.length → -100 ≤ (eAt es i).2.2 ∧ (eAt es i).2.2 ≤ 100
theorem smallW_step {n : Nat} {es : List E3} {L : LS} {i : Nat} {B : Int} (hv : ValidE n es) (hw : SmallW es) (hi : i < es.length) (h : GoodL n L) (hs : SmallL B L) : SmallL (B + 100) (lstep es i L) := by
  obtain ⟨⟨f0, f1⟩, _, _⟩ := hv i hi
  have hm := hs _ (rd_mem f0 (by rw [h.1]; exact f1))
  have hw' := hw i hi
  unfold lstep
  split
  · intro x hx
    rcases List.mem_or_eq_of_mem_set hx with h1 | h1
    · have := hs x h1; omega
    · omega
  · intro x hx
    have := hs x hx; omega
theorem smallW_rnd {n : Nat} {es : List E3} (hv : ValidE n es) (hw : SmallW es) : ∀ (d i : Nat) (L : LS) (B : Int), i + d ≤ es.length → GoodL n L → SmallL B L → SmallL (B + 100 * d) (lrnd es i d L)
  | 0, _, _, B, _, _, h => by simpa [lrnd] using h
  | d + 1, i, L, B, hd, h, hs => by
    have := smallW_rnd hv hw d (i + 1) (lstep es i L) (B + 100) (by omega) (good_step i h) (smallW_step hv hw (by omega) h hs)
    rw [show B + 100 * ((d + 1 : Nat) : Int) = B + 100 + 100 * (d : Int) by omega]
    exact this
theorem smallW_rounds {n : Nat} {es : List E3} (hv : ValidE n es) (hw : SmallW es) (he : es.length ≤ 80) : ∀ (r : Nat) (L : LS) (B : Int), GoodL n L → SmallL B L → SmallL (B + 8000 * r) (lrounds es r L)
  | 0, L, B, _, h => by simpa [lrounds] using h
  | r + 1, L, B, hg, hs => by
    have h1 := smallW_rnd hv hw es.length 0 { L with ch := -1 } B (by omega) hg hs
    have h2 : SmallL (B + 8000) (lround es L) := by
      intro x hx
      have := h1 x hx
      omega
    have := smallW_rounds hv hw he r _ _ (good_round hg) h2
    rw [show B + 8000 * ((r + 1 : Nat) : Int) = B + 8000 + 8000 * (r : Int) by omega]
    exact this
theorem dist_small {n : Nat} {es : List E3} (hv : ValidE n es) (hw : SmallW es) (he : es.length ≤ 80) (h8 : n ≤ 8) {s r v : Nat} (hr : r < n) (hvn : v < n) : -64000 ≤ (fsOf (lrounds es (r + 1) (sfInit n s))).o v ∧ (fsOf (lrounds es (r + 1) (sfInit n s))).o v ≤ 64000 := by
  have hg := good_rounds (es := es) (r + 1) _ (good_init n s)
  have hs := smallW_rounds hv hw he (r + 1) _ 0 (good_init n s) (small_init n s)
  have := hs _ (rd_mem (l := (lrounds es (r + 1) (sfInit n s)).o) (i := (v : Int)) (by omega) (by rw [hg.1]; omega))
  show -64000 ≤ rd _ (v : Int) ∧ rd _ (v : Int) ≤ 64000
  omega
theorem tab_val {n : Nat} {es : List E3} {cells : List Int} (hv : ValidE n es) (hw : SmallW es) (he : es.length ≤ 80) (h8 : n ≤ 8) (T : Tab n es cells) {i : Nat} (hi : i < n) : ∃ F : FS, (∀ j, j < es.length → holds es F j) ∧ (∀ v, F.k v = true → ∃ a, Walk es i v a ∧ F.o v = a) ∧ F.k i = true ∧ F.o i = 0 ∧ ∀ k, k < n → (cellT (n : Int) cells i k = if F.k k = true then F.o k else 1000000) ∧ -64000 ≤ F.o k ∧ F.o k ≤ 64000 := by
  obtain ⟨F, row, h1, D, _, r, hr, e⟩ := T.row i hi
  refine ⟨F, D.holds_, D.sound, D.src.1, D.src.2, fun k hk => ?_⟩
  have hb := dist_small hv hw he h8 (s := i) hr hk
  rw [← e] at hb
  refine ⟨?_, hb⟩
  rw [tab_cell T hi hk, h1 k hk, D.at_ k hk]
  unfold clampB
  repeat' split
  all_goals first | rfl | omega | simp_all
theorem tab_closed {n : Nat} {es : List E3} {cells : List Int} (hv : ValidE n es) (hw : SmallW es) (he : es.length ≤ 80) (h8 : n ≤ 8) (T : Tab n es cells) : closedT (n : Int) cells = true := by
  unfold closedT
  rw [Bool.and_eq_true, allF0]
  refine ⟨tab_ok h8 T, fun i hi => ?_⟩
  rw [allF0]
  intro j hj
  rw [allF0]
  intro k hk
  rw [Int.toNat_natCast] at hi hj hk
  unfold closedOk
  rw [decide_eq_true_eq]
  obtain ⟨F, f1, f2, f3, f4, f5⟩ := tab_val hv hw he h8 T hi
  obtain ⟨G, g1, g2, g3, g4, g5⟩ := tab_val hv hw he h8 T hj
  obtain ⟨a1, a2, a3⟩ := f5 k hk
  obtain ⟨b1, b2, b3⟩ := f5 j hj
  obtain ⟨c1, c2, c3⟩ := g5 k hk
  rw [a1, b1, c1]
  have hX : (if F.k k = true then F.o k else 1000000) ≤ 1000000 := by split <;> omega
  cases hF : F.k j with
  | false => 
    simp only [Bool.false_eq_true, if_false]
    generalize (if F.k k = true then F.o k else 1000000) = X at hX ⊢
    unfold addB
    rw [if_pos (by omega)]
    omega
  | true =>
    cases hG : G.k k with
    | false =>
      simp only [Bool.false_eq_true, if_false, if_true]
      generalize (if F.k k = true then F.o k else 1000000) = X at hX ⊢
      unfold addB
      rw [if_neg (by omega), if_pos (by omega)]
      omega
    | true =>
      obtain ⟨w, hwk, ew⟩ := g2 k hG
      obtain ⟨k1, k2⟩ := walk_low f1 hwk hF
      rw [k1]
      simp only [if_true]
      unfold addB
      repeat' split
      all_goals omega
theorem eAt_app {es fs : List E3} {i : Nat} (h : i < es.length) : eAt (es ++ fs) (i : Int) = eAt es (i : Int) := by
  unfold eAt
  simp only [Int.toNat_natCast, List.getD_eq_getElem?_getD]
  rw [List.getElem?_append_left h]
theorem Fr_app {es fs : List E3} {i : Nat} (h : i < es.length) : Fr (es ++ fs) i = Fr es i := by unfold Fr; rw [eAt_app h]
theorem To_app {es fs : List E3} {i : Nat} (h : i < es.length) : To (es ++ fs) i = To es i := by unfold To; rw [eAt_app h]
theorem Wt_app {es fs : List E3} {i : Nat} (h : i < es.length) : Wt (es ++ fs) i = Wt es i := by unfold Wt; rw [eAt_app h]
theorem walk_more {es : List E3} {u v : Nat} {a : Int} (h : Walk es u v a) (fs : List E3) : Walk (es ++ fs) u v a := by
  induction h with
  | nil v => exact Walk.nil v
  | cons hi _ ih =>
    rw [← To_app (fs := fs) hi] at ih
    have := Walk.cons (es := es ++ fs) (by rw [List.length_append]; omega) ih
    rwa [Fr_app hi, Wt_app hi] at this
theorem valid_app {n : Nat} {es fs : List E3} (h : ValidE n (es ++ fs)) : ValidE n es := fun i hi => by
  have := h i (by rw [List.length_append]; omega)
  rwa [eAt_app hi] at this
/-- A cycle that has no new edge is a cycle of the old graph. -/
theorem old_cycle {n : Nat} {es fs : List E3} (hv : ValidE n (es ++ fs)) (hq : (negS n es).ch < 0) (h : 0 ≤ (negS n (es ++ fs)).ch) : ∃ k, k ∈ negT n (es ++ fs) ∧ (es.length : Int) ≤ k := by
  have N := neg_of hv h
  obtain ⟨m, hm, h1, _, h2, e⟩ := negT_eq N
  refine Classical.byContradiction fun hno => ?_
  have hall : ∀ j, j < m + 1 → (negS n (es ++ fs)).l (parN (es ++ fs) (negS n (es ++ fs)) j (negC n (es ++ fs))) < es.length := fun j hj => by
    rcases Int.lt_or_le ((negS n (es ++ fs)).l (parN (es ++ fs) (negS n (es ++ fs)) j (negC n (es ++ fs)))) es.length with h3 | h3
    · exact h3
    · exact absurd ⟨_, by rw [e, List.mem_map]; exact ⟨j, List.mem_range.2 hj, rfl⟩, h3⟩ hno
  have hw : ∀ j, j ≤ m + 1 → Walk es (parN (es ++ fs) (negS n (es ++ fs)) j (negC n (es ++ fs))) (negC n (es ++ fs)) (sumP (es ++ fs) (negS n (es ++ fs)) (negC n (es ++ fs)) j) := by
    intro j
    induction j with
    | zero => intro _; exact Walk.nil _
    | succ j ih =>
      intro hj
      obtain ⟨a, b, _⟩ := neg_lastC N j
      have hlt := hall j (by omega)
      have w := ih (by omega)
      have hi : ((negS n (es ++ fs)).l (parN (es ++ fs) (negS n (es ++ fs)) j (negC n (es ++ fs)))).toNat < es.length := by omega
      rw [← b, To_app hi] at w
      have := Walk.cons hi w
      rw [← Fr_app (fs := fs) hi, ← Wt_app (fs := fs) hi] at this
      exact this
  have w := hw (m + 1) (Nat.le_refl _)
  rw [h1] at w
  have := no_walk (valid_app hv) hq (neg_lastC N 0).2.2 w
  omega
/-- The distances behind a new edge f -> t of weight w, out of those from i (F) and from t (G). -/
def newD (F G : FS) (f : Nat) (w : Int) : FS := ⟨fun v => if F.k f = true ∧ G.k v = true then (if F.k v = true then (if F.o v < F.o f + w + G.o v then F.o v else F.o f + w + G.o v) else F.o f + w + G.o v) else F.o v, F.l, fun v => F.k v || (F.k f && G.k v), 0⟩
theorem newD_holds {es : List E3} {F G : FS} {f t : Nat} {w : Int} (hF : ∀ j, j < es.length → holds es F j) (hG : ∀ j, j < es.length → holds es G j) (gt : G.k t = true ∧ G.o t = 0) (hn : G.k f = true → 0 ≤ w + G.o f) (e : E3) (e0 : e.1 = f) (e1 : e.2.1 = t) (e2 : e.2.2 = w) : ∀ j, j < (es ++ [e]).length → holds (es ++ [e]) (newD F G f w) j := by
  intro j hj
  rw [List.length_append, List.length_singleton] at hj
  by_cases c : j < es.length
  · have hf := hF j c
    have hg := hG j c
    unfold holds at hf hg ⊢
    rw [Fr_app c, To_app c, Wt_app c]
    simp only [newD]
    cases a1 : F.k f <;> cases a2 : F.k (Fr es j) <;> cases a3 : G.k (Fr es j) <;> cases a4 : F.k (To es j) <;> cases a5 : G.k (To es j)
    all_goals simp only [a2, a3, a4, a5, Bool.false_eq_true, true_implies, false_implies, false_and, true_and] at hf hg
    all_goals simp only [Bool.false_eq_true, Bool.or_true, Bool.true_or, Bool.or_false, Bool.false_or, Bool.and_true, Bool.and_false, Bool.true_and, Bool.false_and, false_implies, true_implies, and_true, true_and, and_false, false_and, if_true, if_false]
    all_goals (repeat' split)
    all_goals omega
  · obtain rfl : j = es.length := by omega
    have he : eAt (es ++ [e]) (es.length : Int) = e := by unfold eAt; simp [List.getD_eq_getElem?_getD]
    unfold holds Fr To Wt
    rw [he, e0, e1, e2, Int.toNat_natCast, Int.toNat_natCast]
    simp only [newD, gt.1, gt.2]
    cases a1 : F.k f <;> cases a3 : G.k f <;> cases a4 : F.k t
    all_goals simp only [a3, Bool.false_eq_true, true_implies, false_implies] at hn
    all_goals simp only [Bool.false_eq_true, Bool.or_true, Bool.true_or, Bool.or_false, Bool.false_or, Bool.and_true, Bool.and_false, Bool.true_and, Bool.false_and, false_implies, true_implies, and_true, true_and, and_false, false_and, if_true, if_false]
    all_goals (repeat' split)
    all_goals omega
theorem newD_sound {es : List E3} {F G : FS} {i f t : Nat} {w : Int} (hF : ∀ v, F.k v = true → ∃ a, Walk es i v a ∧ F.o v = a) (hG : ∀ v, G.k v = true → ∃ a, Walk es t v a ∧ G.o v = a) (e : E3) (e0 : e.1 = f) (e1 : e.2.1 = t) (e2 : e.2.2 = w) : ∀ v, (newD F G f w).k v = true → Walk (es ++ [e]) i v ((newD F G f w).o v) := by
  intro v hv
  have he : eAt (es ++ [e]) (es.length : Int) = e := by unfold eAt; simp [List.getD_eq_getElem?_getD]
  have hedge : Walk (es ++ [e]) f t w := by
    have := Walk.edge (es := es ++ [e]) (i := es.length) (by rw [List.length_append, List.length_singleton]; omega)
    unfold Fr To Wt at this
    rwa [he, e0, e1, e2, Int.toNat_natCast, Int.toNat_natCast] at this
  simp only [newD, Bool.or_eq_true, Bool.and_eq_true] at hv ⊢
  have hcat : F.k f = true → G.k v = true → Walk (es ++ [e]) i v (F.o f + w + G.o v) := by
    intro h1 h2
    obtain ⟨a, ha, ea⟩ := hF f h1
    obtain ⟨b, hb, eb⟩ := hG v h2
    rw [ea, eb]
    exact ((walk_more ha [e]).trans hedge).trans (walk_more hb [e])
  by_cases c : F.k f = true ∧ G.k v = true
  · rw [if_pos c]
    by_cases d : F.k v = true
    · rw [if_pos d]
      split
      · obtain ⟨a, ha, ea⟩ := hF v d
        rw [ea]; exact walk_more ha [e]
      · exact hcat c.1 c.2
    · rw [if_neg d]; exact hcat c.1 c.2
  · rw [if_neg c]
    have d : F.k v = true := by
      rcases hv with h | h
      · exact h
      · exact absurd h c
    obtain ⟨a, ha, ea⟩ := hF v d
    rw [ea]; exact walk_more ha [e]
theorem newD_src {es : List E3} {F G : FS} {i f : Nat} {w : Int} (hF : ∀ v, F.k v = true → ∃ a, Walk es i v a ∧ F.o v = a) (hG : ∀ j, j < es.length → holds es G j) (fi : F.k i = true ∧ F.o i = 0) (hn : G.k f = true → 0 ≤ w + G.o f) : (newD F G f w).k i = true ∧ (newD F G f w).o i = 0 := by
  simp only [newD, fi.1, fi.2, Bool.true_or, true_and]
  by_cases c : F.k f = true ∧ G.k i = true
  · rw [if_pos c]
    simp only [if_true]
    obtain ⟨a, ha, ea⟩ := hF f c.1
    obtain ⟨h1, h2⟩ := walk_low hG ha c.2
    have := hn h1
    split <;> omega
  · rw [if_neg c]
theorem addB_inf {b : Int} : addB 1000000 b = 1000000 := by unfold addB; rw [if_pos (by omega)]
theorem addB_inf' {a : Int} : addB a 1000000 = 1000000 := by
  unfold addB
  split
  · rfl
  · rw [if_pos (by omega)]
theorem addB_small2 {a b : Int} (h0 : -400000 ≤ a) (h1 : a ≤ 400000) (h2 : -400000 ≤ b) (h3 : b ≤ 400000) : addB a b = a + b := by
  unfold addB
  rw [if_neg (by omega), if_neg (by omega), if_neg (by omega), if_neg (by omega), if_neg (by omega), if_neg (by omega)]
theorem addB_small {a w : Int} (w0 : -100 ≤ w) (w1 : w ≤ 100) (h0 : -64000 ≤ a) (h1 : a ≤ 64000) : addB a w = a + w := addB_small2 (by omega) (by omega) (by omega) (by omega)
theorem tight_num (fk ff gk : Bool) {a b c w : Int} (a0 : -64000 ≤ a) (a1 : a ≤ 64000) (b0 : -64000 ≤ b) (b1 : b ≤ 64000) (c0 : -64000 ≤ c) (c1 : c ≤ 64000) (w0 : -100 ≤ w) (w1 : w ≤ 100) :
    (if (fk || (ff && gk)) = true then (if ff = true ∧ gk = true then (if fk = true then (if a < b + w + c then a else b + w + c) else b + w + c) else a) else 1000000) = if (if fk = true then a else 1000000) < addB (addB (if ff = true then b else 1000000) w) (if gk = true then c else 1000000) then (if fk = true then a else 1000000) else addB (addB (if ff = true then b else 1000000) w) (if gk = true then c else 1000000) := by
  have e1 : addB (addB b w) c = b + w + c := by rw [addB_small w0 w1 b0 b1, addB_small2 (by omega) (by omega) (by omega) (by omega)]
  cases fk <;> cases ff <;> cases gk
  all_goals simp only [Bool.false_eq_true, Bool.or_true, Bool.or_false, Bool.and_true, Bool.and_false, and_true, and_false, and_self, if_true, if_false, addB_inf, addB_inf', e1]
  all_goals (repeat' split)
  all_goals omega
/-- With a new edge there is a negative cycle just where the edge and the way back are negative; else the table is the tightened one. -/
theorem tight_law {n : Int} {es : List E3} {cells : List Int} (hg : graphOk n es = true) (hl : es.length < 80) (hw : SmallW es) (hm : negM n es = []) (T : Tab n.toNat es cells) (e : E3) (he : (0 ≤ e.1 ∧ e.1 < n) ∧ (0 ≤ e.2.1 ∧ e.2.1 < n) ∧ (-100 ≤ e.2.2 ∧ e.2.2 ≤ 100)) :
    (addB e.2.2 (cellT n cells e.2.1.toNat e.1.toNat) < 0 → negM n (es ++ [e]) ≠ []) ∧ (¬ addB e.2.2 (cellT n cells e.2.1.toNat e.1.toNat) < 0 → negM n (es ++ [e]) = [] ∧ ∀ cells', Tab n.toNat (es ++ [e]) cells' → ∀ i k, i < n.toNat → k < n.toNat → cellT n cells' i k = tightC n cells e.1.toNat e.2.1.toNat e.2.2 i k) := by
  obtain ⟨h0, h8, hlen, hall⟩ := graphOk_iff hg
  obtain ⟨⟨a0, a1⟩, ⟨b0, b1⟩, w0, w1⟩ := he
  have hg' : graphOk n (es ++ [e]) = true := by
    unfold graphOk
    rw [Bool.and_eq_true, decide_eq_true_eq, List.all_eq_true]
    refine ⟨⟨h0, h8, by rw [List.length_append, List.length_singleton]; omega⟩, fun x hx => ?_⟩
    unfold edgeOk
    rw [decide_eq_true_eq]
    rcases List.mem_append.1 hx with h | h
    · exact hall x h
    · rw [List.mem_singleton.1 h]; exact ⟨⟨a0, a1⟩, ⟨b0, b1⟩, by omega, by omega⟩
  have hv := valid_of hg
  have hv' := valid_of hg'
  have hw' : SmallW (es ++ [e]) := fun i hi => by
    rw [List.length_append, List.length_singleton] at hi
    by_cases c : i < es.length
    · rw [eAt_app c]; exact hw i c
    · obtain rfl : i = es.length := by omega
      have he : eAt (es ++ [e]) (es.length : Int) = e := by unfold eAt; simp [List.getD_eq_getElem?_getD]
      rw [he]; exact ⟨w0, w1⟩
  have hl' : (es ++ [e]).length ≤ 80 := by rw [List.length_append, List.length_singleton]; omega
  have en : (n.toNat : Int) = n := Int.toNat_of_nonneg h0
  have e0 : e.1 = (e.1.toNat : Int) := (Int.toNat_of_nonneg a0).symm
  have e1 : e.2.1 = (e.2.1.toNat : Int) := (Int.toNat_of_nonneg b0).symm
  generalize hf : e.1.toNat = f at *
  generalize ht : e.2.1.toNat = t at *
  generalize he2 : e.2.2 = w at *
  have hfn : f < n.toNat := by omega
  have htn : t < n.toNat := by omega
  obtain ⟨G, g1, g2, g3, g4, g5⟩ := tab_val hv hw hlen (by omega) T htn
  rw [en] at g5
  obtain ⟨c1, c2, c3⟩ := g5 f hfn
  have hadd : addB w (cellT n cells t f) < 0 ↔ (G.k f = true ∧ w + G.o f < 0) := by
    rw [c1]
    cases hk : G.k f with
    | false =>
      simp only [Bool.false_eq_true, if_false, false_and, iff_false]
      unfold addB
      rw [if_neg (by omega), if_pos (by omega)]; omega
    | true =>
      simp only [if_true, true_and]
      unfold addB
      repeat' split
      all_goals omega
  refine ⟨fun hneg hc => ?_, fun hpos => ?_⟩
  · obtain ⟨k1, k2⟩ := hadd.1 hneg
    have hq : (negS n.toNat (es ++ [e])).ch < 0 := by
      have := negM_nil.1 hc
      rcases Int.lt_or_le (negS n.toNat (es ++ [e])).ch 0 with h1 | h1
      · exact h1
      · exact absurd ⟨hg', h1⟩ this
    have hk := newD_sound (f := f) (w := w) g2 g2 e e0 e1 he2
    have hwalk : Walk (es ++ [e]) t t (G.o f + w + G.o t) := by
      obtain ⟨a, ha, ea⟩ := g2 f k1
      have hedge : Walk (es ++ [e]) f t w := by
        have := Walk.edge (es := es ++ [e]) (i := es.length) (by rw [List.length_append, List.length_singleton]; omega)
        have he : eAt (es ++ [e]) (es.length : Int) = e := by unfold eAt; simp [List.getD_eq_getElem?_getD]
        unfold Fr To Wt at this
        rwa [he, e0, e1, he2, Int.toNat_natCast, Int.toNat_natCast] at this
      have := (walk_more ha [e]).trans hedge
      rw [g4, ea, Int.add_zero]; exact this
    have := no_walk hv' hq htn hwalk
    omega
  · have hn : G.k f = true → 0 ≤ w + G.o f := fun h => by
      rcases Int.lt_or_le (w + G.o f) 0 with h1 | h1
      · exact absurd (hadd.2 ⟨h, h1⟩) hpos
      · exact h1
    refine ⟨?_, fun cells' T' i k hi hk => ?_⟩
    · refine Classical.byContradiction fun hc => ?_
      have c : 0 ≤ (negS n.toNat (es ++ [e])).ch := (Classical.byContradiction fun c => hc (negM_nil.2 c) : graphOk n (es ++ [e]) = true ∧ 0 ≤ (negS n.toNat (es ++ [e])).ch).2
      obtain ⟨v, x, hvn, hx, hneg⟩ := neg_walk (neg_of hv' c)
      obtain ⟨F, f1, f2, f3, f4, f5⟩ := tab_val hv hw hlen (by omega) T hvn
      have hh := newD_holds f1 g1 ⟨g3, g4⟩ hn e e0 e1 he2
      have := no_neg hh hx (newD_src f2 g1 ⟨f3, f4⟩ hn).1
      omega
    · obtain ⟨F, f1, f2, f3, f4, f5⟩ := tab_val hv hw hlen (by omega) T hi
      obtain ⟨H, x1, x2, x3, x4, x5⟩ := tab_val hv' hw' hl' (by omega) T' hi
      rw [en] at f5 x5
      have hh := newD_holds f1 g1 ⟨g3, g4⟩ hn e e0 e1 he2
      have hs := newD_sound f2 g2 e e0 e1 he2
      obtain ⟨s1, s2⟩ := newD_src f2 g1 ⟨f3, f4⟩ hn
      obtain ⟨p1, p2, p3⟩ := x5 k hk
      obtain ⟨q1, q2, q3⟩ := f5 k hk
      obtain ⟨r1, r2, r3⟩ := f5 f hfn
      obtain ⟨t1, t2, t3⟩ := g5 k hk
      have hA : H.k k = true → (newD F G f w).k k = true ∧ (newD F G f w).o k ≤ H.o k := fun h => by
        obtain ⟨a, ha, ea⟩ := x2 k h
        obtain ⟨y1, y2⟩ := walk_low hh ha s1
        exact ⟨y1, by omega⟩
      have hB : (newD F G f w).k k = true → H.k k = true ∧ H.o k ≤ (newD F G f w).o k := fun h => by
        obtain ⟨y1, y2⟩ := walk_low x1 (hs k h) x3
        exact ⟨y1, by omega⟩
      have e : (if H.k k = true then H.o k else 1000000) = (if (newD F G f w).k k = true then (newD F G f w).o k else 1000000) := by
        cases z : H.k k with
        | true =>
          obtain ⟨y1, y2⟩ := hA z
          obtain ⟨_, y4⟩ := hB y1
          rw [y1]; simp only [if_true]; omega
        | false =>
          rw [if_neg (by simp), if_neg (fun h => by rw [(hB h).1] at z; cases z)]
      unfold tightC
      rw [p1, e, q1, r1, t1]
      clear hA hB e p1 q1 r1 t1 x1 x2 f1 f2 g1 g2 hh hs
      exact tight_num (F.k k) (F.k f) (G.k k) q2 q3 r2 r3 t2 t3 w0 w1
theorem tightRow_at (n : Int) (l : List Int) (f t : Nat) (w : Int) (i : Nat) : ∀ (d k j : Nat), j < d → rd (tightRow n l f t w i d k) (j : Int) = tightC n l f t w i (k + j)
  | 0, k, j, h => by omega
  | d + 1, k, 0, h => rfl
  | d + 1, k, j + 1, h => by
    have ih := tightRow_at n l f t w i d (k + 1) j (by omega)
    rw [show k + (j + 1) = k + 1 + j by omega, ← ih]
    rfl
theorem tightAll_at (n : Int) (l : List Int) (f t : Nat) (w : Int) : ∀ (d i a k : Nat), a < d → k < n.toNat → rd (tightAll n l f t w d i) ((a * n.toNat + k : Nat) : Int) = tightC n l f t w (i + a) k
  | 0, i, a, k, h, _ => by omega
  | d + 1, i, a, k, h, hk => by
    rw [tightAll, rd_app, tightRow_len]
    cases a with
    | zero => rw [if_pos (by omega), Nat.zero_mul, Nat.zero_add, tightRow_at n l f t w i _ _ _ hk, Nat.zero_add]; rfl
    | succ a =>
      have e : (a + 1) * n.toNat + k = n.toNat + (a * n.toNat + k) := by rw [Nat.add_mul, Nat.one_mul]; omega
      rw [e, if_neg (by omega), Nat.add_sub_cancel_left, tightAll_at n l f t w d (i + 1) a k (by omega) hk, show i + 1 + a = i + (a + 1) by omega]
theorem tight_eq {m : Nat} {es : List E3} {cells cells' : List Int} {f t : Nat} {w : Int} (T : Tab m es cells') (h : ∀ i k, i < m → k < m → cellT (m : Int) cells' i k = tightC (m : Int) cells f t w i k) : tightAll (m : Int) cells f t w m 0 = cells' := by
  have hl : (tightAll (m : Int) cells f t w m 0).length = m * m := by rw [tightAll_len]; rfl
  apply List.ext_getElem (by rw [hl, T.len])
  intro x h1 h2
  rw [hl] at h1
  have hm : 0 < m := by
    rcases Nat.eq_zero_or_pos m with e | e
    · subst e; simp at h1
    · exact e
  have hq : x / m < m := Nat.div_lt_of_lt_mul h1
  have hr : x % m < m := Nat.mod_lt _ hm
  have e := Nat.div_add_mod x m
  rw [Nat.mul_comm] at e
  rw [← rd_at (by rw [hl]; exact h1), ← rd_at h2]
  have e1 := tightAll_at (m : Int) cells f t w m 0 (x / m) (x % m) hq hr
  rw [Int.toNat_natCast, e, Nat.zero_add] at e1
  have e2 := h _ _ hq hr
  rw [tab_cell T hq hr, e] at e2
  rw [e1, e2]
/-- What the drawn graphs are. -/
def drawnG (n : Int) (l : List S39) : Prop := 1 ≤ n ∧ n ≤ 5 ∧ l.length ≤ 9 ∧ ∀ e ∈ l, (0 ≤ e.f0 ∧ e.f0 < n) ∧ (0 ≤ e.f1 ∧ e.f1 < n) ∧ -3 ≤ e.f2 ∧ e.f2 ≤ 10
theorem drawG_l (s : List Int) (hs : s.length ≤ 1048576) (n : Int) (hn : 1 ≤ n ∧ n ≤ 5) : ∀ (d : Nat) (i h : Int) (l : List S39), 0 ≤ i → l.length + d ≤ 9 → (∀ e ∈ l, (0 ≤ e.f0 ∧ e.f0 < n) ∧ (0 ≤ e.f1 ∧ e.f1 < n) ∧ -3 ≤ e.f2 ∧ e.f2 ≤ 10) → ∃ l' i' h', Ev (fun k => spec_l03Draw.l0 k (d : Int) s i h n l) (n, l', i', h') ∧ drawnG n l' ∧ 0 ≤ i'
  | 0, i, h, l, h0, hl, he => ⟨l, i, h, suc (f := fun _ => some (n, l, i, h)) (fun k => by rw [spec_l03Draw.l0, if_neg (by omega)]) now, ⟨hn.1, hn.2, by omega, he⟩, h0⟩
  | d + 1, i, h, l, h0, hl, he => by
    obtain ⟨a, i1, h1, e1, a0, a1, p1⟩ := belowM s i h hs h0 n (by omega) (by omega)
    obtain ⟨b, i2, h2, e2, b0, b1, p2⟩ := belowM s i1 h1 hs p1 n (by omega) (by omega)
    obtain ⟨c, i3, h3, e3, c0, c1, p3⟩ := belowM s i2 h2 hs p2 14 (by omega) (by omega)
    obtain ⟨l', i', h', e, x, y⟩ := drawG_l s hs n hn d i3 h3 (l ++ [(⟨a, b, wrap64 (c - 3)⟩ : S39)]) p3 (by simp only [List.length_append, List.length_cons, List.length_nil]; omega) (fun z hz => by
      rcases List.mem_append.1 hz with hz | hz
      · exact he z hz
      · rw [List.mem_singleton.1 hz]
        refine ⟨⟨a0, a1⟩, ⟨b0, b1⟩, ?_⟩
        show -3 ≤ wrap64 (c - 3) ∧ wrap64 (c - 3) ≤ 10
        rw [w64 (by omega) (by omega)]; omega)
    refine ⟨l', i', h', suc (fun k => ?_) e, x, y⟩
    rw [spec_l03Draw.l0, if_pos (by omega), e1]
    simp only [Option.bind_some]
    rw [e2]
    simp only [Option.bind_some]
    rw [e3]
    simp only [Option.bind_some]
    rw [if_pos (by omega), w64 (i := ((d + 1 : Nat) : Int) - 1) (by omega) (by omega), show ((d + 1 : Nat) : Int) - 1 = (d : Int) by omega]
theorem drawG (s : List Int) (hs : s.length ≤ 1048576) (i h : Int) (h0 : 0 ≤ i) : ∃ n l i' h', Ev (fun k => spec_l03Draw.f k s i h) (n, l, i', h') ∧ drawnG n l ∧ 0 ≤ i' := by
  obtain ⟨a, i1, h1, e1, a0, a1, p1⟩ := belowM s i h hs h0 5 (by omega) (by omega)
  obtain ⟨b, i2, h2, e2, b0, b1, p2⟩ := belowM s i1 h1 hs p1 10 (by omega) (by omega)
  obtain ⟨l', i', h', e, x, y⟩ := drawG_l s hs (1 + a) ⟨by omega, by omega⟩ b.toNat i2 h2 [] p2 (by simp only [List.length_nil]; omega) (fun z hz => by simp at hz)
  refine ⟨1 + a, l', i', h', ?_, x, y⟩
  unfold spec_l03Draw.f
  refine bnd e1 (bnd e2 ?_)
  rw [w64 (by omega) (by omega)]
  rw [Int.toNat_of_nonneg b0] at e
  exact e
theorem makeG (s : List Int) (hs : s.length ≤ 1048576) : ∃ n l, Ev (fun k => spec_MakeGraph.f k s) (n, l) ∧ drawnG n l := by
  obtain ⟨h, e⟩ := newM s hs
  obtain ⟨n, l, i', h', e2, x, _⟩ := drawG s hs 0 h (by omega)
  refine ⟨n, l, ?_, x⟩
  unfold spec_MakeGraph.f
  exact bev e (bev e2 now)
theorem drawnG_ok {n : Int} {l : List S39} (h : drawnG n l) : graphOk n (l.map tr) = true := by
  obtain ⟨h1, h2, h3, h4⟩ := h
  unfold graphOk
  rw [Bool.and_eq_true, decide_eq_true_eq, List.all_eq_true]
  refine ⟨⟨by omega, by omega, by rw [List.length_map]; omega⟩, fun e he => ?_⟩
  obtain ⟨x, hx, rfl⟩ := List.mem_map.1 he
  have := h4 x hx
  unfold edgeOk tr
  rw [decide_eq_true_eq]
  exact ⟨this.1, this.2.1, by simp only []; omega, by simp only []; omega⟩
theorem drawnG_small {n : Int} {l : List S39} (h : drawnG n l) : SmallW (l.map tr) := by
  obtain ⟨h1, h2, h3, h4⟩ := h
  intro i hi
  have hm := eAt_mem (es := l.map tr) (j := (i : Int)) (by omega) (by omega)
  obtain ⟨x, hx, e⟩ := List.mem_map.1 hm
  have := h4 x hx
  rw [← e]
  show -100 ≤ x.f2 ∧ x.f2 ≤ 100
  omega

theorem FnTightened : laws_FnTightened.Pure := by
  intro l hl _
  refine Ev.rounds ?_
  unfold laws_FnTightened.f
  by_cases hx : (l.length : Int) > 1048576
  · exact ifp hx now
  refine ifn hx ?_
  obtain ⟨n, g, hm, hD⟩ := makeG l (by omega)
  have hg := drawnG_ok hD
  have hC := iClose n g
  obtain ⟨a, ha, a0, a1⟩ := makeNum l (by omega) 30 (by omega) (by omega)
  obtain ⟨b, hb, b0, b1⟩ := makeNum l (by omega) 32 (by omega) (by omega)
  obtain ⟨c, hc, c0, c1⟩ := makeNum l (by omega) 34 (by omega) (by omega)
  have n1 := hD.1
  have n5 := hD.2.1
  have hg9 : g.length ≤ 9 := hD.2.2.1
  by_cases hN : negM n (g.map tr) = []
  · have hv := valid_of hg
    obtain ⟨h0, h8, hlen, _⟩ := graphOk_iff hg
    have hW := drawnG_small hD
    obtain ⟨h1, T⟩ := tab_of hg hN
    have e : ((n.toNat : Nat) : Int) = n := Int.toNat_of_nonneg h0
    rw [h1] at hC
    generalize rowsC n (g.map tr) n.toNat 0 = cells at *
    have hcl : cells.length ≤ 64 := by
      have := Nat.mul_le_mul (show n.toNat ≤ 8 by omega) (show n.toNat ≤ 8 by omega)
      rw [T.len]; omega
    have hcd := tab_closed hv hW hlen (by omega) T
    rw [e] at hcd
    have f0 : 0 ≤ Int.tmod a n ∧ Int.tmod a n < n := by
      rw [Int.tmod_eq_emod_of_nonneg a0]; exact ⟨Int.emod_nonneg _ (by omega), Int.emod_lt_of_pos _ (by omega)⟩
    have t0 : 0 ≤ Int.tmod b n ∧ Int.tmod b n < n := by
      rw [Int.tmod_eq_emod_of_nonneg b0]; exact ⟨Int.emod_nonneg _ (by omega), Int.emod_lt_of_pos _ (by omega)⟩
    have w0 : -3 ≤ wrap64 (Int.tmod c 12 - 3) ∧ wrap64 (Int.tmod c 12 - 3) ≤ 8 := by
      rw [Int.tmod_eq_emod_of_nonneg c0, w64 (by omega) (by omega)]; omega
    generalize hf : Int.tmod a n = f at *
    generalize ht : Int.tmod b n = t at *
    generalize hw : wrap64 (Int.tmod c 12 - 3) = w at *
    have hT := iTight n cells f t w (by omega)
    have hC2 := iClose n (([] ++ g) ++ [(⟨f, t, w⟩ : S39)])
    have em : ((([] : List S39) ++ g) ++ [(⟨f, t, w⟩ : S39)]).map tr = g.map tr ++ [(f, t, w)] := by simp [tr]
    rw [em] at hC2
    obtain ⟨L1, L2⟩ := tight_law hg (by rw [List.length_map]; omega) hW hN T (f, t, w) ⟨f0, t0, by simp only []; omega, by simp only []; omega⟩
    have j0 : ∀ (x u : Int) (y : List Int), Ev (fun k => laws_FnTightened.j0 k false x y u y) true ∨ ¬ y.length ≤ 64 := by
      intro x u y
      by_cases hy : y.length ≤ 64
      · left
        have loop : ∀ (d i : Nat), i + d = y.length → Ev (fun k => laws_FnTightened.l0 k y (y.length : Int) (i : Int) u y) true := by
          intro d
          induction d with
          | zero => intro i hi; exact suc (f := fun _ => some true) (fun k => by rw [laws_FnTightened.l0, if_neg (by omega)]) now
          | succ d ih =>
            intro i hi
            refine suc (fun k => ?_) (ih (i + 1) (by omega))
            rw [laws_FnTightened.l0, if_pos (by omega), if_pos (by omega), if_pos (by omega), if_pos (by omega), if_pos rfl, up1 (by omega) (by omega)]; rfl
        exact suc (fun k => by rw [laws_FnTightened.j0, if_neg (by simp)]; rfl) (loop y.length 0 (by omega))
      · exact Or.inr hy
    refine bev hm (bev hC (ifp rfl (bev ha (ifn (by omega) (bev hb (bev hc ?_))))))
    dsimp only
    rw [hf, ht, hw]
    refine bev hT (bnd rfl (ifp (by simp only [List.length_nil]; omega) (bnd rfl (bnd rfl (ifp (by simp only [List.nil_append, List.length_cons, List.length_nil]; omega) (bev hC2 ?_))))))
    by_cases hneg : addB w (cellT n cells t.toNat f.toNat) < 0
    · have hbad := L1 hneg
      have e1 : tightM n cells f t w = (0, [], false) := if_neg (fun x => x.2.2.2.2 hneg)
      rw [e1, close_bad hbad]
      refine ifn (by simp) ?_
      rcases j0 0 0 [] with h | h
      · exact h
      · simp at h
    · obtain ⟨M1, M2⟩ := L2 hneg
      have hg' : graphOk n (g.map tr ++ [(f, t, w)]) = true := by
        obtain ⟨_, _, _, hall⟩ := graphOk_iff hg
        unfold graphOk
        rw [Bool.and_eq_true, decide_eq_true_eq, List.all_eq_true]
        refine ⟨⟨h0, h8, by rw [List.length_append, List.length_map, List.length_singleton]; omega⟩, fun x hx => ?_⟩
        unfold edgeOk
        rw [decide_eq_true_eq]
        rcases List.mem_append.1 hx with h | h
        · exact hall x h
        · rw [List.mem_singleton.1 h]; exact ⟨f0, t0, by simp only []; omega, by simp only []; omega⟩
      obtain ⟨K1, T2⟩ := tab_of hg' M1
      have e1 : tightM n cells f t w = (n, tightAll n cells f.toNat t.toNat w n.toNat 0, true) := if_pos ⟨hcd, f0, t0, ⟨by omega, by omega⟩, hneg⟩
      have M3 := M2 _ T2
      rw [e1, K1]
      generalize rowsC n (g.map tr ++ [(f, t, w)]) n.toNat 0 = cells' at *
      have e3 : tightAll n cells f.toNat t.toNat w n.toNat 0 = cells' := by
        have := tight_eq (m := n.toNat) T2 (f := f.toNat) (t := t.toNat) (w := w) (cells := cells) (by rw [e]; exact M3)
        rwa [e] at this
      rw [e3]
      have hcl' : cells'.length ≤ 64 := by
        have := Nat.mul_le_mul (show n.toNat ≤ 8 by omega) (show n.toNat ≤ 8 by omega)
        rw [T2.len]; omega
      refine ifn (by simp) ?_
      have e4 : ((cells'.length : Int) != (cells'.length : Int)) = false := by simp
      simp only [e4]
      rcases j0 n n cells' with h | h
      · exact h
      · exact absurd hcl' h
  · rw [close_bad hN] at hC
    have hE := iEdges 0 [] (by simp)
    have e0 : (edgesT 0 []) = [] := rfl
    rw [e0] at hE
    refine bev hm (bev hC (ifn (by simp) (bnd (iGraphOk n g) (ifp hg (bev hE (ifp rfl (bnd (a := true) rfl now)))))))

end Go.Proofs.Ytegkkbncnmakaaa.Own
