/- The law FnExactNegativeCycle answers true for every graph. No condition. -/
import Derived.Test.YtegkkbncnmakaaaQFnExactNegativeCyclex7
import Derived.Test.YtegkkbncnmakaaaNc
namespace Go.Proofs.Ytegkkbncnmakaaa.Own
open Go.RowKit Go.Proofs.Ytegkkbncnmakaaa.QFnExactNegativeCycle Go.Proofs.YtegkkbncnmakaaaW.PrintWords Go.Proofs.YtegkkbncnmakaaaW.PrintLast Go.Proofs.YtegkkbncnmakaaaW.PrintMore Go.Proofs.YtegkkbncnmakaaaT Go.Proofs.YtegkkbncnmakaaaT Go.Proofs.YtegkkbncnmakaaaT
set_option linter.unusedVariables false
set_option linter.unusedSimpArgs false

theorem szGraph (s : Int) (l : List S68) (hl : l.length ≤ maxLen) : (laws_szGraph.f s l 1048576 = some (-1) ∧ 1048576 < l.length) ∨ (laws_szGraph.f s l 1048576 = some (1048576 - (l.length : Int)) ∧ l.length ≤ 1048576) := by
  unfold maxLen at hl
  unfold laws_szGraph.f laws_szEdgeS.f
  rw [w64 (by omega) (by omega)]
  by_cases h : l.length ≤ 1048576
  · right
    rw [if_neg (by omega)]
    simp only [Option.bind_some]
    rw [if_neg (by omega)]
    exact ⟨rfl, h⟩
  · left
    rw [if_pos (by omega)]
    simp only [Option.bind_some]
    rw [if_pos (by omega)]
    exact ⟨rfl, by omega⟩
def cvE (e : S68) : S39 := ⟨e.f0, e.f1, e.f2⟩
theorem rdL_at {l : List S68} {i : Nat} (h : i < l.length) : rd_T68 l (i : Int) = l[i] := by
  unfold rd_T68; simp [List.getD_eq_getElem?_getD, h]
theorem toEdgeS_l (x : List S68) (hn : x.length ≤ 4194304) : ∀ (d i : Nat) (y : List S39), i + d = x.length → y.length = x.length → (∀ j, j < i → y[j]? = (x.map cvE)[j]?) → Ev (fun k => laws_toEdgeS.l0 k x y (i : Int)) (x.map cvE)
  | 0, i, y, hd, hy, hj => by
    have e : y = x.map cvE := by
      apply List.ext_getElem?; intro j
      by_cases h : j < i
      · exact hj j h
      · rw [List.getElem?_eq_none (by omega), List.getElem?_eq_none (by simp; omega)]
    subst e
    exact suc (f := fun _ => some (x.map cvE)) (fun k => by rw [laws_toEdgeS.l0, if_neg (by omega)]) now
  | d + 1, i, y, hd, hy, hj => by
    refine suc (f := fun k => laws_toEdgeS.l0 k x (y.set i (cvE (rd_T68 x i))) ((i + 1 : Nat) : Int)) (fun k => ?_) (toEdgeS_l x hn d (i + 1) _ (by omega) (by simp [hy]) (fun j h => ?_))
    · rw [laws_toEdgeS.l0, if_pos (by omega), if_pos (by omega), laws_toEdge.f]
      simp only [Option.bind_some]
      rw [if_pos (by omega), up1 (by omega) (by omega)]; rfl
    · by_cases e : j = i
      · subst e; rw [rdL_at (by omega)]; simp [show j < y.length by omega, show j < x.length by omega]
      · rw [List.getElem?_set_ne (by omega)]; exact hj j (by omega)
theorem toEdgeS (x : List S68) (hn : x.length ≤ 4194304) : Ev (fun k => laws_toEdgeS.f k x) (x.map cvE) := by
  unfold laws_toEdgeS.f
  exact ifp (by omega) (ifp (by simp; omega) (toEdgeS_l x hn x.length 0 _ (by omega) (by simp) (fun j h => by omega)))
theorem toGraph (s : Int) (l : List S68) (hn : l.length ≤ 4194304) : Ev (fun k => laws_toGraph.f k s l) (s, l.map cvE) := by
  unfold laws_toGraph.f
  exact bev (toEdgeS l hn) now
theorem eqEdge (a b c : Int) : laws_eqEdge.f a b c a b c = some true := by
  unfold laws_eqEdge.f
  simp
theorem eqEdgeS_l (x : List S39) (hn : x.length ≤ 4194304) : ∀ (d i : Nat), i + d = x.length → Ev (fun k => laws_eqEdgeS.l0 k x x (i : Int)) true
  | 0, i, hd => suc (f := fun _ => some true) (fun k => by rw [laws_eqEdgeS.l0, if_neg (by omega)]) now
  | d + 1, i, hd => by
    refine suc (f := fun k => laws_eqEdgeS.l0 k x x ((i + 1 : Nat) : Int)) (fun k => ?_) (eqEdgeS_l x hn d (i + 1) (by omega))
    rw [laws_eqEdgeS.l0, if_pos (by omega), if_pos (by omega), if_pos (by omega), eqEdge]
    simp only [Option.bind_some, if_true]
    rw [up1 (by omega) (by omega)]; rfl
theorem eqEdgeS (x : List S39) (hn : x.length ≤ 4194304) : Ev (fun k => laws_eqEdgeS.f k x x) true := by
  unfold laws_eqEdgeS.f
  exact ifp rfl (eqEdgeS_l x hn x.length 0 (by omega))
theorem eqGraph (s : Int) (l : List S39) (hn : l.length ≤ 4194304) : Ev (fun k => laws_eqGraph.f k s l s l) true := by
  unfold laws_eqGraph.f
  exact ifp rfl (bev (eqEdgeS l hn) (ifp rfl now))
def markE (m : Int) : List S39 → List S39
  | [] => []
  | _ :: t => ⟨m, m + 1, m + 1 + 1⟩ :: markE (m + 1 + 1 + 1) t
theorem rdE_mid (a b : List S39) (x : S39) : rd_T39 (a ++ x :: b) (a.length : Int) = x := by unfold rd_T39; simp [List.getD_eq_getElem?_getD]
theorem setE_mid (a b : List S39) (x y : S39) : (a ++ x :: b).set (a.length : Int).toNat y = a ++ y :: b := by simp
theorem markEdgeS_l : ∀ (b a : List S39) (m : Int), 0 ≤ m → m + 3 * b.length ≤ 1073741824 → a.length + b.length ≤ 1073741824 → Ev (fun k => laws_markEdgeS.l0 k (a ++ b) m (a.length : Int)) (m + 3 * b.length, a ++ markE m b)
  | [], a, m, h0, hm, hn => by
    refine eqr (suc (f := fun _ => some (m, a ++ ([] : List S39))) (fun k => by rw [laws_markEdgeS.l0, if_neg (by simp)]) now) ?_
    simp [markE]
  | x :: b, a, m, h0, hm, hn => by
    simp only [List.length_cons] at hm hn
    have ih := markEdgeS_l b (a ++ [⟨m, m + 1, m + 1 + 1⟩]) (m + 1 + 1 + 1) (by omega) (by omega) (by simp only [List.length_append, List.length_cons, List.length_nil]; omega)
    refine eqr (suc (f := fun k => laws_markEdgeS.l0 k (a ++ [⟨m, m + 1, m + 1 + 1⟩] ++ b) (m + 1 + 1 + 1) ((a ++ [(⟨m, m + 1, m + 1 + 1⟩ : S39)]).length : Int)) (fun k => ?_) ih) ?_
    · rw [laws_markEdgeS.l0, if_pos (by simp only [List.length_append, List.length_cons]; omega), if_pos (by omega)]
      simp only [rdE_mid, setE_mid, Option.bind_some]
      rw [w64 (i := m + 1) (by omega) (by omega), w64 (i := m + 1 + 1) (by omega) (by omega), w64 (i := m + 1 + 1 + 1) (by omega) (by omega), w64 (i := (a.length : Int) + 1) (by omega) (by omega)]
      simp
    · simp only [markE, List.length_cons, List.append_assoc, List.singleton_append, Prod.mk.injEq]
      exact ⟨by omega, trivial⟩
theorem markEdgeS (x : List S39) (m : Int) (h0 : 0 ≤ m) (hm : m + 3 * x.length ≤ 1073741824) : Ev (fun k => laws_markEdgeS.f k x m) (m + 3 * x.length, markE m x) := by
  unfold laws_markEdgeS.f
  exact markEdgeS_l x [] m h0 hm (by simp only [List.length_nil]; omega)
theorem markGraph (s : Int) (x : List S39) (m : Int) (h0 : 0 ≤ m) (hm : m + 3 * x.length ≤ 1073741824) : Ev (fun k => laws_markGraph.f k s x m) (m + 3 * x.length, markE m x) := by
  unfold laws_markGraph.f
  exact bev (markEdgeS x m h0 hm) now
theorem eqIntS_l (x : List Int) (hn : x.length ≤ 4194304) : ∀ (d i : Nat), i + d = x.length → Ev (fun k => laws_eqIntS.l0 k x x (i : Int)) true
  | 0, i, hd => suc (f := fun _ => some true) (fun k => by rw [laws_eqIntS.l0, if_neg (by omega)]) now
  | d + 1, i, hd => by
    refine suc (f := fun k => laws_eqIntS.l0 k x x ((i + 1 : Nat) : Int)) (fun k => ?_) (eqIntS_l x hn d (i + 1) (by omega))
    rw [laws_eqIntS.l0, if_pos (by omega), if_pos (by omega), if_pos (by omega), if_pos rfl, up1 (by omega) (by omega)]; rfl
theorem eqIntS (x : List Int) (hn : x.length ≤ 4194304) : Ev (fun k => laws_eqIntS.f k x x) true := by
  unfold laws_eqIntS.f
  exact ifp rfl (eqIntS_l x hn x.length 0 (by omega))
def markI (m : Int) : List Int → List Int
  | [] => []
  | _ :: t => m :: markI (m + 1) t
theorem markIntS_l : ∀ (b a : List Int) (m : Int), 0 ≤ m → m + b.length ≤ 1073741824 → a.length + b.length ≤ 1073741824 → Ev (fun k => laws_markIntS.l0 k (a ++ b) m (a.length : Int)) (m + b.length, a ++ markI m b)
  | [], a, m, h0, hm, hn => by
    refine eqr (suc (f := fun _ => some (m, a ++ ([] : List Int))) (fun k => by rw [laws_markIntS.l0, if_neg (by simp)]) now) ?_
    simp [markI]
  | x :: b, a, m, h0, hm, hn => by
    simp only [List.length_cons] at hm hn
    have ih := markIntS_l b (a ++ [m]) (m + 1) (by omega) (by omega) (by simp only [List.length_append, List.length_cons, List.length_nil]; omega)
    refine eqr (suc (f := fun k => laws_markIntS.l0 k (a ++ [m] ++ b) (m + 1) ((a ++ [m]).length : Int)) (fun k => ?_) ih) ?_
    · rw [laws_markIntS.l0, if_pos (by simp only [List.length_append, List.length_cons]; omega), if_pos (by omega), w64 (by omega) (by omega), w64 (by omega) (by omega)]
      simp
    · simp only [markI, List.length_cons, List.append_assoc, List.singleton_append, Prod.mk.injEq]
      exact ⟨by omega, trivial⟩
theorem markIntS (x : List Int) (m : Int) (h0 : 0 ≤ m) (hm : m + x.length ≤ 1073741824) : Ev (fun k => laws_markIntS.f k x m) (m + x.length, markI m x) := by
  unfold laws_markIntS.f
  exact markIntS_l x [] m h0 hm (by simp only [List.length_nil]; omega)
theorem heldIntS_l : ∀ (b a : List Int) (m : Int), 0 ≤ m → m + b.length ≤ 1073741824 → a.length + b.length ≤ 1073741824 → Ev (fun k => laws_heldIntS.l0 k (a ++ markI m b) m (a.length : Int)) (m + b.length)
  | [], a, m, h0, hm, hn => by
    refine eqr (suc (f := fun _ => some m) (fun k => by rw [laws_heldIntS.l0, if_neg (by simp [markI])]) now) ?_
    simp
  | x :: b, a, m, h0, hm, hn => by
    simp only [List.length_cons] at hm hn
    have ih := heldIntS_l b (a ++ [m]) (m + 1) (by omega) (by omega) (by simp only [List.length_append, List.length_cons, List.length_nil]; omega)
    refine eqr (suc (f := fun k => laws_heldIntS.l0 k (a ++ [m] ++ markI (m + 1) b) (m + 1) ((a ++ [m]).length : Int)) (fun k => ?_) ih) ?_
    · have e : rd (a ++ markI m (x :: b)) (a.length : Int) = m := by unfold rd; simp [markI, List.getD_eq_getElem?_getD]
      rw [laws_heldIntS.l0, if_pos (by simp only [markI, List.length_append, List.length_cons]; omega), if_pos (by omega), if_pos e, w64 (by omega) (by omega), w64 (by omega) (by omega)]
      simp [markI]
    · simp only [List.length_cons]; omega
theorem heldIntS (x : List Int) (m : Int) (h0 : 0 ≤ m) (hm : m + x.length ≤ 1073741824) : Ev (fun k => laws_heldIntS.f k (markI m x) m) (m + x.length) := by
  unfold laws_heldIntS.f
  exact heldIntS_l x [] m h0 hm (by simp only [List.length_nil]; omega)
theorem rd_mid (a b : List Int) (x : Int) : rd (a ++ x :: b) (a.length : Int) = x := by unfold rd; simp [List.getD_eq_getElem?_getD]
theorem rb_mid (a b : List Bool) (x : Bool) {n : Nat} (h : a.length = n) : rdOf false (a ++ x :: b) (n : Int) = x := by subst h; unfold rdOf; simp [List.getD_eq_getElem?_getD]
theorem set_mid (a b : List Int) (x y : Int) : (a ++ x :: b).set (a.length : Int).toNat y = a ++ y :: b := by simp
theorem rev_l : ∀ (n : Nat) (mid p q : List Int), mid.length = n → p.length = q.length → p.length + q.length + mid.length ≤ 1000000 → Ev (fun k => slices_Reverse_int_int.l0 k (p ++ (mid ++ q)) (p.length : Int) ((p.length : Int) + mid.length - 1)) (p ++ (mid.reverse ++ q)) := by
  intro n
  induction n using Nat.strongRecOn with
  | _ n ih =>
    intro mid p q hn hp hb
    cases mid with
    | nil => exact suc (f := fun _ => some (p ++ ([] ++ q))) (fun k => by rw [slices_Reverse_int_int.l0, if_neg (by simp only [List.length_nil]; omega)]) now
    | cons a t =>
      rcases List.eq_nil_or_concat t with h | ⟨m, b, h⟩
      · subst h
        exact suc (f := fun _ => some (p ++ ([a] ++ q))) (fun k => by rw [slices_Reverse_int_int.l0, if_neg (by simp only [List.length_cons, List.length_nil]; omega)]) now
      · rw [List.concat_eq_append] at h
        subst h
        simp only [List.length_cons, List.length_append, List.length_nil] at hn hb
        have e1 : p ++ (a :: (m ++ [b]) ++ q) = p ++ a :: (m ++ b :: q) := by simp
        have e2 : p ++ a :: (m ++ b :: q) = (p ++ a :: m) ++ b :: q := by simp
        have hlen : ((p ++ a :: (m ++ b :: q)).length : Int) = (p.length : Int) + (m.length + 2) + q.length := by simp only [List.length_append, List.length_cons]; omega
        have r1 : rd (p ++ a :: (m ++ b :: q)) (p.length : Int) = a := rd_mid _ _ _
        have el : (p.length : Int) + ((a :: (m ++ [b])).length : Int) - 1 = ((p ++ a :: m).length : Int) := by simp only [List.length_append, List.length_cons, List.length_nil]; omega
        have r2 : rd (p ++ a :: (m ++ b :: q)) ((p ++ a :: m).length : Int) = b := by rw [e2]; exact rd_mid _ _ _
        have r3 : ((p ++ a :: (m ++ b :: q)).set (p.length : Int).toNat b).set ((p ++ a :: m).length : Int).toNat a = (p ++ [b]) ++ (m ++ (a :: q)) := by
          rw [set_mid]
          have e3 : p ++ b :: (m ++ b :: q) = (p ++ b :: m) ++ b :: q := by simp
          have e4 : (p ++ a :: m).length = (p ++ b :: m).length := by simp
          rw [e3, e4, set_mid]; simp
        have ih' := ih m.length (by omega) m (p ++ [b]) (a :: q) rfl (by simp [hp]) (by simp only [List.length_append, List.length_cons, List.length_nil]; omega)
        rw [e1, el]
        refine eqr (suc (fun k => ?_) ih') (by simp)
        have hl2 : ((p ++ a :: m).length : Int) = p.length + (m.length + 1) := by simp only [List.length_append, List.length_cons]; omega
        rw [slices_Reverse_int_int.l0, if_pos (by omega), if_pos (by omega), if_pos (by omega), if_pos (by omega), if_pos (by omega), r1, r2, r3, hl2, w64 (i := (p.length : Int) + 1) (by omega) (by omega), w64 (by omega) (by omega)]
        have h5 : ((p ++ [b]).length : Int) = (p.length : Int) + 1 := by simp
        rw [h5]
        congr 1
        omega
theorem revM (l : List Int) (h : l.length ≤ 1000) : Ev (fun k => slices_Reverse_int_int.f k l) l.reverse := by
  unfold slices_Reverse_int_int.f
  have := rev_l l.length l [] [] rfl rfl (by simp only [List.length_nil]; omega)
  simp only [List.nil_append, List.append_nil, List.length_nil] at this
  rw [w64 (by omega) (by omega)]
  refine Ev.congr (fun k => ?_) this
  congr 1
  omega
def tr (e : S39) : E3 := (e.f0, e.f1, e.f2)
theorem tr_rd (l : List S39) (p : Int) : eAt (l.map tr) p = tr (rd_T39 l p) := by
  unfold eAt rd_T39
  simp only [List.getD_eq_getElem?_getD, List.getElem?_map]
  cases l[p.toNat]? <;> rfl
theorem tr0 (l : List S39) (p : Int) : (rd_T39 l p).f0 = (eAt (l.map tr) p).1 := by rw [tr_rd]; rfl
theorem tr1 (l : List S39) (p : Int) : (rd_T39 l p).f1 = (eAt (l.map tr) p).2.1 := by rw [tr_rd]; rfl
theorem tr2 (l : List S39) (p : Int) : (rd_T39 l p).f2 = (eAt (l.map tr) p).2.2 := by rw [tr_rd]; rfl
theorem rdE_at {l : List S39} {i : Nat} (h : i < l.length) : rd_T39 l (i : Int) = l[i] := by
  unfold rd_T39; simp [List.getD_eq_getElem?_getD, h]
/-- What both programs know of the last round's parents. -/
theorem neg_edge {n : Nat} {es : List E3} (hv : ValidE n es) {k : Int} (hk : 0 ≤ k ∧ k < es.length) : (eAt es k).1 = ((Fr es k.toNat : Nat) : Int) ∧ (eAt es k).2.1 = ((To es k.toNat : Nat) : Int) := by
  have h := hv k.toNat (by omega)
  have e : eAt es k = eAt es ((k.toNat : Nat) : Int) := rfl
  unfold Fr To
  rw [e]
  omega
theorem neg_par {n : Nat} {es : List E3} (hv : ValidE n es) {s : FS} {a : Nat} (hk : 0 ≤ s.l a ∧ s.l a < es.length) : (eAt es (s.l a)).1 = ((par es s a : Nat) : Int) := (neg_edge hv hk).1
theorem all_step {n : Nat} {es : List E3} {L : LS} (i : Nat) (h : L.k = List.replicate n true) : (lstep es i L).k = List.replicate n true := by
  unfold lstep
  split
  · show L.k.set _ true = _
    rw [h]; simp
  · exact h
theorem all_rnd {n : Nat} {es : List E3} : ∀ (d i : Nat) (L : LS), L.k = List.replicate n true → (lrnd es i d L).k = List.replicate n true
  | 0, _, _, h => h
  | d + 1, i, L, h => all_rnd d (i + 1) _ (all_step i h)
theorem all_round {n : Nat} {es : List E3} {L : LS} (h : L.k = List.replicate n true) : (lround es L).k = List.replicate n true := all_rnd _ _ _ h
def trl (s : FS) (es : List E3) (c : Nat) (i : Nat) : List Int := (List.range i).map fun j => s.l (parN es s j c)
theorem trl_succ (s : FS) (es : List E3) (c i : Nat) : trl s es c (i + 1) = trl s es c i ++ [s.l (parN es s i c)] := by unfold trl; rw [List.range_succ, List.map_append]; rfl
theorem trl_len (s : FS) (es : List E3) (c i : Nat) : (trl s es c i).length = i := by unfold trl; simp
theorem badE (n : Int) (e : S39) : badEdge n e = !(edgeOk n (tr e)) := by
  unfold badEdge gNodeB gWeightB edgeOk tr
  rw [Bool.eq_iff_iff]
  simp only [Bool.or_eq_true, Bool.not_eq_true', decide_eq_false_iff_not]
  by_cases h1 : 0 ≤ e.f0 ∧ e.f0 < n <;> by_cases h2 : 0 ≤ e.f1 ∧ e.f1 < n <;> by_cases h3 : -1000000 < e.f2 ∧ e.f2 < 1000000 <;> simp [h1, h2, h3]
theorem iGraphOk (n : Int) (l : List S39) : impl_GraphOk.f n l = some (graphOk n (l.map tr)) := by
  unfold impl_GraphOk.f graphOk
  have e : (!(l.any (badEdge n))) = (l.map tr).all (edgeOk n) := by
    rw [List.all_map, List.all_eq_not_any_not]
    congr 2
    funext x
    simp [badE]
  congr 1
  by_cases h1 : n < 0
  · rw [if_pos h1, decide_eq_false (by omega), Bool.false_and]
  · rw [if_neg h1]
    by_cases h2 : n > 8
    · rw [if_pos h2, decide_eq_false (by omega), Bool.false_and]
    · rw [if_neg h2]
      by_cases h3 : (l.length : Int) > 80
      · rw [if_pos h3, decide_eq_false (by simp only [List.length_map]; omega), Bool.false_and]
      · rw [if_neg h3, decide_eq_true (by simp only [List.length_map]; omega), Bool.true_and, e]
theorem iNr_l (n : Nat) (l : List S39) (hl : l.length ≤ 80) (hv : ValidE n (l.map tr)) (r : Int) (R : List Int) : ∀ (d i : Nat) (L : LS) (B : Int), i + d = l.length → GoodL n L → L.k = List.replicate n true → SmallL B L → B + 1000000 * d ≤ 1000000000000 → 0 ≤ B →
    Ev (fun k => impl_NegativeCycle.l0 k (lrnd (l.map tr) i d L).o (lrnd (l.map tr) i d L).l (lrnd (l.map tr) i d L).ch (wrap64 (r + 1)) (n : Int) l) R →
    Ev (fun k => impl_NegativeCycle.l1 k L.o L.l L.ch r l (l.length : Int) (i : Int) (n : Int) l) R
  | 0, i, L, B, hd, hg, ha, hs, hB, h0, h => suc (fun k => by rw [impl_NegativeCycle.l1, if_neg (by omega)]; rfl) h
  | d + 1, i, L, B, hd, hg, ha, hs, hB, h0, h => by
    have ih := iNr_l n l hl hv r R d (i + 1) (lstep (l.map tr) i L) (B + 1000000) (by omega) (good_step i hg) (all_step i ha) (small_step hv (by simp only [List.length_map]; omega) hg hs) (by omega) (by omega) h
    refine suc (fun k => ?_) ih
    obtain ⟨⟨f0, f1⟩, ⟨t0, t1⟩, w0, w1⟩ := hv i (by simp only [List.length_map]; omega)
    obtain ⟨h1, h2, h3⟩ := hg
    have hb := hs _ (rd_mem (l := L.o) f0 (by omega))
    have kk : ∀ v : Int, 0 ≤ v → v < n → rb L.k v = true := fun v v0 v1 => by
      rw [ha]; unfold rb rdOf
      rw [List.getD_eq_getElem?_getD, List.getElem?_replicate, if_pos (by omega)]; rfl
    rw [impl_NegativeCycle.l1, if_pos (by omega), if_pos (by omega), if_pos (by omega)]
    simp only [tr0, tr1, tr2]
    rw [up1 (by omega) (by omega), w64 (i := rd L.o _ + _) (by omega) (by omega), if_pos f0, if_pos (by omega), if_pos t0, if_pos (by omega)]
    unfold lstep better
    rw [kk _ f0 f1, kk _ t0 t1]
    by_cases c : rd L.o (eAt (l.map tr) i).1 + (eAt (l.map tr) i).2.2 < rd L.o (eAt (l.map tr) i).2.1
    · rw [if_pos c, if_pos (by omega)]
      simp only [c, decide_true, Bool.not_true, Bool.false_or, Bool.and_self, if_true]
      rfl
    · rw [if_neg c]
      simp only [c, decide_false, Bool.not_true, Bool.or_self, Bool.and_false, Bool.false_eq_true, if_false]
      rfl
theorem iNr (n : Nat) (hn : n ≤ 8) (l : List S39) (hl : l.length ≤ 80) (hv : ValidE n (l.map tr)) (R : List Int) : ∀ (d i : Nat) (L : LS) (B : Int), i + d = n → GoodL n L → L.k = List.replicate n true → SmallL B L → B + 80000000 * d ≤ 1000000000 → 0 ≤ B →
    Ev (fun k => impl_NegativeCycle.l0 k (lrounds (l.map tr) d L).o (lrounds (l.map tr) d L).l (lrounds (l.map tr) d L).ch (n : Int) (n : Int) l) R →
    Ev (fun k => impl_NegativeCycle.l0 k L.o L.l L.ch (i : Int) (n : Int) l) R
  | 0, i, L, B, hd, hg, ha, hs, hB, h0, h => by
    obtain rfl : i = n := by omega
    exact h
  | d + 1, i, L, B, hd, hg, ha, hs, hB, h0, h => by
    have hg' := good_round (es := l.map tr) hg
    have hs' := small_round hv (by simpa using hl) hg hs
    have ih := iNr n hn l hl hv R d (i + 1) (lround (l.map tr) L) (B + 80000000) (by omega) hg' (all_round ha) hs' (by omega) (by omega) h
    refine suc (f := fun k => impl_NegativeCycle.l1 k L.o L.l (-1) (i : Int) l (l.length : Int) ((0 : Nat) : Int) (n : Int) l) (fun k => by rw [impl_NegativeCycle.l0, if_pos (by omega)]; rfl) ?_
    refine iNr_l n l hl hv (i : Int) R l.length 0 { L with ch := -1 } B (by omega) hg ha hs (by omega) h0 ?_
    have e : lrnd (l.map tr) 0 l.length { L with ch := -1 } = lround (l.map tr) L := by unfold lround; rw [List.length_map]
    rw [e, up1 (by omega) (by omega)]
    exact ih
theorem iN3 (n : Nat) (hn : n ≤ 8) (l : List S39) (hv : ValidE n (l.map tr)) (N : Neg n (l.map tr)) (m : Nat) (hm : m < n) (hb : parN (l.map tr) (negS n (l.map tr)) (m + 1) (negC n (l.map tr)) = negC n (l.map tr)) (hno : ∀ i, i < m → parN (l.map tr) (negS n (l.map tr)) (i + 1) (negC n (l.map tr)) ≠ negC n (l.map tr)) : ∀ (d i : Nat), i + d = m + 1 →
    Ev (fun k => impl_NegativeCycle.l3 k (lrounds (l.map tr) n (negInit n)).l (negC n (l.map tr) : Int) (trl (negS n (l.map tr)) (l.map tr) (negC n (l.map tr)) i) (parN (l.map tr) (negS n (l.map tr)) i (negC n (l.map tr)) : Int) (n : Int) l) (trl (negS n (l.map tr)) (l.map tr) (negC n (l.map tr)) (m + 1)).reverse
  | 0, i, hd => by
    obtain rfl : i = m + 1 := by omega
    have hr := revM (trl (negS n (l.map tr)) (l.map tr) (negC n (l.map tr)) (m + 1)) (by rw [trl_len]; omega)
    refine suc (fun k => ?_) (bev hr now)
    rw [impl_NegativeCycle.l3, if_neg (by rw [trl_len]; omega), if_pos (by rw [hb])]
  | d + 1, i, hd => by
    have ih := iN3 n hn l hv N m hm hb hno d (i + 1) (by omega)
    obtain ⟨a, b, c⟩ := neg_lastC N i
    have hg := good_rounds (es := l.map tr) n _ (good_neg n)
    have e1 : rd (lrounds (l.map tr) n (negInit n)).l (parN (l.map tr) (negS n (l.map tr)) i (negC n (l.map tr)) : Int) = (negS n (l.map tr)).l (parN (l.map tr) (negS n (l.map tr)) i (negC n (l.map tr))) := rfl
    have e2 := neg_par hv a
    have hlm : ((l.map tr).length : Int) = l.length := by simp
    rw [hlm] at a
    refine suc (fun k => ?_) ih
    rw [impl_NegativeCycle.l3, e1, trl_len, trl_succ]
    have e3 : ((parN (l.map tr) (negS n (l.map tr)) (i + 1) (negC n (l.map tr)) : Nat) : Int) = (rd_T39 l ((negS n (l.map tr)).l (parN (l.map tr) (negS n (l.map tr)) i (negC n (l.map tr))))).f0 := by
      rw [tr0, e2]; rfl
    rw [← e3]
    by_cases h0 : i = 0
    · subst h0
      rw [if_pos (by omega), if_pos (by omega), if_pos (by rw [hg.2.1]; omega), if_pos (by omega), if_pos a.1, if_pos a.2]
    · have hne := hno (i - 1) (by omega)
      rw [show i - 1 + 1 = i by omega] at hne
      rw [if_neg (by omega), if_neg (by omega), if_pos (by omega), if_pos (by rw [hg.2.1]; omega), if_pos (by omega), if_pos a.1, if_pos a.2]
theorem iN2 (n : Nat) (hn : n ≤ 8) (l : List S39) (hv : ValidE n (l.map tr)) (N : Neg n (l.map tr)) (R : List Int) (h : Ev (fun k => impl_NegativeCycle.l3 k (lrounds (l.map tr) n (negInit n)).l (negC n (l.map tr) : Int) [] (negC n (l.map tr) : Int) (n : Int) l) R) : ∀ (d i : Nat), i + d = n →
    Ev (fun k => impl_NegativeCycle.l2 k (lrounds (l.map tr) n (negInit n)).l (parN (l.map tr) (negS n (l.map tr)) i (negV n (l.map tr)) : Int) (i : Int) (n : Int) l) R
  | 0, i, hd => by
    obtain rfl : i = n := by omega
    exact suc (fun k => by rw [impl_NegativeCycle.l2, if_neg (by omega)]; rfl) h
  | d + 1, i, hd => by
    have ih := iN2 n hn l hv N R h d (i + 1) (by omega)
    have a := N.last i
    have c := N.inn i
    have hg := good_rounds (es := l.map tr) n _ (good_neg n)
    have e1 : rd (lrounds (l.map tr) n (negInit n)).l (parN (l.map tr) (negS n (l.map tr)) i (negV n (l.map tr)) : Int) = (negS n (l.map tr)).l (parN (l.map tr) (negS n (l.map tr)) i (negV n (l.map tr))) := rfl
    have e2 := neg_par hv a
    have hlm : ((l.map tr).length : Int) = l.length := by simp
    rw [hlm] at a
    refine suc (fun k => ?_) ih
    have e3 : ((parN (l.map tr) (negS n (l.map tr)) (i + 1) (negV n (l.map tr)) : Nat) : Int) = (rd_T39 l ((negS n (l.map tr)).l (parN (l.map tr) (negS n (l.map tr)) i (negV n (l.map tr))))).f0 := by
      rw [tr0, e2]; rfl
    rw [impl_NegativeCycle.l2, e1, ← e3, if_pos (by omega), if_pos (by omega), if_pos (by rw [hg.2.1]; omega), if_pos a.1, if_pos a.2, up1 (by omega) (by omega)]; rfl
theorem iNeg (n : Int) (l : List S39) : Ev (fun k => impl_NegativeCycle.f k n l) (negM n (l.map tr)) := by
  unfold impl_NegativeCycle.f negM
  refine bnd (iGraphOk n l) ?_
  by_cases hg : graphOk n (l.map tr) = true
  · obtain ⟨h0, h8, hl, _⟩ := graphOk_iff hg
    have hl : l.length ≤ 80 := by simpa using hl
    have hv := valid_of hg
    refine ifp hg (ifp h0 (ifp (by omega) ?_))
    obtain ⟨m, rfl⟩ : ∃ m : Nat, n = (m : Int) := ⟨n.toNat, by omega⟩
    rw [Int.toNat_natCast] at hv ⊢
    have hrep : slices_Repeat_int_int.f [(-1)] (m : Int) = some (List.replicate m (-1)) := by
      unfold slices_Repeat_int_int.f
      rw [if_pos ⟨rfl, by omega, by omega⟩]; rfl
    refine bnd hrep ?_
    refine iNr m (by omega) l hl hv _ m 0 (negInit m) 0 (by omega) (good_neg m) rfl (small_neg m) (by omega) (by omega) ?_
    have ech : (lrounds (l.map tr) m (negInit m)).ch = (negS m (l.map tr)).ch := rfl
    by_cases hq : 0 ≤ (negS m (l.map tr)).ch
    · have N := neg_of hv hq
      obtain ⟨q, hq1, hq2, hq3, _, hq4⟩ := negT_eq N
      have h3 := iN3 m (by omega) l hv N q hq1 hq2 hq3 (q + 1) 0 (by omega)
      have h2 := iN2 m (by omega) l hv N _ h3 m 0 (by omega)
      rw [if_pos ⟨hg, hq⟩, hq4]
      refine suc (fun k => ?_) h2
      have hc := N.ch
      rw [List.length_map] at hc
      rw [impl_NegativeCycle.l0, if_neg (by omega), ech, if_neg (by omega), if_pos hq, if_pos (by omega), tr1]
      have e : (eAt (l.map tr) (negS m (l.map tr)).ch).2.1 = ((negV m (l.map tr) : Nat) : Int) := (neg_edge hv ⟨hq, by rw [List.length_map]; omega⟩).2
      rw [e]; rfl
    · refine eqr (suc (f := fun _ => some ([] : List Int)) (fun k => ?_) now) (if_neg (fun h => hq h.2)).symm
      rw [impl_NegativeCycle.l0, if_neg (by omega), ech, if_pos (by omega)]
  · exact eqr (ifn hg now) (if_neg (fun h => hg h.1)).symm
theorem sRound_l (n : Nat) (l : List S39) (hl : l.length ≤ 80) (hv : ValidE n (l.map tr)) : ∀ (d i : Nat) (L : LS) (B : Int), i + d = l.length → GoodL n L → SmallL B L → B + 1000000 * d ≤ 1000000000000 → 0 ≤ B →
    Ev (fun k => spec_l03Round.l0 k L.o L.l L.k L.ch l (l.length : Int) (i : Int)) ((lrnd (l.map tr) i d L).ch, (lrnd (l.map tr) i d L).o, (lrnd (l.map tr) i d L).l, (lrnd (l.map tr) i d L).k)
  | 0, i, L, B, hd, hg, hs, hB, h0 => suc (f := fun _ => some (L.ch, L.o, L.l, L.k)) (fun k => by rw [spec_l03Round.l0, if_neg (by omega)]) now
  | d + 1, i, L, B, hd, hg, hs, hB, h0 => by
    have ih := sRound_l n l hl hv d (i + 1) (lstep (l.map tr) i L) (B + 1000000) (by omega) (good_step i hg) (small_step hv (by simp only [List.length_map]; omega) hg hs) (by omega) (by omega)
    have hu : ∀ k, spec_l03Round.l0 (k + 1) L.o L.l L.k L.ch l (l.length : Int) (i : Int) = spec_l03Round.l0 k (lstep (l.map tr) i L).o (lstep (l.map tr) i L).l (lstep (l.map tr) i L).k (lstep (l.map tr) i L).ch l (l.length : Int) ((i + 1 : Nat) : Int) := by

      intro k
      obtain ⟨⟨f0, f1⟩, ⟨t0, t1⟩, w0, w1⟩ := hv i (by simp only [List.length_map]; omega)
      obtain ⟨h1, h2, h3⟩ := hg
      have hb := hs _ (rd_mem (l := L.o) f0 (by omega))
      rw [spec_l03Round.l0, if_pos (by omega), if_pos (by omega), if_pos (by omega)]
      simp only [tr0, tr1, tr2]
      rw [up1 (by omega) (by omega), w64 (i := rd L.o _ + _) (by omega) (by omega), if_pos f0, if_pos (by omega)]
      unfold lstep better rb
      by_cases k1 : rdOf false L.k (eAt (l.map tr) i).1 = true
      · rw [if_pos k1, if_pos t0, if_pos (by omega)]
        by_cases k2 : rdOf false L.k (eAt (l.map tr) i).2.1 = true
        · rw [if_pos k2, if_pos (by omega), if_pos (by omega)]
          by_cases c : rd L.o (eAt (l.map tr) i).1 + (eAt (l.map tr) i).2.2 < rd L.o (eAt (l.map tr) i).2.1
          · rw [if_pos c, if_pos (by omega)]
            simp only [k1, k2, c, decide_true, Bool.not_true, Bool.false_or, Bool.and_self, if_true]
            rfl
          · rw [if_neg c]
            simp only [k1, k2, c, decide_false, Bool.not_true, Bool.or_self, Bool.and_false, Bool.false_eq_true, if_false]
            rfl
        · rw [if_neg k2, if_pos (by omega), if_pos (by omega), if_pos (by omega)]
          rw [Bool.not_eq_true] at k2
          simp only [k1, k2, Bool.not_false, Bool.true_or, Bool.and_self, if_true]
          rfl
      · rw [if_neg k1]
        rw [Bool.not_eq_true] at k1
        simp only [k1, Bool.false_and, Bool.false_eq_true, if_false]
        rfl

    exact suc hu ih
theorem sRound (n : Nat) (m : Int) (l : List S39) (hl : l.length ≤ 80) (hv : ValidE n (l.map tr)) (L : LS) (B : Int) (hg : GoodL n L) (hs : SmallL B L) (hB : B ≤ 100000000000) (h0 : 0 ≤ B) :
    Ev (fun k => spec_l03Round.f k m l L.o L.l L.k) ((lround (l.map tr) L).ch, (lround (l.map tr) L).o, (lround (l.map tr) L).l, (lround (l.map tr) L).k) := by
  unfold spec_l03Round.f lround
  have := sRound_l n l hl hv l.length 0 { L with ch := -1 } B (by omega) hg hs (by omega) h0
  rw [List.length_map]
  exact this
theorem l01In (n a b : Int) : spec_l01In.f n a b = some (decide (a ≤ n ∧ n ≤ b)) := by
  unfold spec_l01In.f
  by_cases h : n ≥ a
  · rw [if_pos h]; congr 1; rw [Bool.eq_iff_iff]; simp only [decide_eq_true_eq]; omega
  · rw [if_neg h]; congr 1; symm; rw [decide_eq_false_iff_not]; omega
theorem in_node {s i : Int} (h0 : 0 ≤ s) (h8 : s ≤ 8) : spec_l01In.f i 0 (wrap64 (s - 1)) = some (decide (0 ≤ i ∧ i < s)) := by
  rw [l01In, w64 (by omega) (by omega)]
  congr 1
  rw [Bool.eq_iff_iff]
  simp only [decide_eq_true_eq]
  omega
theorem tableOk_s {s : Int} {l : List Int} (h : tableOk s l = true) : 0 ≤ s ∧ s ≤ 8 ∧ (l.length : Int) = s * s := by
  unfold tableOk at h; simp only [Bool.and_eq_true, decide_eq_true_eq] at h; exact h.1
theorem sGraphOk_l (n : Int) (l : List S39) (h0 : 0 ≤ n) (h8 : n ≤ 8) (hl : l.length ≤ 80) : ∀ (d i : Nat), i + d = l.length → Ev (fun k => spec_GraphOk.l0 k l (l.length : Int) (i : Int) n l) (allF (fun j => edgeOk n ((l.map tr).getD j (0, 0, 0))) i d)
  | 0, i, hd => suc (f := fun _ => some true) (fun k => by rw [spec_GraphOk.l0, if_neg (by omega)]) now
  | d + 1, i, hd => by
    have ih := sGraphOk_l n l h0 h8 hl d (i + 1) (by omega)
    simp only [allF]
    have e0 : (l.map tr).getD i (0, 0, 0) = eAt (l.map tr) (i : Int) := rfl
    rw [e0]
    have hu : ∀ k, spec_GraphOk.l0 (k + 1) l (l.length : Int) (i : Int) n l = (if 0 ≤ (eAt (l.map tr) i).1 ∧ (eAt (l.map tr) i).1 < n then (if 0 ≤ (eAt (l.map tr) i).2.1 ∧ (eAt (l.map tr) i).2.1 < n then (if -1000000 < (eAt (l.map tr) i).2.2 ∧ (eAt (l.map tr) i).2.2 < 1000000 then spec_GraphOk.l0 k l (l.length : Int) ((i + 1 : Nat) : Int) n l else some false) else some false) else some false) := by
      intro k
      rw [spec_GraphOk.l0, if_pos (by omega), if_pos (by omega), if_pos (by omega), in_node h0 h8, in_node h0 h8, l01In, tr0, tr1, tr2, up1 (by omega) (by omega)]
      simp only [Option.bind_some, decide_eq_true_eq]
      have : (-999999 ≤ (eAt (l.map tr) ↑i).2.2 ∧ (eAt (l.map tr) ↑i).2.2 ≤ 999999) = (-1000000 < (eAt (l.map tr) ↑i).2.2 ∧ (eAt (l.map tr) ↑i).2.2 < 1000000) := by apply propext; omega
      simp only [this]; rfl
    refine suc hu ?_
    unfold edgeOk
    by_cases h1 : 0 ≤ (eAt (l.map tr) i).1 ∧ (eAt (l.map tr) i).1 < n
    · refine ifp h1 ?_
      by_cases h2 : 0 ≤ (eAt (l.map tr) i).2.1 ∧ (eAt (l.map tr) i).2.1 < n
      · refine ifp h2 ?_
        by_cases h3 : -1000000 < (eAt (l.map tr) i).2.2 ∧ (eAt (l.map tr) i).2.2 < 1000000
        · rw [decide_eq_true ⟨h1, h2, h3⟩, Bool.true_and]
          exact ifp h3 ih
        · rw [decide_eq_false (fun x => h3 x.2.2), Bool.false_and]
          exact ifn h3 now
      · rw [decide_eq_false (fun x => h2 x.2.1), Bool.false_and]
        exact ifn h2 now
    · rw [decide_eq_false (fun x => h1 x.1), Bool.false_and]
      exact ifn h1 now
theorem sGraphOk (n : Int) (l : List S39) : Ev (fun k => spec_GraphOk.f k n l) (graphOk n (l.map tr)) := by
  unfold spec_GraphOk.f graphOk
  refine bnd (l01In n 0 8) ?_
  by_cases h : 0 ≤ n ∧ n ≤ 8
  · refine ifp (decide_eq_true h) ?_
    by_cases hl : l.length ≤ 80
    · have e : (decide (0 ≤ n ∧ n ≤ 8 ∧ (l.map tr).length ≤ 80) && (l.map tr).all (edgeOk n)) = allF (fun j => edgeOk n ((l.map tr).getD j (0, 0, 0))) 0 l.length := by
        rw [decide_eq_true (show 0 ≤ n ∧ n ≤ 8 ∧ (l.map tr).length ≤ 80 from ⟨h.1, h.2, by simpa using hl⟩), Bool.true_and, ← allF_all (0, 0, 0), List.length_map]
      rw [show decide ((l.length : Int) > 80) = false from decide_eq_false (by omega)]
      exact eqr (suc (f := fun k => spec_GraphOk.l0 k l (l.length : Int) ((0 : Nat) : Int) n l) (fun k => by rw [spec_GraphOk.j0, if_neg (by simp)]; rfl) (sGraphOk_l n l h.1 h.2 hl l.length 0 (by omega))) e.symm
    · have e : (decide (0 ≤ n ∧ n ≤ 8 ∧ (l.map tr).length ≤ 80) && (l.map tr).all (edgeOk n)) = false := by
        rw [decide_eq_false (show ¬ (0 ≤ n ∧ n ≤ 8 ∧ (l.map tr).length ≤ 80) from fun x => hl (by simpa using x.2.2)), Bool.false_and]
      rw [show decide ((l.length : Int) > 80) = true from decide_eq_true (by omega)]
      exact eqr (suc (f := fun _ => some false) (fun k => by rw [spec_GraphOk.j0, if_pos rfl]) now) e.symm
  · have e : (decide (0 ≤ n ∧ n ≤ 8 ∧ (l.map tr).length ≤ 80) && (l.map tr).all (edgeOk n)) = false := by
      rw [decide_eq_false (show ¬ (0 ≤ n ∧ n ≤ 8 ∧ (l.map tr).length ≤ 80) from fun x => h ⟨x.1, x.2.1⟩), Bool.false_and]
    exact eqr (ifn (by simpa using h) (suc (f := fun _ => some false) (fun k => by rw [spec_GraphOk.j0, if_pos rfl]) now)) e.symm
theorem sN0 (n : Nat) (hn : n ≤ 8) (l : List S39) (R : List Int) (h : Ev (fun k => spec_NegativeCycle.l1 k (negInit n).o (negInit n).l (negInit n).k (-1) 0 (n : Int) l) R) : ∀ (d i : Nat), i + d = n → Ev (fun k => spec_NegativeCycle.l0 k (List.replicate n 0) (List.replicate i (-1) ++ List.replicate d 0) (List.replicate i true ++ List.replicate d false) (n : Int) (i : Int) (n : Int) l) R
  | 0, i, hd => by
    obtain rfl : i = n := by omega
    refine suc (fun k => ?_) h
    rw [spec_NegativeCycle.l0, if_neg (by omega)]
    simp [negInit]
  | d + 1, i, hd => by
    have ih := sN0 n hn l R h d (i + 1) (by omega)
    refine suc (fun k => ?_) ih
    rw [spec_NegativeCycle.l0, if_pos (by omega), if_pos (by omega), if_pos (by simp only [List.length_append, List.length_replicate]; omega), if_pos (by simp only [List.length_append, List.length_replicate]; omega), up1 (by omega) (by omega)]
    have e1 : (List.replicate i (-1 : Int) ++ List.replicate (d + 1) 0).set (i : Int).toNat (-1) = List.replicate (i + 1) (-1) ++ List.replicate d 0 := by
      rw [List.replicate_succ (n := d), List.replicate_succ' (n := i), List.append_assoc]
      have := set_mid (List.replicate i (-1 : Int)) (List.replicate d 0) 0 (-1)
      rw [List.length_replicate] at this
      rw [this]; rfl
    have e2 : (List.replicate i true ++ List.replicate (d + 1) false).set (i : Int).toNat true = List.replicate (i + 1) true ++ List.replicate d false := by
      rw [List.replicate_succ (n := d), List.replicate_succ' (n := i), List.append_assoc]
      simp
    rw [e1, e2]; rfl
theorem sNr (n : Nat) (hn : n ≤ 8) (l : List S39) (hl : l.length ≤ 80) (hv : ValidE n (l.map tr)) (R : List Int) : ∀ (d i : Nat) (L : LS) (B : Int), i + d = n → GoodL n L → SmallL B L → B + 80000000 * d ≤ 1000000000 → 0 ≤ B →
    Ev (fun k => spec_NegativeCycle.l1 k (lrounds (l.map tr) d L).o (lrounds (l.map tr) d L).l (lrounds (l.map tr) d L).k (lrounds (l.map tr) d L).ch (n : Int) (n : Int) l) R →
    Ev (fun k => spec_NegativeCycle.l1 k L.o L.l L.k L.ch (i : Int) (n : Int) l) R
  | 0, i, L, B, hd, hg, hs, hB, h0, h => by
    obtain rfl : i = n := by omega
    exact h
  | d + 1, i, L, B, hd, hg, hs, hB, h0, h => by
    have hg' := good_round (es := l.map tr) hg
    have hs' := small_round hv (by simpa using hl) hg hs
    have ih := sNr n hn l hl hv R d (i + 1) (lround (l.map tr) L) (B + 80000000) (by omega) hg' hs' (by omega) (by omega) h
    have hr := sRound n (n : Int) l hl hv L B hg hs (by omega) h0
    refine suc (fun k => by rw [spec_NegativeCycle.l1, if_pos (by omega), up1 (by omega) (by omega)]) (bev hr ?_)
    exact ih
theorem sN3 (n : Nat) (hn : n ≤ 8) (l : List S39) (hv : ValidE n (l.map tr)) (N : Neg n (l.map tr)) (m : Nat) (hm : m < n) (hb : parN (l.map tr) (negS n (l.map tr)) (m + 1) (negC n (l.map tr)) = negC n (l.map tr)) (hno : ∀ i, i < m → parN (l.map tr) (negS n (l.map tr)) (i + 1) (negC n (l.map tr)) ≠ negC n (l.map tr)) : ∀ (d i : Nat), i + d = m + 1 →
    Ev (fun k => spec_NegativeCycle.l3 k (lrounds (l.map tr) n (negInit n)).l (negC n (l.map tr) : Int) (trl (negS n (l.map tr)) (l.map tr) (negC n (l.map tr)) i).reverse (parN (l.map tr) (negS n (l.map tr)) i (negC n (l.map tr)) : Int) (n : Int) l) (trl (negS n (l.map tr)) (l.map tr) (negC n (l.map tr)) (m + 1)).reverse
  | 0, i, hd => by
    obtain rfl : i = m + 1 := by omega
    refine suc (fun k => ?_) now
    rw [spec_NegativeCycle.l3, if_neg (by rw [List.length_reverse, trl_len]; omega), if_pos (by rw [hb])]
  | d + 1, i, hd => by
    have ih := sN3 n hn l hv N m hm hb hno d (i + 1) (by omega)
    obtain ⟨a, b, c⟩ := neg_lastC N i
    have hg := good_rounds (es := l.map tr) n _ (good_neg n)
    have e1 : rd (lrounds (l.map tr) n (negInit n)).l (parN (l.map tr) (negS n (l.map tr)) i (negC n (l.map tr)) : Int) = (negS n (l.map tr)).l (parN (l.map tr) (negS n (l.map tr)) i (negC n (l.map tr))) := rfl
    have e2 := neg_par hv a
    have hlm : ((l.map tr).length : Int) = l.length := by simp
    rw [hlm] at a
    refine suc (fun k => ?_) ih
    rw [spec_NegativeCycle.l3, e1, List.length_reverse, trl_len, trl_succ]
    have e3 : ((parN (l.map tr) (negS n (l.map tr)) (i + 1) (negC n (l.map tr)) : Nat) : Int) = (rd_T39 l ((negS n (l.map tr)).l (parN (l.map tr) (negS n (l.map tr)) i (negC n (l.map tr))))).f0 := by
      rw [tr0, e2]; rfl
    simp only [Option.bind_some, List.reverse_append, List.reverse_cons, List.reverse_nil, List.nil_append, List.length_cons, List.length_nil]
    rw [← e3]
    by_cases h0 : i = 0
    · subst h0
      rw [if_pos (by omega), if_pos (by omega), if_pos (by rw [hg.2.1]; omega), if_pos (by omega), if_pos a.1, if_pos a.2]
    · have hne := hno (i - 1) (by omega)
      rw [show i - 1 + 1 = i by omega] at hne
      rw [if_neg (by omega), if_neg (by omega), if_pos (by omega), if_pos (by rw [hg.2.1]; omega), if_pos (by omega), if_pos a.1, if_pos a.2]
theorem sN2 (n : Nat) (hn : n ≤ 8) (l : List S39) (hv : ValidE n (l.map tr)) (N : Neg n (l.map tr)) (R : List Int) (h : Ev (fun k => spec_NegativeCycle.l3 k (lrounds (l.map tr) n (negInit n)).l (negC n (l.map tr) : Int) [] (negC n (l.map tr) : Int) (n : Int) l) R) : ∀ (d i : Nat), i + d = n →
    Ev (fun k => spec_NegativeCycle.l2 k (lrounds (l.map tr) n (negInit n)).l (parN (l.map tr) (negS n (l.map tr)) i (negV n (l.map tr)) : Int) (i : Int) (n : Int) l) R
  | 0, i, hd => by
    obtain rfl : i = n := by omega
    exact suc (fun k => by rw [spec_NegativeCycle.l2, if_neg (by omega)]; rfl) h
  | d + 1, i, hd => by
    have ih := sN2 n hn l hv N R h d (i + 1) (by omega)
    have a := N.last i
    have c := N.inn i
    have hg := good_rounds (es := l.map tr) n _ (good_neg n)
    have e1 : rd (lrounds (l.map tr) n (negInit n)).l (parN (l.map tr) (negS n (l.map tr)) i (negV n (l.map tr)) : Int) = (negS n (l.map tr)).l (parN (l.map tr) (negS n (l.map tr)) i (negV n (l.map tr))) := rfl
    have e2 := neg_par hv a
    have hlm : ((l.map tr).length : Int) = l.length := by simp
    rw [hlm] at a
    refine suc (fun k => ?_) ih
    have e3 : ((parN (l.map tr) (negS n (l.map tr)) (i + 1) (negV n (l.map tr)) : Nat) : Int) = (rd_T39 l ((negS n (l.map tr)).l (parN (l.map tr) (negS n (l.map tr)) i (negV n (l.map tr))))).f0 := by
      rw [tr0, e2]; rfl
    rw [spec_NegativeCycle.l2, e1, ← e3, if_pos (by omega), if_pos (by omega), if_pos (by rw [hg.2.1]; omega), if_pos a.1, if_pos a.2, up1 (by omega) (by omega)]; rfl
theorem sNeg (n : Int) (l : List S39) : Ev (fun k => spec_NegativeCycle.f k n l) (negM n (l.map tr)) := by
  have hf : Ev (fun k => spec_NegativeCycle.j0 k true n l) [] := suc (f := fun _ => some []) (fun k => by rw [spec_NegativeCycle.j0, if_pos rfl]) now
  unfold spec_NegativeCycle.f
  refine bev (sGraphOk n l) ?_
  by_cases hg : graphOk n (l.map tr) = true
  · obtain ⟨h0, h8, hl, _⟩ := graphOk_iff hg
    have hl : l.length ≤ 80 := by simpa using hl
    have hv := valid_of hg
    refine ifp hg ?_
    obtain ⟨m, rfl⟩ : ∃ m : Nat, n = (m : Int) := ⟨n.toNat, by omega⟩
    unfold negM
    rw [Int.toNat_natCast] at hv ⊢
    by_cases hz : m = 0
    · subst hz
      refine eqr hf (if_neg (fun h => ?_)).symm
      have := ch_zero h.2
      omega
    · have e0 : (((m : Nat) : Int) == 0) = false := by simpa using hz
      rw [e0]
      have ech : (lrounds (l.map tr) m (negInit m)).ch = (negS m (l.map tr)).ch := rfl
      have key : Ev (fun k => spec_NegativeCycle.l1 k (lrounds (l.map tr) m (negInit m)).o (lrounds (l.map tr) m (negInit m)).l (lrounds (l.map tr) m (negInit m)).k (lrounds (l.map tr) m (negInit m)).ch (m : Int) (m : Int) l) (if graphOk (m : Int) (l.map tr) = true ∧ 0 ≤ (negS m (l.map tr)).ch then (negT m (l.map tr)).reverse else []) := by
        by_cases hq : 0 ≤ (negS m (l.map tr)).ch
        · have N := neg_of hv hq
          obtain ⟨q, hq1, hq2, hq3, _, hq4⟩ := negT_eq N
          have h3 := sN3 m (by omega) l hv N q hq1 hq2 hq3 (q + 1) 0 (by omega)
          have h2 := sN2 m (by omega) l hv N _ h3 m 0 (by omega)
          rw [if_pos ⟨hg, hq⟩, hq4]
          refine suc (fun k => ?_) h2
          have hc := N.ch
          rw [List.length_map] at hc
          rw [spec_NegativeCycle.l1, if_neg (by omega), ech, if_neg (by omega), if_pos hq, if_pos (by omega), tr1]
          have e : (eAt (l.map tr) (negS m (l.map tr)).ch).2.1 = ((negV m (l.map tr) : Nat) : Int) := (neg_edge hv ⟨hq, by rw [List.length_map]; omega⟩).2
          rw [e]; rfl
        · refine eqr (suc (f := fun _ => some ([] : List Int)) (fun k => ?_) now) (if_neg (fun h => hq h.2)).symm
          rw [spec_NegativeCycle.l1, if_neg (by omega), ech, if_pos (by omega)]
      have h1 := sNr m (by omega) l hl hv _ m 0 (negInit m) 0 (by omega) (good_neg m) (small_neg m) (by omega) (by omega) key
      have h2 := sN0 m (by omega) l _ h1 m 0 (by omega)
      refine suc (fun k => ?_) h2
      rw [spec_NegativeCycle.j0, if_neg (by simp), if_pos (by omega), if_pos (by omega), if_pos (by omega)]
      simp only [Option.bind_some, Int.toNat_natCast, List.length_replicate, List.replicate_zero, List.nil_append]
      rfl
  · exact eqr (ifn hg hf) (by unfold negM; rw [if_neg (fun h => hg h.1)])

theorem FnExactNegativeCycle : laws_FnExactNegativeCycle.Pure := by
  intro s l _ hl _
  refine Ev.rounds ?_
  unfold laws_FnExactNegativeCycle.f
  rcases szGraph s l hl with ⟨h, _⟩ | ⟨h, hn⟩
  · exact bnd h (ifp (by omega) now)
  · refine bnd h (ifn (by omega) ?_)
    have ht := toGraph s l (by omega)
    have hc : (l.map cvE).length ≤ 4194304 := by simp only [List.length_map]; omega

    have hq := negM_len s ((l.map cvE).map tr)
    have hi := iNeg s (l.map cvE)
    have hs := sNeg s (l.map cvE)
    generalize negM s ((l.map cvE).map tr) = r at hq hi hs
    have he := eqIntS r (by omega)
    have hm := markIntS r 1 (by omega) (by omega)
    have hc3 : 1 + 3 * ((l.map cvE).length : Int) ≤ 1073741824 := by omega
    have hc4 : ¬ (1 + 3 * ((l.map cvE).length : Int) < 0) := by omega
    have hh := heldIntS r 1 (by omega) (by omega)
    refine bev ht (bev hs (bev ht (bev hi (bev he (ifp rfl (bev ht (bev (eqGraph s _ hc) (ifp rfl (bev (markGraph s _ 1 (by omega) hc3) (ifn hc4 (bev he (suc (fun k => by rw [laws_FnExactNegativeCycle.j0, if_neg (by simp)]) ?_))))))))))))
    exact bev hm (bev hh (ifn (by omega) (ifp rfl (bev ht (bev hi (bev he (ifp rfl (bev hh (ifn (by omega) (ifp rfl now))))))))))

end Go.Proofs.Ytegkkbncnmakaaa.Own
