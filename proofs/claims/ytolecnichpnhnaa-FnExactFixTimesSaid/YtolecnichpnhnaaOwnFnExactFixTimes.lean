/- The law FnExactFixTimes answers true for every network and times. No condition. -/
import Derived.Test.YtolecnichpnhnaaQFnExactFixTimesx6
import Derived.Test.YtolecnichpnhnaaThy
namespace Go.Proofs.Ytolecnichpnhnaa.Own
open Go.RowKit Go.Proofs.Ytolecnichpnhnaa.QFnExactFixTimes Go.Proofs.YtolecnichpnhnaaW.PrintWords Go.Proofs.YtolecnichpnhnaaW.PrintLast Go.Proofs.YtolecnichpnhnaaW.PrintMore Go.Proofs.YtolecnichpnhnaaT
set_option linter.unusedVariables false
set_option linter.unusedSimpArgs false

theorem szSimple (s : Int) (l : List S42) (hl : l.length ≤ maxLen) : (laws_szSimple.f s l 1048576 = some (-1) ∧ 1048576 < l.length) ∨ (laws_szSimple.f s l 1048576 = some (1048576 - (l.length : Int)) ∧ l.length ≤ 1048576) := by
  unfold maxLen at hl
  unfold laws_szSimple.f laws_szLinkS.f
  rw [w64 (by omega) (by omega)]
  by_cases h : l.length ≤ 1048576
  · right
    rw [if_neg (by omega)]
    simp only [Option.bind_some]
    rw [if_neg (by omega)]
    exact ⟨rfl, h⟩
  · left
    rw [if_pos (by omega)]
    simp only [Option.bind_some]
    rw [if_pos (by omega)]
    exact ⟨rfl, by omega⟩
def cvL (e : S42) : S47 := ⟨e.f0, e.f1, ⟨e.f2.f0, e.f2.f1⟩⟩
theorem rdK_at {l : List S42} {i : Nat} (h : i < l.length) : rd_T42 l (i : Int) = l[i] := by
  unfold rd_T42; simp [List.getD_eq_getElem?_getD, h]
theorem toLink (a b c d : Int) : laws_toLink.f a b c d = some (a, b, c, d) := rfl
theorem toLinkS_l (x : List S42) (hn : x.length ≤ 4194304) : ∀ (d i : Nat) (y : List S47), i + d = x.length → y.length = x.length → (∀ j, j < i → y[j]? = (x.map cvL)[j]?) → Ev (fun k => laws_toLinkS.l0 k x y (i : Int)) (x.map cvL)
  | 0, i, y, hd, hy, hj => by
    have e : y = x.map cvL := by
      apply List.ext_getElem?; intro j
      by_cases h : j < i
      · exact hj j h
      · rw [List.getElem?_eq_none (by omega), List.getElem?_eq_none (by simp; omega)]
    subst e
    exact suc (f := fun _ => some (x.map cvL)) (fun k => by rw [laws_toLinkS.l0, if_neg (by omega)]) now
  | d + 1, i, y, hd, hy, hj => by
    refine suc (f := fun k => laws_toLinkS.l0 k x (y.set i (cvL (rd_T42 x i))) ((i + 1 : Nat) : Int)) (fun k => ?_) (toLinkS_l x hn d (i + 1) _ (by omega) (by simp [hy]) (fun j h => ?_))
    · rw [laws_toLinkS.l0, if_pos (by omega), if_pos (by omega), toLink]
      simp only [Option.bind_some]
      rw [if_pos (by omega), up1 (by omega) (by omega)]; rfl
    · by_cases e : j = i
      · subst e; rw [rdK_at (by omega)]; simp [show j < y.length by omega, show j < x.length by omega]
      · rw [List.getElem?_set_ne (by omega)]; exact hj j (by omega)
theorem toLinkS (x : List S42) (hn : x.length ≤ 4194304) : Ev (fun k => laws_toLinkS.f k x) (x.map cvL) := by
  unfold laws_toLinkS.f
  exact ifp (by omega) (ifp (by simp; omega) (toLinkS_l x hn x.length 0 _ (by omega) (by simp) (fun j h => by omega)))
theorem toSimple (s : Int) (l : List S42) (hn : l.length ≤ 4194304) : Ev (fun k => laws_toSimple.f k s l) (s, l.map cvL) := by
  unfold laws_toSimple.f
  exact bev (toLinkS l hn) now
theorem eqLink (a b c d : Int) : laws_eqLink.f a b c d a b c d = some true := by
  unfold laws_eqLink.f laws_eqInterval.f
  simp
theorem eqLinkS_l (x : List S47) (hn : x.length ≤ 4194304) : ∀ (d i : Nat), i + d = x.length → Ev (fun k => laws_eqLinkS.l0 k x x (i : Int)) true
  | 0, i, hd => suc (f := fun _ => some true) (fun k => by rw [laws_eqLinkS.l0, if_neg (by omega)]) now
  | d + 1, i, hd => by
    refine suc (f := fun k => laws_eqLinkS.l0 k x x ((i + 1 : Nat) : Int)) (fun k => ?_) (eqLinkS_l x hn d (i + 1) (by omega))
    rw [laws_eqLinkS.l0, if_pos (by omega), if_pos (by omega), if_pos (by omega), eqLink]
    simp only [Option.bind_some, if_true]
    rw [up1 (by omega) (by omega)]; rfl
theorem eqLinkS (x : List S47) (hn : x.length ≤ 4194304) : Ev (fun k => laws_eqLinkS.f k x x) true := by
  unfold laws_eqLinkS.f
  exact ifp rfl (eqLinkS_l x hn x.length 0 (by omega))
theorem eqSimple (s : Int) (l : List S47) (hn : l.length ≤ 4194304) : Ev (fun k => laws_eqSimple.f k s l s l) true := by
  unfold laws_eqSimple.f
  exact ifp rfl (bev (eqLinkS l hn) (ifp rfl now))
theorem toIntS_l (x : List Int) (hn : x.length ≤ 4194304) : ∀ (d i : Nat) (y : List Int), i + d = x.length → y.length = x.length → (∀ j, j < i → y[j]? = x[j]?) → Ev (fun k => laws_toIntS.l0 k x y (i : Int)) x
  | 0, i, y, hd, hy, hj => by
    have e : y = x := by
      apply List.ext_getElem?; intro j
      by_cases h : j < i
      · exact hj j h
      · rw [List.getElem?_eq_none (by omega), List.getElem?_eq_none (by omega)]
    subst e
    exact suc (f := fun _ => some y) (fun k => by rw [laws_toIntS.l0, if_neg (by omega)]) now
  | d + 1, i, y, hd, hy, hj => by
    refine suc (f := fun k => laws_toIntS.l0 k x (y.set i (rd x i)) ((i + 1 : Nat) : Int)) (fun k => ?_) (toIntS_l x hn d (i + 1) _ (by omega) (by simp [hy]) (fun j h => ?_))
    · rw [laws_toIntS.l0, if_pos (by omega), if_pos (by omega), if_pos (by omega), up1 (by omega) (by omega)]; rfl
    · by_cases e : j = i
      · subst e; rw [rd_at (by omega)]; simp [show j < y.length by omega, show j < x.length by omega]
      · rw [List.getElem?_set_ne (by omega)]; exact hj j (by omega)
theorem toIntS (x : List Int) (hn : x.length ≤ 4194304) : Ev (fun k => laws_toIntS.f k x) x := by
  unfold laws_toIntS.f
  exact ifp (by omega) (ifp (by simp; omega) (toIntS_l x hn x.length 0 _ (by omega) (by simp) (fun j h => by omega)))
theorem eqIntS_l (x : List Int) (hn : x.length ≤ 4194304) : ∀ (d i : Nat), i + d = x.length → Ev (fun k => laws_eqIntS.l0 k x x (i : Int)) true
  | 0, i, hd => suc (f := fun _ => some true) (fun k => by rw [laws_eqIntS.l0, if_neg (by omega)]) now
  | d + 1, i, hd => by
    refine suc (f := fun k => laws_eqIntS.l0 k x x ((i + 1 : Nat) : Int)) (fun k => ?_) (eqIntS_l x hn d (i + 1) (by omega))
    rw [laws_eqIntS.l0, if_pos (by omega), if_pos (by omega), if_pos (by omega), if_pos rfl, up1 (by omega) (by omega)]; rfl
theorem eqIntS (x : List Int) (hn : x.length ≤ 4194304) : Ev (fun k => laws_eqIntS.f k x x) true := by
  unfold laws_eqIntS.f
  exact ifp rfl (eqIntS_l x hn x.length 0 (by omega))
def markI (m : Int) : List Int → List Int
  | [] => []
  | _ :: t => m :: markI (m + 1) t
theorem markIntS_l : ∀ (b a : List Int) (m : Int), 0 ≤ m → m + b.length ≤ 1073741824 → a.length + b.length ≤ 1073741824 → Ev (fun k => laws_markIntS.l0 k (a ++ b) m (a.length : Int)) (m + b.length, a ++ markI m b)
  | [], a, m, h0, hm, hn => by
    refine eqr (suc (f := fun _ => some (m, a ++ ([] : List Int))) (fun k => by rw [laws_markIntS.l0, if_neg (by simp)]) now) ?_
    simp [markI]
  | x :: b, a, m, h0, hm, hn => by
    simp only [List.length_cons] at hm hn
    have ih := markIntS_l b (a ++ [m]) (m + 1) (by omega) (by omega) (by simp only [List.length_append, List.length_cons, List.length_nil]; omega)
    refine eqr (suc (f := fun k => laws_markIntS.l0 k (a ++ [m] ++ b) (m + 1) ((a ++ [m]).length : Int)) (fun k => ?_) ih) ?_
    · rw [laws_markIntS.l0, if_pos (by simp only [List.length_append, List.length_cons]; omega), if_pos (by omega), w64 (by omega) (by omega), w64 (by omega) (by omega)]
      simp
    · simp only [markI, List.length_cons, List.append_assoc, List.singleton_append, Prod.mk.injEq]
      exact ⟨by omega, trivial⟩
theorem markIntS (x : List Int) (m : Int) (h0 : 0 ≤ m) (hm : m + x.length ≤ 1073741824) : Ev (fun k => laws_markIntS.f k x m) (m + x.length, markI m x) := by
  unfold laws_markIntS.f
  exact markIntS_l x [] m h0 hm (by simp only [List.length_nil]; omega)
def markL (m : Int) : List S47 → List S47
  | [] => []
  | _ :: t => ⟨m, m + 1, ⟨m + 1 + 1, m + 1 + 1 + 1⟩⟩ :: markL (m + 1 + 1 + 1 + 1) t
theorem rdL_mid (a b : List S47) (x : S47) : rd_T47 (a ++ x :: b) (a.length : Int) = x := by unfold rd_T47; simp [List.getD_eq_getElem?_getD]
theorem setL_mid (a b : List S47) (x y : S47) : (a ++ x :: b).set (a.length : Int).toNat y = a ++ y :: b := by simp
theorem markLinkS_l : ∀ (b a : List S47) (m : Int), 0 ≤ m → m + 4 * b.length ≤ 1073741824 → a.length + b.length ≤ 1073741824 → Ev (fun k => laws_markLinkS.l0 k (a ++ b) m (a.length : Int)) (m + 4 * b.length, a ++ markL m b)
  | [], a, m, h0, hm, hn => by
    refine eqr (suc (f := fun _ => some (m, a ++ ([] : List S47))) (fun k => by rw [laws_markLinkS.l0, if_neg (by simp)]) now) ?_
    simp [markL]
  | x :: b, a, m, h0, hm, hn => by
    simp only [List.length_cons] at hm hn
    have ih := markLinkS_l b (a ++ [⟨m, m + 1, ⟨m + 1 + 1, m + 1 + 1 + 1⟩⟩]) (m + 1 + 1 + 1 + 1) (by omega) (by omega) (by simp only [List.length_append, List.length_cons, List.length_nil]; omega)
    refine eqr (suc (f := fun k => laws_markLinkS.l0 k (a ++ [⟨m, m + 1, ⟨m + 1 + 1, m + 1 + 1 + 1⟩⟩] ++ b) (m + 1 + 1 + 1 + 1) ((a ++ [(⟨m, m + 1, ⟨m + 1 + 1, m + 1 + 1 + 1⟩⟩ : S47)]).length : Int)) (fun k => ?_) ih) ?_
    · rw [laws_markLinkS.l0, if_pos (by simp only [List.length_append, List.length_cons]; omega), if_pos (by omega)]
      simp only [rdL_mid, setL_mid, Option.bind_some]
      rw [w64 (i := m + 1) (by omega) (by omega), w64 (i := m + 1 + 1) (by omega) (by omega), w64 (i := m + 1 + 1 + 1) (by omega) (by omega), w64 (i := m + 1 + 1 + 1 + 1) (by omega) (by omega), w64 (i := (a.length : Int) + 1) (by omega) (by omega)]
      simp
    · simp only [markL, List.length_cons, List.append_assoc, List.singleton_append, Prod.mk.injEq]
      exact ⟨by omega, trivial⟩
theorem markSimple (n : Int) (x : List S47) (m : Int) (h0 : 0 ≤ m) (hm : m + 4 * x.length ≤ 1073741824) : Ev (fun k => laws_markSimple.f k n x m) (m + 4 * x.length, markL m x) := by
  unfold laws_markSimple.f laws_markLinkS.f
  exact bev (markLinkS_l x [] m h0 hm (by simp only [List.length_nil]; omega)) now
theorem heldLinkS_l : ∀ (b a : List S47) (m : Int), 0 ≤ m → m + 4 * b.length ≤ 1073741824 → a.length + b.length ≤ 1073741824 → Ev (fun k => laws_heldLinkS.l0 k (a ++ markL m b) m (a.length : Int)) (m + 4 * b.length)
  | [], a, m, h0, hm, hn => by
    refine eqr (suc (f := fun _ => some m) (fun k => by rw [laws_heldLinkS.l0, if_neg (by simp [markL])]) now) ?_
    simp
  | x :: b, a, m, h0, hm, hn => by
    simp only [List.length_cons] at hm hn
    have ih := heldLinkS_l b (a ++ [⟨m, m + 1, ⟨m + 1 + 1, m + 1 + 1 + 1⟩⟩]) (m + 1 + 1 + 1 + 1) (by omega) (by omega) (by simp only [List.length_append, List.length_cons, List.length_nil]; omega)
    refine eqr (suc (f := fun k => laws_heldLinkS.l0 k (a ++ [⟨m, m + 1, ⟨m + 1 + 1, m + 1 + 1 + 1⟩⟩] ++ markL (m + 1 + 1 + 1 + 1) b) (m + 1 + 1 + 1 + 1) ((a ++ [(⟨m, m + 1, ⟨m + 1 + 1, m + 1 + 1 + 1⟩⟩ : S47)]).length : Int)) (fun k => ?_) ih) ?_
    · rw [laws_heldLinkS.l0, if_pos (by simp only [markL, List.length_append, List.length_cons]; omega), if_pos (by omega)]
      simp only [markL, rdL_mid]
      rw [w64 (i := m + 1) (by omega) (by omega), w64 (i := m + 1 + 1) (by omega) (by omega), w64 (i := m + 1 + 1 + 1) (by omega) (by omega), w64 (i := m + 1 + 1 + 1 + 1) (by omega) (by omega), w64 (i := (a.length : Int) + 1) (by omega) (by omega)]
      simp
    · simp only [List.length_cons]; omega
theorem heldSimple (s : Int) (x : List S47) (m : Int) (h0 : 0 ≤ m) (hm : m + 4 * x.length ≤ 1073741824) : Ev (fun k => laws_heldSimple.f k s (markL m x) m) (m + 4 * x.length) := by
  unfold laws_heldSimple.f laws_heldLinkS.f
  exact bev (heldLinkS_l x [] m h0 hm (by simp only [List.length_nil]; omega)) (ifn (by omega) now)
def partT (x : Int) : Bool := decide (-1 ≤ x ∧ x ≤ 999999)
def partOk (n : Int) (ls : List L4) (t : List Int) : Bool := simpleOk n ls && (decide ((t.length : Int) = n) && (decide (rd t 0 = 0) && t.all partT))
theorem partB_eq (x : Int) : partB x = !partT x := by
  unfold partB isTimeB partT
  by_cases h : x = -1
  · subst h; rfl
  · rw [bne_iff_ne.mpr h, Bool.true_and]
    congr 1
    exact decide_eq_decide.mpr (by omega)
def trL (e : S47) : L4 := (e.f0, e.f1, e.f2.f0, e.f2.f1)
theorem trL_rd (l : List S47) (p : Int) : lAt (l.map trL) p = trL (rd_T47 l p) := by
  unfold lAt rd_T47
  simp only [List.getD_eq_getElem?_getD, List.getElem?_map]
  cases l[p.toNat]? <;> rfl
theorem lk0 (l : List S47) (p : Int) : (rd_T47 l p).f0 = (lAt (l.map trL) p).1 := by rw [trL_rd]; rfl
theorem lk1 (l : List S47) (p : Int) : (rd_T47 l p).f1 = (lAt (l.map trL) p).2.1 := by rw [trL_rd]; rfl
theorem lk2 (l : List S47) (p : Int) : (rd_T47 l p).f2.f0 = (lAt (l.map trL) p).2.2.1 := by rw [trL_rd]; rfl
theorem lk3 (l : List S47) (p : Int) : (rd_T47 l p).f2.f1 = (lAt (l.map trL) p).2.2.2 := by rw [trL_rd]; rfl
def fixOne (t : List Int) (i : Nat) : List S47 := if 0 < i then (if rd t i = -1 then [] else [⟨0, i, ⟨rd t i, rd t i⟩⟩]) else []
def fixFrom (t : List Int) : Nat → Nat → List S47
  | _, 0 => []
  | i, d + 1 => fixOne t i ++ fixFrom t (i + 1) d
theorem fixOne_len (t : List Int) (i : Nat) : (fixOne t i).length ≤ 1 := by
  unfold fixOne
  repeat' split
  all_goals simp
theorem fixFrom_len (t : List Int) : ∀ d i, (fixFrom t i d).length ≤ d
  | 0, i => by simp [fixFrom]
  | d + 1, i => by
    have := fixOne_len t i
    have := fixFrom_len t d (i + 1)
    simp only [fixFrom, List.length_append]; omega
def fixEnd (n : Int) (o : List S47) : Int × List S47 × Bool := if simpleOk n (o.map trL) = true then (n, o, true) else (0, [], false)
def fixM (n : Int) (l : List S47) (t : List Int) : Int × List S47 × Bool := if partOk n (l.map trL) t = true then fixEnd n (l ++ fixFrom t 0 t.length) else (0, [], false)
theorem part_len {n : Int} {ls : List L4} {t : List Int} (h : partOk n ls t = true) : t.length ≤ 8 ∧ ls.length ≤ 40 := by
  unfold partOk at h
  simp only [Bool.and_eq_true, decide_eq_true_eq] at h
  obtain ⟨h1, h2, h3, _⟩ := simpleOk_iff h.1
  have := h.2.1
  exact ⟨by omega, h3⟩
theorem fixEnd_len (n : Int) (o : List S47) : (fixEnd n o).2.1.length ≤ 40 := by
  unfold fixEnd
  split
  · rename_i h
    have := (simpleOk_iff h).2.2.1
    simpa using this
  · simp
theorem fixM_len (n : Int) (l : List S47) (t : List Int) : (fixM n l t).2.1.length ≤ 40 := by
  unfold fixM
  split
  · exact fixEnd_len _ _
  · simp
theorem badL (n : Int) (e : S47) : badLink n e = !(linkOk n (trL e)) := by
  unfold badLink sNodeB linkOk trL
  rw [show qokB e.f2.f0 e.f2.f1 = okB e.f2.f0 e.f2.f1 from rfl]
  by_cases h1 : 0 ≤ e.f0 ∧ e.f0 < n <;> by_cases h2 : 0 ≤ e.f1 ∧ e.f1 < n <;> cases okB e.f2.f0 e.f2.f1 <;> simp [h1, h2]
theorem iSimpleOk (n : Int) (l : List S47) : impl_SimpleOk.f n l = some (simpleOk n (l.map trL)) := by
  unfold impl_SimpleOk.f simpleOk
  have e : (!(l.any (badLink n))) = (l.map trL).all (linkOk n) := by
    rw [List.all_map, List.all_eq_not_any_not]
    congr 2
    funext x
    simp [badL]
  congr 1
  by_cases h1 : n < 1
  · rw [if_pos h1, decide_eq_false (by omega), Bool.false_and]
  · rw [if_neg h1]
    by_cases h2 : n > 8
    · rw [if_pos h2, decide_eq_false (by omega), Bool.false_and]
    · rw [if_neg h2]
      by_cases h3 : (l.length : Int) > 40
      · rw [if_pos h3, decide_eq_false (by simp only [List.length_map]; omega), Bool.false_and]
      · rw [if_neg h3, decide_eq_true (by simp only [List.length_map]; omega), Bool.true_and, e]
theorem iPartialOk (n : Int) (l : List S47) (t : List Int) : impl_PartialOk.f n l t = some (partOk n (l.map trL) t) := by
  unfold impl_PartialOk.f partOk
  rw [iSimpleOk]
  simp only [Option.bind_some]
  by_cases h : simpleOk n (l.map trL) = true
  · have hn := (simpleOk_iff h).1
    rw [if_pos h, h, Bool.true_and]
    by_cases c : (t.length : Int) = n
    · rw [if_pos c, decide_eq_true c, Bool.true_and, if_pos (by omega)]
      by_cases d : rd t 0 = 0
      · rw [if_pos d, decide_eq_true d, Bool.true_and, List.all_eq_not_any_not]
        congr 3
        funext x
        exact partB_eq x
      · rw [if_neg d, decide_eq_false d, Bool.false_and]
    · rw [if_neg c, decide_eq_false c, Bool.false_and]
  · rw [if_neg h]
    rw [Bool.not_eq_true] at h
    rw [h, Bool.false_and]
theorem iFix_l (n : Int) (t : List Int) (ht : t.length ≤ 8) : ∀ (d i : Nat) (x : List S47), i + d = t.length → x.length ≤ 40 + i → Ev (fun k => impl_FixTimes.l0 k t (t.length : Int) (i : Int) n x) (fixEnd n (x ++ fixFrom t i d))
  | 0, i, x, hd, hx => by
    simp only [fixFrom, List.append_nil]
    unfold fixEnd
    refine suc (fun k => by rw [impl_FixTimes.l0, if_neg (by omega)]) ?_
    refine bnd (iSimpleOk n _) ?_
    by_cases h : simpleOk n (x.map trL) = true
    · exact eqr (ifp h now) (if_pos h).symm
    · exact eqr (ifn h now) (if_neg h).symm
  | d + 1, i, x, hd, hx => by
    have ih := iFix_l n t ht d (i + 1) (x ++ fixOne t i) (by omega) (by have := fixOne_len t i; simp only [List.length_append]; omega)
    simp only [fixFrom]
    rw [← List.append_assoc]
    refine suc (fun k => ?_) ih
    rw [impl_FixTimes.l0, if_pos (by omega), if_pos (by omega), if_pos (by omega), up1 (by omega) (by omega), show (i : Int) + 1 = ((i + 1 : Nat) : Int) from rfl]
    unfold fixOne
    by_cases h1 : 0 < i
    · rw [if_pos (show (i : Int) > 0 by omega), if_pos h1]
      by_cases h2 : rd t i = -1
      · rw [if_pos h2, if_pos h2, List.append_nil]
      · rw [if_neg h2, if_neg h2, if_pos (by omega)]
    · rw [if_neg (show ¬ (i : Int) > 0 by omega), if_neg h1, List.append_nil]

theorem iFix (n : Int) (l : List S47) (t : List Int) : Ev (fun k => impl_FixTimes.f k n l t) (fixM n l t) := by
  unfold impl_FixTimes.f fixM
  refine bnd (iPartialOk n l t) ?_
  by_cases h : partOk n (l.map trL) t = true
  · have hp := part_len h
    have h40 : l.length ≤ 40 := by simpa using hp.2
    rw [if_pos h]
    refine ifp h (bnd (a := l) ?_ ?_)
    · unfold impl_Link_60.f
      simp only [Option.bind_some, List.nil_append, List.length_nil]
      rw [if_pos (by omega)]
    · exact iFix_l n t hp.1 t.length 0 l (by omega) (by omega)
  · rw [if_neg h]; exact ifn h now
theorem l01In (n a b : Int) : spec_l01In.f n a b = some (decide (a ≤ n ∧ n ≤ b)) := by
  unfold spec_l01In.f
  by_cases h : n ≥ a
  · rw [if_pos h]; congr 1; rw [Bool.eq_iff_iff]; simp only [decide_eq_true_eq]; omega
  · rw [if_neg h]; congr 1; symm; rw [decide_eq_false_iff_not]; omega
theorem in_node {s i : Int} (h0 : 0 ≤ s) (h8 : s ≤ 8) : spec_l01In.f i 0 (wrap64 (s - 1)) = some (decide (0 ≤ i ∧ i < s)) := by
  rw [l01In, w64 (by omega) (by omega)]
  congr 1
  rw [Bool.eq_iff_iff]
  simp only [decide_eq_true_eq]
  omega
theorem tableOk_s {s : Int} {l : List Int} (h : tableOk s l = true) : 0 ≤ s ∧ s ≤ 8 ∧ (l.length : Int) = s * s := by
  unfold tableOk at h; simp only [Bool.and_eq_true, decide_eq_true_eq] at h; exact h.1
theorem sok (a b : Int) : spec_IntervalOk.f a b = some (okB a b) := by
  unfold spec_IntervalOk.f okB
  repeat' split
  all_goals (congr 1; first | (symm; rw [decide_eq_false_iff_not]; omega) | (rw [Bool.eq_iff_iff]; simp only [bne_iff_ne, ne_eq, decide_eq_true_eq]; omega))
theorem sSimpleOk_l (n : Int) (l : List S47) (h0 : 1 ≤ n) (h8 : n ≤ 8) (hl : l.length ≤ 40) : ∀ (d i : Nat), i + d = l.length → Ev (fun k => spec_SimpleOk.l0 k l (l.length : Int) (i : Int) n l) (allF (fun j => linkOk n ((l.map trL).getD j (0, 0, 0, 0))) i d)
  | 0, i, hd => suc (f := fun _ => some true) (fun k => by rw [spec_SimpleOk.l0, if_neg (by omega)]) now
  | d + 1, i, hd => by
    have ih := sSimpleOk_l n l h0 h8 hl d (i + 1) (by omega)
    simp only [allF]
    have e0 : (l.map trL).getD i (0, 0, 0, 0) = lAt (l.map trL) (i : Int) := rfl
    rw [e0]
    have hu : ∀ k, spec_SimpleOk.l0 (k + 1) l (l.length : Int) (i : Int) n l = (if 0 ≤ (lAt (l.map trL) i).1 ∧ (lAt (l.map trL) i).1 < n then (if 0 ≤ (lAt (l.map trL) i).2.1 ∧ (lAt (l.map trL) i).2.1 < n then (if okB (lAt (l.map trL) i).2.2.1 (lAt (l.map trL) i).2.2.2 = true then spec_SimpleOk.l0 k l (l.length : Int) ((i + 1 : Nat) : Int) n l else some false) else some false) else some false) := by
      intro k
      rw [spec_SimpleOk.l0, if_pos (by omega), if_pos (by omega), if_pos (by omega), in_node (by omega) h8, in_node (by omega) h8, sok, lk0, lk1, lk2, lk3, up1 (by omega) (by omega)]
      simp only [Option.bind_some, decide_eq_true_eq]; rfl
    refine suc hu ?_
    unfold linkOk
    by_cases h1 : 0 ≤ (lAt (l.map trL) i).1 ∧ (lAt (l.map trL) i).1 < n
    · refine ifp h1 ?_
      by_cases h2 : 0 ≤ (lAt (l.map trL) i).2.1 ∧ (lAt (l.map trL) i).2.1 < n
      · refine ifp h2 ?_
        rw [decide_eq_true ⟨h1, h2⟩, Bool.true_and]
        by_cases h3 : okB (lAt (l.map trL) i).2.2.1 (lAt (l.map trL) i).2.2.2 = true
        · rw [h3, Bool.true_and]
          exact ifp rfl ih
        · rw [Bool.not_eq_true] at h3
          rw [h3, Bool.false_and]
          exact ifn (by simp) now
      · rw [decide_eq_false (fun x => h2 x.2), Bool.false_and, Bool.false_and]
        exact ifn h2 now
    · rw [decide_eq_false (fun x => h1 x.1), Bool.false_and, Bool.false_and]
      exact ifn h1 now
theorem sSimpleOk (n : Int) (l : List S47) : Ev (fun k => spec_SimpleOk.f k n l) (simpleOk n (l.map trL)) := by
  unfold spec_SimpleOk.f simpleOk
  refine bnd (l01In n 1 8) ?_
  by_cases h : 1 ≤ n ∧ n ≤ 8
  · refine ifp (decide_eq_true h) ?_
    by_cases hl : l.length ≤ 40
    · have e : (decide (1 ≤ n ∧ n ≤ 8 ∧ (l.map trL).length ≤ 40) && (l.map trL).all (linkOk n)) = allF (fun j => linkOk n ((l.map trL).getD j (0, 0, 0, 0))) 0 l.length := by
        rw [decide_eq_true (show 1 ≤ n ∧ n ≤ 8 ∧ (l.map trL).length ≤ 40 from ⟨h.1, h.2, by simpa using hl⟩), Bool.true_and, ← allF_all (0, 0, 0, 0), List.length_map]
      rw [show decide ((l.length : Int) > 40) = false from decide_eq_false (by omega)]
      exact eqr (suc (f := fun k => spec_SimpleOk.l0 k l (l.length : Int) ((0 : Nat) : Int) n l) (fun k => by rw [spec_SimpleOk.j0, if_neg (by simp)]; rfl) (sSimpleOk_l n l h.1 h.2 hl l.length 0 (by omega))) e.symm
    · have e : (decide (1 ≤ n ∧ n ≤ 8 ∧ (l.map trL).length ≤ 40) && (l.map trL).all (linkOk n)) = false := by
        rw [decide_eq_false (show ¬ (1 ≤ n ∧ n ≤ 8 ∧ (l.map trL).length ≤ 40) from fun x => hl (by simpa using x.2.2)), Bool.false_and]
      rw [show decide ((l.length : Int) > 40) = true from decide_eq_true (by omega)]
      exact eqr (suc (f := fun _ => some false) (fun k => by rw [spec_SimpleOk.j0, if_pos rfl]) now) e.symm
  · have e : (decide (1 ≤ n ∧ n ≤ 8 ∧ (l.map trL).length ≤ 40) && (l.map trL).all (linkOk n)) = false := by
      rw [decide_eq_false (show ¬ (1 ≤ n ∧ n ≤ 8 ∧ (l.map trL).length ≤ 40) from fun x => h ⟨x.1, x.2.1⟩), Bool.false_and]
    exact eqr (ifn (by simpa using h) (suc (f := fun _ => some false) (fun k => by rw [spec_SimpleOk.j0, if_pos rfl]) now)) e.symm
theorem sPart_l (l : List Int) (hl : l.length ≤ 1048576) : ∀ (d i : Nat), i + d = l.length → Ev (fun k => spec_PartialOk.l0 k l (l.length : Int) (i : Int)) ((l.drop i).all partT)
  | 0, i, hd => by
    rw [List.drop_eq_nil_of_le (by omega)]
    exact suc (f := fun _ => some true) (fun k => by rw [spec_PartialOk.l0, if_neg (by omega)]) now
  | d + 1, i, hd => by
    have ih := sPart_l l hl d (i + 1) (by omega)
    have hi : i < l.length := by omega
    have e : rd l (i : Int) = l[i] := by unfold rd; simp [List.getD_eq_getElem?_getD, hi]
    rw [List.drop_eq_getElem_cons hi, List.all_cons, ← e]
    refine suc (f := fun k => if partT (rd l (i : Int)) = true then spec_PartialOk.l0 k l (l.length : Int) ((i + 1 : Nat) : Int) else some false) (fun k => ?_) ?_
    · rw [spec_PartialOk.l0, if_pos (by omega), if_pos (by omega), if_pos (by omega), l01In, up1 (by omega) (by omega)]
      rfl
    · by_cases h : partT (rd l (i : Int)) = true
      · rw [h, Bool.true_and]; exact ifp rfl ih
      · rw [Bool.not_eq_true] at h
        rw [h, Bool.false_and]; exact ifn (by simp) now

theorem sPartialOk (n : Int) (l : List S47) (t : List Int) (hl : t.length ≤ 1048576) : Ev (fun k => spec_PartialOk.f k n l t) (partOk n (l.map trL) t) := by
  unfold spec_PartialOk.f partOk
  refine bev (sSimpleOk n l) ?_
  by_cases h : simpleOk n (l.map trL) = true
  · have hn := (simpleOk_iff h).1
    rw [h, Bool.true_and]
    refine ifp rfl ?_
    by_cases c : (t.length : Int) = n
    · rw [decide_eq_true c, Bool.true_and]
      refine ifp c (ifp (by omega) ?_)
      by_cases d : rd t 0 = 0
      · rw [decide_eq_true d, Bool.true_and]
        have := sPart_l t hl t.length 0 (by omega)
        rw [List.drop_zero] at this
        exact suc (fun k => by rw [spec_PartialOk.j0, if_neg (by simp [d])]; rfl) this
      · rw [decide_eq_false d, Bool.false_and]
        exact suc (f := fun _ => some false) (fun k => by rw [spec_PartialOk.j0, if_pos (by simp [d])]) now
    · rw [decide_eq_false c, Bool.false_and]
      exact ifn c (suc (f := fun _ => some false) (fun k => by rw [spec_PartialOk.j0, if_pos rfl]) now)
  · have h' := h
    rw [Bool.not_eq_true] at h'
    rw [h', Bool.false_and]
    exact ifn (by simp) (suc (f := fun _ => some false) (fun k => by rw [spec_PartialOk.j0, if_pos rfl]) now)
theorem sFix_l (n : Int) (t : List Int) (ht : t.length ≤ 8) : ∀ (d i : Nat) (x : List S47), i + d = t.length → x.length ≤ 40 + i → Ev (fun k => spec_FixTimes.l0 k t (t.length : Int) (i : Int) n x) (fixEnd n (x ++ fixFrom t i d))
  | 0, i, x, hd, hx => by
    simp only [fixFrom, List.append_nil]
    unfold fixEnd
    refine suc (fun k => by rw [spec_FixTimes.l0, if_neg (by omega)]) ?_
    refine bev (sSimpleOk n _) ?_
    by_cases h : simpleOk n (x.map trL) = true
    · exact eqr (ifp h now) (if_pos h).symm
    · exact eqr (ifn h now) (if_neg h).symm
  | d + 1, i, x, hd, hx => by
    have ih := sFix_l n t ht d (i + 1) (x ++ fixOne t i) (by omega) (by have := fixOne_len t i; simp only [List.length_append]; omega)
    simp only [fixFrom]
    rw [← List.append_assoc]
    refine suc (fun k => ?_) ih
    rw [spec_FixTimes.l0, if_pos (by omega), if_pos (by omega), if_pos (by omega), up1 (by omega) (by omega), show (i : Int) + 1 = ((i + 1 : Nat) : Int) from rfl]
    unfold fixOne
    by_cases h1 : 0 < i
    · rw [if_pos (show (i : Int) > 0 by omega), if_pos h1]
      by_cases h2 : rd t i = -1
      · rw [if_pos h2, if_pos h2, List.append_nil]
      · rw [if_neg h2, if_neg h2, if_pos (by omega)]
    · rw [if_neg (show ¬ (i : Int) > 0 by omega), if_neg h1, List.append_nil]

theorem sFix (n : Int) (l : List S47) (t : List Int) (hl : t.length ≤ 1048576) : Ev (fun k => spec_FixTimes.f k n l t) (fixM n l t) := by
  unfold spec_FixTimes.f fixM
  refine bev (sPartialOk n l t hl) ?_
  by_cases h : partOk n (l.map trL) t = true
  · have hp := part_len h
    have h40 : l.length ≤ 40 := by simpa using hp.2
    rw [if_pos h]
    refine ifp h (bnd (a := (n, l)) ?_ ?_)
    · unfold spec_l05Copy.f
      simp only [Option.bind_some, List.nil_append, List.length_nil]
      rw [if_pos (by omega)]
    · exact sFix_l n t hp.1 t.length 0 l (by omega) (by omega)
  · rw [if_neg h]; exact ifn h now

theorem FnExactFixTimes : laws_FnExactFixTimes.Pure := by
  intro s l x _ hl _ _ _
  refine Ev.rounds ?_
  unfold laws_FnExactFixTimes.f
  by_cases hx : (x.length : Int) > 1048576
  · exact ifp hx now
  refine ifn hx ?_
  rcases szSimple s l hl with ⟨h, _⟩ | ⟨h, hn⟩
  · exact bnd h (ifp (by omega) now)
  · refine bnd h (ifn (by omega) ?_)
    have ht := toSimple s l (by omega)
    have hc : (l.map cvL).length ≤ 4194304 := by simp only [List.length_map]; omega
    have hi := toIntS x (by omega)
    have he := eqIntS x (by omega)

    have hq := fixM_len s (l.map cvL) x
    have hI := iFix s (l.map cvL) x
    have hS := sFix s (l.map cvL) x (by omega)
    generalize fixM s (l.map cvL) x = r at hq hI hS
    obtain ⟨r1, r2, r3⟩ := r
    simp only at hq
    have h4 : 1 + 4 * ((l.map cvL).length : Int) ≤ 536870912 := by simp only [List.length_map]; omega
    have hm := markSimple s (l.map cvL) 1 (by omega) (by omega)
    have hM := markIntS x (1 + 4 * ((l.map cvL).length : Int)) (by omega) (by omega)
    have hr := eqSimple r1 r2 (by omega)
    have hm2 := markSimple r1 r2 1 (by omega) (by omega)
    have hh2 := heldSimple r1 r2 1 (by omega) (by omega)
    refine bev ht (bev hi (bev hS (bev ht (bev hi (bev hI (bev hr (ifp rfl ?_)))))))
    refine suc (fun k => by rw [laws_FnExactFixTimes.j0, if_neg (by simp)]) ?_
    refine bev ht (bev (eqSimple s _ hc) (ifp rfl (bev hi (bev he (ifp rfl (bev hm (bev hM (ifn (by omega) (bev hr (ifp rfl ?_))))))))))
    refine suc (fun k => by rw [laws_FnExactFixTimes.j1, if_neg (by simp)]) ?_
    refine bev hm2 (bev hh2 (ifn (by omega) (ifp rfl (bev ht (bev hi (bev hI (bev hr (ifp rfl ?_))))))))
    refine suc (fun k => by rw [laws_FnExactFixTimes.j2, if_neg (by simp)]) ?_
    exact bev hh2 (ifn (by omega) (ifp rfl now))

end Go.Proofs.Ytolecnichpnhnaa.Own
