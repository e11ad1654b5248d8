/- The law FnExactIsSchedule answers true for every network and times. No condition. -/
import Derived.Test.YtolecnichpnhnaaQFnExactIsSchedulex6
import Derived.Test.YtolecnichpnhnaaThy
namespace Go.Proofs.Ytolecnichpnhnaa.Own
open Go.RowKit Go.Proofs.Ytolecnichpnhnaa.QFnExactIsSchedule Go.Proofs.YtolecnichpnhnaaW.PrintWords Go.Proofs.YtolecnichpnhnaaW.PrintLast Go.Proofs.YtolecnichpnhnaaW.PrintMore Go.Proofs.YtolecnichpnhnaaT
set_option linter.unusedVariables false
set_option linter.unusedSimpArgs false

theorem szSimple (s : Int) (l : List S42) (hl : l.length ≤ maxLen) : (laws_szSimple.f s l 1048576 = some (-1) ∧ 1048576 < l.length) ∨ (laws_szSimple.f s l 1048576 = some (1048576 - (l.length : Int)) ∧ l.length ≤ 1048576) := by
  unfold maxLen at hl
  unfold laws_szSimple.f laws_szLinkS.f
  rw [w64 (by omega) (by omega)]
  by_cases h : l.length ≤ 1048576
  · right
    rw [if_neg (by omega)]
    simp only [Option.bind_some]
    rw [if_neg (by omega)]
    exact ⟨rfl, h⟩
  · left
    rw [if_pos (by omega)]
    simp only [Option.bind_some]
    rw [if_pos (by omega)]
    exact ⟨rfl, by omega⟩
def cvL (e : S42) : S47 := ⟨e.f0, e.f1, ⟨e.f2.f0, e.f2.f1⟩⟩
theorem rdK_at {l : List S42} {i : Nat} (h : i < l.length) : rd_T42 l (i : Int) = l[i] := by
  unfold rd_T42; simp [List.getD_eq_getElem?_getD, h]
theorem toLink (a b c d : Int) : laws_toLink.f a b c d = some (a, b, c, d) := rfl
theorem toLinkS_l (x : List S42) (hn : x.length ≤ 4194304) : ∀ (d i : Nat) (y : List S47), i + d = x.length → y.length = x.length → (∀ j, j < i → y[j]? = (x.map cvL)[j]?) → Ev (fun k => laws_toLinkS.l0 k x y (i : Int)) (x.map cvL)
  | 0, i, y, hd, hy, hj => by
    have e : y = x.map cvL := by
      apply List.ext_getElem?; intro j
      by_cases h : j < i
      · exact hj j h
      · rw [List.getElem?_eq_none (by omega), List.getElem?_eq_none (by simp; omega)]
    subst e
    exact suc (f := fun _ => some (x.map cvL)) (fun k => by rw [laws_toLinkS.l0, if_neg (by omega)]) now
  | d + 1, i, y, hd, hy, hj => by
    refine suc (f := fun k => laws_toLinkS.l0 k x (y.set i (cvL (rd_T42 x i))) ((i + 1 : Nat) : Int)) (fun k => ?_) (toLinkS_l x hn d (i + 1) _ (by omega) (by simp [hy]) (fun j h => ?_))
    · rw [laws_toLinkS.l0, if_pos (by omega), if_pos (by omega), toLink]
      simp only [Option.bind_some]
      rw [if_pos (by omega), up1 (by omega) (by omega)]; rfl
    · by_cases e : j = i
      · subst e; rw [rdK_at (by omega)]; simp [show j < y.length by omega, show j < x.length by omega]
      · rw [List.getElem?_set_ne (by omega)]; exact hj j (by omega)
theorem toLinkS (x : List S42) (hn : x.length ≤ 4194304) : Ev (fun k => laws_toLinkS.f k x) (x.map cvL) := by
  unfold laws_toLinkS.f
  exact ifp (by omega) (ifp (by simp; omega) (toLinkS_l x hn x.length 0 _ (by omega) (by simp) (fun j h => by omega)))
theorem toSimple (s : Int) (l : List S42) (hn : l.length ≤ 4194304) : Ev (fun k => laws_toSimple.f k s l) (s, l.map cvL) := by
  unfold laws_toSimple.f
  exact bev (toLinkS l hn) now
theorem eqLink (a b c d : Int) : laws_eqLink.f a b c d a b c d = some true := by
  unfold laws_eqLink.f laws_eqInterval.f
  simp
theorem eqLinkS_l (x : List S47) (hn : x.length ≤ 4194304) : ∀ (d i : Nat), i + d = x.length → Ev (fun k => laws_eqLinkS.l0 k x x (i : Int)) true
  | 0, i, hd => suc (f := fun _ => some true) (fun k => by rw [laws_eqLinkS.l0, if_neg (by omega)]) now
  | d + 1, i, hd => by
    refine suc (f := fun k => laws_eqLinkS.l0 k x x ((i + 1 : Nat) : Int)) (fun k => ?_) (eqLinkS_l x hn d (i + 1) (by omega))
    rw [laws_eqLinkS.l0, if_pos (by omega), if_pos (by omega), if_pos (by omega), eqLink]
    simp only [Option.bind_some, if_true]
    rw [up1 (by omega) (by omega)]; rfl
theorem eqLinkS (x : List S47) (hn : x.length ≤ 4194304) : Ev (fun k => laws_eqLinkS.f k x x) true := by
  unfold laws_eqLinkS.f
  exact ifp rfl (eqLinkS_l x hn x.length 0 (by omega))
theorem eqSimple (s : Int) (l : List S47) (hn : l.length ≤ 4194304) : Ev (fun k => laws_eqSimple.f k s l s l) true := by
  unfold laws_eqSimple.f
  exact ifp rfl (bev (eqLinkS l hn) (ifp rfl now))
theorem toIntS_l (x : List Int) (hn : x.length ≤ 4194304) : ∀ (d i : Nat) (y : List Int), i + d = x.length → y.length = x.length → (∀ j, j < i → y[j]? = x[j]?) → Ev (fun k => laws_toIntS.l0 k x y (i : Int)) x
  | 0, i, y, hd, hy, hj => by
    have e : y = x := by
      apply List.ext_getElem?; intro j
      by_cases h : j < i
      · exact hj j h
      · rw [List.getElem?_eq_none (by omega), List.getElem?_eq_none (by omega)]
    subst e
    exact suc (f := fun _ => some y) (fun k => by rw [laws_toIntS.l0, if_neg (by omega)]) now
  | d + 1, i, y, hd, hy, hj => by
    refine suc (f := fun k => laws_toIntS.l0 k x (y.set i (rd x i)) ((i + 1 : Nat) : Int)) (fun k => ?_) (toIntS_l x hn d (i + 1) _ (by omega) (by simp [hy]) (fun j h => ?_))
    · rw [laws_toIntS.l0, if_pos (by omega), if_pos (by omega), if_pos (by omega), up1 (by omega) (by omega)]; rfl
    · by_cases e : j = i
      · subst e; rw [rd_at (by omega)]; simp [show j < y.length by omega, show j < x.length by omega]
      · rw [List.getElem?_set_ne (by omega)]; exact hj j (by omega)
theorem toIntS (x : List Int) (hn : x.length ≤ 4194304) : Ev (fun k => laws_toIntS.f k x) x := by
  unfold laws_toIntS.f
  exact ifp (by omega) (ifp (by simp; omega) (toIntS_l x hn x.length 0 _ (by omega) (by simp) (fun j h => by omega)))
theorem eqIntS_l (x : List Int) (hn : x.length ≤ 4194304) : ∀ (d i : Nat), i + d = x.length → Ev (fun k => laws_eqIntS.l0 k x x (i : Int)) true
  | 0, i, hd => suc (f := fun _ => some true) (fun k => by rw [laws_eqIntS.l0, if_neg (by omega)]) now
  | d + 1, i, hd => by
    refine suc (f := fun k => laws_eqIntS.l0 k x x ((i + 1 : Nat) : Int)) (fun k => ?_) (eqIntS_l x hn d (i + 1) (by omega))
    rw [laws_eqIntS.l0, if_pos (by omega), if_pos (by omega), if_pos (by omega), if_pos rfl, up1 (by omega) (by omega)]; rfl
theorem eqIntS (x : List Int) (hn : x.length ≤ 4194304) : Ev (fun k => laws_eqIntS.f k x x) true := by
  unfold laws_eqIntS.f
  exact ifp rfl (eqIntS_l x hn x.length 0 (by omega))
def timeT (x : Int) : Bool := decide (-1000000 ≤ x ∧ x ≤ 1000000)
def timesOk (n : Int) (ls : List L4) (t : List Int) : Bool := simpleOk n ls && (decide ((t.length : Int) = n) && t.all timeT)
theorem badTime_eq (x : Int) : badTime x = !timeT x := by
  unfold badTime timeT
  rw [← decide_not]
  exact decide_eq_decide.mpr (by omega)
theorem timesOk_len {n : Int} {ls : List L4} {t : List Int} (h : timesOk n ls t = true) : (t.length : Int) = n ∧ simpleOk n ls = true := by
  unfold timesOk at h
  simp only [Bool.and_eq_true, decide_eq_true_eq] at h
  exact ⟨h.2.1, h.1⟩
def trL (e : S47) : L4 := (e.f0, e.f1, e.f2.f0, e.f2.f1)
theorem trL_rd (l : List S47) (p : Int) : lAt (l.map trL) p = trL (rd_T47 l p) := by
  unfold lAt rd_T47
  simp only [List.getD_eq_getElem?_getD, List.getElem?_map]
  cases l[p.toNat]? <;> rfl
theorem lk0 (l : List S47) (p : Int) : (rd_T47 l p).f0 = (lAt (l.map trL) p).1 := by rw [trL_rd]; rfl
theorem lk1 (l : List S47) (p : Int) : (rd_T47 l p).f1 = (lAt (l.map trL) p).2.1 := by rw [trL_rd]; rfl
theorem lk2 (l : List S47) (p : Int) : (rd_T47 l p).f2.f0 = (lAt (l.map trL) p).2.2.1 := by rw [trL_rd]; rfl
theorem lk3 (l : List S47) (p : Int) : (rd_T47 l p).f2.f1 = (lAt (l.map trL) p).2.2.2 := by rw [trL_rd]; rfl
theorem l01In (n a b : Int) : spec_l01In.f n a b = some (decide (a ≤ n ∧ n ≤ b)) := by
  unfold spec_l01In.f
  by_cases h : n ≥ a
  · rw [if_pos h]; congr 1; rw [Bool.eq_iff_iff]; simp only [decide_eq_true_eq]; omega
  · rw [if_neg h]; congr 1; symm; rw [decide_eq_false_iff_not]; omega
theorem in_node {s i : Int} (h0 : 0 ≤ s) (h8 : s ≤ 8) : spec_l01In.f i 0 (wrap64 (s - 1)) = some (decide (0 ≤ i ∧ i < s)) := by
  rw [l01In, w64 (by omega) (by omega)]
  congr 1
  rw [Bool.eq_iff_iff]
  simp only [decide_eq_true_eq]
  omega
theorem tableOk_s {s : Int} {l : List Int} (h : tableOk s l = true) : 0 ≤ s ∧ s ≤ 8 ∧ (l.length : Int) = s * s := by
  unfold tableOk at h; simp only [Bool.and_eq_true, decide_eq_true_eq] at h; exact h.1
theorem sok (a b : Int) : spec_IntervalOk.f a b = some (okB a b) := by
  unfold spec_IntervalOk.f okB
  repeat' split
  all_goals (congr 1; first | (symm; rw [decide_eq_false_iff_not]; omega) | (rw [Bool.eq_iff_iff]; simp only [bne_iff_ne, ne_eq, decide_eq_true_eq]; omega))
theorem sSimpleOk_l (n : Int) (l : List S47) (h0 : 1 ≤ n) (h8 : n ≤ 8) (hl : l.length ≤ 40) : ∀ (d i : Nat), i + d = l.length → Ev (fun k => spec_SimpleOk.l0 k l (l.length : Int) (i : Int) n l) (allF (fun j => linkOk n ((l.map trL).getD j (0, 0, 0, 0))) i d)
  | 0, i, hd => suc (f := fun _ => some true) (fun k => by rw [spec_SimpleOk.l0, if_neg (by omega)]) now
  | d + 1, i, hd => by
    have ih := sSimpleOk_l n l h0 h8 hl d (i + 1) (by omega)
    simp only [allF]
    have e0 : (l.map trL).getD i (0, 0, 0, 0) = lAt (l.map trL) (i : Int) := rfl
    rw [e0]
    have hu : ∀ k, spec_SimpleOk.l0 (k + 1) l (l.length : Int) (i : Int) n l = (if 0 ≤ (lAt (l.map trL) i).1 ∧ (lAt (l.map trL) i).1 < n then (if 0 ≤ (lAt (l.map trL) i).2.1 ∧ (lAt (l.map trL) i).2.1 < n then (if okB (lAt (l.map trL) i).2.2.1 (lAt (l.map trL) i).2.2.2 = true then spec_SimpleOk.l0 k l (l.length : Int) ((i + 1 : Nat) : Int) n l else some false) else some false) else some false) := by
      intro k
      rw [spec_SimpleOk.l0, if_pos (by omega), if_pos (by omega), if_pos (by omega), in_node (by omega) h8, in_node (by omega) h8, sok, lk0, lk1, lk2, lk3, up1 (by omega) (by omega)]
      simp only [Option.bind_some, decide_eq_true_eq]; rfl
    refine suc hu ?_
    unfold linkOk
    by_cases h1 : 0 ≤ (lAt (l.map trL) i).1 ∧ (lAt (l.map trL) i).1 < n
    · refine ifp h1 ?_
      by_cases h2 : 0 ≤ (lAt (l.map trL) i).2.1 ∧ (lAt (l.map trL) i).2.1 < n
      · refine ifp h2 ?_
        rw [decide_eq_true ⟨h1, h2⟩, Bool.true_and]
        by_cases h3 : okB (lAt (l.map trL) i).2.2.1 (lAt (l.map trL) i).2.2.2 = true
        · rw [h3, Bool.true_and]
          exact ifp rfl ih
        · rw [Bool.not_eq_true] at h3
          rw [h3, Bool.false_and]
          exact ifn (by simp) now
      · rw [decide_eq_false (fun x => h2 x.2), Bool.false_and, Bool.false_and]
        exact ifn h2 now
    · rw [decide_eq_false (fun x => h1 x.1), Bool.false_and, Bool.false_and]
      exact ifn h1 now
theorem sSimpleOk (n : Int) (l : List S47) : Ev (fun k => spec_SimpleOk.f k n l) (simpleOk n (l.map trL)) := by
  unfold spec_SimpleOk.f simpleOk
  refine bnd (l01In n 1 8) ?_
  by_cases h : 1 ≤ n ∧ n ≤ 8
  · refine ifp (decide_eq_true h) ?_
    by_cases hl : l.length ≤ 40
    · have e : (decide (1 ≤ n ∧ n ≤ 8 ∧ (l.map trL).length ≤ 40) && (l.map trL).all (linkOk n)) = allF (fun j => linkOk n ((l.map trL).getD j (0, 0, 0, 0))) 0 l.length := by
        rw [decide_eq_true (show 1 ≤ n ∧ n ≤ 8 ∧ (l.map trL).length ≤ 40 from ⟨h.1, h.2, by simpa using hl⟩), Bool.true_and, ← allF_all (0, 0, 0, 0), List.length_map]
      rw [show decide ((l.length : Int) > 40) = false from decide_eq_false (by omega)]
      exact eqr (suc (f := fun k => spec_SimpleOk.l0 k l (l.length : Int) ((0 : Nat) : Int) n l) (fun k => by rw [spec_SimpleOk.j0, if_neg (by simp)]; rfl) (sSimpleOk_l n l h.1 h.2 hl l.length 0 (by omega))) e.symm
    · have e : (decide (1 ≤ n ∧ n ≤ 8 ∧ (l.map trL).length ≤ 40) && (l.map trL).all (linkOk n)) = false := by
        rw [decide_eq_false (show ¬ (1 ≤ n ∧ n ≤ 8 ∧ (l.map trL).length ≤ 40) from fun x => hl (by simpa using x.2.2)), Bool.false_and]
      rw [show decide ((l.length : Int) > 40) = true from decide_eq_true (by omega)]
      exact eqr (suc (f := fun _ => some false) (fun k => by rw [spec_SimpleOk.j0, if_pos rfl]) now) e.symm
  · have e : (decide (1 ≤ n ∧ n ≤ 8 ∧ (l.map trL).length ≤ 40) && (l.map trL).all (linkOk n)) = false := by
      rw [decide_eq_false (show ¬ (1 ≤ n ∧ n ≤ 8 ∧ (l.map trL).length ≤ 40) from fun x => h ⟨x.1, x.2.1⟩), Bool.false_and]
    exact eqr (ifn (by simpa using h) (suc (f := fun _ => some false) (fun k => by rw [spec_SimpleOk.j0, if_pos rfl]) now)) e.symm
theorem sTimes_l (l : List Int) (hl : l.length ≤ 1048576) : ∀ (d i : Nat), i + d = l.length → Ev (fun k => spec_l05Times.l0 k l (l.length : Int) (i : Int)) ((l.drop i).all timeT)
  | 0, i, hd => by
    rw [List.drop_eq_nil_of_le (by omega)]
    exact suc (f := fun _ => some true) (fun k => by rw [spec_l05Times.l0, if_neg (by omega)]) now
  | d + 1, i, hd => by
    have ih := sTimes_l l hl d (i + 1) (by omega)
    have hi : i < l.length := by omega
    have e : rd l (i : Int) = l[i] := by unfold rd; simp [List.getD_eq_getElem?_getD, hi]
    rw [List.drop_eq_getElem_cons hi, List.all_cons, ← e]
    refine suc (f := fun k => if timeT (rd l (i : Int)) = true then spec_l05Times.l0 k l (l.length : Int) ((i + 1 : Nat) : Int) else some false) (fun k => ?_) ?_
    · rw [spec_l05Times.l0, if_pos (by omega), if_pos (by omega), if_pos (by omega), l01In, up1 (by omega) (by omega)]
      rfl
    · by_cases h : timeT (rd l (i : Int)) = true
      · rw [h, Bool.true_and]; exact ifp rfl ih
      · rw [Bool.not_eq_true] at h
        rw [h, Bool.false_and]; exact ifn (by simp) now

theorem sTimes (n : Int) (l : List S47) (t : List Int) (hl : t.length ≤ 1048576) : Ev (fun k => spec_l05Times.f k n l t) (timesOk n (l.map trL) t) := by
  unfold spec_l05Times.f timesOk
  refine bev (sSimpleOk n l) ?_
  by_cases h : simpleOk n (l.map trL) = true
  · rw [h, Bool.true_and]
    refine ifp rfl ?_
    by_cases c : (t.length : Int) = n
    · rw [decide_eq_true c, Bool.true_and]
      have := sTimes_l t hl t.length 0 (by omega)
      rw [List.drop_zero] at this
      exact suc (fun k => by rw [spec_l05Times.j0, if_neg (by simp [c])]; rfl) this
    · rw [decide_eq_false c, Bool.false_and]
      exact suc (f := fun _ => some false) (fun k => by rw [spec_l05Times.j0, if_pos (by simp [c])]) now
  · have h' := h
    rw [Bool.not_eq_true] at h'
    rw [h', Bool.false_and]
    exact ifn (by simp) (suc (f := fun _ => some false) (fun k => by rw [spec_l05Times.j0, if_pos rfl]) now)
theorem same_contains (a b n : Int) : spec_Contains.f a b n = impl_Contains.f a b n := rfl
def brk (n : Int) (l : List S47) (t : List Int) : Int := if timesOk n (l.map trL) t = true then Lib.idxBy (fun _ y => brokenB t y) l default else -1
theorem sBroken_l (n : Int) (l : List S47) (t : List Int) (hs : simpleOk n (l.map trL) = true) (ht : (t.length : Int) = n) : ∀ (d i : Nat), i + d = l.length → (∀ j, j < i → brokenB t l[j]! = false) → Ev (fun k => spec_BrokenLink.l0 k t l (l.length : Int) (i : Int)) (Lib.idxBy (fun _ y => brokenB t y) l default)
  | 0, i, hd, hj => by
    have hi : i = l.length := by omega
    subst hi
    have := Lib.idxBy_miss (fun _ y => brokenB t y) l l.length default hj
    rw [List.take_length] at this
    rw [this]
    exact suc (f := fun _ => some (-1)) (fun k => by rw [spec_BrokenLink.l0, if_neg (by omega)]) now
  | d + 1, i, hd, hj => by
    have hi : i < l.length := by omega
    have e : rd_T47 l (i : Int) = l[i]! := by unfold rd_T47; simp [List.getD_eq_getElem?_getD, List.getElem!_eq_getElem?_getD, hi]
    obtain ⟨_, _, h40, hm⟩ := simpleOk_iff hs
    have hm := hm (trL l[i]!) (List.mem_map_of_mem (by rw [getElem!_pos l i hi]; exact List.getElem_mem _))
    have m0 : 0 ≤ (l[i]!).f0 ∧ (l[i]!).f0 < n := hm.1.1
    have m1 : 0 ≤ (l[i]!).f1 ∧ (l[i]!).f1 < n := hm.1.2
    rw [List.length_map] at h40
    refine suc (f := fun k => if containsB (l[i]!).f2.f0 (l[i]!).f2.f1 (wrap64 (rd t (l[i]!).f1 - rd t (l[i]!).f0)) = true then spec_BrokenLink.l0 k t l (l.length : Int) ((i + 1 : Nat) : Int) else some (i : Int)) (fun k => ?_) ?_
    · rw [spec_BrokenLink.l0, if_pos (by omega), if_pos (by omega), if_pos (by omega), e, if_pos m1.1, if_pos (by omega), if_pos m0.1, if_pos (by omega), same_contains, containsB_f, up1 (by omega) (by omega)]
      rfl
    · by_cases h : containsB (l[i]!).f2.f0 (l[i]!).f2.f1 (wrap64 (rd t (l[i]!).f1 - rd t (l[i]!).f0)) = true
      · refine ifp h (sBroken_l n l t hs ht d (i + 1) (by omega) (fun j hj' => ?_))
        by_cases ej : j = i
        · subst ej; unfold brokenB; rw [h]; rfl
        · exact hj j (by omega)
      · rw [Bool.not_eq_true] at h
        refine ifn (by rw [h]; simp) (eqr now ?_)
        have := Lib.idxBy_hit (fun _ y => brokenB t y) l l.length i default hi (Nat.le_refl _) (by show brokenB t l[i]! = true; unfold brokenB; rw [h]; rfl) hj
        rw [List.take_length] at this
        exact this.symm
theorem sBroken (n : Int) (l : List S47) (t : List Int) (hl : t.length ≤ 1048576) : Ev (fun k => spec_BrokenLink.f k n l t) (brk n l t) := by
  unfold spec_BrokenLink.f brk
  refine bev (sTimes n l t hl) ?_
  by_cases h : timesOk n (l.map trL) t = true
  · rw [if_pos h]
    exact ifp h (sBroken_l n l t (timesOk_len h).2 (timesOk_len h).1 l.length 0 (by omega) (fun j hj => absurd hj (Nat.not_lt_zero _)))
  · rw [if_neg h]
    exact ifn h now
theorem badL (n : Int) (e : S47) : badLink n e = !(linkOk n (trL e)) := by
  unfold badLink sNodeB linkOk trL
  rw [show qokB e.f2.f0 e.f2.f1 = okB e.f2.f0 e.f2.f1 from rfl]
  by_cases h1 : 0 ≤ e.f0 ∧ e.f0 < n <;> by_cases h2 : 0 ≤ e.f1 ∧ e.f1 < n <;> cases okB e.f2.f0 e.f2.f1 <;> simp [h1, h2]
theorem iSimpleOk (n : Int) (l : List S47) : impl_SimpleOk.f n l = some (simpleOk n (l.map trL)) := by
  unfold impl_SimpleOk.f simpleOk
  have e : (!(l.any (badLink n))) = (l.map trL).all (linkOk n) := by
    rw [List.all_map, List.all_eq_not_any_not]
    congr 2
    funext x
    simp [badL]
  congr 1
  by_cases h1 : n < 1
  · rw [if_pos h1, decide_eq_false (by omega), Bool.false_and]
  · rw [if_neg h1]
    by_cases h2 : n > 8
    · rw [if_pos h2, decide_eq_false (by omega), Bool.false_and]
    · rw [if_neg h2]
      by_cases h3 : (l.length : Int) > 40
      · rw [if_pos h3, decide_eq_false (by simp only [List.length_map]; omega), Bool.false_and]
      · rw [if_neg h3, decide_eq_true (by simp only [List.length_map]; omega), Bool.true_and, e]
theorem iTimes (n : Int) (l : List S47) (t : List Int) : impl_areTimes.f n l t = some (timesOk n (l.map trL) t) := by
  unfold impl_areTimes.f timesOk
  rw [iSimpleOk]
  simp only [Option.bind_some]
  by_cases h : simpleOk n (l.map trL) = true
  · rw [if_pos h, h, Bool.true_and]
    by_cases c : (t.length : Int) = n
    · rw [if_pos c, decide_eq_true c, Bool.true_and, List.all_eq_not_any_not]
      congr 3
      funext x
      exact badTime_eq x
    · rw [if_neg c, decide_eq_false c, Bool.false_and]
  · rw [if_neg h]
    rw [Bool.not_eq_true] at h
    rw [h, Bool.false_and]
theorem iBroken (n : Int) (l : List S47) (t : List Int) : impl_BrokenLink.f n l t = some (brk n l t) := by
  unfold impl_BrokenLink.f brk
  rw [iTimes]
  simp only [Option.bind_some]
  by_cases h : timesOk n (l.map trL) t = true
  · rw [if_pos h, if_pos h]
  · rw [if_neg h, if_neg h]
def sched (n : Int) (l : List S47) (t : List Int) : Bool := timesOk n (l.map trL) t && (decide (rd t 0 = 0) && decide (brk n l t < 0))
theorem iSched (n : Int) (l : List S47) (t : List Int) : impl_IsSchedule.f n l t = some (sched n l t) := by
  unfold impl_IsSchedule.f sched
  rw [iTimes]
  simp only [Option.bind_some]
  by_cases h : timesOk n (l.map trL) t = true
  · have h1 := (simpleOk_iff (timesOk_len h).2).1
    have h2 := (timesOk_len h).1
    rw [if_pos h, h, Bool.true_and, if_pos (by omega)]
    by_cases d : rd t 0 = 0
    · rw [if_pos d, iBroken, decide_eq_true d, Bool.true_and]; rfl
    · rw [if_neg d, decide_eq_false d, Bool.false_and]
  · rw [if_neg h]
    rw [Bool.not_eq_true] at h
    rw [h, Bool.false_and]
theorem sSched (n : Int) (l : List S47) (t : List Int) (hl : t.length ≤ 1048576) : Ev (fun k => spec_IsSchedule.f k n l t) (sched n l t) := by
  unfold spec_IsSchedule.f sched
  refine bev (sTimes n l t hl) ?_
  by_cases h : timesOk n (l.map trL) t = true
  · have h1 := (simpleOk_iff (timesOk_len h).2).1
    have h2 := (timesOk_len h).1
    rw [h, Bool.true_and]
    refine ifp rfl (ifp (by omega) ?_)
    by_cases d : rd t 0 = 0
    · rw [decide_eq_true d, Bool.true_and]
      exact ifp d (bev (sBroken n l t hl) now)
    · rw [decide_eq_false d, Bool.false_and]
      exact ifn d now
  · have h' := h
    rw [Bool.not_eq_true] at h'
    rw [h', Bool.false_and]
    exact ifn (by simp) now

theorem FnExactIsSchedule : laws_FnExactIsSchedule.Pure := by
  intro s l x _ hl _ _ _
  refine Ev.rounds ?_
  unfold laws_FnExactIsSchedule.f
  by_cases hx : (x.length : Int) > 1048576
  · exact ifp hx now
  refine ifn hx ?_
  rcases szSimple s l hl with ⟨h, _⟩ | ⟨h, hn⟩
  · exact bnd h (ifp (by omega) now)
  · refine bnd h (ifn (by omega) ?_)
    have ht := toSimple s l (by omega)
    have hc : (l.map cvL).length ≤ 4194304 := by simp only [List.length_map]; omega
    have hi := toIntS x (by omega)
    have he := eqIntS x (by omega)

    refine bev ht (bev hi (bev (sSched s _ x (by omega)) (bev ht (bev hi (bnd (iSched s _ x) (ifn (by simp) ?_))))))
    exact bev ht (bev (eqSimple s _ hc) (ifp rfl (bev hi (bev he (ifp rfl now)))))

end Go.Proofs.Ytolecnichpnhnaa.Own
