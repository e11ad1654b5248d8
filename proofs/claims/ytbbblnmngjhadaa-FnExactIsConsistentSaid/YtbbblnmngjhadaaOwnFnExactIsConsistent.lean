/- The law FnExactIsConsistent answers true for every network. No condition. -/
import Derived.Test.YtbbblnmngjhadaaQFnExactIsConsistentx8
import Derived.Test.YtbbblnmngjhadaaNc
namespace Go.Proofs.Ytbbblnmngjhadaa.Own
open Go.RowKit Go.Proofs.Ytbbblnmngjhadaa.QFnExactIsConsistent Go.Proofs.YtbbblnmngjhadaaW.PrintWords Go.Proofs.YtbbblnmngjhadaaW.PrintLast Go.Proofs.YtbbblnmngjhadaaW.PrintMore Go.Proofs.YtbbblnmngjhadaaT
set_option linter.unusedVariables false
set_option linter.unusedSimpArgs false

theorem szSimple (s : Int) (l : List S128) (hl : l.length ≤ maxLen) : (laws_szSimple.f s l 1048576 = some (-1) ∧ 1048576 < l.length) ∨ (laws_szSimple.f s l 1048576 = some (1048576 - (l.length : Int)) ∧ l.length ≤ 1048576) := by
  unfold maxLen at hl
  unfold laws_szSimple.f laws_szLinkS.f
  rw [w64 (by omega) (by omega)]
  by_cases h : l.length ≤ 1048576
  · right
    rw [if_neg (by omega)]
    simp only [Option.bind_some]
    rw [if_neg (by omega)]
    exact ⟨rfl, h⟩
  · left
    rw [if_pos (by omega)]
    simp only [Option.bind_some]
    rw [if_pos (by omega)]
    exact ⟨rfl, by omega⟩
def cvL (e : S128) : S76 := ⟨e.f0, e.f1, ⟨e.f2.f0, e.f2.f1⟩⟩
theorem rdK_at {l : List S128} {i : Nat} (h : i < l.length) : rd_T128 l (i : Int) = l[i] := by
  unfold rd_T128; simp [List.getD_eq_getElem?_getD, h]
theorem toLink (a b c d : Int) : laws_toLink.f a b c d = some (a, b, c, d) := rfl
theorem toLinkS_l (x : List S128) (hn : x.length ≤ 4194304) : ∀ (d i : Nat) (y : List S76), i + d = x.length → y.length = x.length → (∀ j, j < i → y[j]? = (x.map cvL)[j]?) → Ev (fun k => laws_toLinkS.l0 k x y (i : Int)) (x.map cvL)
  | 0, i, y, hd, hy, hj => by
    have e : y = x.map cvL := by
      apply List.ext_getElem?; intro j
      by_cases h : j < i
      · exact hj j h
      · rw [List.getElem?_eq_none (by omega), List.getElem?_eq_none (by simp; omega)]
    subst e
    exact suc (f := fun _ => some (x.map cvL)) (fun k => by rw [laws_toLinkS.l0, if_neg (by omega)]) now
  | d + 1, i, y, hd, hy, hj => by
    refine suc (f := fun k => laws_toLinkS.l0 k x (y.set i (cvL (rd_T128 x i))) ((i + 1 : Nat) : Int)) (fun k => ?_) (toLinkS_l x hn d (i + 1) _ (by omega) (by simp [hy]) (fun j h => ?_))
    · rw [laws_toLinkS.l0, if_pos (by omega), if_pos (by omega), toLink]
      simp only [Option.bind_some]
      rw [if_pos (by omega), up1 (by omega) (by omega)]; rfl
    · by_cases e : j = i
      · subst e; rw [rdK_at (by omega)]; simp [show j < y.length by omega, show j < x.length by omega]
      · rw [List.getElem?_set_ne (by omega)]; exact hj j (by omega)
theorem toLinkS (x : List S128) (hn : x.length ≤ 4194304) : Ev (fun k => laws_toLinkS.f k x) (x.map cvL) := by
  unfold laws_toLinkS.f
  exact ifp (by omega) (ifp (by simp; omega) (toLinkS_l x hn x.length 0 _ (by omega) (by simp) (fun j h => by omega)))
theorem toSimple (s : Int) (l : List S128) (hn : l.length ≤ 4194304) : Ev (fun k => laws_toSimple.f k s l) (s, l.map cvL) := by
  unfold laws_toSimple.f
  exact bev (toLinkS l hn) now
theorem eqLink (a b c d : Int) : laws_eqLink.f a b c d a b c d = some true := by
  unfold laws_eqLink.f laws_eqInterval.f
  simp
theorem eqLinkS_l (x : List S76) (hn : x.length ≤ 4194304) : ∀ (d i : Nat), i + d = x.length → Ev (fun k => laws_eqLinkS.l0 k x x (i : Int)) true
  | 0, i, hd => suc (f := fun _ => some true) (fun k => by rw [laws_eqLinkS.l0, if_neg (by omega)]) now
  | d + 1, i, hd => by
    refine suc (f := fun k => laws_eqLinkS.l0 k x x ((i + 1 : Nat) : Int)) (fun k => ?_) (eqLinkS_l x hn d (i + 1) (by omega))
    rw [laws_eqLinkS.l0, if_pos (by omega), if_pos (by omega), if_pos (by omega), eqLink]
    simp only [Option.bind_some, if_true]
    rw [up1 (by omega) (by omega)]; rfl
theorem eqLinkS (x : List S76) (hn : x.length ≤ 4194304) : Ev (fun k => laws_eqLinkS.f k x x) true := by
  unfold laws_eqLinkS.f
  exact ifp rfl (eqLinkS_l x hn x.length 0 (by omega))
theorem eqSimple (s : Int) (l : List S76) (hn : l.length ≤ 4194304) : Ev (fun k => laws_eqSimple.f k s l s l) true := by
  unfold laws_eqSimple.f
  exact ifp rfl (bev (eqLinkS l hn) (ifp rfl now))
def consM (n : Int) (ls : List L4) : Bool := if simpleOk n ls = true then (negM n (linksE ls)).isEmpty else false
def tr (e : S70) : E3 := (e.f0, e.f1, e.f2)
theorem tr_rd (l : List S70) (p : Int) : eAt (l.map tr) p = tr (rd_T70 l p) := by
  unfold eAt rd_T70
  simp only [List.getD_eq_getElem?_getD, List.getElem?_map]
  cases l[p.toNat]? <;> rfl
theorem tr0 (l : List S70) (p : Int) : (rd_T70 l p).f0 = (eAt (l.map tr) p).1 := by rw [tr_rd]; rfl
theorem tr1 (l : List S70) (p : Int) : (rd_T70 l p).f1 = (eAt (l.map tr) p).2.1 := by rw [tr_rd]; rfl
theorem tr2 (l : List S70) (p : Int) : (rd_T70 l p).f2 = (eAt (l.map tr) p).2.2 := by rw [tr_rd]; rfl
theorem rdE_at {l : List S70} {i : Nat} (h : i < l.length) : rd_T70 l (i : Int) = l[i] := by
  unfold rd_T70; simp [List.getD_eq_getElem?_getD, h]
def trL (e : S76) : L4 := (e.f0, e.f1, e.f2.f0, e.f2.f1)
theorem trL_rd (l : List S76) (p : Int) : lAt (l.map trL) p = trL (rd_T76 l p) := by
  unfold lAt rd_T76
  simp only [List.getD_eq_getElem?_getD, List.getElem?_map]
  cases l[p.toNat]? <;> rfl
theorem lk0 (l : List S76) (p : Int) : (rd_T76 l p).f0 = (lAt (l.map trL) p).1 := by rw [trL_rd]; rfl
theorem lk1 (l : List S76) (p : Int) : (rd_T76 l p).f1 = (lAt (l.map trL) p).2.1 := by rw [trL_rd]; rfl
theorem lk2 (l : List S76) (p : Int) : (rd_T76 l p).f2.f0 = (lAt (l.map trL) p).2.2.1 := by rw [trL_rd]; rfl
theorem lk3 (l : List S76) (p : Int) : (rd_T76 l p).f2.f1 = (lAt (l.map trL) p).2.2.2 := by rw [trL_rd]; rfl
def lkEs (e : S76) : List S70 := (if e.f2.f1 = 1000000 then [] else [⟨e.f0, e.f1, e.f2.f1⟩]) ++ (if e.f2.f0 = -1000000 then [] else [⟨e.f1, e.f0, -e.f2.f0⟩])
def lkS : List S76 → List S70
  | [] => []
  | e :: t => lkEs e ++ lkS t
theorem lkEs_tr (e : S76) : (lkEs e).map tr = linkE (trL e) := by
  unfold lkEs linkE trL tr
  by_cases h1 : e.f2.f1 = 1000000 <;> by_cases h2 : e.f2.f0 = -1000000 <;> simp [h1, h2]
theorem lkS_tr : ∀ l : List S76, (lkS l).map tr = linksE (l.map trL)
  | [] => rfl
  | e :: t => by simp only [lkS, List.map_append, lkEs_tr, lkS_tr t, List.map_cons, linksE]
theorem lkEs_len (e : S76) : (lkEs e).length ≤ 2 := by
  rw [← List.length_map (f := tr), lkEs_tr]; exact linkE_len _
theorem lkS_len (l : List S76) : (lkS l).length ≤ 2 * l.length := by
  rw [← List.length_map (f := tr), lkS_tr]
  have := linksE_len (l.map trL)
  rw [List.length_map] at this; exact this
theorem lkS_drop {l : List S76} {i : Nat} (h : i < l.length) : lkS (l.drop i) = lkEs (rd_T76 l (i : Int)) ++ lkS (l.drop (i + 1)) := by
  rw [List.drop_eq_getElem_cons h]
  have : rd_T76 l (i : Int) = l[i] := by unfold rd_T76; simp [List.getD_eq_getElem?_getD, h]
  rw [this]; rfl
theorem lkI_drop {l : List S76} {i : Nat} (h : i < l.length) : linksI i ((l.map trL).drop i) = linkI i (trL (rd_T76 l (i : Int))) ++ linksI (i + 1) ((l.map trL).drop (i + 1)) := by
  rw [List.drop_eq_getElem_cons (by rw [List.length_map]; exact h)]
  have : rd_T76 l (i : Int) = l[i] := by unfold rd_T76; simp [List.getD_eq_getElem?_getD, h]
  rw [this, List.getElem_map]; rfl
theorem rdL_mem {l : List S76} {i : Nat} (h : i < l.length) : rd_T76 l (i : Int) ∈ l := by
  have : rd_T76 l (i : Int) = l[i] := by unfold rd_T76; simp [List.getD_eq_getElem?_getD, h]
  rw [this]; exact List.getElem_mem _
theorem lo_of {n : Int} {l : List S76} (h : simpleOk n (l.map trL) = true) : l.length ≤ 40 ∧ ∀ e ∈ l, -1000000 ≤ e.f2.f0 ∧ e.f2.f0 ≤ 1000000 := by
  obtain ⟨_, _, h3, h4⟩ := simpleOk_iff h
  refine ⟨by simpa using h3, fun e he => ?_⟩
  have := (okB_iff).1 (h4 (trL e) (List.mem_map_of_mem he)).2
  exact ⟨this.1, Int.le_trans this.2.1 this.2.2.1⟩
theorem lkEs_w (e : S76) (h : -1000000 ≤ e.f2.f0 ∧ e.f2.f0 ≤ 1000000) : wrap64 (-e.f2.f0) = -e.f2.f0 := w64 (by omega) (by omega)
def gOf (n : Int) (l : List S76) : Int × List S70 := if simpleOk n (l.map trL) = true then (n, lkS l) else (0, [])
theorem gOf_len (n : Int) (l : List S76) : (gOf n l).2.length ≤ 80 := by
  unfold gOf
  split
  · rename_i h
    have := (lo_of h).1
    have := lkS_len l
    simp only; omega
  · simp
theorem badL (n : Int) (e : S76) : badLink n e = !(linkOk n (trL e)) := by
  unfold badLink sNodeB linkOk trL
  rw [show qokB e.f2.f0 e.f2.f1 = okB e.f2.f0 e.f2.f1 from rfl]
  by_cases h1 : 0 ≤ e.f0 ∧ e.f0 < n <;> by_cases h2 : 0 ≤ e.f1 ∧ e.f1 < n <;> cases okB e.f2.f0 e.f2.f1 <;> simp [h1, h2]
theorem iSimpleOk (n : Int) (l : List S76) : impl_SimpleOk.f n l = some (simpleOk n (l.map trL)) := by
  unfold impl_SimpleOk.f simpleOk
  have e : (!(l.any (badLink n))) = (l.map trL).all (linkOk n) := by
    rw [List.all_map, List.all_eq_not_any_not]
    congr 2
    funext x
    simp [badL]
  congr 1
  by_cases h1 : n < 1
  · rw [if_pos h1, decide_eq_false (by omega), Bool.false_and]
  · rw [if_neg h1]
    by_cases h2 : n > 8
    · rw [if_pos h2, decide_eq_false (by omega), Bool.false_and]
    · rw [if_neg h2]
      by_cases h3 : (l.length : Int) > 40
      · rw [if_pos h3, decide_eq_false (by simp only [List.length_map]; omega), Bool.false_and]
      · rw [if_neg h3, decide_eq_true (by simp only [List.length_map]; omega), Bool.true_and, e]
theorem iGr_l (l : List S76) (hl : l.length ≤ 40) (hb : ∀ e ∈ l, -1000000 ≤ e.f2.f0 ∧ e.f2.f0 ≤ 1000000) (n : Int) : ∀ (d i : Nat) (x : List S70) (y : List Int), i + d = l.length → x.length ≤ 2 * i → y.length ≤ 2 * i → Ev (fun k => impl_graphOf.l0 k y l (l.length : Int) (i : Int) n x) (n, x ++ lkS (l.drop i), y ++ linksI i ((l.map trL).drop i))
  | 0, i, x, y, hd, hx, hy => by
    have e1 : l.drop i = [] := List.drop_eq_nil_of_le (by omega)
    have e2 : (l.map trL).drop i = [] := List.drop_eq_nil_of_le (by simp; omega)
    rw [e1, e2]
    refine suc (f := fun _ => some (n, x, y)) (fun k => by rw [impl_graphOf.l0, if_neg (by omega)]) (eqr now ?_)
    simp [lkS, linksI]
  | d + 1, i, x, y, hd, hx, hy => by
    have hi : i < l.length := by omega
    have hw := lkEs_w _ (hb _ (rdL_mem hi))
    have ih := iGr_l l hl hb n d (i + 1) (x ++ lkEs (rd_T76 l (i : Int))) (y ++ linkI i (trL (rd_T76 l (i : Int)))) (by omega)
      (by have := lkEs_len (rd_T76 l (i : Int)); simp only [List.length_append]; omega)
      (by have := linkE_len (trL (rd_T76 l (i : Int))); simp only [List.length_append, linkI_len]; omega)
    rw [lkS_drop hi, lkI_drop hi, ← List.append_assoc, ← List.append_assoc]
    refine suc (fun k => ?_) ih
    rw [impl_graphOf.l0, if_pos (by omega), if_pos (by omega), if_pos (by omega), up1 (by omega) (by omega), show (i : Int) + 1 = ((i + 1 : Nat) : Int) from rfl, hw]
    unfold lkEs linkI trL
    by_cases h1 : (rd_T76 l (i : Int)).f2.f1 = 1000000 <;> by_cases h2 : (rd_T76 l (i : Int)).f2.f0 = -1000000
    · simp only [h1, h2, if_true, List.append_nil]
    · simp only [h1, h2, if_true, if_false, List.nil_append]
      rw [if_pos (by omega), if_pos (by omega)]
    · simp only [h1, h2, if_true, if_false, List.append_nil, Option.bind_some]
      rw [if_pos (by omega), if_pos (by omega)]
    · simp only [h1, h2, if_false, Option.bind_some]
      rw [if_pos (by omega), if_pos (by omega), if_pos (by simp only [List.length_append, List.length_cons, List.length_nil]; omega), if_pos (by simp only [List.length_append, List.length_cons, List.length_nil]; omega)]
      simp only [List.append_assoc]

theorem iGr {n : Int} (l : List S76) (h : simpleOk n (l.map trL) = true) : Ev (fun k => impl_graphOf.f k n l) (n, lkS l, linksI 0 (l.map trL)) := by
  unfold impl_graphOf.f
  exact iGr_l l (lo_of h).1 (lo_of h).2 n l.length 0 [] [] (by omega) (by simp) (by simp)
theorem iGraphOf (n : Int) (l : List S76) : Ev (fun k => impl_GraphOf.f k n l) (gOf n l) := by
  unfold impl_GraphOf.f gOf
  refine bnd (iSimpleOk n l) ?_
  by_cases h : simpleOk n (l.map trL) = true
  · rw [if_pos h]; exact ifp h (bev (iGr l h) now)
  · rw [if_neg h]; exact ifn h now
theorem rd_mid (a b : List Int) (x : Int) : rd (a ++ x :: b) (a.length : Int) = x := by unfold rd; simp [List.getD_eq_getElem?_getD]
theorem rb_mid (a b : List Bool) (x : Bool) {n : Nat} (h : a.length = n) : rdOf false (a ++ x :: b) (n : Int) = x := by subst h; unfold rdOf; simp [List.getD_eq_getElem?_getD]
theorem set_mid (a b : List Int) (x y : Int) : (a ++ x :: b).set (a.length : Int).toNat y = a ++ y :: b := by simp
theorem rev_l : ∀ (n : Nat) (mid p q : List Int), mid.length = n → p.length = q.length → p.length + q.length + mid.length ≤ 1000000 → Ev (fun k => slices_Reverse_int_int.l0 k (p ++ (mid ++ q)) (p.length : Int) ((p.length : Int) + mid.length - 1)) (p ++ (mid.reverse ++ q)) := by
  intro n
  induction n using Nat.strongRecOn with
  | _ n ih =>
    intro mid p q hn hp hb
    cases mid with
    | nil => exact suc (f := fun _ => some (p ++ ([] ++ q))) (fun k => by rw [slices_Reverse_int_int.l0, if_neg (by simp only [List.length_nil]; omega)]) now
    | cons a t =>
      rcases List.eq_nil_or_concat t with h | ⟨m, b, h⟩
      · subst h
        exact suc (f := fun _ => some (p ++ ([a] ++ q))) (fun k => by rw [slices_Reverse_int_int.l0, if_neg (by simp only [List.length_cons, List.length_nil]; omega)]) now
      · rw [List.concat_eq_append] at h
        subst h
        simp only [List.length_cons, List.length_append, List.length_nil] at hn hb
        have e1 : p ++ (a :: (m ++ [b]) ++ q) = p ++ a :: (m ++ b :: q) := by simp
        have e2 : p ++ a :: (m ++ b :: q) = (p ++ a :: m) ++ b :: q := by simp
        have hlen : ((p ++ a :: (m ++ b :: q)).length : Int) = (p.length : Int) + (m.length + 2) + q.length := by simp only [List.length_append, List.length_cons]; omega
        have r1 : rd (p ++ a :: (m ++ b :: q)) (p.length : Int) = a := rd_mid _ _ _
        have el : (p.length : Int) + ((a :: (m ++ [b])).length : Int) - 1 = ((p ++ a :: m).length : Int) := by simp only [List.length_append, List.length_cons, List.length_nil]; omega
        have r2 : rd (p ++ a :: (m ++ b :: q)) ((p ++ a :: m).length : Int) = b := by rw [e2]; exact rd_mid _ _ _
        have r3 : ((p ++ a :: (m ++ b :: q)).set (p.length : Int).toNat b).set ((p ++ a :: m).length : Int).toNat a = (p ++ [b]) ++ (m ++ (a :: q)) := by
          rw [set_mid]
          have e3 : p ++ b :: (m ++ b :: q) = (p ++ b :: m) ++ b :: q := by simp
          have e4 : (p ++ a :: m).length = (p ++ b :: m).length := by simp
          rw [e3, e4, set_mid]; simp
        have ih' := ih m.length (by omega) m (p ++ [b]) (a :: q) rfl (by simp [hp]) (by simp only [List.length_append, List.length_cons, List.length_nil]; omega)
        rw [e1, el]
        refine eqr (suc (fun k => ?_) ih') (by simp)
        have hl2 : ((p ++ a :: m).length : Int) = p.length + (m.length + 1) := by simp only [List.length_append, List.length_cons]; omega
        rw [slices_Reverse_int_int.l0, if_pos (by omega), if_pos (by omega), if_pos (by omega), if_pos (by omega), if_pos (by omega), r1, r2, r3, hl2, w64 (i := (p.length : Int) + 1) (by omega) (by omega), w64 (by omega) (by omega)]
        have h5 : ((p ++ [b]).length : Int) = (p.length : Int) + 1 := by simp
        rw [h5]
        congr 1
        omega
theorem revM (l : List Int) (h : l.length ≤ 1000) : Ev (fun k => slices_Reverse_int_int.f k l) l.reverse := by
  unfold slices_Reverse_int_int.f
  have := rev_l l.length l [] [] rfl rfl (by simp only [List.length_nil]; omega)
  simp only [List.nil_append, List.append_nil, List.length_nil] at this
  rw [w64 (by omega) (by omega)]
  refine Ev.congr (fun k => ?_) this
  congr 1
  omega
/-- What both programs know of the last round's parents. -/
theorem neg_edge {n : Nat} {es : List E3} (hv : ValidE n es) {k : Int} (hk : 0 ≤ k ∧ k < es.length) : (eAt es k).1 = ((Fr es k.toNat : Nat) : Int) ∧ (eAt es k).2.1 = ((To es k.toNat : Nat) : Int) := by
  have h := hv k.toNat (by omega)
  have e : eAt es k = eAt es ((k.toNat : Nat) : Int) := rfl
  unfold Fr To
  rw [e]
  omega
theorem neg_par {n : Nat} {es : List E3} (hv : ValidE n es) {s : FS} {a : Nat} (hk : 0 ≤ s.l a ∧ s.l a < es.length) : (eAt es (s.l a)).1 = ((par es s a : Nat) : Int) := (neg_edge hv hk).1
theorem all_step {n : Nat} {es : List E3} {L : LS} (i : Nat) (h : L.k = List.replicate n true) : (lstep es i L).k = List.replicate n true := by
  unfold lstep
  split
  · show L.k.set _ true = _
    rw [h]; simp
  · exact h
theorem all_rnd {n : Nat} {es : List E3} : ∀ (d i : Nat) (L : LS), L.k = List.replicate n true → (lrnd es i d L).k = List.replicate n true
  | 0, _, _, h => h
  | d + 1, i, L, h => all_rnd d (i + 1) _ (all_step i h)
theorem all_round {n : Nat} {es : List E3} {L : LS} (h : L.k = List.replicate n true) : (lround es L).k = List.replicate n true := all_rnd _ _ _ h
def trl (s : FS) (es : List E3) (c : Nat) (i : Nat) : List Int := (List.range i).map fun j => s.l (parN es s j c)
theorem trl_succ (s : FS) (es : List E3) (c i : Nat) : trl s es c (i + 1) = trl s es c i ++ [s.l (parN es s i c)] := by unfold trl; rw [List.range_succ, List.map_append]; rfl
theorem trl_len (s : FS) (es : List E3) (c i : Nat) : (trl s es c i).length = i := by unfold trl; simp
theorem badE (n : Int) (e : S70) : badEdge n e = !(edgeOk n (tr e)) := by
  unfold badEdge gNodeB gWeightB edgeOk tr
  rw [Bool.eq_iff_iff]
  simp only [Bool.or_eq_true, Bool.not_eq_true', decide_eq_false_iff_not]
  by_cases h1 : 0 ≤ e.f0 ∧ e.f0 < n <;> by_cases h2 : 0 ≤ e.f1 ∧ e.f1 < n <;> by_cases h3 : -1000000 < e.f2 ∧ e.f2 < 1000000 <;> simp [h1, h2, h3]
theorem iGraphOk (n : Int) (l : List S70) : impl_GraphOk.f n l = some (graphOk n (l.map tr)) := by
  unfold impl_GraphOk.f graphOk
  have e : (!(l.any (badEdge n))) = (l.map tr).all (edgeOk n) := by
    rw [List.all_map, List.all_eq_not_any_not]
    congr 2
    funext x
    simp [badE]
  congr 1
  by_cases h1 : n < 0
  · rw [if_pos h1, decide_eq_false (by omega), Bool.false_and]
  · rw [if_neg h1]
    by_cases h2 : n > 8
    · rw [if_pos h2, decide_eq_false (by omega), Bool.false_and]
    · rw [if_neg h2]
      by_cases h3 : (l.length : Int) > 80
      · rw [if_pos h3, decide_eq_false (by simp only [List.length_map]; omega), Bool.false_and]
      · rw [if_neg h3, decide_eq_true (by simp only [List.length_map]; omega), Bool.true_and, e]
theorem iNr_l (n : Nat) (l : List S70) (hl : l.length ≤ 80) (hv : ValidE n (l.map tr)) (r : Int) (R : List Int) : ∀ (d i : Nat) (L : LS) (B : Int), i + d = l.length → GoodL n L → L.k = List.replicate n true → SmallL B L → B + 1000000 * d ≤ 1000000000000 → 0 ≤ B →
    Ev (fun k => impl_NegativeCycle.l0 k (lrnd (l.map tr) i d L).o (lrnd (l.map tr) i d L).l (lrnd (l.map tr) i d L).ch (wrap64 (r + 1)) (n : Int) l) R →
    Ev (fun k => impl_NegativeCycle.l1 k L.o L.l L.ch r l (l.length : Int) (i : Int) (n : Int) l) R
  | 0, i, L, B, hd, hg, ha, hs, hB, h0, h => suc (fun k => by rw [impl_NegativeCycle.l1, if_neg (by omega)]; rfl) h
  | d + 1, i, L, B, hd, hg, ha, hs, hB, h0, h => by
    have ih := iNr_l n l hl hv r R d (i + 1) (lstep (l.map tr) i L) (B + 1000000) (by omega) (good_step i hg) (all_step i ha) (small_step hv (by simp only [List.length_map]; omega) hg hs) (by omega) (by omega) h
    refine suc (fun k => ?_) ih
    obtain ⟨⟨f0, f1⟩, ⟨t0, t1⟩, w0, w1⟩ := hv i (by simp only [List.length_map]; omega)
    obtain ⟨h1, h2, h3⟩ := hg
    have hb := hs _ (rd_mem (l := L.o) f0 (by omega))
    have kk : ∀ v : Int, 0 ≤ v → v < n → rb L.k v = true := fun v v0 v1 => by
      rw [ha]; unfold rb rdOf
      rw [List.getD_eq_getElem?_getD, List.getElem?_replicate, if_pos (by omega)]; rfl
    rw [impl_NegativeCycle.l1, if_pos (by omega), if_pos (by omega), if_pos (by omega)]
    simp only [tr0, tr1, tr2]
    rw [up1 (by omega) (by omega), w64 (i := rd L.o _ + _) (by omega) (by omega), if_pos f0, if_pos (by omega), if_pos t0, if_pos (by omega)]
    unfold lstep better
    rw [kk _ f0 f1, kk _ t0 t1]
    by_cases c : rd L.o (eAt (l.map tr) i).1 + (eAt (l.map tr) i).2.2 < rd L.o (eAt (l.map tr) i).2.1
    · rw [if_pos c, if_pos (by omega)]
      simp only [c, decide_true, Bool.not_true, Bool.false_or, Bool.and_self, if_true]
      rfl
    · rw [if_neg c]
      simp only [c, decide_false, Bool.not_true, Bool.or_self, Bool.and_false, Bool.false_eq_true, if_false]
      rfl
theorem iNr (n : Nat) (hn : n ≤ 8) (l : List S70) (hl : l.length ≤ 80) (hv : ValidE n (l.map tr)) (R : List Int) : ∀ (d i : Nat) (L : LS) (B : Int), i + d = n → GoodL n L → L.k = List.replicate n true → SmallL B L → B + 80000000 * d ≤ 1000000000 → 0 ≤ B →
    Ev (fun k => impl_NegativeCycle.l0 k (lrounds (l.map tr) d L).o (lrounds (l.map tr) d L).l (lrounds (l.map tr) d L).ch (n : Int) (n : Int) l) R →
    Ev (fun k => impl_NegativeCycle.l0 k L.o L.l L.ch (i : Int) (n : Int) l) R
  | 0, i, L, B, hd, hg, ha, hs, hB, h0, h => by
    obtain rfl : i = n := by omega
    exact h
  | d + 1, i, L, B, hd, hg, ha, hs, hB, h0, h => by
    have hg' := good_round (es := l.map tr) hg
    have hs' := small_round hv (by simpa using hl) hg hs
    have ih := iNr n hn l hl hv R d (i + 1) (lround (l.map tr) L) (B + 80000000) (by omega) hg' (all_round ha) hs' (by omega) (by omega) h
    refine suc (f := fun k => impl_NegativeCycle.l1 k L.o L.l (-1) (i : Int) l (l.length : Int) ((0 : Nat) : Int) (n : Int) l) (fun k => by rw [impl_NegativeCycle.l0, if_pos (by omega)]; rfl) ?_
    refine iNr_l n l hl hv (i : Int) R l.length 0 { L with ch := -1 } B (by omega) hg ha hs (by omega) h0 ?_
    have e : lrnd (l.map tr) 0 l.length { L with ch := -1 } = lround (l.map tr) L := by unfold lround; rw [List.length_map]
    rw [e, up1 (by omega) (by omega)]
    exact ih
theorem iN3 (n : Nat) (hn : n ≤ 8) (l : List S70) (hv : ValidE n (l.map tr)) (N : Neg n (l.map tr)) (m : Nat) (hm : m < n) (hb : parN (l.map tr) (negS n (l.map tr)) (m + 1) (negC n (l.map tr)) = negC n (l.map tr)) (hno : ∀ i, i < m → parN (l.map tr) (negS n (l.map tr)) (i + 1) (negC n (l.map tr)) ≠ negC n (l.map tr)) : ∀ (d i : Nat), i + d = m + 1 →
    Ev (fun k => impl_NegativeCycle.l3 k (lrounds (l.map tr) n (negInit n)).l (negC n (l.map tr) : Int) (trl (negS n (l.map tr)) (l.map tr) (negC n (l.map tr)) i) (parN (l.map tr) (negS n (l.map tr)) i (negC n (l.map tr)) : Int) (n : Int) l) (trl (negS n (l.map tr)) (l.map tr) (negC n (l.map tr)) (m + 1)).reverse
  | 0, i, hd => by
    obtain rfl : i = m + 1 := by omega
    have hr := revM (trl (negS n (l.map tr)) (l.map tr) (negC n (l.map tr)) (m + 1)) (by rw [trl_len]; omega)
    refine suc (fun k => ?_) (bev hr now)
    rw [impl_NegativeCycle.l3, if_neg (by rw [trl_len]; omega), if_pos (by rw [hb])]
  | d + 1, i, hd => by
    have ih := iN3 n hn l hv N m hm hb hno d (i + 1) (by omega)
    obtain ⟨a, b, c⟩ := neg_lastC N i
    have hg := good_rounds (es := l.map tr) n _ (good_neg n)
    have e1 : rd (lrounds (l.map tr) n (negInit n)).l (parN (l.map tr) (negS n (l.map tr)) i (negC n (l.map tr)) : Int) = (negS n (l.map tr)).l (parN (l.map tr) (negS n (l.map tr)) i (negC n (l.map tr))) := rfl
    have e2 := neg_par hv a
    have hlm : ((l.map tr).length : Int) = l.length := by simp
    rw [hlm] at a
    refine suc (fun k => ?_) ih
    rw [impl_NegativeCycle.l3, e1, trl_len, trl_succ]
    have e3 : ((parN (l.map tr) (negS n (l.map tr)) (i + 1) (negC n (l.map tr)) : Nat) : Int) = (rd_T70 l ((negS n (l.map tr)).l (parN (l.map tr) (negS n (l.map tr)) i (negC n (l.map tr))))).f0 := by
      rw [tr0, e2]; rfl
    rw [← e3]
    by_cases h0 : i = 0
    · subst h0
      rw [if_pos (by omega), if_pos (by omega), if_pos (by rw [hg.2.1]; omega), if_pos (by omega), if_pos a.1, if_pos a.2]
    · have hne := hno (i - 1) (by omega)
      rw [show i - 1 + 1 = i by omega] at hne
      rw [if_neg (by omega), if_neg (by omega), if_pos (by omega), if_pos (by rw [hg.2.1]; omega), if_pos (by omega), if_pos a.1, if_pos a.2]
theorem iN2 (n : Nat) (hn : n ≤ 8) (l : List S70) (hv : ValidE n (l.map tr)) (N : Neg n (l.map tr)) (R : List Int) (h : Ev (fun k => impl_NegativeCycle.l3 k (lrounds (l.map tr) n (negInit n)).l (negC n (l.map tr) : Int) [] (negC n (l.map tr) : Int) (n : Int) l) R) : ∀ (d i : Nat), i + d = n →
    Ev (fun k => impl_NegativeCycle.l2 k (lrounds (l.map tr) n (negInit n)).l (parN (l.map tr) (negS n (l.map tr)) i (negV n (l.map tr)) : Int) (i : Int) (n : Int) l) R
  | 0, i, hd => by
    obtain rfl : i = n := by omega
    exact suc (fun k => by rw [impl_NegativeCycle.l2, if_neg (by omega)]; rfl) h
  | d + 1, i, hd => by
    have ih := iN2 n hn l hv N R h d (i + 1) (by omega)
    have a := N.last i
    have c := N.inn i
    have hg := good_rounds (es := l.map tr) n _ (good_neg n)
    have e1 : rd (lrounds (l.map tr) n (negInit n)).l (parN (l.map tr) (negS n (l.map tr)) i (negV n (l.map tr)) : Int) = (negS n (l.map tr)).l (parN (l.map tr) (negS n (l.map tr)) i (negV n (l.map tr))) := rfl
    have e2 := neg_par hv a
    have hlm : ((l.map tr).length : Int) = l.length := by simp
    rw [hlm] at a
    refine suc (fun k => ?_) ih
    have e3 : ((parN (l.map tr) (negS n (l.map tr)) (i + 1) (negV n (l.map tr)) : Nat) : Int) = (rd_T70 l ((negS n (l.map tr)).l (parN (l.map tr) (negS n (l.map tr)) i (negV n (l.map tr))))).f0 := by
      rw [tr0, e2]; rfl
    rw [impl_NegativeCycle.l2, e1, ← e3, if_pos (by omega), if_pos (by omega), if_pos (by rw [hg.2.1]; omega), if_pos a.1, if_pos a.2, up1 (by omega) (by omega)]; rfl
theorem iNeg (n : Int) (l : List S70) : Ev (fun k => impl_NegativeCycle.f k n l) (negM n (l.map tr)) := by
  unfold impl_NegativeCycle.f negM
  refine bnd (iGraphOk n l) ?_
  by_cases hg : graphOk n (l.map tr) = true
  · obtain ⟨h0, h8, hl, _⟩ := graphOk_iff hg
    have hl : l.length ≤ 80 := by simpa using hl
    have hv := valid_of hg
    refine ifp hg (ifp h0 (ifp (by omega) ?_))
    obtain ⟨m, rfl⟩ : ∃ m : Nat, n = (m : Int) := ⟨n.toNat, by omega⟩
    rw [Int.toNat_natCast] at hv ⊢
    have hrep : slices_Repeat_int_int.f [(-1)] (m : Int) = some (List.replicate m (-1)) := by
      unfold slices_Repeat_int_int.f
      rw [if_pos ⟨rfl, by omega, by omega⟩]; rfl
    refine bnd hrep ?_
    refine iNr m (by omega) l hl hv _ m 0 (negInit m) 0 (by omega) (good_neg m) rfl (small_neg m) (by omega) (by omega) ?_
    have ech : (lrounds (l.map tr) m (negInit m)).ch = (negS m (l.map tr)).ch := rfl
    by_cases hq : 0 ≤ (negS m (l.map tr)).ch
    · have N := neg_of hv hq
      obtain ⟨q, hq1, hq2, hq3, _, hq4⟩ := negT_eq N
      have h3 := iN3 m (by omega) l hv N q hq1 hq2 hq3 (q + 1) 0 (by omega)
      have h2 := iN2 m (by omega) l hv N _ h3 m 0 (by omega)
      rw [if_pos ⟨hg, hq⟩, hq4]
      refine suc (fun k => ?_) h2
      have hc := N.ch
      rw [List.length_map] at hc
      rw [impl_NegativeCycle.l0, if_neg (by omega), ech, if_neg (by omega), if_pos hq, if_pos (by omega), tr1]
      have e : (eAt (l.map tr) (negS m (l.map tr)).ch).2.1 = ((negV m (l.map tr) : Nat) : Int) := (neg_edge hv ⟨hq, by rw [List.length_map]; omega⟩).2
      rw [e]; rfl
    · refine eqr (suc (f := fun _ => some ([] : List Int)) (fun k => ?_) now) (if_neg (fun h => hq h.2)).symm
      rw [impl_NegativeCycle.l0, if_neg (by omega), ech, if_pos (by omega)]
  · exact eqr (ifn hg now) (if_neg (fun h => hg h.1)).symm
theorem iCons (n : Int) (l : List S76) : Ev (fun k => impl_IsConsistent.f k n l) (consM n (l.map trL)) := by
  unfold impl_IsConsistent.f consM
  refine bnd (iSimpleOk n l) ?_
  by_cases h : simpleOk n (l.map trL) = true
  · rw [if_pos h]
    have hN := iNeg n (lkS l)
    rw [lkS_tr] at hN
    have hG := iGraphOf n l
    unfold gOf at hG
    rw [if_pos h] at hG
    exact ifp h (bev hG (bev hN now))
  · rw [if_neg h]; exact ifn h now
theorem sEd_l (l : List S76) (hl : l.length ≤ 40) (hb : ∀ e ∈ l, -1000000 ≤ e.f2.f0 ∧ e.f2.f0 ≤ 1000000) : ∀ (d i : Nat) (x : List S70) (y : List Int), i + d = l.length → x.length ≤ 2 * i → y.length ≤ 2 * i → Ev (fun k => spec_l05Edges.l0 k x y l (l.length : Int) (i : Int)) (x ++ lkS (l.drop i), y ++ linksI i ((l.map trL).drop i))
  | 0, i, x, y, hd, hx, hy => by
    have e1 : l.drop i = [] := List.drop_eq_nil_of_le (by omega)
    have e2 : (l.map trL).drop i = [] := List.drop_eq_nil_of_le (by simp; omega)
    rw [e1, e2]
    refine suc (f := fun _ => some (x, y)) (fun k => by rw [spec_l05Edges.l0, if_neg (by omega)]) (eqr now ?_)
    simp [lkS, linksI]
  | d + 1, i, x, y, hd, hx, hy => by
    have hi : i < l.length := by omega
    have hw := lkEs_w _ (hb _ (rdL_mem hi))
    have ih := sEd_l l hl hb d (i + 1) (x ++ lkEs (rd_T76 l (i : Int))) (y ++ linkI i (trL (rd_T76 l (i : Int)))) (by omega)
      (by have := lkEs_len (rd_T76 l (i : Int)); simp only [List.length_append]; omega)
      (by have := linkE_len (trL (rd_T76 l (i : Int))); simp only [List.length_append, linkI_len]; omega)
    rw [lkS_drop hi, lkI_drop hi, ← List.append_assoc, ← List.append_assoc]
    refine suc (fun k => ?_) ih
    rw [spec_l05Edges.l0, if_pos (by omega), if_pos (by omega), if_pos (by omega), up1 (by omega) (by omega), show (i : Int) + 1 = ((i + 1 : Nat) : Int) from rfl, hw]
    unfold lkEs linkI trL
    by_cases h1 : (rd_T76 l (i : Int)).f2.f1 = 1000000 <;> by_cases h2 : (rd_T76 l (i : Int)).f2.f0 = -1000000
    · simp only [h1, h2, if_true, List.append_nil]
    · simp only [h1, h2, if_true, if_false, List.nil_append]
      rw [if_pos (by omega), if_pos (by omega)]
    · simp only [h1, h2, if_true, if_false, List.append_nil, Option.bind_some]
      rw [if_pos (by omega), if_pos (by omega)]
    · simp only [h1, h2, if_false, Option.bind_some]
      rw [if_pos (by omega), if_pos (by omega), if_pos (by simp only [List.length_append, List.length_cons, List.length_nil]; omega), if_pos (by simp only [List.length_append, List.length_cons, List.length_nil]; omega)]
      simp only [List.append_assoc]

theorem sEd {n : Int} (l : List S76) (h : simpleOk n (l.map trL) = true) : Ev (fun k => spec_l05Edges.f k n l) (lkS l, linksI 0 (l.map trL)) := by
  unfold spec_l05Edges.f
  exact sEd_l l (lo_of h).1 (lo_of h).2 l.length 0 [] [] (by omega) (by simp) (by simp)
theorem l01In (n a b : Int) : spec_l01In.f n a b = some (decide (a ≤ n ∧ n ≤ b)) := by
  unfold spec_l01In.f
  by_cases h : n ≥ a
  · rw [if_pos h]; congr 1; rw [Bool.eq_iff_iff]; simp only [decide_eq_true_eq]; omega
  · rw [if_neg h]; congr 1; symm; rw [decide_eq_false_iff_not]; omega
theorem in_node {s i : Int} (h0 : 0 ≤ s) (h8 : s ≤ 8) : spec_l01In.f i 0 (wrap64 (s - 1)) = some (decide (0 ≤ i ∧ i < s)) := by
  rw [l01In, w64 (by omega) (by omega)]
  congr 1
  rw [Bool.eq_iff_iff]
  simp only [decide_eq_true_eq]
  omega
theorem tableOk_s {s : Int} {l : List Int} (h : tableOk s l = true) : 0 ≤ s ∧ s ≤ 8 ∧ (l.length : Int) = s * s := by
  unfold tableOk at h; simp only [Bool.and_eq_true, decide_eq_true_eq] at h; exact h.1
theorem sok (a b : Int) : spec_IntervalOk.f a b = some (okB a b) := by
  unfold spec_IntervalOk.f okB
  repeat' split
  all_goals (congr 1; first | (symm; rw [decide_eq_false_iff_not]; omega) | (rw [Bool.eq_iff_iff]; simp only [bne_iff_ne, ne_eq, decide_eq_true_eq]; omega))
theorem sSimpleOk_l (n : Int) (l : List S76) (h0 : 1 ≤ n) (h8 : n ≤ 8) (hl : l.length ≤ 40) : ∀ (d i : Nat), i + d = l.length → Ev (fun k => spec_SimpleOk.l0 k l (l.length : Int) (i : Int) n l) (allF (fun j => linkOk n ((l.map trL).getD j (0, 0, 0, 0))) i d)
  | 0, i, hd => suc (f := fun _ => some true) (fun k => by rw [spec_SimpleOk.l0, if_neg (by omega)]) now
  | d + 1, i, hd => by
    have ih := sSimpleOk_l n l h0 h8 hl d (i + 1) (by omega)
    simp only [allF]
    have e0 : (l.map trL).getD i (0, 0, 0, 0) = lAt (l.map trL) (i : Int) := rfl
    rw [e0]
    have hu : ∀ k, spec_SimpleOk.l0 (k + 1) l (l.length : Int) (i : Int) n l = (if 0 ≤ (lAt (l.map trL) i).1 ∧ (lAt (l.map trL) i).1 < n then (if 0 ≤ (lAt (l.map trL) i).2.1 ∧ (lAt (l.map trL) i).2.1 < n then (if okB (lAt (l.map trL) i).2.2.1 (lAt (l.map trL) i).2.2.2 = true then spec_SimpleOk.l0 k l (l.length : Int) ((i + 1 : Nat) : Int) n l else some false) else some false) else some false) := by
      intro k
      rw [spec_SimpleOk.l0, if_pos (by omega), if_pos (by omega), if_pos (by omega), in_node (by omega) h8, in_node (by omega) h8, sok, lk0, lk1, lk2, lk3, up1 (by omega) (by omega)]
      simp only [Option.bind_some, decide_eq_true_eq]; rfl
    refine suc hu ?_
    unfold linkOk
    by_cases h1 : 0 ≤ (lAt (l.map trL) i).1 ∧ (lAt (l.map trL) i).1 < n
    · refine ifp h1 ?_
      by_cases h2 : 0 ≤ (lAt (l.map trL) i).2.1 ∧ (lAt (l.map trL) i).2.1 < n
      · refine ifp h2 ?_
        rw [decide_eq_true ⟨h1, h2⟩, Bool.true_and]
        by_cases h3 : okB (lAt (l.map trL) i).2.2.1 (lAt (l.map trL) i).2.2.2 = true
        · rw [h3, Bool.true_and]
          exact ifp rfl ih
        · rw [Bool.not_eq_true] at h3
          rw [h3, Bool.false_and]
          exact ifn (by simp) now
      · rw [decide_eq_false (fun x => h2 x.2), Bool.false_and, Bool.false_and]
        exact ifn h2 now
    · rw [decide_eq_false (fun x => h1 x.1), Bool.false_and, Bool.false_and]
      exact ifn h1 now
theorem sSimpleOk (n : Int) (l : List S76) : Ev (fun k => spec_SimpleOk.f k n l) (simpleOk n (l.map trL)) := by
  unfold spec_SimpleOk.f simpleOk
  refine bnd (l01In n 1 8) ?_
  by_cases h : 1 ≤ n ∧ n ≤ 8
  · refine ifp (decide_eq_true h) ?_
    by_cases hl : l.length ≤ 40
    · have e : (decide (1 ≤ n ∧ n ≤ 8 ∧ (l.map trL).length ≤ 40) && (l.map trL).all (linkOk n)) = allF (fun j => linkOk n ((l.map trL).getD j (0, 0, 0, 0))) 0 l.length := by
        rw [decide_eq_true (show 1 ≤ n ∧ n ≤ 8 ∧ (l.map trL).length ≤ 40 from ⟨h.1, h.2, by simpa using hl⟩), Bool.true_and, ← allF_all (0, 0, 0, 0), List.length_map]
      rw [show decide ((l.length : Int) > 40) = false from decide_eq_false (by omega)]
      exact eqr (suc (f := fun k => spec_SimpleOk.l0 k l (l.length : Int) ((0 : Nat) : Int) n l) (fun k => by rw [spec_SimpleOk.j0, if_neg (by simp)]; rfl) (sSimpleOk_l n l h.1 h.2 hl l.length 0 (by omega))) e.symm
    · have e : (decide (1 ≤ n ∧ n ≤ 8 ∧ (l.map trL).length ≤ 40) && (l.map trL).all (linkOk n)) = false := by
        rw [decide_eq_false (show ¬ (1 ≤ n ∧ n ≤ 8 ∧ (l.map trL).length ≤ 40) from fun x => hl (by simpa using x.2.2)), Bool.false_and]
      rw [show decide ((l.length : Int) > 40) = true from decide_eq_true (by omega)]
      exact eqr (suc (f := fun _ => some false) (fun k => by rw [spec_SimpleOk.j0, if_pos rfl]) now) e.symm
  · have e : (decide (1 ≤ n ∧ n ≤ 8 ∧ (l.map trL).length ≤ 40) && (l.map trL).all (linkOk n)) = false := by
      rw [decide_eq_false (show ¬ (1 ≤ n ∧ n ≤ 8 ∧ (l.map trL).length ≤ 40) from fun x => h ⟨x.1, x.2.1⟩), Bool.false_and]
    exact eqr (ifn (by simpa using h) (suc (f := fun _ => some false) (fun k => by rw [spec_SimpleOk.j0, if_pos rfl]) now)) e.symm
theorem sGraphOf (n : Int) (l : List S76) : Ev (fun k => spec_GraphOf.f k n l) (gOf n l) := by
  unfold spec_GraphOf.f gOf
  refine bev (sSimpleOk n l) ?_
  by_cases h : simpleOk n (l.map trL) = true
  · rw [if_pos h]; exact ifp h (bev (sEd l h) now)
  · rw [if_neg h]; exact ifn h now
theorem sRound_l (n : Nat) (l : List S70) (hl : l.length ≤ 80) (hv : ValidE n (l.map tr)) : ∀ (d i : Nat) (L : LS) (B : Int), i + d = l.length → GoodL n L → SmallL B L → B + 1000000 * d ≤ 1000000000000 → 0 ≤ B →
    Ev (fun k => spec_l03Round.l0 k L.o L.l L.k L.ch l (l.length : Int) (i : Int)) ((lrnd (l.map tr) i d L).ch, (lrnd (l.map tr) i d L).o, (lrnd (l.map tr) i d L).l, (lrnd (l.map tr) i d L).k)
  | 0, i, L, B, hd, hg, hs, hB, h0 => suc (f := fun _ => some (L.ch, L.o, L.l, L.k)) (fun k => by rw [spec_l03Round.l0, if_neg (by omega)]) now
  | d + 1, i, L, B, hd, hg, hs, hB, h0 => by
    have ih := sRound_l n l hl hv d (i + 1) (lstep (l.map tr) i L) (B + 1000000) (by omega) (good_step i hg) (small_step hv (by simp only [List.length_map]; omega) hg hs) (by omega) (by omega)
    have hu : ∀ k, spec_l03Round.l0 (k + 1) L.o L.l L.k L.ch l (l.length : Int) (i : Int) = spec_l03Round.l0 k (lstep (l.map tr) i L).o (lstep (l.map tr) i L).l (lstep (l.map tr) i L).k (lstep (l.map tr) i L).ch l (l.length : Int) ((i + 1 : Nat) : Int) := by

      intro k
      obtain ⟨⟨f0, f1⟩, ⟨t0, t1⟩, w0, w1⟩ := hv i (by simp only [List.length_map]; omega)
      obtain ⟨h1, h2, h3⟩ := hg
      have hb := hs _ (rd_mem (l := L.o) f0 (by omega))
      rw [spec_l03Round.l0, if_pos (by omega), if_pos (by omega), if_pos (by omega)]
      simp only [tr0, tr1, tr2]
      rw [up1 (by omega) (by omega), w64 (i := rd L.o _ + _) (by omega) (by omega), if_pos f0, if_pos (by omega)]
      unfold lstep better rb
      by_cases k1 : rdOf false L.k (eAt (l.map tr) i).1 = true
      · rw [if_pos k1, if_pos t0, if_pos (by omega)]
        by_cases k2 : rdOf false L.k (eAt (l.map tr) i).2.1 = true
        · rw [if_pos k2, if_pos (by omega), if_pos (by omega)]
          by_cases c : rd L.o (eAt (l.map tr) i).1 + (eAt (l.map tr) i).2.2 < rd L.o (eAt (l.map tr) i).2.1
          · rw [if_pos c, if_pos (by omega)]
            simp only [k1, k2, c, decide_true, Bool.not_true, Bool.false_or, Bool.and_self, if_true]
            rfl
          · rw [if_neg c]
            simp only [k1, k2, c, decide_false, Bool.not_true, Bool.or_self, Bool.and_false, Bool.false_eq_true, if_false]
            rfl
        · rw [if_neg k2, if_pos (by omega), if_pos (by omega), if_pos (by omega)]
          rw [Bool.not_eq_true] at k2
          simp only [k1, k2, Bool.not_false, Bool.true_or, Bool.and_self, if_true]
          rfl
      · rw [if_neg k1]
        rw [Bool.not_eq_true] at k1
        simp only [k1, Bool.false_and, Bool.false_eq_true, if_false]
        rfl

    exact suc hu ih
theorem sRound (n : Nat) (m : Int) (l : List S70) (hl : l.length ≤ 80) (hv : ValidE n (l.map tr)) (L : LS) (B : Int) (hg : GoodL n L) (hs : SmallL B L) (hB : B ≤ 100000000000) (h0 : 0 ≤ B) :
    Ev (fun k => spec_l03Round.f k m l L.o L.l L.k) ((lround (l.map tr) L).ch, (lround (l.map tr) L).o, (lround (l.map tr) L).l, (lround (l.map tr) L).k) := by
  unfold spec_l03Round.f lround
  have := sRound_l n l hl hv l.length 0 { L with ch := -1 } B (by omega) hg hs (by omega) h0
  rw [List.length_map]
  exact this
theorem sGraphOk_l (n : Int) (l : List S70) (h0 : 0 ≤ n) (h8 : n ≤ 8) (hl : l.length ≤ 80) : ∀ (d i : Nat), i + d = l.length → Ev (fun k => spec_GraphOk.l0 k l (l.length : Int) (i : Int) n l) (allF (fun j => edgeOk n ((l.map tr).getD j (0, 0, 0))) i d)
  | 0, i, hd => suc (f := fun _ => some true) (fun k => by rw [spec_GraphOk.l0, if_neg (by omega)]) now
  | d + 1, i, hd => by
    have ih := sGraphOk_l n l h0 h8 hl d (i + 1) (by omega)
    simp only [allF]
    have e0 : (l.map tr).getD i (0, 0, 0) = eAt (l.map tr) (i : Int) := rfl
    rw [e0]
    have hu : ∀ k, spec_GraphOk.l0 (k + 1) l (l.length : Int) (i : Int) n l = (if 0 ≤ (eAt (l.map tr) i).1 ∧ (eAt (l.map tr) i).1 < n then (if 0 ≤ (eAt (l.map tr) i).2.1 ∧ (eAt (l.map tr) i).2.1 < n then (if -1000000 < (eAt (l.map tr) i).2.2 ∧ (eAt (l.map tr) i).2.2 < 1000000 then spec_GraphOk.l0 k l (l.length : Int) ((i + 1 : Nat) : Int) n l else some false) else some false) else some false) := by
      intro k
      rw [spec_GraphOk.l0, if_pos (by omega), if_pos (by omega), if_pos (by omega), in_node h0 h8, in_node h0 h8, l01In, tr0, tr1, tr2, up1 (by omega) (by omega)]
      simp only [Option.bind_some, decide_eq_true_eq]
      have : (-999999 ≤ (eAt (l.map tr) ↑i).2.2 ∧ (eAt (l.map tr) ↑i).2.2 ≤ 999999) = (-1000000 < (eAt (l.map tr) ↑i).2.2 ∧ (eAt (l.map tr) ↑i).2.2 < 1000000) := by apply propext; omega
      simp only [this]; rfl
    refine suc hu ?_
    unfold edgeOk
    by_cases h1 : 0 ≤ (eAt (l.map tr) i).1 ∧ (eAt (l.map tr) i).1 < n
    · refine ifp h1 ?_
      by_cases h2 : 0 ≤ (eAt (l.map tr) i).2.1 ∧ (eAt (l.map tr) i).2.1 < n
      · refine ifp h2 ?_
        by_cases h3 : -1000000 < (eAt (l.map tr) i).2.2 ∧ (eAt (l.map tr) i).2.2 < 1000000
        · rw [decide_eq_true ⟨h1, h2, h3⟩, Bool.true_and]
          exact ifp h3 ih
        · rw [decide_eq_false (fun x => h3 x.2.2), Bool.false_and]
          exact ifn h3 now
      · rw [decide_eq_false (fun x => h2 x.2.1), Bool.false_and]
        exact ifn h2 now
    · rw [decide_eq_false (fun x => h1 x.1), Bool.false_and]
      exact ifn h1 now
theorem sGraphOk (n : Int) (l : List S70) : Ev (fun k => spec_GraphOk.f k n l) (graphOk n (l.map tr)) := by
  unfold spec_GraphOk.f graphOk
  refine bnd (l01In n 0 8) ?_
  by_cases h : 0 ≤ n ∧ n ≤ 8
  · refine ifp (decide_eq_true h) ?_
    by_cases hl : l.length ≤ 80
    · have e : (decide (0 ≤ n ∧ n ≤ 8 ∧ (l.map tr).length ≤ 80) && (l.map tr).all (edgeOk n)) = allF (fun j => edgeOk n ((l.map tr).getD j (0, 0, 0))) 0 l.length := by
        rw [decide_eq_true (show 0 ≤ n ∧ n ≤ 8 ∧ (l.map tr).length ≤ 80 from ⟨h.1, h.2, by simpa using hl⟩), Bool.true_and, ← allF_all (0, 0, 0), List.length_map]
      rw [show decide ((l.length : Int) > 80) = false from decide_eq_false (by omega)]
      exact eqr (suc (f := fun k => spec_GraphOk.l0 k l (l.length : Int) ((0 : Nat) : Int) n l) (fun k => by rw [spec_GraphOk.j0, if_neg (by simp)]; rfl) (sGraphOk_l n l h.1 h.2 hl l.length 0 (by omega))) e.symm
    · have e : (decide (0 ≤ n ∧ n ≤ 8 ∧ (l.map tr).length ≤ 80) && (l.map tr).all (edgeOk n)) = false := by
        rw [decide_eq_false (show ¬ (0 ≤ n ∧ n ≤ 8 ∧ (l.map tr).length ≤ 80) from fun x => hl (by simpa using x.2.2)), Bool.false_and]
      rw [show decide ((l.length : Int) > 80) = true from decide_eq_true (by omega)]
      exact eqr (suc (f := fun _ => some false) (fun k => by rw [spec_GraphOk.j0, if_pos rfl]) now) e.symm
  · have e : (decide (0 ≤ n ∧ n ≤ 8 ∧ (l.map tr).length ≤ 80) && (l.map tr).all (edgeOk n)) = false := by
      rw [decide_eq_false (show ¬ (0 ≤ n ∧ n ≤ 8 ∧ (l.map tr).length ≤ 80) from fun x => h ⟨x.1, x.2.1⟩), Bool.false_and]
    exact eqr (ifn (by simpa using h) (suc (f := fun _ => some false) (fun k => by rw [spec_GraphOk.j0, if_pos rfl]) now)) e.symm
theorem sN0 (n : Nat) (hn : n ≤ 8) (l : List S70) (R : List Int) (h : Ev (fun k => spec_NegativeCycle.l1 k (negInit n).o (negInit n).l (negInit n).k (-1) 0 (n : Int) l) R) : ∀ (d i : Nat), i + d = n → Ev (fun k => spec_NegativeCycle.l0 k (List.replicate n 0) (List.replicate i (-1) ++ List.replicate d 0) (List.replicate i true ++ List.replicate d false) (n : Int) (i : Int) (n : Int) l) R
  | 0, i, hd => by
    obtain rfl : i = n := by omega
    refine suc (fun k => ?_) h
    rw [spec_NegativeCycle.l0, if_neg (by omega)]
    simp [negInit]
  | d + 1, i, hd => by
    have ih := sN0 n hn l R h d (i + 1) (by omega)
    refine suc (fun k => ?_) ih
    rw [spec_NegativeCycle.l0, if_pos (by omega), if_pos (by omega), if_pos (by simp only [List.length_append, List.length_replicate]; omega), if_pos (by simp only [List.length_append, List.length_replicate]; omega), up1 (by omega) (by omega)]
    have e1 : (List.replicate i (-1 : Int) ++ List.replicate (d + 1) 0).set (i : Int).toNat (-1) = List.replicate (i + 1) (-1) ++ List.replicate d 0 := by
      rw [List.replicate_succ (n := d), List.replicate_succ' (n := i), List.append_assoc]
      have := set_mid (List.replicate i (-1 : Int)) (List.replicate d 0) 0 (-1)
      rw [List.length_replicate] at this
      rw [this]; rfl
    have e2 : (List.replicate i true ++ List.replicate (d + 1) false).set (i : Int).toNat true = List.replicate (i + 1) true ++ List.replicate d false := by
      rw [List.replicate_succ (n := d), List.replicate_succ' (n := i), List.append_assoc]
      simp
    rw [e1, e2]; rfl
theorem sNr (n : Nat) (hn : n ≤ 8) (l : List S70) (hl : l.length ≤ 80) (hv : ValidE n (l.map tr)) (R : List Int) : ∀ (d i : Nat) (L : LS) (B : Int), i + d = n → GoodL n L → SmallL B L → B + 80000000 * d ≤ 1000000000 → 0 ≤ B →
    Ev (fun k => spec_NegativeCycle.l1 k (lrounds (l.map tr) d L).o (lrounds (l.map tr) d L).l (lrounds (l.map tr) d L).k (lrounds (l.map tr) d L).ch (n : Int) (n : Int) l) R →
    Ev (fun k => spec_NegativeCycle.l1 k L.o L.l L.k L.ch (i : Int) (n : Int) l) R
  | 0, i, L, B, hd, hg, hs, hB, h0, h => by
    obtain rfl : i = n := by omega
    exact h
  | d + 1, i, L, B, hd, hg, hs, hB, h0, h => by
    have hg' := good_round (es := l.map tr) hg
    have hs' := small_round hv (by simpa using hl) hg hs
    have ih := sNr n hn l hl hv R d (i + 1) (lround (l.map tr) L) (B + 80000000) (by omega) hg' hs' (by omega) (by omega) h
    have hr := sRound n (n : Int) l hl hv L B hg hs (by omega) h0
    refine suc (fun k => by rw [spec_NegativeCycle.l1, if_pos (by omega), up1 (by omega) (by omega)]) (bev hr ?_)
    exact ih
theorem sN3 (n : Nat) (hn : n ≤ 8) (l : List S70) (hv : ValidE n (l.map tr)) (N : Neg n (l.map tr)) (m : Nat) (hm : m < n) (hb : parN (l.map tr) (negS n (l.map tr)) (m + 1) (negC n (l.map tr)) = negC n (l.map tr)) (hno : ∀ i, i < m → parN (l.map tr) (negS n (l.map tr)) (i + 1) (negC n (l.map tr)) ≠ negC n (l.map tr)) : ∀ (d i : Nat), i + d = m + 1 →
    Ev (fun k => spec_NegativeCycle.l3 k (lrounds (l.map tr) n (negInit n)).l (negC n (l.map tr) : Int) (trl (negS n (l.map tr)) (l.map tr) (negC n (l.map tr)) i).reverse (parN (l.map tr) (negS n (l.map tr)) i (negC n (l.map tr)) : Int) (n : Int) l) (trl (negS n (l.map tr)) (l.map tr) (negC n (l.map tr)) (m + 1)).reverse
  | 0, i, hd => by
    obtain rfl : i = m + 1 := by omega
    refine suc (fun k => ?_) now
    rw [spec_NegativeCycle.l3, if_neg (by rw [List.length_reverse, trl_len]; omega), if_pos (by rw [hb])]
  | d + 1, i, hd => by
    have ih := sN3 n hn l hv N m hm hb hno d (i + 1) (by omega)
    obtain ⟨a, b, c⟩ := neg_lastC N i
    have hg := good_rounds (es := l.map tr) n _ (good_neg n)
    have e1 : rd (lrounds (l.map tr) n (negInit n)).l (parN (l.map tr) (negS n (l.map tr)) i (negC n (l.map tr)) : Int) = (negS n (l.map tr)).l (parN (l.map tr) (negS n (l.map tr)) i (negC n (l.map tr))) := rfl
    have e2 := neg_par hv a
    have hlm : ((l.map tr).length : Int) = l.length := by simp
    rw [hlm] at a
    refine suc (fun k => ?_) ih
    rw [spec_NegativeCycle.l3, e1, List.length_reverse, trl_len, trl_succ]
    have e3 : ((parN (l.map tr) (negS n (l.map tr)) (i + 1) (negC n (l.map tr)) : Nat) : Int) = (rd_T70 l ((negS n (l.map tr)).l (parN (l.map tr) (negS n (l.map tr)) i (negC n (l.map tr))))).f0 := by
      rw [tr0, e2]; rfl
    simp only [Option.bind_some, List.reverse_append, List.reverse_cons, List.reverse_nil, List.nil_append, List.length_cons, List.length_nil]
    rw [← e3]
    by_cases h0 : i = 0
    · subst h0
      rw [if_pos (by omega), if_pos (by omega), if_pos (by rw [hg.2.1]; omega), if_pos (by omega), if_pos a.1, if_pos a.2]
    · have hne := hno (i - 1) (by omega)
      rw [show i - 1 + 1 = i by omega] at hne
      rw [if_neg (by omega), if_neg (by omega), if_pos (by omega), if_pos (by rw [hg.2.1]; omega), if_pos (by omega), if_pos a.1, if_pos a.2]
theorem sN2 (n : Nat) (hn : n ≤ 8) (l : List S70) (hv : ValidE n (l.map tr)) (N : Neg n (l.map tr)) (R : List Int) (h : Ev (fun k => spec_NegativeCycle.l3 k (lrounds (l.map tr) n (negInit n)).l (negC n (l.map tr) : Int) [] (negC n (l.map tr) : Int) (n : Int) l) R) : ∀ (d i : Nat), i + d = n →
    Ev (fun k => spec_NegativeCycle.l2 k (lrounds (l.map tr) n (negInit n)).l (parN (l.map tr) (negS n (l.map tr)) i (negV n (l.map tr)) : Int) (i : Int) (n : Int) l) R
  | 0, i, hd => by
    obtain rfl : i = n := by omega
    exact suc (fun k => by rw [spec_NegativeCycle.l2, if_neg (by omega)]; rfl) h
  | d + 1, i, hd => by
    have ih := sN2 n hn l hv N R h d (i + 1) (by omega)
    have a := N.last i
    have c := N.inn i
    have hg := good_rounds (es := l.map tr) n _ (good_neg n)
    have e1 : rd (lrounds (l.map tr) n (negInit n)).l (parN (l.map tr) (negS n (l.map tr)) i (negV n (l.map tr)) : Int) = (negS n (l.map tr)).l (parN (l.map tr) (negS n (l.map tr)) i (negV n (l.map tr))) := rfl
    have e2 := neg_par hv a
    have hlm : ((l.map tr).length : Int) = l.length := by simp
    rw [hlm] at a
    refine suc (fun k => ?_) ih
    have e3 : ((parN (l.map tr) (negS n (l.map tr)) (i + 1) (negV n (l.map tr)) : Nat) : Int) = (rd_T70 l ((negS n (l.map tr)).l (parN (l.map tr) (negS n (l.map tr)) i (negV n (l.map tr))))).f0 := by
      rw [tr0, e2]; rfl
    rw [spec_NegativeCycle.l2, e1, ← e3, if_pos (by omega), if_pos (by omega), if_pos (by rw [hg.2.1]; omega), if_pos a.1, if_pos a.2, up1 (by omega) (by omega)]; rfl
theorem sNeg (n : Int) (l : List S70) : Ev (fun k => spec_NegativeCycle.f k n l) (negM n (l.map tr)) := by
  have hf : Ev (fun k => spec_NegativeCycle.j0 k true n l) [] := suc (f := fun _ => some []) (fun k => by rw [spec_NegativeCycle.j0, if_pos rfl]) now
  unfold spec_NegativeCycle.f
  refine bev (sGraphOk n l) ?_
  by_cases hg : graphOk n (l.map tr) = true
  · obtain ⟨h0, h8, hl, _⟩ := graphOk_iff hg
    have hl : l.length ≤ 80 := by simpa using hl
    have hv := valid_of hg
    refine ifp hg ?_
    obtain ⟨m, rfl⟩ : ∃ m : Nat, n = (m : Int) := ⟨n.toNat, by omega⟩
    unfold negM
    rw [Int.toNat_natCast] at hv ⊢
    by_cases hz : m = 0
    · subst hz
      refine eqr hf (if_neg (fun h => ?_)).symm
      have := ch_zero h.2
      omega
    · have e0 : (((m : Nat) : Int) == 0) = false := by simpa using hz
      rw [e0]
      have ech : (lrounds (l.map tr) m (negInit m)).ch = (negS m (l.map tr)).ch := rfl
      have key : Ev (fun k => spec_NegativeCycle.l1 k (lrounds (l.map tr) m (negInit m)).o (lrounds (l.map tr) m (negInit m)).l (lrounds (l.map tr) m (negInit m)).k (lrounds (l.map tr) m (negInit m)).ch (m : Int) (m : Int) l) (if graphOk (m : Int) (l.map tr) = true ∧ 0 ≤ (negS m (l.map tr)).ch then (negT m (l.map tr)).reverse else []) := by
        by_cases hq : 0 ≤ (negS m (l.map tr)).ch
        · have N := neg_of hv hq
          obtain ⟨q, hq1, hq2, hq3, _, hq4⟩ := negT_eq N
          have h3 := sN3 m (by omega) l hv N q hq1 hq2 hq3 (q + 1) 0 (by omega)
          have h2 := sN2 m (by omega) l hv N _ h3 m 0 (by omega)
          rw [if_pos ⟨hg, hq⟩, hq4]
          refine suc (fun k => ?_) h2
          have hc := N.ch
          rw [List.length_map] at hc
          rw [spec_NegativeCycle.l1, if_neg (by omega), ech, if_neg (by omega), if_pos hq, if_pos (by omega), tr1]
          have e : (eAt (l.map tr) (negS m (l.map tr)).ch).2.1 = ((negV m (l.map tr) : Nat) : Int) := (neg_edge hv ⟨hq, by rw [List.length_map]; omega⟩).2
          rw [e]; rfl
        · refine eqr (suc (f := fun _ => some ([] : List Int)) (fun k => ?_) now) (if_neg (fun h => hq h.2)).symm
          rw [spec_NegativeCycle.l1, if_neg (by omega), ech, if_pos (by omega)]
      have h1 := sNr m (by omega) l hl hv _ m 0 (negInit m) 0 (by omega) (good_neg m) (small_neg m) (by omega) (by omega) key
      have h2 := sN0 m (by omega) l _ h1 m 0 (by omega)
      refine suc (fun k => ?_) h2
      rw [spec_NegativeCycle.j0, if_neg (by simp), if_pos (by omega), if_pos (by omega), if_pos (by omega)]
      simp only [Option.bind_some, Int.toNat_natCast, List.length_replicate, List.replicate_zero, List.nil_append]
      rfl
  · exact eqr (ifn hg hf) (by unfold negM; rw [if_neg (fun h => hg h.1)])
theorem len0 {α : Type} (l : List α) : (((l.length : Nat) : Int) == 0) = l.isEmpty := by
  cases l with
  | nil => rfl
  | cons x l => simp; omega
theorem sCons (n : Int) (l : List S76) : Ev (fun k => spec_IsConsistent.f k n l) (consM n (l.map trL)) := by
  unfold spec_IsConsistent.f consM
  refine bev (sSimpleOk n l) ?_
  by_cases h : simpleOk n (l.map trL) = true
  · rw [if_pos h]
    have hN := sNeg n (lkS l)
    rw [lkS_tr] at hN
    have hG := sGraphOf n l
    unfold gOf at hG
    rw [if_pos h] at hG
    refine ifp h (bev hG (bev hN ?_))
    rw [len0]; exact now
  · rw [if_neg h]; exact ifn h now

theorem FnExactIsConsistent : laws_FnExactIsConsistent.Pure := by
  intro s l _ hl _
  refine Ev.rounds ?_
  unfold laws_FnExactIsConsistent.f
  rcases szSimple s l hl with ⟨h, _⟩ | ⟨h, hn⟩
  · exact bnd h (ifp (by omega) now)
  · refine bnd h (ifn (by omega) ?_)
    have ht := toSimple s l (by omega)
    have hc : (l.map cvL).length ≤ 4194304 := by simp only [List.length_map]; omega

    refine bev ht (bev (sCons s _) (bev ht (bev (iCons s _) ?_)))
    exact ifn (by simp) (bev ht (bev (eqSimple s _ hc) (ifp rfl now)))

end Go.Proofs.Ytbbblnmngjhadaa.Own
