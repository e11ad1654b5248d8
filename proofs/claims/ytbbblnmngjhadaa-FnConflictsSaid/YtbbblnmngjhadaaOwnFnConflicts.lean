/- The law FnConflicts answers true for every code. No condition. -/
import Derived.Test.YtbbblnmngjhadaaQFnConflictsx8
import Derived.Test.YtbbblnmngjhadaaNc
namespace Go.Proofs.Ytbbblnmngjhadaa.Own
open Go.RowKit Go.Proofs.Ytbbblnmngjhadaa.QFnConflicts Go.Proofs.YtbbblnmngjhadaaW.PrintWords Go.Proofs.YtbbblnmngjhadaaW.PrintLast Go.Proofs.YtbbblnmngjhadaaW.PrintMore Go.Proofs.YtbbblnmngjhadaaT Go.Proofs.YtbbblnmngjhadaaT Go.Proofs.YtbbblnmngjhadaaT
set_option linter.unusedVariables false
set_option linter.unusedSimpArgs false

def trL (e : S76) : L4 := (e.f0, e.f1, e.f2.f0, e.f2.f1)
theorem trL_rd (l : List S76) (p : Int) : lAt (l.map trL) p = trL (rd_T76 l p) := by
  unfold lAt rd_T76
  simp only [List.getD_eq_getElem?_getD, List.getElem?_map]
  cases l[p.toNat]? <;> rfl
theorem lk0 (l : List S76) (p : Int) : (rd_T76 l p).f0 = (lAt (l.map trL) p).1 := by rw [trL_rd]; rfl
theorem lk1 (l : List S76) (p : Int) : (rd_T76 l p).f1 = (lAt (l.map trL) p).2.1 := by rw [trL_rd]; rfl
theorem lk2 (l : List S76) (p : Int) : (rd_T76 l p).f2.f0 = (lAt (l.map trL) p).2.2.1 := by rw [trL_rd]; rfl
theorem lk3 (l : List S76) (p : Int) : (rd_T76 l p).f2.f1 = (lAt (l.map trL) p).2.2.2 := by rw [trL_rd]; rfl
def withM (n : Int) (l : List S76) (x : S76) : Int × List S76 × Bool := if simpleOk n (l.map trL) = true ∧ simpleOk n ((l ++ [x]).map trL) = true then (n, l ++ [x], true) else (0, [], false)
theorem withM_len (n : Int) (l : List S76) (x : S76) : (withM n l x).2.1.length ≤ 41 := by
  unfold withM
  split
  · rename_i h
    have := (simpleOk_iff h.2).2.2.1
    rw [List.length_map] at this
    show (l ++ [x]).length ≤ 41
    omega
  · simp
theorem badL (n : Int) (e : S76) : badLink n e = !(linkOk n (trL e)) := by
  unfold badLink sNodeB linkOk trL
  rw [show qokB e.f2.f0 e.f2.f1 = okB e.f2.f0 e.f2.f1 from rfl]
  by_cases h1 : 0 ≤ e.f0 ∧ e.f0 < n <;> by_cases h2 : 0 ≤ e.f1 ∧ e.f1 < n <;> cases okB e.f2.f0 e.f2.f1 <;> simp [h1, h2]
theorem iSimpleOk (n : Int) (l : List S76) : impl_SimpleOk.f n l = some (simpleOk n (l.map trL)) := by
  unfold impl_SimpleOk.f simpleOk
  have e : (!(l.any (badLink n))) = (l.map trL).all (linkOk n) := by
    rw [List.all_map, List.all_eq_not_any_not]
    congr 2
    funext x
    simp [badL]
  congr 1
  by_cases h1 : n < 1
  · rw [if_pos h1, decide_eq_false (by omega), Bool.false_and]
  · rw [if_neg h1]
    by_cases h2 : n > 8
    · rw [if_pos h2, decide_eq_false (by omega), Bool.false_and]
    · rw [if_neg h2]
      by_cases h3 : (l.length : Int) > 40
      · rw [if_pos h3, decide_eq_false (by simp only [List.length_map]; omega), Bool.false_and]
      · rw [if_neg h3, decide_eq_true (by simp only [List.length_map]; omega), Bool.true_and, e]
theorem iWith (n : Int) (l : List S76) (a b c d : Int) (hl : l.length ≤ 4194304) : impl_WithLink.f n l a b c d = some (withM n l (⟨a, b, ⟨c, d⟩⟩ : S76)) := by
  unfold impl_WithLink.f withM
  have hcl : impl_Link_86.f l = some l := by
    unfold impl_Link_86.f
    simp only [Option.bind_some, List.nil_append, List.length_nil]
    rw [if_pos (by omega)]
  rw [hcl]
  simp only [Option.bind_some, List.length_cons, List.length_nil]
  rw [if_pos (by omega), iSimpleOk, iSimpleOk]
  simp only [Option.bind_some]
  by_cases h : simpleOk n (l.map trL) = true
  · rw [if_pos h]
    by_cases h2 : simpleOk n ((l ++ [(⟨a, b, ⟨c, d⟩⟩ : S76)]).map trL) = true
    · rw [if_pos h2, if_pos ⟨h, h2⟩]
    · rw [if_neg h2, if_neg (fun x => h2 x.2)]
  · rw [if_neg h, if_neg (fun x => h x.1)]
def consM (n : Int) (ls : List L4) : Bool := if simpleOk n ls = true then (negM n (linksE ls)).isEmpty else false
def tr (e : S70) : E3 := (e.f0, e.f1, e.f2)
theorem tr_rd (l : List S70) (p : Int) : eAt (l.map tr) p = tr (rd_T70 l p) := by
  unfold eAt rd_T70
  simp only [List.getD_eq_getElem?_getD, List.getElem?_map]
  cases l[p.toNat]? <;> rfl
theorem tr0 (l : List S70) (p : Int) : (rd_T70 l p).f0 = (eAt (l.map tr) p).1 := by rw [tr_rd]; rfl
theorem tr1 (l : List S70) (p : Int) : (rd_T70 l p).f1 = (eAt (l.map tr) p).2.1 := by rw [tr_rd]; rfl
theorem tr2 (l : List S70) (p : Int) : (rd_T70 l p).f2 = (eAt (l.map tr) p).2.2 := by rw [tr_rd]; rfl
theorem rdE_at {l : List S70} {i : Nat} (h : i < l.length) : rd_T70 l (i : Int) = l[i] := by
  unfold rd_T70; simp [List.getD_eq_getElem?_getD, h]
def lkEs (e : S76) : List S70 := (if e.f2.f1 = 1000000 then [] else [⟨e.f0, e.f1, e.f2.f1⟩]) ++ (if e.f2.f0 = -1000000 then [] else [⟨e.f1, e.f0, -e.f2.f0⟩])
def lkS : List S76 → List S70
  | [] => []
  | e :: t => lkEs e ++ lkS t
theorem lkEs_tr (e : S76) : (lkEs e).map tr = linkE (trL e) := by
  unfold lkEs linkE trL tr
  by_cases h1 : e.f2.f1 = 1000000 <;> by_cases h2 : e.f2.f0 = -1000000 <;> simp [h1, h2]
theorem lkS_tr : ∀ l : List S76, (lkS l).map tr = linksE (l.map trL)
  | [] => rfl
  | e :: t => by simp only [lkS, List.map_append, lkEs_tr, lkS_tr t, List.map_cons, linksE]
theorem lkEs_len (e : S76) : (lkEs e).length ≤ 2 := by
  rw [← List.length_map (f := tr), lkEs_tr]; exact linkE_len _
theorem lkS_len (l : List S76) : (lkS l).length ≤ 2 * l.length := by
  rw [← List.length_map (f := tr), lkS_tr]
  have := linksE_len (l.map trL)
  rw [List.length_map] at this; exact this
theorem lkS_drop {l : List S76} {i : Nat} (h : i < l.length) : lkS (l.drop i) = lkEs (rd_T76 l (i : Int)) ++ lkS (l.drop (i + 1)) := by
  rw [List.drop_eq_getElem_cons h]
  have : rd_T76 l (i : Int) = l[i] := by unfold rd_T76; simp [List.getD_eq_getElem?_getD, h]
  rw [this]; rfl
theorem lkI_drop {l : List S76} {i : Nat} (h : i < l.length) : linksI i ((l.map trL).drop i) = linkI i (trL (rd_T76 l (i : Int))) ++ linksI (i + 1) ((l.map trL).drop (i + 1)) := by
  rw [List.drop_eq_getElem_cons (by rw [List.length_map]; exact h)]
  have : rd_T76 l (i : Int) = l[i] := by unfold rd_T76; simp [List.getD_eq_getElem?_getD, h]
  rw [this, List.getElem_map]; rfl
theorem rdL_mem {l : List S76} {i : Nat} (h : i < l.length) : rd_T76 l (i : Int) ∈ l := by
  have : rd_T76 l (i : Int) = l[i] := by unfold rd_T76; simp [List.getD_eq_getElem?_getD, h]
  rw [this]; exact List.getElem_mem _
theorem lo_of {n : Int} {l : List S76} (h : simpleOk n (l.map trL) = true) : l.length ≤ 40 ∧ ∀ e ∈ l, -1000000 ≤ e.f2.f0 ∧ e.f2.f0 ≤ 1000000 := by
  obtain ⟨_, _, h3, h4⟩ := simpleOk_iff h
  refine ⟨by simpa using h3, fun e he => ?_⟩
  have := (okB_iff).1 (h4 (trL e) (List.mem_map_of_mem he)).2
  exact ⟨this.1, Int.le_trans this.2.1 this.2.2.1⟩
theorem lkEs_w (e : S76) (h : -1000000 ≤ e.f2.f0 ∧ e.f2.f0 ≤ 1000000) : wrap64 (-e.f2.f0) = -e.f2.f0 := w64 (by omega) (by omega)
def gOf (n : Int) (l : List S76) : Int × List S70 := if simpleOk n (l.map trL) = true then (n, lkS l) else (0, [])
theorem gOf_len (n : Int) (l : List S76) : (gOf n l).2.length ≤ 80 := by
  unfold gOf
  split
  · rename_i h
    have := (lo_of h).1
    have := lkS_len l
    simp only; omega
  · simp
theorem iGr_l (l : List S76) (hl : l.length ≤ 40) (hb : ∀ e ∈ l, -1000000 ≤ e.f2.f0 ∧ e.f2.f0 ≤ 1000000) (n : Int) : ∀ (d i : Nat) (x : List S70) (y : List Int), i + d = l.length → x.length ≤ 2 * i → y.length ≤ 2 * i → Ev (fun k => impl_graphOf.l0 k y l (l.length : Int) (i : Int) n x) (n, x ++ lkS (l.drop i), y ++ linksI i ((l.map trL).drop i))
  | 0, i, x, y, hd, hx, hy => by
    have e1 : l.drop i = [] := List.drop_eq_nil_of_le (by omega)
    have e2 : (l.map trL).drop i = [] := List.drop_eq_nil_of_le (by simp; omega)
    rw [e1, e2]
    refine suc (f := fun _ => some (n, x, y)) (fun k => by rw [impl_graphOf.l0, if_neg (by omega)]) (eqr now ?_)
    simp [lkS, linksI]
  | d + 1, i, x, y, hd, hx, hy => by
    have hi : i < l.length := by omega
    have hw := lkEs_w _ (hb _ (rdL_mem hi))
    have ih := iGr_l l hl hb n d (i + 1) (x ++ lkEs (rd_T76 l (i : Int))) (y ++ linkI i (trL (rd_T76 l (i : Int)))) (by omega)
      (by have := lkEs_len (rd_T76 l (i : Int)); simp only [List.length_append]; omega)
      (by have := linkE_len (trL (rd_T76 l (i : Int))); simp only [List.length_append, linkI_len]; omega)
    rw [lkS_drop hi, lkI_drop hi, ← List.append_assoc, ← List.append_assoc]
    refine suc (fun k => ?_) ih
    rw [impl_graphOf.l0, if_pos (by omega), if_pos (by omega), if_pos (by omega), up1 (by omega) (by omega), show (i : Int) + 1 = ((i + 1 : Nat) : Int) from rfl, hw]
    unfold lkEs linkI trL
    by_cases h1 : (rd_T76 l (i : Int)).f2.f1 = 1000000 <;> by_cases h2 : (rd_T76 l (i : Int)).f2.f0 = -1000000
    · simp only [h1, h2, if_true, List.append_nil]
    · simp only [h1, h2, if_true, if_false, List.nil_append]
      rw [if_pos (by omega), if_pos (by omega)]
    · simp only [h1, h2, if_true, if_false, List.append_nil, Option.bind_some]
      rw [if_pos (by omega), if_pos (by omega)]
    · simp only [h1, h2, if_false, Option.bind_some]
      rw [if_pos (by omega), if_pos (by omega), if_pos (by simp only [List.length_append, List.length_cons, List.length_nil]; omega), if_pos (by simp only [List.length_append, List.length_cons, List.length_nil]; omega)]
      simp only [List.append_assoc]

theorem iGr {n : Int} (l : List S76) (h : simpleOk n (l.map trL) = true) : Ev (fun k => impl_graphOf.f k n l) (n, lkS l, linksI 0 (l.map trL)) := by
  unfold impl_graphOf.f
  exact iGr_l l (lo_of h).1 (lo_of h).2 n l.length 0 [] [] (by omega) (by simp) (by simp)
theorem iGraphOf (n : Int) (l : List S76) : Ev (fun k => impl_GraphOf.f k n l) (gOf n l) := by
  unfold impl_GraphOf.f gOf
  refine bnd (iSimpleOk n l) ?_
  by_cases h : simpleOk n (l.map trL) = true
  · rw [if_pos h]; exact ifp h (bev (iGr l h) now)
  · rw [if_neg h]; exact ifn h now
theorem rd_mid (a b : List Int) (x : Int) : rd (a ++ x :: b) (a.length : Int) = x := by unfold rd; simp [List.getD_eq_getElem?_getD]
theorem rb_mid (a b : List Bool) (x : Bool) {n : Nat} (h : a.length = n) : rdOf false (a ++ x :: b) (n : Int) = x := by subst h; unfold rdOf; simp [List.getD_eq_getElem?_getD]
theorem set_mid (a b : List Int) (x y : Int) : (a ++ x :: b).set (a.length : Int).toNat y = a ++ y :: b := by simp
theorem rev_l : ∀ (n : Nat) (mid p q : List Int), mid.length = n → p.length = q.length → p.length + q.length + mid.length ≤ 1000000 → Ev (fun k => slices_Reverse_int_int.l0 k (p ++ (mid ++ q)) (p.length : Int) ((p.length : Int) + mid.length - 1)) (p ++ (mid.reverse ++ q)) := by
  intro n
  induction n using Nat.strongRecOn with
  | _ n ih =>
    intro mid p q hn hp hb
    cases mid with
    | nil => exact suc (f := fun _ => some (p ++ ([] ++ q))) (fun k => by rw [slices_Reverse_int_int.l0, if_neg (by simp only [List.length_nil]; omega)]) now
    | cons a t =>
      rcases List.eq_nil_or_concat t with h | ⟨m, b, h⟩
      · subst h
        exact suc (f := fun _ => some (p ++ ([a] ++ q))) (fun k => by rw [slices_Reverse_int_int.l0, if_neg (by simp only [List.length_cons, List.length_nil]; omega)]) now
      · rw [List.concat_eq_append] at h
        subst h
        simp only [List.length_cons, List.length_append, List.length_nil] at hn hb
        have e1 : p ++ (a :: (m ++ [b]) ++ q) = p ++ a :: (m ++ b :: q) := by simp
        have e2 : p ++ a :: (m ++ b :: q) = (p ++ a :: m) ++ b :: q := by simp
        have hlen : ((p ++ a :: (m ++ b :: q)).length : Int) = (p.length : Int) + (m.length + 2) + q.length := by simp only [List.length_append, List.length_cons]; omega
        have r1 : rd (p ++ a :: (m ++ b :: q)) (p.length : Int) = a := rd_mid _ _ _
        have el : (p.length : Int) + ((a :: (m ++ [b])).length : Int) - 1 = ((p ++ a :: m).length : Int) := by simp only [List.length_append, List.length_cons, List.length_nil]; omega
        have r2 : rd (p ++ a :: (m ++ b :: q)) ((p ++ a :: m).length : Int) = b := by rw [e2]; exact rd_mid _ _ _
        have r3 : ((p ++ a :: (m ++ b :: q)).set (p.length : Int).toNat b).set ((p ++ a :: m).length : Int).toNat a = (p ++ [b]) ++ (m ++ (a :: q)) := by
          rw [set_mid]
          have e3 : p ++ b :: (m ++ b :: q) = (p ++ b :: m) ++ b :: q := by simp
          have e4 : (p ++ a :: m).length = (p ++ b :: m).length := by simp
          rw [e3, e4, set_mid]; simp
        have ih' := ih m.length (by omega) m (p ++ [b]) (a :: q) rfl (by simp [hp]) (by simp only [List.length_append, List.length_cons, List.length_nil]; omega)
        rw [e1, el]
        refine eqr (suc (fun k => ?_) ih') (by simp)
        have hl2 : ((p ++ a :: m).length : Int) = p.length + (m.length + 1) := by simp only [List.length_append, List.length_cons]; omega
        rw [slices_Reverse_int_int.l0, if_pos (by omega), if_pos (by omega), if_pos (by omega), if_pos (by omega), if_pos (by omega), r1, r2, r3, hl2, w64 (i := (p.length : Int) + 1) (by omega) (by omega), w64 (by omega) (by omega)]
        have h5 : ((p ++ [b]).length : Int) = (p.length : Int) + 1 := by simp
        rw [h5]
        congr 1
        omega
theorem revM (l : List Int) (h : l.length ≤ 1000) : Ev (fun k => slices_Reverse_int_int.f k l) l.reverse := by
  unfold slices_Reverse_int_int.f
  have := rev_l l.length l [] [] rfl rfl (by simp only [List.length_nil]; omega)
  simp only [List.nil_append, List.append_nil, List.length_nil] at this
  rw [w64 (by omega) (by omega)]
  refine Ev.congr (fun k => ?_) this
  congr 1
  omega
/-- What both programs know of the last round's parents. -/
theorem neg_edge {n : Nat} {es : List E3} (hv : ValidE n es) {k : Int} (hk : 0 ≤ k ∧ k < es.length) : (eAt es k).1 = ((Fr es k.toNat : Nat) : Int) ∧ (eAt es k).2.1 = ((To es k.toNat : Nat) : Int) := by
  have h := hv k.toNat (by omega)
  have e : eAt es k = eAt es ((k.toNat : Nat) : Int) := rfl
  unfold Fr To
  rw [e]
  omega
theorem neg_par {n : Nat} {es : List E3} (hv : ValidE n es) {s : FS} {a : Nat} (hk : 0 ≤ s.l a ∧ s.l a < es.length) : (eAt es (s.l a)).1 = ((par es s a : Nat) : Int) := (neg_edge hv hk).1
theorem all_step {n : Nat} {es : List E3} {L : LS} (i : Nat) (h : L.k = List.replicate n true) : (lstep es i L).k = List.replicate n true := by
  unfold lstep
  split
  · show L.k.set _ true = _
    rw [h]; simp
  · exact h
theorem all_rnd {n : Nat} {es : List E3} : ∀ (d i : Nat) (L : LS), L.k = List.replicate n true → (lrnd es i d L).k = List.replicate n true
  | 0, _, _, h => h
  | d + 1, i, L, h => all_rnd d (i + 1) _ (all_step i h)
theorem all_round {n : Nat} {es : List E3} {L : LS} (h : L.k = List.replicate n true) : (lround es L).k = List.replicate n true := all_rnd _ _ _ h
def trl (s : FS) (es : List E3) (c : Nat) (i : Nat) : List Int := (List.range i).map fun j => s.l (parN es s j c)
theorem trl_succ (s : FS) (es : List E3) (c i : Nat) : trl s es c (i + 1) = trl s es c i ++ [s.l (parN es s i c)] := by unfold trl; rw [List.range_succ, List.map_append]; rfl
theorem trl_len (s : FS) (es : List E3) (c i : Nat) : (trl s es c i).length = i := by unfold trl; simp
theorem badE (n : Int) (e : S70) : badEdge n e = !(edgeOk n (tr e)) := by
  unfold badEdge gNodeB gWeightB edgeOk tr
  rw [Bool.eq_iff_iff]
  simp only [Bool.or_eq_true, Bool.not_eq_true', decide_eq_false_iff_not]
  by_cases h1 : 0 ≤ e.f0 ∧ e.f0 < n <;> by_cases h2 : 0 ≤ e.f1 ∧ e.f1 < n <;> by_cases h3 : -1000000 < e.f2 ∧ e.f2 < 1000000 <;> simp [h1, h2, h3]
theorem iGraphOk (n : Int) (l : List S70) : impl_GraphOk.f n l = some (graphOk n (l.map tr)) := by
  unfold impl_GraphOk.f graphOk
  have e : (!(l.any (badEdge n))) = (l.map tr).all (edgeOk n) := by
    rw [List.all_map, List.all_eq_not_any_not]
    congr 2
    funext x
    simp [badE]
  congr 1
  by_cases h1 : n < 0
  · rw [if_pos h1, decide_eq_false (by omega), Bool.false_and]
  · rw [if_neg h1]
    by_cases h2 : n > 8
    · rw [if_pos h2, decide_eq_false (by omega), Bool.false_and]
    · rw [if_neg h2]
      by_cases h3 : (l.length : Int) > 80
      · rw [if_pos h3, decide_eq_false (by simp only [List.length_map]; omega), Bool.false_and]
      · rw [if_neg h3, decide_eq_true (by simp only [List.length_map]; omega), Bool.true_and, e]
theorem iNr_l (n : Nat) (l : List S70) (hl : l.length ≤ 80) (hv : ValidE n (l.map tr)) (r : Int) (R : List Int) : ∀ (d i : Nat) (L : LS) (B : Int), i + d = l.length → GoodL n L → L.k = List.replicate n true → SmallL B L → B + 1000000 * d ≤ 1000000000000 → 0 ≤ B →
    Ev (fun k => impl_NegativeCycle.l0 k (lrnd (l.map tr) i d L).o (lrnd (l.map tr) i d L).l (lrnd (l.map tr) i d L).ch (wrap64 (r + 1)) (n : Int) l) R →
    Ev (fun k => impl_NegativeCycle.l1 k L.o L.l L.ch r l (l.length : Int) (i : Int) (n : Int) l) R
  | 0, i, L, B, hd, hg, ha, hs, hB, h0, h => suc (fun k => by rw [impl_NegativeCycle.l1, if_neg (by omega)]; rfl) h
  | d + 1, i, L, B, hd, hg, ha, hs, hB, h0, h => by
    have ih := iNr_l n l hl hv r R d (i + 1) (lstep (l.map tr) i L) (B + 1000000) (by omega) (good_step i hg) (all_step i ha) (small_step hv (by simp only [List.length_map]; omega) hg hs) (by omega) (by omega) h
    refine suc (fun k => ?_) ih
    obtain ⟨⟨f0, f1⟩, ⟨t0, t1⟩, w0, w1⟩ := hv i (by simp only [List.length_map]; omega)
    obtain ⟨h1, h2, h3⟩ := hg
    have hb := hs _ (rd_mem (l := L.o) f0 (by omega))
    have kk : ∀ v : Int, 0 ≤ v → v < n → rb L.k v = true := fun v v0 v1 => by
      rw [ha]; unfold rb rdOf
      rw [List.getD_eq_getElem?_getD, List.getElem?_replicate, if_pos (by omega)]; rfl
    rw [impl_NegativeCycle.l1, if_pos (by omega), if_pos (by omega), if_pos (by omega)]
    simp only [tr0, tr1, tr2]
    rw [up1 (by omega) (by omega), w64 (i := rd L.o _ + _) (by omega) (by omega), if_pos f0, if_pos (by omega), if_pos t0, if_pos (by omega)]
    unfold lstep better
    rw [kk _ f0 f1, kk _ t0 t1]
    by_cases c : rd L.o (eAt (l.map tr) i).1 + (eAt (l.map tr) i).2.2 < rd L.o (eAt (l.map tr) i).2.1
    · rw [if_pos c, if_pos (by omega)]
      simp only [c, decide_true, Bool.not_true, Bool.false_or, Bool.and_self, if_true]
      rfl
    · rw [if_neg c]
      simp only [c, decide_false, Bool.not_true, Bool.or_self, Bool.and_false, Bool.false_eq_true, if_false]
      rfl
theorem iNr (n : Nat) (hn : n ≤ 8) (l : List S70) (hl : l.length ≤ 80) (hv : ValidE n (l.map tr)) (R : List Int) : ∀ (d i : Nat) (L : LS) (B : Int), i + d = n → GoodL n L → L.k = List.replicate n true → SmallL B L → B + 80000000 * d ≤ 1000000000 → 0 ≤ B →
    Ev (fun k => impl_NegativeCycle.l0 k (lrounds (l.map tr) d L).o (lrounds (l.map tr) d L).l (lrounds (l.map tr) d L).ch (n : Int) (n : Int) l) R →
    Ev (fun k => impl_NegativeCycle.l0 k L.o L.l L.ch (i : Int) (n : Int) l) R
  | 0, i, L, B, hd, hg, ha, hs, hB, h0, h => by
    obtain rfl : i = n := by omega
    exact h
  | d + 1, i, L, B, hd, hg, ha, hs, hB, h0, h => by
    have hg' := good_round (es := l.map tr) hg
    have hs' := small_round hv (by simpa using hl) hg hs
    have ih := iNr n hn l hl hv R d (i + 1) (lround (l.map tr) L) (B + 80000000) (by omega) hg' (all_round ha) hs' (by omega) (by omega) h
    refine suc (f := fun k => impl_NegativeCycle.l1 k L.o L.l (-1) (i : Int) l (l.length : Int) ((0 : Nat) : Int) (n : Int) l) (fun k => by rw [impl_NegativeCycle.l0, if_pos (by omega)]; rfl) ?_
    refine iNr_l n l hl hv (i : Int) R l.length 0 { L with ch := -1 } B (by omega) hg ha hs (by omega) h0 ?_
    have e : lrnd (l.map tr) 0 l.length { L with ch := -1 } = lround (l.map tr) L := by unfold lround; rw [List.length_map]
    rw [e, up1 (by omega) (by omega)]
    exact ih
theorem iN3 (n : Nat) (hn : n ≤ 8) (l : List S70) (hv : ValidE n (l.map tr)) (N : Neg n (l.map tr)) (m : Nat) (hm : m < n) (hb : parN (l.map tr) (negS n (l.map tr)) (m + 1) (negC n (l.map tr)) = negC n (l.map tr)) (hno : ∀ i, i < m → parN (l.map tr) (negS n (l.map tr)) (i + 1) (negC n (l.map tr)) ≠ negC n (l.map tr)) : ∀ (d i : Nat), i + d = m + 1 →
    Ev (fun k => impl_NegativeCycle.l3 k (lrounds (l.map tr) n (negInit n)).l (negC n (l.map tr) : Int) (trl (negS n (l.map tr)) (l.map tr) (negC n (l.map tr)) i) (parN (l.map tr) (negS n (l.map tr)) i (negC n (l.map tr)) : Int) (n : Int) l) (trl (negS n (l.map tr)) (l.map tr) (negC n (l.map tr)) (m + 1)).reverse
  | 0, i, hd => by
    obtain rfl : i = m + 1 := by omega
    have hr := revM (trl (negS n (l.map tr)) (l.map tr) (negC n (l.map tr)) (m + 1)) (by rw [trl_len]; omega)
    refine suc (fun k => ?_) (bev hr now)
    rw [impl_NegativeCycle.l3, if_neg (by rw [trl_len]; omega), if_pos (by rw [hb])]
  | d + 1, i, hd => by
    have ih := iN3 n hn l hv N m hm hb hno d (i + 1) (by omega)
    obtain ⟨a, b, c⟩ := neg_lastC N i
    have hg := good_rounds (es := l.map tr) n _ (good_neg n)
    have e1 : rd (lrounds (l.map tr) n (negInit n)).l (parN (l.map tr) (negS n (l.map tr)) i (negC n (l.map tr)) : Int) = (negS n (l.map tr)).l (parN (l.map tr) (negS n (l.map tr)) i (negC n (l.map tr))) := rfl
    have e2 := neg_par hv a
    have hlm : ((l.map tr).length : Int) = l.length := by simp
    rw [hlm] at a
    refine suc (fun k => ?_) ih
    rw [impl_NegativeCycle.l3, e1, trl_len, trl_succ]
    have e3 : ((parN (l.map tr) (negS n (l.map tr)) (i + 1) (negC n (l.map tr)) : Nat) : Int) = (rd_T70 l ((negS n (l.map tr)).l (parN (l.map tr) (negS n (l.map tr)) i (negC n (l.map tr))))).f0 := by
      rw [tr0, e2]; rfl
    rw [← e3]
    by_cases h0 : i = 0
    · subst h0
      rw [if_pos (by omega), if_pos (by omega), if_pos (by rw [hg.2.1]; omega), if_pos (by omega), if_pos a.1, if_pos a.2]
    · have hne := hno (i - 1) (by omega)
      rw [show i - 1 + 1 = i by omega] at hne
      rw [if_neg (by omega), if_neg (by omega), if_pos (by omega), if_pos (by rw [hg.2.1]; omega), if_pos (by omega), if_pos a.1, if_pos a.2]
theorem iN2 (n : Nat) (hn : n ≤ 8) (l : List S70) (hv : ValidE n (l.map tr)) (N : Neg n (l.map tr)) (R : List Int) (h : Ev (fun k => impl_NegativeCycle.l3 k (lrounds (l.map tr) n (negInit n)).l (negC n (l.map tr) : Int) [] (negC n (l.map tr) : Int) (n : Int) l) R) : ∀ (d i : Nat), i + d = n →
    Ev (fun k => impl_NegativeCycle.l2 k (lrounds (l.map tr) n (negInit n)).l (parN (l.map tr) (negS n (l.map tr)) i (negV n (l.map tr)) : Int) (i : Int) (n : Int) l) R
  | 0, i, hd => by
    obtain rfl : i = n := by omega
    exact suc (fun k => by rw [impl_NegativeCycle.l2, if_neg (by omega)]; rfl) h
  | d + 1, i, hd => by
    have ih := iN2 n hn l hv N R h d (i + 1) (by omega)
    have a := N.last i
    have c := N.inn i
    have hg := good_rounds (es := l.map tr) n _ (good_neg n)
    have e1 : rd (lrounds (l.map tr) n (negInit n)).l (parN (l.map tr) (negS n (l.map tr)) i (negV n (l.map tr)) : Int) = (negS n (l.map tr)).l (parN (l.map tr) (negS n (l.map tr)) i (negV n (l.map tr))) := rfl
    have e2 := neg_par hv a
    have hlm : ((l.map tr).length : Int) = l.length := by simp
    rw [hlm] at a
    refine suc (fun k => ?_) ih
    have e3 : ((parN (l.map tr) (negS n (l.map tr)) (i + 1) (negV n (l.map tr)) : Nat) : Int) = (rd_T70 l ((negS n (l.map tr)).l (parN (l.map tr) (negS n (l.map tr)) i (negV n (l.map tr))))).f0 := by
      rw [tr0, e2]; rfl
    rw [impl_NegativeCycle.l2, e1, ← e3, if_pos (by omega), if_pos (by omega), if_pos (by rw [hg.2.1]; omega), if_pos a.1, if_pos a.2, up1 (by omega) (by omega)]; rfl
theorem iNeg (n : Int) (l : List S70) : Ev (fun k => impl_NegativeCycle.f k n l) (negM n (l.map tr)) := by
  unfold impl_NegativeCycle.f negM
  refine bnd (iGraphOk n l) ?_
  by_cases hg : graphOk n (l.map tr) = true
  · obtain ⟨h0, h8, hl, _⟩ := graphOk_iff hg
    have hl : l.length ≤ 80 := by simpa using hl
    have hv := valid_of hg
    refine ifp hg (ifp h0 (ifp (by omega) ?_))
    obtain ⟨m, rfl⟩ : ∃ m : Nat, n = (m : Int) := ⟨n.toNat, by omega⟩
    rw [Int.toNat_natCast] at hv ⊢
    have hrep : slices_Repeat_int_int.f [(-1)] (m : Int) = some (List.replicate m (-1)) := by
      unfold slices_Repeat_int_int.f
      rw [if_pos ⟨rfl, by omega, by omega⟩]; rfl
    refine bnd hrep ?_
    refine iNr m (by omega) l hl hv _ m 0 (negInit m) 0 (by omega) (good_neg m) rfl (small_neg m) (by omega) (by omega) ?_
    have ech : (lrounds (l.map tr) m (negInit m)).ch = (negS m (l.map tr)).ch := rfl
    by_cases hq : 0 ≤ (negS m (l.map tr)).ch
    · have N := neg_of hv hq
      obtain ⟨q, hq1, hq2, hq3, _, hq4⟩ := negT_eq N
      have h3 := iN3 m (by omega) l hv N q hq1 hq2 hq3 (q + 1) 0 (by omega)
      have h2 := iN2 m (by omega) l hv N _ h3 m 0 (by omega)
      rw [if_pos ⟨hg, hq⟩, hq4]
      refine suc (fun k => ?_) h2
      have hc := N.ch
      rw [List.length_map] at hc
      rw [impl_NegativeCycle.l0, if_neg (by omega), ech, if_neg (by omega), if_pos hq, if_pos (by omega), tr1]
      have e : (eAt (l.map tr) (negS m (l.map tr)).ch).2.1 = ((negV m (l.map tr) : Nat) : Int) := (neg_edge hv ⟨hq, by rw [List.length_map]; omega⟩).2
      rw [e]; rfl
    · refine eqr (suc (f := fun _ => some ([] : List Int)) (fun k => ?_) now) (if_neg (fun h => hq h.2)).symm
      rw [impl_NegativeCycle.l0, if_neg (by omega), ech, if_pos (by omega)]
  · exact eqr (ifn hg now) (if_neg (fun h => hg h.1)).symm
theorem iCons (n : Int) (l : List S76) : Ev (fun k => impl_IsConsistent.f k n l) (consM n (l.map trL)) := by
  unfold impl_IsConsistent.f consM
  refine bnd (iSimpleOk n l) ?_
  by_cases h : simpleOk n (l.map trL) = true
  · rw [if_pos h]
    have hN := iNeg n (lkS l)
    rw [lkS_tr] at hN
    have hG := iGraphOf n l
    unfold gOf at hG
    rw [if_pos h] at hG
    exact ifp h (bev hG (bev hN now))
  · rw [if_neg h]; exact ifn h now
def confM (n : Int) (ls : List L4) : List Int := if simpleOk n ls = true then (negM n (linksE ls)).map (fun k => rd (linksI 0 ls) k) else []
theorem confM_len (n : Int) (ls : List L4) : (confM n ls).length ≤ 8 := by
  unfold confM
  split
  · rw [List.length_map]; exact negM_len _ _
  · simp
theorem iCf_l (idx c : List Int) (hc : c.length ≤ 8) (hin : ∀ x ∈ c, 0 ≤ x ∧ x < idx.length) : ∀ (d i : Nat) (out : List Int), i + d = c.length → out.length ≤ i → Ev (fun k => impl_ConflictOf.l0 k idx out c (c.length : Int) (i : Int)) (out ++ (c.drop i).map (fun k => rd idx k))
  | 0, i, out, hd, ho => by
    rw [List.drop_eq_nil_of_le (by omega), List.map_nil, List.append_nil]
    exact suc (f := fun _ => some out) (fun k => by rw [impl_ConflictOf.l0, if_neg (by omega)]) now
  | d + 1, i, out, hd, ho => by
    have hi : i < c.length := by omega
    have e : rd c (i : Int) = c[i] := rd_at hi
    have hm := hin c[i] (List.getElem_mem _)
    have ih := iCf_l idx c hc hin d (i + 1) (out ++ [rd idx c[i]]) (by omega) (by simp only [List.length_append, List.length_cons, List.length_nil]; omega)
    rw [List.drop_eq_getElem_cons hi, List.map_cons]
    refine eqr (suc (fun k => ?_) ih) (by simp)
    rw [impl_ConflictOf.l0, if_pos (by omega), if_pos (by omega), if_pos (by omega), e, if_pos hm.1, if_pos hm.2, if_pos (by omega), up1 (by omega) (by omega)]; rfl

theorem iConf (n : Int) (l : List S76) : Ev (fun k => impl_ConflictOf.f k n l) (confM n (l.map trL)) := by
  unfold impl_ConflictOf.f confM
  refine bnd (iSimpleOk n l) ?_
  by_cases h : simpleOk n (l.map trL) = true
  · rw [if_pos h]
    have hN := iNeg n (lkS l)
    rw [lkS_tr] at hN
    have hc := iCf_l (linksI 0 (l.map trL)) (negM n (linksE (l.map trL))) (negM_len _ _) (fun x hx => by
      have := negM_in hx
      rw [linksI_len]; exact this) (negM n (linksE (l.map trL))).length 0 [] (by omega) (by simp)
    rw [List.drop_zero, List.nil_append] at hc
    exact ifp h (bev (iGr l h) (bev hN hc))
  · rw [if_neg h]; exact ifn h now
theorem and255 (n : Int) : Go.bits .and .i64 n 255 = n % 256 := by
  have h : (BitVec.ofInt 64 255).toNat = 2 ^ 8 - 1 := by decide
  have key : (BitVec.ofInt 64 n &&& BitVec.ofInt 64 255).toNat = (n % ((2 ^ 64 : Nat) : Int)).toNat % 2 ^ 8 := by
    rw [BitVec.toNat_and, BitVec.toNat_ofInt, h, Nat.and_two_pow_sub_one_eq_mod]
  show IntKind.i64.wrap ((BitVec.ofInt 64 n &&& BitVec.ofInt 64 255).toNat : Nat) = n % 256
  rw [key, IntKind.wrap_i64]
  omega
theorem byteM (s : List Int) (i h : Int) (hs : s.length ≤ 1048576) (h0 : 0 ≤ i) : ∃ b i' h', spec_l01Byte.f s i h = some (b, i', h') ∧ 0 ≤ b ∧ b < 256 ∧ 0 ≤ i' := by
  unfold spec_l01Byte.f
  by_cases c : i < (s.length : Int)
  · rw [if_pos c, if_pos h0, and255]
    refine ⟨_, _, _, rfl, ?_, ?_, ?_⟩
    · omega
    · omega
    · rw [w64 (by omega) (by omega)]; omega
  · rw [if_neg c, and255]
    exact ⟨_, _, _, rfl, by omega, by omega, h0⟩
theorem belowM (s : List Int) (i h : Int) (hs : s.length ≤ 1048576) (h0 : 0 ≤ i) (n : Int) (hn : 0 < n) (hn2 : n ≤ 256) : ∃ b i' h', spec_l01Below.f s i h n = some (b, i', h') ∧ 0 ≤ b ∧ b < n ∧ 0 ≤ i' := by
  obtain ⟨b, i', h', e, b0, b1, i0⟩ := byteM s i h hs h0
  unfold spec_l01Below.f
  rw [if_neg (by omega), if_pos hn2, e]
  simp only [Option.bind_some]
  rw [if_neg (by omega)]
  refine ⟨_, _, _, rfl, ?_, ?_, i0⟩
  · rw [Int.tmod_eq_emod_of_nonneg b0]; exact Int.emod_nonneg _ (by omega)
  · rw [Int.tmod_eq_emod_of_nonneg b0]; exact Int.emod_lt_of_pos _ hn
theorem newM_l (s : List Int) (hs : s.length ≤ 1048576) : ∀ (d : Nat) (i : Nat) (h : Int), i + d = s.length → ∃ h', Ev (fun k => spec_l01New.l0 k s h (i : Int)) (s, 0, h')
  | 0, i, h, hd => ⟨h, suc (f := fun _ => some (s, 0, h)) (fun k => by rw [spec_l01New.l0, if_neg (by omega)]) now⟩
  | d + 1, i, h, hd => by
    by_cases c : (i : Int) < 4000
    · obtain ⟨h', e⟩ := newM_l s hs d (i + 1) (Go.bits .and .i64 (wrap64 ((wrap64 ((wrap64 (h * 71)) + (wrap64 (rd s (i : Int))))) + 7)) 1073741823) (by omega)
      refine ⟨h', suc (fun k => ?_) e⟩
      rw [spec_l01New.l0, if_pos (by omega), if_pos c, if_pos (by omega), up1 (by omega) (by omega)]; rfl
    · exact ⟨h, suc (f := fun _ => some (s, 0, h)) (fun k => by rw [spec_l01New.l0, if_pos (by omega), if_neg c]) now⟩
theorem newM (s : List Int) (hs : s.length ≤ 1048576) : ∃ h', Ev (fun k => spec_l01New.f k s) (s, 0, h') := by
  unfold spec_l01New.f
  exact newM_l s hs s.length 0 _ (by omega)
theorem sfLoop_len (es : List E3) (n : Nat) : ∀ (d : Nat) (L : LS), GoodL n L → (sfLoop es d L).1.length ≤ n
  | 0, L, _ => by simp [sfLoop]
  | d + 1, L, h => by
    have h' := good_round (es := es) h
    simp only [sfLoop]
    split
    · show (finL _ _).length ≤ n
      rw [finL_len _ _ (by rw [h'.1, h'.2.2]), h'.1]
      exact Nat.le_refl _
    · exact sfLoop_len es n d _ h'
theorem sfM_len (n : Int) (es : List E3) (s : Int) : (sfM n es s).1.length ≤ 8 := by
  unfold sfM
  split
  · rename_i h
    have h1 := sfLoop_len es n.toNat n.toNat (sfInit n.toNat s.toNat) (good_init _ _)
    have := (graphOk_iff h.1).2.1
    omega
  · simp
theorem mono_step {es : List E3} {s : FS} {i v : Nat} (h : s.k v = true) : (fstep es i s).o v ≤ s.o v := by
  unfold fstep
  split
  · rename_i c
    by_cases e : v = To es i
    · subst e
      unfold improves at c
      simp only [h, Bool.and_eq_true, Bool.not_true, Bool.false_or, decide_eq_true_eq] at c
      simp only [upd_same]; omega
    · simp only [upd_ne _ _ e]; omega
  · omega
theorem mono_rnd {es : List E3} {v : Nat} : ∀ (d i : Nat) (s : FS), s.k v = true → (frnd es i d s).o v ≤ s.o v
  | 0, _, s, _ => Int.le_refl _
  | d + 1, i, s, h => Int.le_trans (mono_rnd d (i + 1) _ (known_step h)) (mono_step h)
theorem mono_rounds {es : List E3} {v : Nat} : ∀ (r : Nat) (s : FS), s.k v = true → (frounds es r s).o v ≤ s.o v
  | 0, s, _ => Int.le_refl _
  | r + 1, s, h => Int.le_trans (mono_rounds r _ (known_rnd es.length 0 _ h)) (mono_rnd es.length 0 { s with ch := -1 } h)
theorem sf_true (es : List E3) : ∀ (d : Nat) (L : LS), (sfLoop es d L).2 = true → ∃ r, r < d ∧ (lrounds es (r + 1) L).ch < 0 ∧ (sfLoop es d L).1 = finL (lrounds es (r + 1) L).o (lrounds es (r + 1) L).k
  | 0, L, h => by simp [sfLoop] at h
  | d + 1, L, h => by
    simp only [sfLoop] at h ⊢
    by_cases c : (lround es L).ch < 0
    · exact ⟨0, by omega, c, by rw [if_pos c]; rfl⟩
    · rw [if_neg c] at h ⊢
      obtain ⟨r, h1, h2, h3⟩ := sf_true es d _ h
      exact ⟨r + 1, by omega, h2, h3⟩
theorem sf_false (es : List E3) : ∀ (d : Nat) (L : LS), ¬ (sfLoop es d L).2 = true → ∀ r, r < d → 0 ≤ (lrounds es (r + 1) L).ch
  | 0, L, h => by intro r hr; omega
  | d + 1, L, h => by
    simp only [sfLoop] at h
    by_cases c : (lround es L).ch < 0
    · rw [if_pos c] at h; exact absurd rfl h
    · rw [if_neg c] at h
      intro r hr
      cases r with
      | zero => show 0 ≤ (lround es L).ch; omega
      | succ r => exact sf_false es d _ h r (by omega)
theorem sumP_walk {n : Nat} {es : List E3} (N : Neg n es) : ∀ m, Walk es (parN es (negS n es) m (negC n es)) (negC n es) (sumP es (negS n es) (negC n es) m)
  | 0 => Walk.nil _
  | m + 1 => by
    obtain ⟨a, b, _⟩ := neg_lastC N m
    have w := sumP_walk N m
    rw [← b] at w
    exact Walk.cons (by omega) w
theorem neg_walk {n : Nat} {es : List E3} (N : Neg n es) : ∃ c w, c < n ∧ Walk es c c w ∧ w < 0 := by
  obtain ⟨m, _, _, h1, _, h2⟩ := N.back
  have w := sumP_walk N m
  rw [h1] at w
  exact ⟨negC n es, _, (neg_lastC N 0).2.2, w, h2⟩
/-- No edge is too short for the numbers of the last round: no walk back is negative. -/
theorem no_walk {n : Nat} {es : List E3} (hv : ValidE n es) (h : (negS n es).ch < 0) {c : Nat} {w : Int} (hc : c < n) (hw : Walk es c c w) : 0 ≤ w := by
  obtain ⟨k, rfl⟩ : ∃ k, n = k + 1 := ⟨n - 1, by omega⟩
  have hk : ∀ s : FS, s.k c = true → (frounds es (k + 1) s).ch < 0 → 0 ≤ w := by
    intro s hs hq
    rw [frounds_succ] at hq
    exact no_neg (fround_quiet es _ hq).2 hw (known_rounds k s hs)
  rw [neg_fs hv] at h
  refine hk _ ?_ h
  show rb (List.replicate (k + 1) true) (c : Int) = true
  unfold rb rdOf
  simp [List.getD_eq_getElem?_getD, hc]
/-- What a told row of distances is: a state of numbers in which every edge holds. -/
structure Dist (n : Nat) (es : List E3) (s : Nat) (row : List Int) (F : FS) : Prop where
  len : row.length = n
  at_ : ∀ v, v < n → rd row (v : Int) = if F.k v = true then (if F.o v > 1000000 then 1000000 else F.o v) else 1000000
  holds_ : ∀ j, j < es.length → holds es F j
  sound : ∀ v, F.k v = true → ∃ a, Walk es s v a ∧ F.o v = a
  src : F.k s = true ∧ F.o s = 0
theorem fin_init (n s : Nat) (h : s < n) : (fsOf (sfInit n s)).k s = true ∧ (fsOf (sfInit n s)).o s = 0 ∧ ∀ u, (fsOf (sfInit n s)).k u = true → u = s := by
  refine ⟨?_, ?_, fun u hu => ?_⟩
  · show rb ((List.replicate n false).set s true) (s : Int) = true
    unfold rb rdOf; simp [List.getD_eq_getElem?_getD, h]
  · show rd (List.replicate n 0) (s : Int) = 0
    unfold rd; simp [List.getD_eq_getElem?_getD, h]
  · have hu : rb ((List.replicate n false).set s true) (u : Int) = true := hu
    by_cases e : u = s
    · exact e
    · exfalso
      unfold rb rdOf at hu
      simp only [Int.toNat_natCast, List.getD_eq_getElem?_getD] at hu
      rw [List.getElem?_set_ne (by omega)] at hu
      rw [List.getElem?_replicate] at hu
      split at hu <;> simp at hu
theorem sf_dist {n : Nat} {es : List E3} (hv : ValidE n es) {s : Nat} (hs : s < n) (h : (sfLoop es n (sfInit n s)).2 = true) : ∃ F, Dist n es s (sfLoop es n (sfInit n s)).1 F ∧ ∃ r, r < n ∧ F = fsOf (lrounds es (r + 1) (sfInit n s)) := by
  obtain ⟨r, hr, hq, e⟩ := sf_true es n _ h
  have hg := good_rounds (es := es) (r + 1) _ (good_init n s)
  have hf := fs_rounds hv (r + 1) _ (good_init n s)
  obtain ⟨i1, i2, i3⟩ := fin_init n s hs
  have hq' : (frounds es (r + 1) (fsOf (sfInit n s))).ch < 0 := by rw [← hf]; exact hq
  have hq2 := hq'
  rw [frounds_succ] at hq2
  obtain ⟨q1, q2⟩ := fround_quiet es _ hq2
  have hh : ∀ j, j < es.length → holds es (frounds es (r + 1) (fsOf (sfInit n s))) j := by
    intro j hj
    rw [frounds_succ, q1]
    exact q2 j hj
  have snd : Sound es (fsOf (sfInit n s)) (frounds es (r + 1) (fsOf (sfInit n s))) := sound_rounds (r + 1) _ (fun v hv => ⟨v, 0, hv, Walk.nil v, by omega⟩)
  have snd' : ∀ v, (frounds es (r + 1) (fsOf (sfInit n s))).k v = true → ∃ a, Walk es s v a ∧ (frounds es (r + 1) (fsOf (sfInit n s))).o v = a := by
    intro v hk
    obtain ⟨u, a, h1, h2, h3⟩ := snd v hk
    obtain rfl := i3 u h1
    rw [i2, Int.zero_add] at h3
    exact ⟨a, h2, h3⟩
  have ks := known_rounds (es := es) (r + 1) _ i1
  refine ⟨frounds es (r + 1) (fsOf (sfInit n s)), ⟨?_, ?_, hh, snd', ks, ?_⟩, r, hr, hf.symm⟩
  · rw [e, finL_len _ _ (by rw [hg.1, hg.2.2]), hg.1]
  · intro v hvn
    rw [e, finL_get _ _ v (by rw [hg.1, hg.2.2]) (by rw [hg.1]; exact hvn), ← hf]
    rfl
  · obtain ⟨a, h1, h2⟩ := snd' s ks
    have h3 := no_neg hh h1 ks
    have h4 := mono_rounds (es := es) (r + 1) _ i1
    omega
theorem sf_ok {n : Nat} {es : List E3} (hv : ValidE n es) (hq : (negS n es).ch < 0) {s : Nat} (hs : s < n) : (sfLoop es n (sfInit n s)).2 = true := by
  refine Classical.byContradiction fun h => ?_
  have h1 := sf_false es n _ h (n - 1) (by omega)
  rw [show n - 1 + 1 = n by omega] at h1
  have h2 : 0 ≤ (frounds es n (fsOf (sfInit n s))).ch := by rw [← fs_rounds hv n _ (good_init n s)]; exact h1
  have hI := neg_of_change n (by omega) (valid_nodes hv) _ h2
  obtain ⟨v, w, _, h3, h4⟩ := hI
  have hvn : v < n := by
    cases h3 with
    | nil => omega
    | cons hi _ => exact (valid_nodes hv _ hi).1
  have := no_walk hv hq hvn h3
  omega
theorem sf_bad {n : Nat} {es : List E3} (hv : ValidE n es) (hq : 0 ≤ (negS n es).ch) : ∃ c, c < n ∧ ¬ (sfLoop es n (sfInit n c)).2 = true := by
  obtain ⟨c, w, hc, h1, h2⟩ := neg_walk (neg_of hv hq)
  refine ⟨c, hc, fun h => ?_⟩
  obtain ⟨F, D, _⟩ := sf_dist hv hc h
  have := no_neg D.holds_ h1 D.src.1
  omega
theorem eAt_app {es fs : List E3} {i : Nat} (h : i < es.length) : eAt (es ++ fs) (i : Int) = eAt es (i : Int) := by
  unfold eAt
  simp only [Int.toNat_natCast, List.getD_eq_getElem?_getD]
  rw [List.getElem?_append_left h]
theorem Fr_app {es fs : List E3} {i : Nat} (h : i < es.length) : Fr (es ++ fs) i = Fr es i := by unfold Fr; rw [eAt_app h]
theorem To_app {es fs : List E3} {i : Nat} (h : i < es.length) : To (es ++ fs) i = To es i := by unfold To; rw [eAt_app h]
theorem Wt_app {es fs : List E3} {i : Nat} (h : i < es.length) : Wt (es ++ fs) i = Wt es i := by unfold Wt; rw [eAt_app h]
theorem walk_more {es : List E3} {u v : Nat} {a : Int} (h : Walk es u v a) (fs : List E3) : Walk (es ++ fs) u v a := by
  induction h with
  | nil v => exact Walk.nil v
  | cons hi _ ih =>
    rw [← To_app (fs := fs) hi] at ih
    have := Walk.cons (es := es ++ fs) (by rw [List.length_append]; omega) ih
    rwa [Fr_app hi, Wt_app hi] at this
theorem valid_app {n : Nat} {es fs : List E3} (h : ValidE n (es ++ fs)) : ValidE n es := fun i hi => by
  have := h i (by rw [List.length_append]; omega)
  rwa [eAt_app hi] at this
/-- A cycle that has no new edge is a cycle of the old graph. -/
theorem old_cycle {n : Nat} {es fs : List E3} (hv : ValidE n (es ++ fs)) (hq : (negS n es).ch < 0) (h : 0 ≤ (negS n (es ++ fs)).ch) : ∃ k, k ∈ negT n (es ++ fs) ∧ (es.length : Int) ≤ k := by
  have N := neg_of hv h
  obtain ⟨m, hm, h1, _, h2, e⟩ := negT_eq N
  refine Classical.byContradiction fun hno => ?_
  have hall : ∀ j, j < m + 1 → (negS n (es ++ fs)).l (parN (es ++ fs) (negS n (es ++ fs)) j (negC n (es ++ fs))) < es.length := fun j hj => by
    rcases Int.lt_or_le ((negS n (es ++ fs)).l (parN (es ++ fs) (negS n (es ++ fs)) j (negC n (es ++ fs)))) es.length with h3 | h3
    · exact h3
    · exact absurd ⟨_, by rw [e, List.mem_map]; exact ⟨j, List.mem_range.2 hj, rfl⟩, h3⟩ hno
  have hw : ∀ j, j ≤ m + 1 → Walk es (parN (es ++ fs) (negS n (es ++ fs)) j (negC n (es ++ fs))) (negC n (es ++ fs)) (sumP (es ++ fs) (negS n (es ++ fs)) (negC n (es ++ fs)) j) := by
    intro j
    induction j with
    | zero => intro _; exact Walk.nil _
    | succ j ih =>
      intro hj
      obtain ⟨a, b, _⟩ := neg_lastC N j
      have hlt := hall j (by omega)
      have w := ih (by omega)
      have hi : ((negS n (es ++ fs)).l (parN (es ++ fs) (negS n (es ++ fs)) j (negC n (es ++ fs)))).toNat < es.length := by omega
      rw [← b, To_app hi] at w
      have := Walk.cons hi w
      rw [← Fr_app (fs := fs) hi, ← Wt_app (fs := fs) hi] at this
      exact this
  have w := hw (m + 1) (Nat.le_refl _)
  rw [h1] at w
  have := no_walk (valid_app hv) hq (neg_lastC N 0).2.2 w
  omega
theorem linksE_app : ∀ (ls ms : List L4), linksE (ls ++ ms) = linksE ls ++ linksE ms
  | [], ms => rfl
  | l :: ls, ms => by simp only [List.cons_append, linksE, linksE_app ls ms, List.append_assoc]
theorem linksI_app : ∀ (ls ms : List L4) (i : Nat), linksI i (ls ++ ms) = linksI i ls ++ linksI (i + ls.length) ms
  | [], ms, i => rfl
  | l :: ls, ms, i => by
    simp only [List.cons_append, linksI, linksI_app ls ms, List.append_assoc, List.length_cons]
    rw [show i + 1 + ls.length = i + (ls.length + 1) by omega]
theorem linkI_val {i : Nat} {l : L4} {x : Int} (h : x ∈ linkI i l) : x = i := by
  unfold linkI at h
  rw [List.mem_append] at h
  rcases h with h | h
  · split at h
    · simp at h
    · simpa using h
  · split at h
    · simp at h
    · simpa using h
/-- The conflict that a new link makes holds this link. -/
theorem conf_new {n : Int} {ls : List L4} {l : L4} (hs : simpleOk n (ls ++ [l]) = true) (h0 : negM n (linksE ls) = []) (h1 : negM n (linksE (ls ++ [l])) ≠ []) : (ls.length : Int) ∈ confM n (ls ++ [l]) := by
  have hg := linksE_ok hs
  have c : graphOk n (linksE (ls ++ [l])) = true ∧ 0 ≤ (negS n.toNat (linksE (ls ++ [l]))).ch := Classical.byContradiction fun c => h1 (negM_nil.2 c)
  have e : linksE (ls ++ [l]) = linksE ls ++ linkE l := by rw [linksE_app]; simp [linksE]
  have hs' : simpleOk n ls = true := by
    unfold simpleOk at hs ⊢
    rw [Bool.and_eq_true, decide_eq_true_eq, List.all_append, Bool.and_eq_true] at hs
    rw [Bool.and_eq_true, decide_eq_true_eq]
    have := hs.1
    rw [List.length_append] at this
    exact ⟨⟨this.1, this.2.1, by omega⟩, hs.2.1⟩
  have hq : (negS n.toNat (linksE ls)).ch < 0 := by
    have := negM_nil.1 h0
    rcases Int.lt_or_le (negS n.toNat (linksE ls)).ch 0 with h | h
    · exact h
    · exact absurd ⟨linksE_ok hs', h⟩ this
  have hv := valid_of hg
  have c2 := c.2
  rw [e] at hv c2
  obtain ⟨k, hk, hk2⟩ := old_cycle hv hq c2
  rw [← e] at hk
  have hm : k ∈ negM n (linksE (ls ++ [l])) := by
    unfold negM; rw [if_pos c, List.mem_reverse]; exact hk
  have hin := negM_in hm
  have hlen : (linksI 0 (ls ++ [l])).length = (linksE (ls ++ [l])).length := linksI_len _ _
  have hl0 : (linksI 0 ls).length = (linksE ls).length := linksI_len _ _
  unfold confM
  rw [if_pos hs, List.mem_map]
  refine ⟨k, hm, ?_⟩
  have e2 : linksI 0 (ls ++ [l]) = linksI 0 ls ++ linkI ls.length l := by rw [linksI_app, Nat.zero_add]; simp [linksI]
  obtain ⟨m, rfl⟩ : ∃ m : Nat, k = (m : Int) := ⟨k.toNat, by omega⟩
  have hmlt : m < (linksI 0 (ls ++ [l])).length := by omega
  rw [rd_at hmlt]
  apply linkI_val (i := ls.length) (l := l)
  have e3 : (linksI 0 (ls ++ [l]))[m] = (linkI ls.length l)[m - (linksI 0 ls).length]'(by rw [e2, List.length_append] at hmlt; omega) := by
    simp only [e2]
    rw [List.getElem_append_right (by omega)]
  rw [e3]
  exact List.getElem_mem _
/-- What the drawn networks are: each link is one of n events, its span is one. -/
def lkGood (n : Int) (e : S76) : Prop := linkOk n (trL e) = true
theorem mkGood {n a b lo hi : Int} (ha : 0 ≤ a ∧ a < n) (hb : 0 ≤ b ∧ b < n) (h : okB lo hi = true) : lkGood n ⟨a, b, ⟨lo, hi⟩⟩ := by
  unfold lkGood linkOk trL
  rw [Bool.and_eq_true, decide_eq_true_eq]
  exact ⟨⟨ha, hb⟩, h⟩
theorem spanM (s : List Int) (i h : Int) (hs : s.length ≤ 1048576) (h0 : 0 ≤ i) : ∃ lo hi i' h', spec_l02Draw.f s i h = some (lo, hi, i', h') ∧ okB lo hi = true ∧ 0 ≤ i' := by
  obtain ⟨a, i1, h1, e1, a0, a1, p1⟩ := belowM s i h hs h0 21 (by omega) (by omega)
  obtain ⟨b, i2, h2, e2, b0, b1, p2⟩ := belowM s i1 h1 hs p1 8 (by omega) (by omega)
  obtain ⟨c, i3, h3, e3, c0, c1, p3⟩ := belowM s i2 h2 hs p2 8 (by omega) (by omega)
  unfold spec_l02Draw.f spec_l02Bounded.f
  rw [e1]
  simp only [Option.bind_some]
  rw [e2]
  simp only [Option.bind_some]
  rw [e3]
  simp only [Option.bind_some]
  rw [w64 (i := a - 10) (by omega) (by omega), w64 (i := a - 10 + b) (by omega) (by omega)]
  by_cases k0 : c = 0
  · rw [if_pos k0]; exact ⟨_, _, _, _, rfl, okB_iff.2 ⟨by omega, by omega, by omega, by omega, by omega⟩, p3⟩
  · rw [if_neg k0]
    by_cases k1 : c = 1
    · rw [if_pos k1]; exact ⟨_, _, _, _, rfl, okB_iff.2 ⟨by omega, by omega, by omega, by omega, by omega⟩, p3⟩
    · rw [if_neg k1]
      by_cases k2 : c = 2
      · rw [if_pos k2]; exact ⟨_, _, _, _, rfl, okB_iff.2 ⟨by omega, by omega, by omega, by omega, by omega⟩, p3⟩
      · rw [if_neg k2]; exact ⟨_, _, _, _, rfl, okB_iff.2 ⟨by omega, by omega, by omega, by omega, by omega⟩, p3⟩
theorem drawS1 (s : List Int) (hs : s.length ≤ 1048576) (n : Int) (hn : 2 ≤ n ∧ n ≤ 5) : ∀ (d : Nat) (i h : Int) (l : List S76), 0 ≤ i → l.length + d ≤ 40 → (∀ e ∈ l, lkGood n e) → ∃ l' i' h', Ev (fun k => spec_l05Draw.l1 k (d : Int) s i h n l) (n, l', i', h') ∧ l'.length ≤ 40 ∧ (∀ e ∈ l', lkGood n e)
  | 0, i, h, l, h0, hl, he => ⟨l, i, h, suc (f := fun _ => some (n, l, i, h)) (fun k => by rw [spec_l05Draw.l1, if_neg (by omega)]) now, by omega, he⟩
  | d + 1, i, h, l, h0, hl, he => by
    obtain ⟨a, i1, h1, e1, a0, a1, p1⟩ := belowM s i h hs h0 n (by omega) (by omega)
    obtain ⟨b, i2, h2, e2, b0, b1, p2⟩ := belowM s i1 h1 hs p1 n (by omega) (by omega)
    obtain ⟨lo, hi, i3, h3, e3, hok, p3⟩ := spanM s i2 h2 hs p2
    obtain ⟨l', i', h', e, x, y⟩ := drawS1 s hs n hn d i3 h3 (l ++ [(⟨a, b, ⟨lo, hi⟩⟩ : S76)]) p3 (by simp only [List.length_append, List.length_cons, List.length_nil]; omega) (fun z hz => by
      rcases List.mem_append.1 hz with hz | hz
      · exact he z hz
      · rw [List.mem_singleton.1 hz]; exact mkGood ⟨a0, a1⟩ ⟨b0, b1⟩ hok)
    refine ⟨l', i', h', suc (fun k => ?_) e, x, y⟩
    rw [spec_l05Draw.l1, if_pos (by omega), e1]
    simp only [Option.bind_some]
    rw [e2]
    simp only [Option.bind_some]
    rw [e3]
    simp only [Option.bind_some]
    rw [if_pos (by omega), w64 (i := ((d + 1 : Nat) : Int) - 1) (by omega) (by omega), show ((d + 1 : Nat) : Int) - 1 = (d : Int) by omega]
theorem drawS0 (s : List Int) (hs : s.length ≤ 1048576) (n : Int) (hn : 2 ≤ n ∧ n ≤ 5) : ∀ (d : Nat) (j i h : Int) (l : List S76), 1 ≤ j → j + d = n → 0 ≤ i → l.length + d ≤ 30 → (∀ e ∈ l, lkGood n e) → ∃ l' i' h', Ev (fun k => spec_l05Draw.l0 k j s i h n l) (n, l', i', h') ∧ l'.length ≤ 40 ∧ (∀ e ∈ l', lkGood n e)
  | 0, j, i, h, l, hj, hjd, h0, hl, he => by
    obtain ⟨c, i1, h1, e1, c0, c1, p1⟩ := belowM s i h hs h0 4 (by omega) (by omega)
    obtain ⟨l', i', h', e, x, y⟩ := drawS1 s hs n hn c.toNat i1 h1 l p1 (by omega) he
    rw [Int.toNat_of_nonneg c0] at e
    refine ⟨l', i', h', suc (fun k => ?_) e, x, y⟩
    rw [spec_l05Draw.l0, if_neg (by omega), e1]; rfl
  | d + 1, j, i, h, l, hj, hjd, h0, hl, he => by
    obtain ⟨a, i1, h1, e1, a0, a1, p1⟩ := belowM s i h hs h0 5 (by omega) (by omega)
    obtain ⟨b, i2, h2, e2, b0, b1, p2⟩ := belowM s i1 h1 hs p1 j (by omega) (by omega)
    obtain ⟨c, i3, h3, e3, c0, c1, p3⟩ := belowM s i2 h2 hs p2 6 (by omega) (by omega)
    have hw : wrap64 (a + c) = a + c := w64 (by omega) (by omega)
    obtain ⟨l', i', h', e, x, y⟩ := drawS0 s hs n hn d (j + 1) i3 h3 (l ++ [(⟨b, j, ⟨a, wrap64 (a + c)⟩⟩ : S76)]) (by omega) (by omega) p3 (by simp only [List.length_append, List.length_cons, List.length_nil]; omega) (fun z hz => by
      rcases List.mem_append.1 hz with hz | hz
      · exact he z hz
      · rw [List.mem_singleton.1 hz, hw]; exact mkGood ⟨b0, by omega⟩ ⟨by omega, by omega⟩ (okB_iff.2 ⟨by omega, by omega, by omega, by omega, by omega⟩))
    refine ⟨l', i', h', suc (fun k => ?_) e, x, y⟩
    rw [spec_l05Draw.l0, if_pos (by omega), e1]
    simp only [Option.bind_some]
    rw [e2]
    simp only [Option.bind_some]
    rw [e3]
    simp only [Option.bind_some]
    rw [if_pos (by omega), w64 (i := j + 1) (by omega) (by omega)]
theorem makeS (s : List Int) (hs : s.length ≤ 1048576) : ∃ n l, Ev (fun k => spec_MakeSimple.f k s) (n, l) ∧ 2 ≤ n ∧ n ≤ 5 ∧ l.length ≤ 40 ∧ ∀ e ∈ l, lkGood n e := by
  obtain ⟨h, e⟩ := newM s hs
  obtain ⟨a, i1, h1, e1, a0, a1, p1⟩ := belowM s 0 h hs (by omega) 4 (by omega) (by omega)
  obtain ⟨l', i', h', e2, x, y⟩ := drawS0 s hs (2 + a) ⟨by omega, by omega⟩ (1 + a).toNat 1 i1 h1 [] (by omega) (by omega) p1 (by simp only [List.length_nil]; omega) (fun z hz => by simp at hz)
  refine ⟨2 + a, l', ?_, by omega, by omega, x, y⟩
  unfold spec_MakeSimple.f
  refine bev e (bev (a := (2 + a, l', i', h')) ?_ now)
  unfold spec_l05Draw.f
  refine bnd e1 ?_
  rw [w64 (by omega) (by omega)]
  exact e2
theorem good_simple {n : Int} {l : List S76} (hn : 1 ≤ n ∧ n ≤ 8) (hl : l.length ≤ 40) (he : ∀ e ∈ l, lkGood n e) : simpleOk n (l.map trL) = true := by
  unfold simpleOk
  rw [Bool.and_eq_true, decide_eq_true_eq, List.all_eq_true]
  refine ⟨⟨hn.1, hn.2, by rw [List.length_map]; exact hl⟩, fun x hx => ?_⟩
  obtain ⟨y, hy, rfl⟩ := List.mem_map.1 hx
  exact he y hy

theorem conf_l1 (n : Int) (q : List S76) (m : Int) (p : List S76) (hp : 1 ≤ p.length ∧ p.length ≤ 100) (hq : consM n (q.map trL) = true) (c : List Int) (hc : c.length ≤ 8) : ∀ (d i : Nat), i + d = c.length → ((p.length : Int) - 1) ∈ c.drop i → Ev (fun k => laws_FnConflicts.l1 k c (c.length : Int) (i : Int) n q m p) true
  | 0, i, hd, hin => by
    rw [List.drop_eq_nil_of_le (by omega)] at hin
    simp at hin
  | d + 1, i, hd, hin => by
    have hi : i < c.length := by omega
    have e : rd c (i : Int) = c[i] := rd_at hi
    have hw : wrap64 ((p.length : Int) - 1) = (p.length : Int) - 1 := w64 (by omega) (by omega)
    rw [List.drop_eq_getElem_cons hi, List.mem_cons] at hin
    by_cases h : c[i] = (p.length : Int) - 1
    · have hI := iCons n q
      rw [hq] at hI
      refine suc (f := fun k => (impl_IsConsistent.f k n q).bind fun t313 => some t313) (fun k => ?_) (bev hI now)
      rw [laws_FnConflicts.l1, if_pos (by omega), if_pos (by omega), if_pos (by omega), e, hw, if_pos h]
    · have ih := conf_l1 n q m p hp hq c hc d (i + 1) (by omega) (by
        rcases hin with hin | hin
        · exact absurd hin.symm h
        · exact hin)
      refine suc (fun k => ?_) ih
      rw [laws_FnConflicts.l1, if_pos (by omega), if_pos (by omega), if_pos (by omega), e, hw, if_neg h, up1 (by omega) (by omega)]; rfl
theorem conf_l (n : Int) (g : List S76) (hn : 1 ≤ n ∧ n ≤ 8) (hl : g.length ≤ 40) (hg : ∀ e ∈ g, lkGood n e) : ∀ (d i : Nat), i + d = g.length → consM n ((g.take i).map trL) = true → Ev (fun k => laws_FnConflicts.l0 k g (g.length : Int) (i : Int) n g n (g.take i)) true
  | 0, i, hd, hc => by
    have e : g.take i = g := List.take_of_length_le (by omega)
    rw [e] at hc ⊢
    have hI := iCons n g
    rw [hc] at hI
    refine suc (f := fun k => (impl_IsConsistent.f k n g).bind fun t299 => (if t299 = true then (some ((g.length : Int) == (g.length : Int))) else (some false))) (fun k => ?_) (bev hI (ifp rfl ?_))
    · rw [laws_FnConflicts.l0, if_neg (by omega)]
    · simp only [beq_self_eq_true]; exact now
  | d + 1, i, hd, hc => by
    have hi : i < g.length := by omega
    have e : rd_T76 g (i : Int) = g[i] := by unfold rd_T76; simp [List.getD_eq_getElem?_getD, hi]
    have e2 : g.take i ++ [g[i]] = g.take (i + 1) := by rw [List.take_succ_eq_append_getElem hi]
    have hk : ∀ j, ∀ z ∈ g.take j, lkGood n z := fun j z hz => hg z (List.mem_of_mem_take hz)
    have hs : ∀ j, simpleOk n ((g.take j).map trL) = true := fun j => good_simple hn (by rw [List.length_take]; omega) (hk j)
    have hW := iWith n (g.take i) g[i].f0 g[i].f1 g[i].f2.f0 g[i].f2.f1 (by rw [List.length_take]; omega)
    have e3 : (⟨g[i].f0, g[i].f1, ⟨g[i].f2.f0, g[i].f2.f1⟩⟩ : S76) = g[i] := rfl
    have hw : withM n (g.take i) g[i] = (n, g.take (i + 1), true) := by
      unfold withM
      rw [e2, if_pos ⟨hs i, hs (i + 1)⟩]
    rw [e3, hw] at hW
    have hI := iCons n (g.take (i + 1))
    have hlt : (g.take (i + 1)).length = i + 1 := by rw [List.length_take]; omega
    refine suc (f := fun k => (impl_WithLink.f n (g.take i) g[i].f0 g[i].f1 g[i].f2.f0 g[i].f2.f1).bind fun bt302 => (if bt302.2.2 = true then ((impl_IsConsistent.f k bt302.1 bt302.2.1).bind fun t308 => (if t308 = true then (laws_FnConflicts.l0 k g (g.length : Int) ((i + 1 : Nat) : Int) n g bt302.1 bt302.2.1) else ((impl_ConflictOf.f k bt302.1 bt302.2.1).bind fun t309 => (laws_FnConflicts.l1 k t309 (t309.length : Int) 0 n (g.take i) bt302.1 bt302.2.1)))) else (some false))) (fun k => ?_) (bnd hW (ifp rfl (bev hI ?_)))
    · rw [laws_FnConflicts.l0, if_pos (by omega), if_pos (by omega), if_pos (by omega), e, up1 (by omega) (by omega)]; rfl
    · by_cases hc2 : consM n ((g.take (i + 1)).map trL) = true
      · exact ifp hc2 (conf_l n g hn hl hg d (i + 1) (by omega) hc2)
      · refine ifn hc2 (bev (iConf n (g.take (i + 1))) ?_)
        have h0 : negM n (linksE ((g.take i).map trL)) = [] := by
          unfold consM at hc
          rw [if_pos (hs i)] at hc
          exact List.isEmpty_iff.1 hc
        have h1 : negM n (linksE ((g.take i).map trL ++ [trL g[i]])) ≠ [] := by
          intro h
          apply hc2
          unfold consM
          rw [if_pos (hs (i + 1)), ← e2, List.map_append]
          simp only [List.map_cons, List.map_nil]
          rw [h]; rfl
        have hs2 : simpleOk n ((g.take i).map trL ++ [trL g[i]]) = true := by
          have := hs (i + 1)
          rw [← e2, List.map_append] at this
          exact this
        have hin := conf_new hs2 h0 h1
        have e4 : (g.take i).map trL ++ [trL g[i]] = (g.take (i + 1)).map trL := by rw [← e2, List.map_append]; rfl
        rw [e4, List.length_map] at hin
        have hlti : (g.take i).length = i := by rw [List.length_take]; omega
        refine conf_l1 n (g.take i) n (g.take (i + 1)) (by rw [hlt]; omega) hc _ (confM_len _ _) _ 0 (Nat.zero_add _) ?_
        rw [List.drop_zero, hlt]
        rw [hlti] at hin
        have e5 : (((i + 1 : Nat) : Int) - 1) = (i : Int) := by omega
        rw [e5]; exact hin

theorem FnConflicts : laws_FnConflicts.Pure := by
  intro l hl _
  refine Ev.rounds ?_
  unfold laws_FnConflicts.f
  by_cases hx : (l.length : Int) > 1048576
  · exact ifp hx now
  refine ifn hx ?_
  obtain ⟨n, g, hm, n2, n5, hlen, hgood⟩ := makeS l (by omega)
  refine bev hm ?_
  have c0 : consM n (([] : List S76).map trL) = true := by
    have hs : simpleOk n (([] : List S76).map trL) = true := good_simple ⟨by omega, by omega⟩ (by simp) (fun z hz => by simp at hz)
    unfold consM
    rw [if_pos hs]
    have : negM n (linksE (([] : List S76).map trL)) = [] := by
      refine negM_nil.2 (fun h => ?_)
      have N := neg_of (valid_of h.1) h.2
      have := N.ch
      simp [linksE] at this
    rw [this]; rfl
  exact conf_l n g ⟨by omega, by omega⟩ hlen hgood g.length 0 (by omega) (by rw [List.take_zero]; exact c0)

end Go.Proofs.Ytbbblnmngjhadaa.Own
