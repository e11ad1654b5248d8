/- The law FnDistances answers true for every code. No condition. -/
import Derived.Test.YtbbblnmngjhadaaQFnDistancesx9
import Derived.Test.YtbbblnmngjhadaaNc
namespace Go.Proofs.Ytbbblnmngjhadaa.Own
open Go.RowKit Go.Proofs.Ytbbblnmngjhadaa.QFnDistances Go.Proofs.YtbbblnmngjhadaaW.PrintWords Go.Proofs.YtbbblnmngjhadaaW.PrintLast Go.Proofs.YtbbblnmngjhadaaW.PrintMore Go.Proofs.YtbbblnmngjhadaaT Go.Proofs.YtbbblnmngjhadaaT Go.Proofs.YtbbblnmngjhadaaT
set_option linter.unusedVariables false
set_option linter.unusedSimpArgs false

theorem rd_mid (a b : List Int) (x : Int) : rd (a ++ x :: b) (a.length : Int) = x := by unfold rd; simp [List.getD_eq_getElem?_getD]
theorem rb_mid (a b : List Bool) (x : Bool) {n : Nat} (h : a.length = n) : rdOf false (a ++ x :: b) (n : Int) = x := by subst h; unfold rdOf; simp [List.getD_eq_getElem?_getD]
theorem set_mid (a b : List Int) (x y : Int) : (a ++ x :: b).set (a.length : Int).toNat y = a ++ y :: b := by simp
theorem rev_l : ∀ (n : Nat) (mid p q : List Int), mid.length = n → p.length = q.length → p.length + q.length + mid.length ≤ 1000000 → Ev (fun k => slices_Reverse_int_int.l0 k (p ++ (mid ++ q)) (p.length : Int) ((p.length : Int) + mid.length - 1)) (p ++ (mid.reverse ++ q)) := by
  intro n
  induction n using Nat.strongRecOn with
  | _ n ih =>
    intro mid p q hn hp hb
    cases mid with
    | nil => exact suc (f := fun _ => some (p ++ ([] ++ q))) (fun k => by rw [slices_Reverse_int_int.l0, if_neg (by simp only [List.length_nil]; omega)]) now
    | cons a t =>
      rcases List.eq_nil_or_concat t with h | ⟨m, b, h⟩
      · subst h
        exact suc (f := fun _ => some (p ++ ([a] ++ q))) (fun k => by rw [slices_Reverse_int_int.l0, if_neg (by simp only [List.length_cons, List.length_nil]; omega)]) now
      · rw [List.concat_eq_append] at h
        subst h
        simp only [List.length_cons, List.length_append, List.length_nil] at hn hb
        have e1 : p ++ (a :: (m ++ [b]) ++ q) = p ++ a :: (m ++ b :: q) := by simp
        have e2 : p ++ a :: (m ++ b :: q) = (p ++ a :: m) ++ b :: q := by simp
        have hlen : ((p ++ a :: (m ++ b :: q)).length : Int) = (p.length : Int) + (m.length + 2) + q.length := by simp only [List.length_append, List.length_cons]; omega
        have r1 : rd (p ++ a :: (m ++ b :: q)) (p.length : Int) = a := rd_mid _ _ _
        have el : (p.length : Int) + ((a :: (m ++ [b])).length : Int) - 1 = ((p ++ a :: m).length : Int) := by simp only [List.length_append, List.length_cons, List.length_nil]; omega
        have r2 : rd (p ++ a :: (m ++ b :: q)) ((p ++ a :: m).length : Int) = b := by rw [e2]; exact rd_mid _ _ _
        have r3 : ((p ++ a :: (m ++ b :: q)).set (p.length : Int).toNat b).set ((p ++ a :: m).length : Int).toNat a = (p ++ [b]) ++ (m ++ (a :: q)) := by
          rw [set_mid]
          have e3 : p ++ b :: (m ++ b :: q) = (p ++ b :: m) ++ b :: q := by simp
          have e4 : (p ++ a :: m).length = (p ++ b :: m).length := by simp
          rw [e3, e4, set_mid]; simp
        have ih' := ih m.length (by omega) m (p ++ [b]) (a :: q) rfl (by simp [hp]) (by simp only [List.length_append, List.length_cons, List.length_nil]; omega)
        rw [e1, el]
        refine eqr (suc (fun k => ?_) ih') (by simp)
        have hl2 : ((p ++ a :: m).length : Int) = p.length + (m.length + 1) := by simp only [List.length_append, List.length_cons]; omega
        rw [slices_Reverse_int_int.l0, if_pos (by omega), if_pos (by omega), if_pos (by omega), if_pos (by omega), if_pos (by omega), r1, r2, r3, hl2, w64 (i := (p.length : Int) + 1) (by omega) (by omega), w64 (by omega) (by omega)]
        have h5 : ((p ++ [b]).length : Int) = (p.length : Int) + 1 := by simp
        rw [h5]
        congr 1
        omega
theorem revM (l : List Int) (h : l.length ≤ 1000) : Ev (fun k => slices_Reverse_int_int.f k l) l.reverse := by
  unfold slices_Reverse_int_int.f
  have := rev_l l.length l [] [] rfl rfl (by simp only [List.length_nil]; omega)
  simp only [List.nil_append, List.append_nil, List.length_nil] at this
  rw [w64 (by omega) (by omega)]
  refine Ev.congr (fun k => ?_) this
  congr 1
  omega
def tr (e : S70) : E3 := (e.f0, e.f1, e.f2)
theorem tr_rd (l : List S70) (p : Int) : eAt (l.map tr) p = tr (rd_T70 l p) := by
  unfold eAt rd_T70
  simp only [List.getD_eq_getElem?_getD, List.getElem?_map]
  cases l[p.toNat]? <;> rfl
theorem tr0 (l : List S70) (p : Int) : (rd_T70 l p).f0 = (eAt (l.map tr) p).1 := by rw [tr_rd]; rfl
theorem tr1 (l : List S70) (p : Int) : (rd_T70 l p).f1 = (eAt (l.map tr) p).2.1 := by rw [tr_rd]; rfl
theorem tr2 (l : List S70) (p : Int) : (rd_T70 l p).f2 = (eAt (l.map tr) p).2.2 := by rw [tr_rd]; rfl
theorem rdE_at {l : List S70} {i : Nat} (h : i < l.length) : rd_T70 l (i : Int) = l[i] := by
  unfold rd_T70; simp [List.getD_eq_getElem?_getD, h]
/-- What both programs know of the last round's parents. -/
theorem neg_edge {n : Nat} {es : List E3} (hv : ValidE n es) {k : Int} (hk : 0 ≤ k ∧ k < es.length) : (eAt es k).1 = ((Fr es k.toNat : Nat) : Int) ∧ (eAt es k).2.1 = ((To es k.toNat : Nat) : Int) := by
  have h := hv k.toNat (by omega)
  have e : eAt es k = eAt es ((k.toNat : Nat) : Int) := rfl
  unfold Fr To
  rw [e]
  omega
theorem neg_par {n : Nat} {es : List E3} (hv : ValidE n es) {s : FS} {a : Nat} (hk : 0 ≤ s.l a ∧ s.l a < es.length) : (eAt es (s.l a)).1 = ((par es s a : Nat) : Int) := (neg_edge hv hk).1
theorem all_step {n : Nat} {es : List E3} {L : LS} (i : Nat) (h : L.k = List.replicate n true) : (lstep es i L).k = List.replicate n true := by
  unfold lstep
  split
  · show L.k.set _ true = _
    rw [h]; simp
  · exact h
theorem all_rnd {n : Nat} {es : List E3} : ∀ (d i : Nat) (L : LS), L.k = List.replicate n true → (lrnd es i d L).k = List.replicate n true
  | 0, _, _, h => h
  | d + 1, i, L, h => all_rnd d (i + 1) _ (all_step i h)
theorem all_round {n : Nat} {es : List E3} {L : LS} (h : L.k = List.replicate n true) : (lround es L).k = List.replicate n true := all_rnd _ _ _ h
def trl (s : FS) (es : List E3) (c : Nat) (i : Nat) : List Int := (List.range i).map fun j => s.l (parN es s j c)
theorem trl_succ (s : FS) (es : List E3) (c i : Nat) : trl s es c (i + 1) = trl s es c i ++ [s.l (parN es s i c)] := by unfold trl; rw [List.range_succ, List.map_append]; rfl
theorem trl_len (s : FS) (es : List E3) (c i : Nat) : (trl s es c i).length = i := by unfold trl; simp
theorem badE (n : Int) (e : S70) : badEdge n e = !(edgeOk n (tr e)) := by
  unfold badEdge gNodeB gWeightB edgeOk tr
  rw [Bool.eq_iff_iff]
  simp only [Bool.or_eq_true, Bool.not_eq_true', decide_eq_false_iff_not]
  by_cases h1 : 0 ≤ e.f0 ∧ e.f0 < n <;> by_cases h2 : 0 ≤ e.f1 ∧ e.f1 < n <;> by_cases h3 : -1000000 < e.f2 ∧ e.f2 < 1000000 <;> simp [h1, h2, h3]
theorem iGraphOk (n : Int) (l : List S70) : impl_GraphOk.f n l = some (graphOk n (l.map tr)) := by
  unfold impl_GraphOk.f graphOk
  have e : (!(l.any (badEdge n))) = (l.map tr).all (edgeOk n) := by
    rw [List.all_map, List.all_eq_not_any_not]
    congr 2
    funext x
    simp [badE]
  congr 1
  by_cases h1 : n < 0
  · rw [if_pos h1, decide_eq_false (by omega), Bool.false_and]
  · rw [if_neg h1]
    by_cases h2 : n > 8
    · rw [if_pos h2, decide_eq_false (by omega), Bool.false_and]
    · rw [if_neg h2]
      by_cases h3 : (l.length : Int) > 80
      · rw [if_pos h3, decide_eq_false (by simp only [List.length_map]; omega), Bool.false_and]
      · rw [if_neg h3, decide_eq_true (by simp only [List.length_map]; omega), Bool.true_and, e]
theorem iNr_l (n : Nat) (l : List S70) (hl : l.length ≤ 80) (hv : ValidE n (l.map tr)) (r : Int) (R : List Int) : ∀ (d i : Nat) (L : LS) (B : Int), i + d = l.length → GoodL n L → L.k = List.replicate n true → SmallL B L → B + 1000000 * d ≤ 1000000000000 → 0 ≤ B →
    Ev (fun k => impl_NegativeCycle.l0 k (lrnd (l.map tr) i d L).o (lrnd (l.map tr) i d L).l (lrnd (l.map tr) i d L).ch (wrap64 (r + 1)) (n : Int) l) R →
    Ev (fun k => impl_NegativeCycle.l1 k L.o L.l L.ch r l (l.length : Int) (i : Int) (n : Int) l) R
  | 0, i, L, B, hd, hg, ha, hs, hB, h0, h => suc (fun k => by rw [impl_NegativeCycle.l1, if_neg (by omega)]; rfl) h
  | d + 1, i, L, B, hd, hg, ha, hs, hB, h0, h => by
    have ih := iNr_l n l hl hv r R d (i + 1) (lstep (l.map tr) i L) (B + 1000000) (by omega) (good_step i hg) (all_step i ha) (small_step hv (by simp only [List.length_map]; omega) hg hs) (by omega) (by omega) h
    refine suc (fun k => ?_) ih
    obtain ⟨⟨f0, f1⟩, ⟨t0, t1⟩, w0, w1⟩ := hv i (by simp only [List.length_map]; omega)
    obtain ⟨h1, h2, h3⟩ := hg
    have hb := hs _ (rd_mem (l := L.o) f0 (by omega))
    have kk : ∀ v : Int, 0 ≤ v → v < n → rb L.k v = true := fun v v0 v1 => by
      rw [ha]; unfold rb rdOf
      rw [List.getD_eq_getElem?_getD, List.getElem?_replicate, if_pos (by omega)]; rfl
    rw [impl_NegativeCycle.l1, if_pos (by omega), if_pos (by omega), if_pos (by omega)]
    simp only [tr0, tr1, tr2]
    rw [up1 (by omega) (by omega), w64 (i := rd L.o _ + _) (by omega) (by omega), if_pos f0, if_pos (by omega), if_pos t0, if_pos (by omega)]
    unfold lstep better
    rw [kk _ f0 f1, kk _ t0 t1]
    by_cases c : rd L.o (eAt (l.map tr) i).1 + (eAt (l.map tr) i).2.2 < rd L.o (eAt (l.map tr) i).2.1
    · rw [if_pos c, if_pos (by omega)]
      simp only [c, decide_true, Bool.not_true, Bool.false_or, Bool.and_self, if_true]
      rfl
    · rw [if_neg c]
      simp only [c, decide_false, Bool.not_true, Bool.or_self, Bool.and_false, Bool.false_eq_true, if_false]
      rfl
theorem iNr (n : Nat) (hn : n ≤ 8) (l : List S70) (hl : l.length ≤ 80) (hv : ValidE n (l.map tr)) (R : List Int) : ∀ (d i : Nat) (L : LS) (B : Int), i + d = n → GoodL n L → L.k = List.replicate n true → SmallL B L → B + 80000000 * d ≤ 1000000000 → 0 ≤ B →
    Ev (fun k => impl_NegativeCycle.l0 k (lrounds (l.map tr) d L).o (lrounds (l.map tr) d L).l (lrounds (l.map tr) d L).ch (n : Int) (n : Int) l) R →
    Ev (fun k => impl_NegativeCycle.l0 k L.o L.l L.ch (i : Int) (n : Int) l) R
  | 0, i, L, B, hd, hg, ha, hs, hB, h0, h => by
    obtain rfl : i = n := by omega
    exact h
  | d + 1, i, L, B, hd, hg, ha, hs, hB, h0, h => by
    have hg' := good_round (es := l.map tr) hg
    have hs' := small_round hv (by simpa using hl) hg hs
    have ih := iNr n hn l hl hv R d (i + 1) (lround (l.map tr) L) (B + 80000000) (by omega) hg' (all_round ha) hs' (by omega) (by omega) h
    refine suc (f := fun k => impl_NegativeCycle.l1 k L.o L.l (-1) (i : Int) l (l.length : Int) ((0 : Nat) : Int) (n : Int) l) (fun k => by rw [impl_NegativeCycle.l0, if_pos (by omega)]; rfl) ?_
    refine iNr_l n l hl hv (i : Int) R l.length 0 { L with ch := -1 } B (by omega) hg ha hs (by omega) h0 ?_
    have e : lrnd (l.map tr) 0 l.length { L with ch := -1 } = lround (l.map tr) L := by unfold lround; rw [List.length_map]
    rw [e, up1 (by omega) (by omega)]
    exact ih
theorem iN3 (n : Nat) (hn : n ≤ 8) (l : List S70) (hv : ValidE n (l.map tr)) (N : Neg n (l.map tr)) (m : Nat) (hm : m < n) (hb : parN (l.map tr) (negS n (l.map tr)) (m + 1) (negC n (l.map tr)) = negC n (l.map tr)) (hno : ∀ i, i < m → parN (l.map tr) (negS n (l.map tr)) (i + 1) (negC n (l.map tr)) ≠ negC n (l.map tr)) : ∀ (d i : Nat), i + d = m + 1 →
    Ev (fun k => impl_NegativeCycle.l3 k (lrounds (l.map tr) n (negInit n)).l (negC n (l.map tr) : Int) (trl (negS n (l.map tr)) (l.map tr) (negC n (l.map tr)) i) (parN (l.map tr) (negS n (l.map tr)) i (negC n (l.map tr)) : Int) (n : Int) l) (trl (negS n (l.map tr)) (l.map tr) (negC n (l.map tr)) (m + 1)).reverse
  | 0, i, hd => by
    obtain rfl : i = m + 1 := by omega
    have hr := revM (trl (negS n (l.map tr)) (l.map tr) (negC n (l.map tr)) (m + 1)) (by rw [trl_len]; omega)
    refine suc (fun k => ?_) (bev hr now)
    rw [impl_NegativeCycle.l3, if_neg (by rw [trl_len]; omega), if_pos (by rw [hb])]
  | d + 1, i, hd => by
    have ih := iN3 n hn l hv N m hm hb hno d (i + 1) (by omega)
    obtain ⟨a, b, c⟩ := neg_lastC N i
    have hg := good_rounds (es := l.map tr) n _ (good_neg n)
    have e1 : rd (lrounds (l.map tr) n (negInit n)).l (parN (l.map tr) (negS n (l.map tr)) i (negC n (l.map tr)) : Int) = (negS n (l.map tr)).l (parN (l.map tr) (negS n (l.map tr)) i (negC n (l.map tr))) := rfl
    have e2 := neg_par hv a
    have hlm : ((l.map tr).length : Int) = l.length := by simp
    rw [hlm] at a
    refine suc (fun k => ?_) ih
    rw [impl_NegativeCycle.l3, e1, trl_len, trl_succ]
    have e3 : ((parN (l.map tr) (negS n (l.map tr)) (i + 1) (negC n (l.map tr)) : Nat) : Int) = (rd_T70 l ((negS n (l.map tr)).l (parN (l.map tr) (negS n (l.map tr)) i (negC n (l.map tr))))).f0 := by
      rw [tr0, e2]; rfl
    rw [← e3]
    by_cases h0 : i = 0
    · subst h0
      rw [if_pos (by omega), if_pos (by omega), if_pos (by rw [hg.2.1]; omega), if_pos (by omega), if_pos a.1, if_pos a.2]
    · have hne := hno (i - 1) (by omega)
      rw [show i - 1 + 1 = i by omega] at hne
      rw [if_neg (by omega), if_neg (by omega), if_pos (by omega), if_pos (by rw [hg.2.1]; omega), if_pos (by omega), if_pos a.1, if_pos a.2]
theorem iN2 (n : Nat) (hn : n ≤ 8) (l : List S70) (hv : ValidE n (l.map tr)) (N : Neg n (l.map tr)) (R : List Int) (h : Ev (fun k => impl_NegativeCycle.l3 k (lrounds (l.map tr) n (negInit n)).l (negC n (l.map tr) : Int) [] (negC n (l.map tr) : Int) (n : Int) l) R) : ∀ (d i : Nat), i + d = n →
    Ev (fun k => impl_NegativeCycle.l2 k (lrounds (l.map tr) n (negInit n)).l (parN (l.map tr) (negS n (l.map tr)) i (negV n (l.map tr)) : Int) (i : Int) (n : Int) l) R
  | 0, i, hd => by
    obtain rfl : i = n := by omega
    exact suc (fun k => by rw [impl_NegativeCycle.l2, if_neg (by omega)]; rfl) h
  | d + 1, i, hd => by
    have ih := iN2 n hn l hv N R h d (i + 1) (by omega)
    have a := N.last i
    have c := N.inn i
    have hg := good_rounds (es := l.map tr) n _ (good_neg n)
    have e1 : rd (lrounds (l.map tr) n (negInit n)).l (parN (l.map tr) (negS n (l.map tr)) i (negV n (l.map tr)) : Int) = (negS n (l.map tr)).l (parN (l.map tr) (negS n (l.map tr)) i (negV n (l.map tr))) := rfl
    have e2 := neg_par hv a
    have hlm : ((l.map tr).length : Int) = l.length := by simp
    rw [hlm] at a
    refine suc (fun k => ?_) ih
    have e3 : ((parN (l.map tr) (negS n (l.map tr)) (i + 1) (negV n (l.map tr)) : Nat) : Int) = (rd_T70 l ((negS n (l.map tr)).l (parN (l.map tr) (negS n (l.map tr)) i (negV n (l.map tr))))).f0 := by
      rw [tr0, e2]; rfl
    rw [impl_NegativeCycle.l2, e1, ← e3, if_pos (by omega), if_pos (by omega), if_pos (by rw [hg.2.1]; omega), if_pos a.1, if_pos a.2, up1 (by omega) (by omega)]; rfl
theorem iNeg (n : Int) (l : List S70) : Ev (fun k => impl_NegativeCycle.f k n l) (negM n (l.map tr)) := by
  unfold impl_NegativeCycle.f negM
  refine bnd (iGraphOk n l) ?_
  by_cases hg : graphOk n (l.map tr) = true
  · obtain ⟨h0, h8, hl, _⟩ := graphOk_iff hg
    have hl : l.length ≤ 80 := by simpa using hl
    have hv := valid_of hg
    refine ifp hg (ifp h0 (ifp (by omega) ?_))
    obtain ⟨m, rfl⟩ : ∃ m : Nat, n = (m : Int) := ⟨n.toNat, by omega⟩
    rw [Int.toNat_natCast] at hv ⊢
    have hrep : slices_Repeat_int_int.f [(-1)] (m : Int) = some (List.replicate m (-1)) := by
      unfold slices_Repeat_int_int.f
      rw [if_pos ⟨rfl, by omega, by omega⟩]; rfl
    refine bnd hrep ?_
    refine iNr m (by omega) l hl hv _ m 0 (negInit m) 0 (by omega) (good_neg m) rfl (small_neg m) (by omega) (by omega) ?_
    have ech : (lrounds (l.map tr) m (negInit m)).ch = (negS m (l.map tr)).ch := rfl
    by_cases hq : 0 ≤ (negS m (l.map tr)).ch
    · have N := neg_of hv hq
      obtain ⟨q, hq1, hq2, hq3, _, hq4⟩ := negT_eq N
      have h3 := iN3 m (by omega) l hv N q hq1 hq2 hq3 (q + 1) 0 (by omega)
      have h2 := iN2 m (by omega) l hv N _ h3 m 0 (by omega)
      rw [if_pos ⟨hg, hq⟩, hq4]
      refine suc (fun k => ?_) h2
      have hc := N.ch
      rw [List.length_map] at hc
      rw [impl_NegativeCycle.l0, if_neg (by omega), ech, if_neg (by omega), if_pos hq, if_pos (by omega), tr1]
      have e : (eAt (l.map tr) (negS m (l.map tr)).ch).2.1 = ((negV m (l.map tr) : Nat) : Int) := (neg_edge hv ⟨hq, by rw [List.length_map]; omega⟩).2
      rw [e]; rfl
    · refine eqr (suc (f := fun _ => some ([] : List Int)) (fun k => ?_) now) (if_neg (fun h => hq h.2)).symm
      rw [impl_NegativeCycle.l0, if_neg (by omega), ech, if_pos (by omega)]
  · exact eqr (ifn hg now) (if_neg (fun h => hg h.1)).symm
theorem sfLoop_len (es : List E3) (n : Nat) : ∀ (d : Nat) (L : LS), GoodL n L → (sfLoop es d L).1.length ≤ n
  | 0, L, _ => by simp [sfLoop]
  | d + 1, L, h => by
    have h' := good_round (es := es) h
    simp only [sfLoop]
    split
    · show (finL _ _).length ≤ n
      rw [finL_len _ _ (by rw [h'.1, h'.2.2]), h'.1]
      exact Nat.le_refl _
    · exact sfLoop_len es n d _ h'
theorem sfM_len (n : Int) (es : List E3) (s : Int) : (sfM n es s).1.length ≤ 8 := by
  unfold sfM
  split
  · rename_i h
    have h1 := sfLoop_len es n.toNat n.toNat (sfInit n.toNat s.toNat) (good_init _ _)
    have := (graphOk_iff h.1).2.1
    omega
  · simp
def clampB (x : Int) : Int := if x < -1000000 then -1000000 else if x > 1000000 then 1000000 else x
def closeL (n : Int) (es : List E3) : Nat → Nat → List Int → Int × List Int × Bool
  | 0, _, o => (n, o, true)
  | d + 1, i, o => if (sfM n es (i : Int)).2 = true then closeL n es d (i + 1) (o ++ (sfM n es (i : Int)).1.map clampB) else (0, [], false)
theorem closeL_len (n : Int) (es : List E3) : ∀ (d i : Nat) (o : List Int), o.length ≤ 8 * i → (closeL n es d i o).2.1.length ≤ 8 * (i + d)
  | 0, i, o, h => by simpa [closeL] using h
  | d + 1, i, o, h => by
    unfold closeL
    have hs := sfM_len n es (i : Int)
    split
    · have := closeL_len n es d (i + 1) (o ++ (sfM n es (i : Int)).1.map clampB) (by simp only [List.length_append, List.length_map]; omega)
      omega
    · simp
def closeM (n : Int) (es : List E3) : Int × List Int × Bool := if graphOk n es = true then closeL n es n.toNat 0 [] else (0, [], false)
theorem closeM_len (n : Int) (es : List E3) : (closeM n es).2.1.length ≤ 64 := by
  unfold closeM
  split
  · rename_i h
    have h8 := (graphOk_iff h).2.1
    have := closeL_len n es n.toNat 0 [] (by simp)
    omega
  · simp
theorem isNode (n x : Int) : impl_isNode.f n x = some (decide (0 ≤ x ∧ x < n)) := by
  unfold impl_isNode.f
  by_cases h : x ≥ 0
  · rw [if_pos h]; congr 1; rw [Bool.eq_iff_iff]; simp only [decide_eq_true_eq]; omega
  · rw [if_neg h]; congr 1; symm; rw [decide_eq_false_iff_not]; omega
theorem iFin : ∀ (ob : List Int) (kb : List Bool) (a : List Int) (ka : List Bool), ka.length = a.length → ob.length = kb.length → a.length + ob.length ≤ 1000 → Ev (fun k => impl_ShortestFrom.l2 k (a ++ ob) (ka ++ kb) ((a.length + ob.length : Nat) : Int) (a.length : Int)) (a ++ finL ob kb, true)
  | [], [], a, ka, hk, ho, hn => by
    simp only [finL]
    exact suc (f := fun _ => some (a ++ [], true)) (fun k => by rw [impl_ShortestFrom.l2, if_neg (by simp)]) now
  | x :: ob, b :: kb, a, ka, hk, ho, hn => by
    simp only [List.length_cons] at ho hn
    have ih := iFin ob kb (a ++ [if b = true then (if x > 1000000 then 1000000 else x) else 1000000]) (ka ++ [b]) (by simp [hk]) (by omega) (by simp only [List.length_append, List.length_cons, List.length_nil]; omega)
    refine eqr (suc (f := fun k => impl_ShortestFrom.l2 k (a ++ [if b = true then (if x > 1000000 then 1000000 else x) else 1000000] ++ ob) (ka ++ [b] ++ kb) (((a ++ [if b = true then (if x > 1000000 then 1000000 else x) else (1000000 : Int)]).length + ob.length : Nat) : Int) ((a ++ [if b = true then (if x > 1000000 then 1000000 else x) else (1000000 : Int)]).length : Int)) (fun k => ?_) ih) (by simp [finL])
    have hlen : (a.length : Int) < ((ka ++ b :: kb).length : Int) := by simp only [List.length_append, List.length_cons]; omega
    have hlen2 : (a.length : Int) < ((a ++ x :: ob).length : Int) := by simp only [List.length_append, List.length_cons]; omega
    rw [impl_ShortestFrom.l2, if_pos (by simp only [List.length_cons]; omega), if_pos (by omega), if_pos hlen, rb_mid ka kb b hk, rd_mid, set_mid, set_mid, w64 (i := (a.length : Int) + 1) (by omega) (by omega)]
    have e1 : (((a ++ [if b = true then (if x > 1000000 then 1000000 else x) else (1000000 : Int)]).length : Nat) : Int) = (a.length : Int) + 1 := by simp
    have e2 : (((a ++ [if b = true then (if x > 1000000 then 1000000 else x) else (1000000 : Int)]).length + ob.length : Nat) : Int) = ((a.length + (x :: ob).length : Nat) : Int) := by simp only [List.length_append, List.length_cons, List.length_nil]; omega
    rw [e1, e2]
    cases b with
    | true =>
      rw [if_pos rfl, if_pos hlen2]
      unfold mn
      by_cases hx : 1000000 < x
      · rw [if_pos hx]; simp [hx]
      · rw [if_neg hx]; simp [hx]
    | false =>
      rw [if_neg (by simp), if_pos hlen2]
      simp only [Option.bind_some]
      rw [rd_mid, set_mid]
      unfold mn
      simp
  | [], b :: kb, a, ka, hk, ho, hn => by simp at ho
  | x :: ob, [], a, ka, hk, ho, hn => by simp at ho
theorem iRound_l (n : Nat) (l : List S70) (hl : l.length ≤ 80) (hv : ValidE n (l.map tr)) (r : Int) (R : List Int × Bool) : ∀ (d i : Nat) (L : LS) (B : Int), i + d = l.length → GoodL n L → SmallL B L → B + 1000000 * d ≤ 1000000000000 → 0 ≤ B →
    Ev (fun k => if decide (0 ≤ (lrnd (l.map tr) i d L).ch) = true then (if r = (n : Int) then some (([] : List Int), false) else impl_ShortestFrom.l0 k (lrnd (l.map tr) i d L).o (lrnd (l.map tr) i d L).k (wrap64 (r + 1)) (n : Int) l) else impl_ShortestFrom.l2 k (lrnd (l.map tr) i d L).o (lrnd (l.map tr) i d L).k ((lrnd (l.map tr) i d L).o.length : Int) 0) R →
    Ev (fun k => impl_ShortestFrom.l1 k L.o L.k r (decide (0 ≤ L.ch)) l (l.length : Int) (i : Int) (n : Int) l) R
  | 0, i, L, B, hd, hg, hs, hB, h0, h => suc (fun k => by rw [impl_ShortestFrom.l1, if_neg (by omega)]; rfl) h
  | d + 1, i, L, B, hd, hg, hs, hB, h0, h => by
    have ih := iRound_l n l hl hv r R d (i + 1) (lstep (l.map tr) i L) (B + 1000000) (by omega) (good_step i hg) (small_step hv (by simp only [List.length_map]; omega) hg hs) (by omega) (by omega) h
    have hu : ∀ k, impl_ShortestFrom.l1 (k + 1) L.o L.k r (decide (0 ≤ L.ch)) l (l.length : Int) (i : Int) (n : Int) l = impl_ShortestFrom.l1 k (lstep (l.map tr) i L).o (lstep (l.map tr) i L).k r (decide (0 ≤ (lstep (l.map tr) i L).ch)) l (l.length : Int) ((i + 1 : Nat) : Int) (n : Int) l := by

      intro k
      obtain ⟨⟨f0, f1⟩, ⟨t0, t1⟩, w0, w1⟩ := hv i (by simp only [List.length_map]; omega)
      obtain ⟨h1, h2, h3⟩ := hg
      have hb := hs _ (rd_mem (l := L.o) f0 (by omega))
      rw [impl_ShortestFrom.l1, if_pos (by omega), if_pos (by omega), if_pos (by omega)]
      simp only [tr0, tr1, tr2]
      rw [up1 (by omega) (by omega), w64 (i := rd L.o _ + _) (by omega) (by omega), if_pos f0, if_pos (by omega), if_pos (by omega)]
      unfold lstep better rb
      by_cases k1 : rdOf false L.k (eAt (l.map tr) i).1 = true
      · rw [if_pos k1, if_pos t0, if_pos (by omega)]
        by_cases k2 : rdOf false L.k (eAt (l.map tr) i).2.1 = true
        · rw [if_pos k2, if_pos (by omega)]
          by_cases c : rd L.o (eAt (l.map tr) i).1 + (eAt (l.map tr) i).2.2 < rd L.o (eAt (l.map tr) i).2.1
          · rw [if_pos c]
            simp only [k1, k2, c, decide_true, Bool.not_true, Bool.false_or, Bool.and_self, if_true]
            rw [show decide (0 ≤ (i : Int)) = true from decide_eq_true (by omega)]; rfl
          · rw [if_neg c]
            simp only [k1, k2, c, decide_false, Bool.not_true, Bool.or_self, Bool.and_false, Bool.false_eq_true, if_false]
            rfl
        · rw [if_neg k2, if_pos (by omega)]
          rw [Bool.not_eq_true] at k2
          simp only [k1, k2, Bool.not_false, Bool.true_or, Bool.and_self, if_true]
          rw [show decide (0 ≤ (i : Int)) = true from decide_eq_true (by omega)]; rfl
      · rw [if_neg k1]
        rw [Bool.not_eq_true] at k1
        simp only [k1, Bool.false_and, Bool.false_eq_true, if_false]
        rfl

    exact suc hu ih
theorem iSf_l (n : Nat) (hn : n ≤ 8) (l : List S70) (hl : l.length ≤ 80) (hv : ValidE n (l.map tr)) : ∀ (d i : Nat) (L : LS) (B : Int), i + d = n → GoodL n L → SmallL B L → B + 80000000 * (d + 1) ≤ 1000000000 → 0 ≤ B →
    Ev (fun k => impl_ShortestFrom.l0 k L.o L.k (i : Int) (n : Int) l) (sfLoop (l.map tr) (d + 1) L) := by
  intro d
  induction d with
  | zero =>
    intro i L B hd hg hs hB h0
    have hg' := good_round (es := l.map tr) hg
    refine suc (f := fun k => impl_ShortestFrom.l1 k L.o L.k (i : Int) false l (l.length : Int) ((0 : Nat) : Int) (n : Int) l) (fun k => by rw [impl_ShortestFrom.l0]; rfl) ?_
    refine iRound_l n l hl hv (i : Int) _ l.length 0 { L with ch := -1 } B (by omega) hg hs (by omega) h0 ?_
    show Ev (fun k => if decide (0 ≤ (lrnd (l.map tr) 0 l.length { L with ch := -1 }).ch) = true then _ else _) _
    have e : lrnd (l.map tr) 0 l.length { L with ch := -1 } = lround (l.map tr) L := by unfold lround; rw [List.length_map]
    rw [e]
    simp only [sfLoop]
    by_cases hq : (lround (l.map tr) L).ch < 0
    · refine ifn (by simpa using hq) ?_
      rw [if_pos hq]
      have := iFin (lround (l.map tr) L).o (lround (l.map tr) L).k [] [] rfl (by rw [hg'.1, hg'.2.2]) (by simp only [List.length_nil]; rw [hg'.1]; omega)
      simp only [List.nil_append, List.length_nil, Nat.zero_add] at this
      exact this
    · rw [if_neg hq]
      exact ifp (by simpa using hq) (ifp (by omega) now)
  | succ d ih =>
    intro i L B hd hg hs hB h0
    have hg' := good_round (es := l.map tr) hg
    have hs' := small_round hv (by simpa using hl) hg hs
    have ih' := ih (i + 1) (lround (l.map tr) L) (B + 80000000) (by omega) hg' hs' (by omega) (by omega)
    refine suc (f := fun k => impl_ShortestFrom.l1 k L.o L.k (i : Int) false l (l.length : Int) ((0 : Nat) : Int) (n : Int) l) (fun k => by rw [impl_ShortestFrom.l0]; rfl) ?_
    refine iRound_l n l hl hv (i : Int) _ l.length 0 { L with ch := -1 } B (by omega) hg hs (by omega) h0 ?_
    show Ev (fun k => if decide (0 ≤ (lrnd (l.map tr) 0 l.length { L with ch := -1 }).ch) = true then _ else _) _
    have e : lrnd (l.map tr) 0 l.length { L with ch := -1 } = lround (l.map tr) L := by unfold lround; rw [List.length_map]
    rw [e]
    show Ev _ (if (lround (l.map tr) L).ch < 0 then _ else sfLoop (l.map tr) (d + 1) (lround (l.map tr) L))
    by_cases hq : (lround (l.map tr) L).ch < 0
    · refine ifn (by simpa using hq) ?_
      rw [if_pos hq]
      have := iFin (lround (l.map tr) L).o (lround (l.map tr) L).k [] [] rfl (by rw [hg'.1, hg'.2.2]) (by simp only [List.length_nil]; rw [hg'.1]; omega)
      simp only [List.nil_append, List.length_nil, Nat.zero_add] at this
      exact this
    · rw [if_neg hq]
      refine ifp (by simpa using hq) (ifn (by omega) ?_)
      rw [up1 (by omega) (by omega)]
      exact ih'
theorem iSf (n : Int) (l : List S70) (s : Int) : Ev (fun k => impl_ShortestFrom.f k n l s) (sfM n (l.map tr) s) := by
  have hf : Ev (fun k => impl_ShortestFrom.j0 k s true n l) ([], false) := suc (f := fun _ => some ([], false)) (fun k => by rw [impl_ShortestFrom.j0, if_pos rfl]) now
  unfold impl_ShortestFrom.f sfM
  refine bnd (iGraphOk n l) ?_
  by_cases hg : graphOk n (l.map tr) = true
  · obtain ⟨h0, h8, hl, _⟩ := graphOk_iff hg
    refine ifp hg (bnd (isNode n s) ?_)
    by_cases hs : 0 ≤ s ∧ s < n
    · rw [show decide (0 ≤ s ∧ s < n) = true from decide_eq_true hs]
      refine eqr ?_ (if_pos ⟨hg, hs⟩).symm
      have hv := valid_of hg
      have h := iSf_l n.toNat (by omega) l (by simpa using hl) hv n.toNat 0 (sfInit n.toNat s.toNat) 0 (by omega) (good_init _ _) (small_init _ _) (by omega) (by omega)
      rw [Int.toNat_of_nonneg h0, sf_once hg hs] at h
      refine suc (fun k => ?_) h
      rw [impl_ShortestFrom.j0, if_neg (by simp), if_pos h0, if_pos (by omega), if_pos (by omega)]
      simp only [Option.bind_some]
      rw [if_pos hs.1, if_pos (by simp only [List.length_replicate]; omega)]
      rfl
    · rw [show decide (0 ≤ s ∧ s < n) = false from decide_eq_false hs]
      exact eqr hf (if_neg (fun h => hs h.2)).symm
  · exact eqr (ifn hg hf) (if_neg (fun h => hg h.1)).symm
theorem iClamp (x : Int) : impl_ClampBound.f x = some (clampB x) := by
  unfold impl_ClampBound.f clampB mx mn
  congr 1
  repeat' split
  all_goals omega

theorem iCl_in (n : Int) (l : List S70) (i : Nat) (hi8 : i ≤ 8) (r : List Int) (hr : r.length ≤ 8) (R : Int × List Int × Bool) : ∀ (d j : Nat) (o : List Int), j + d = r.length → o.length + d ≤ 100000 →
    Ev (fun k => impl_CloseGraph.l0 k ((i + 1 : Nat) : Int) n l n (o ++ (r.drop j).map clampB)) R → Ev (fun k => impl_CloseGraph.l1 k (i : Int) r (r.length : Int) (j : Int) n l n o) R
  | 0, j, o, hd, ho, h => by
    rw [List.drop_eq_nil_of_le (by omega), List.map_nil, List.append_nil] at h
    exact suc (f := fun k => impl_CloseGraph.l0 k ((i + 1 : Nat) : Int) n l n o) (fun k => by rw [impl_CloseGraph.l1, if_neg (by omega), up1 (by omega) (by omega)]; rfl) h
  | d + 1, j, o, hd, ho, h => by
    have hj : j < r.length := by omega
    have e : rd r (j : Int) = r[j] := by unfold rd; simp [List.getD_eq_getElem?_getD, hj]
    rw [List.drop_eq_getElem_cons hj, List.map_cons, ← e] at h
    refine suc (f := fun k => impl_CloseGraph.l1 k (i : Int) r (r.length : Int) ((j + 1 : Nat) : Int) n l n (o ++ [clampB (rd r (j : Int))])) (fun k => ?_) (iCl_in n l i hi8 r hr R d (j + 1) _ (by omega) (by simp only [List.length_append, List.length_cons, List.length_nil]; omega) (by rw [List.append_assoc]; exact h))
    rw [impl_CloseGraph.l1, if_pos (by omega), if_pos (by omega), if_pos (by omega), iClamp, up1 (by omega) (by omega)]
    simp only [Option.bind_some]
    rw [if_pos (by omega)]; rfl
theorem iCl (n : Nat) (hn : n ≤ 8) (l : List S70) : ∀ (d i : Nat) (o : List Int), i + d = n → o.length ≤ 8 * i → Ev (fun k => impl_CloseGraph.l0 k (i : Int) (n : Int) l (n : Int) o) (closeL n (l.map tr) d i o)
  | 0, i, o, hd, ho => by
    simp only [closeL]
    exact suc (f := fun _ => some ((n : Int), o, true)) (fun k => by rw [impl_CloseGraph.l0, if_neg (by omega)]) now
  | d + 1, i, o, hd, ho => by
    simp only [closeL]
    have hs := sfM_len n (l.map tr) (i : Int)
    refine suc (fun k => by rw [impl_CloseGraph.l0, if_pos (by omega)]) ?_
    refine bev (iSf n l (i : Int)) ?_
    by_cases h : (sfM n (l.map tr) (i : Int)).2 = true
    · rw [if_pos h]
      refine ifp h (iCl_in n l i (by omega) _ hs _ (sfM n (l.map tr) (i : Int)).1.length 0 o (by omega) (by omega) ?_)
      rw [List.drop_zero]
      exact iCl n hn l d (i + 1) _ (by omega) (by simp only [List.length_append, List.length_map]; omega)
    · rw [if_neg h]
      exact ifn h now
theorem iClose (n : Int) (l : List S70) : Ev (fun k => impl_CloseGraph.f k n l) (closeM n (l.map tr)) := by
  unfold impl_CloseGraph.f closeM
  refine bnd (iGraphOk n l) ?_
  by_cases h : graphOk n (l.map tr) = true
  · rw [if_pos h]
    have h8 := (graphOk_iff h).2.1
    have h0 := (graphOk_iff h).1
    obtain ⟨m, rfl⟩ : ∃ m : Nat, n = (m : Int) := ⟨n.toNat, by omega⟩
    exact ifp h (iCl m (by omega) l m 0 [] (by omega) (by simp))
  · rw [if_neg h]; exact ifn h now
def cellOf (s : Int) (l : List Int) (i k : Int) : Int := if tableOk s l = true ∧ (0 ≤ i ∧ i < s) ∧ (0 ≤ k ∧ k < s) then cellT s l i.toNat k.toNat else 0
theorem iTableOk_l (s : Int) (l : List Int) (h0 : 0 ≤ s) (h8 : s ≤ 8) (hl : (l.length : Int) = s * s) : ∀ (d i : Nat), i + d = l.length → Ev (fun k => impl_TableOk.l0 k l (l.length : Int) (i : Int) s l) (allF (cellOk s l) i d)
  | 0, i, hd => suc (f := fun _ => some true) (fun k => by rw [impl_TableOk.l0, if_neg (by omega)]) now
  | d + 1, i, hd => by
    have hs : 0 < s := by
      rcases Int.lt_or_eq_of_le h0 with h | h
      · exact h
      · rw [← h] at hl; omega
    have h64 : s * s ≤ 8 * 8 := Int.mul_le_mul h8 h8 h0 (by omega)
    have hq : wrap64 (Int.tdiv (i : Int) s) = (i : Int) / s := by
      rw [Int.tdiv_eq_ediv_of_nonneg (by omega)]
      have h1 : (i : Int) / s < s := Int.ediv_lt_of_lt_mul hs (by omega)
      have h2 : 0 ≤ (i : Int) / s := Int.ediv_nonneg (by omega) h0
      exact w64 (by omega) (by omega)
    have hr : Int.tmod (i : Int) s = (i : Int) % s := Int.tmod_eq_emod_of_nonneg (by omega)
    have ih := iTableOk_l s l h0 h8 hl d (i + 1) (by omega)
    simp only [allF]
    by_cases hc : cellOk s l i = true
    · have hc' := hc
      simp only [cellOk, decide_eq_true_eq] at hc'
      obtain ⟨c1, c2, c3⟩ := hc'
      rw [hc, Bool.true_and]
      refine suc (f := fun k => impl_TableOk.l0 k l (l.length : Int) ((i + 1 : Nat) : Int) s l) (fun k => ?_) ih
      rw [impl_TableOk.l0, if_pos (by omega), if_pos (by omega), if_pos (by omega), if_neg (by omega), if_neg (by omega), if_neg (by omega), hq, hr, up1 (by omega) (by omega)]
      by_cases e : (i : Int) / s = (i : Int) % s
      · rw [if_pos e, if_pos (c3 e)]; rfl
      · rw [if_neg e]; rfl
    · rw [Bool.not_eq_true] at hc
      have hc' := hc
      simp only [cellOk, decide_eq_false_iff_not] at hc'
      rw [hc, Bool.false_and]
      refine suc (f := fun _ => some false) (fun k => ?_) now
      rw [impl_TableOk.l0, if_pos (by omega), if_pos (by omega), if_pos (by omega)]
      by_cases c1 : rd l i < -1000000
      · rw [if_pos c1]
      · rw [if_neg c1]
        by_cases c2 : rd l i > 1000000
        · rw [if_pos c2]
        · rw [if_neg c2, if_neg (by omega), hq, hr]
          by_cases e : (i : Int) / s = (i : Int) % s
          · rw [if_pos e]
            by_cases c3 : rd l i = 0
            · exact absurd ⟨by omega, by omega, fun _ => c3⟩ hc'
            · rw [if_neg c3]
          · exact absurd ⟨by omega, by omega, fun h => absurd h e⟩ hc'
theorem iTableOk (s : Int) (l : List Int) (hn : l.length ≤ 4194304) : Ev (fun k => impl_TableOk.f k s l) (tableOk s l) := by
  have ww : 0 ≤ s → s ≤ 8 → wrap64 (s * s) = s * s := fun h0 h8 => by
    have : s * s ≤ 8 * 8 := Int.mul_le_mul h8 h8 h0 (by omega)
    exact w64 (by have := Int.mul_nonneg h0 h0; omega) (by omega)
  unfold impl_TableOk.f tableOk
  by_cases h0 : s < 0
  · rw [decide_eq_false (by omega), Bool.false_and]
    exact ifp h0 (suc (f := fun _ => some false) (fun k => by rw [impl_TableOk.j0, if_pos rfl]) now)
  · refine ifn h0 ?_
    by_cases h8 : s > 8
    · rw [decide_eq_false (by omega), Bool.false_and]
      exact ifp h8 (suc (f := fun _ => some false) (fun k => by rw [impl_TableOk.j0, if_pos rfl]) now)
    · refine ifn h8 ?_
      rw [ww (by omega) (by omega)]
      by_cases hl : (l.length : Int) = s * s
      · rw [decide_eq_true ⟨by omega, by omega, hl⟩, Bool.true_and]
        refine suc (f := fun k => impl_TableOk.l0 k l (l.length : Int) ((0 : Nat) : Int) s l) (fun k => ?_) (iTableOk_l s l (by omega) (by omega) hl l.length 0 (by omega))
        rw [impl_TableOk.j0, if_neg (by simp [hl])]; rfl
      · rw [decide_eq_false (by omega), Bool.false_and]
        exact suc (f := fun _ => some false) (fun k => by rw [impl_TableOk.j0, if_pos (by simp [hl])]) now
theorem icell {s : Int} {l : List Int} (h : tableOk s l = true) {i k : Nat} (hi : (i : Int) < s) (hk : (k : Int) < s) : impl_Table_cell.f s l (i : Int) (k : Int) = some (cellT s l i k) := by
  obtain ⟨h1, h2, h3, h4⟩ := cell_in h hi hk
  have h8 : s ≤ 8 := by unfold tableOk at h; simp only [Bool.and_eq_true, decide_eq_true_eq] at h; exact h.1.2.1
  unfold impl_Table_cell.f
  rw [w64 (i := (i : Int) * s) (by omega) (by omega), w64 (by omega) (by omega), if_pos h1, if_pos h2]
  rfl
theorem iCellOf (s : Int) (l : List Int) (i k : Int) (hn : l.length ≤ 4194304) : Ev (fun n => impl_CellOf.f n s l i k) (cellOf s l i k) := by
  unfold impl_CellOf.f cellOf
  refine bev (iTableOk s l hn) ?_
  by_cases h : tableOk s l = true
  · rw [h]
    refine ifp rfl (bnd (isNode s i) ?_)
    by_cases hi : 0 ≤ i ∧ i < s
    · refine ifp (decide_eq_true hi) (bnd (isNode s k) ?_)
      by_cases hk : 0 ≤ k ∧ k < s
      · refine eqr (ifp (decide_eq_true hk) ?_) (if_pos ⟨rfl, hi, hk⟩).symm
        have := icell h (i := i.toNat) (k := k.toNat) (by omega) (by omega)
        rw [Int.toNat_of_nonneg hi.1, Int.toNat_of_nonneg hk.1] at this
        exact bnd this now
      · exact eqr (ifn (by simpa using hk) now) (if_neg (fun x => hk x.2.2)).symm
    · exact eqr (ifn (by simpa using hi) now) (if_neg (fun x => hi x.2.1)).symm
  · exact eqr (ifn h now) (if_neg (fun x => h x.1)).symm
def closedOk (s : Int) (l : List Int) (i j k : Nat) : Bool := decide (cellT s l i k ≤ addB (cellT s l i j) (cellT s l j k))
def closedT (s : Int) (l : List Int) : Bool := tableOk s l && allF (fun i => allF (fun j => allF (closedOk s l i j) 0 s.toNat) 0 s.toNat) 0 s.toNat
theorem iAddB (a b : Int) : Ev (fun k => impl_AddBounds.f k a b) (addB a b) := by
  refine suc (f := fun _ => some (addB a b)) (fun k => ?_) now
  unfold impl_AddBounds.f addB
  simp only [impl_AddBounds.j0, impl_ClampBound.f, mx, mn]
  repeat' split
  all_goals simp only [Option.bind_some, decide_eq_true_eq, Option.some.injEq, reduceCtorEq] at *
  all_goals first | omega | contradiction | (exfalso; simp_all; done) | (unfold wrap64 at *; omega)
theorem iClosed_2 (s : Int) (l : List Int) (h : tableOk s l = true) (i j : Nat) (hi : (i : Int) < s) (hj : (j : Int) < s) (r : Bool) (hr : Ev (fun n => impl_IsClosed.l1 n (i : Int) ((j + 1 : Nat) : Int) s l) r) : ∀ (d k : Nat), ((k + d : Nat) : Int) = s → Ev (fun n => impl_IsClosed.l2 n (i : Int) (j : Int) (k : Int) s l) (allF (closedOk s l i j) k d && r)
  | 0, k, hd => by
    simp only [allF, Bool.true_and]
    refine suc (f := fun n => impl_IsClosed.l1 n (i : Int) ((j + 1 : Nat) : Int) s l) (fun n => ?_) hr
    have h8 : s ≤ 8 := by unfold tableOk at h; simp only [Bool.and_eq_true, decide_eq_true_eq] at h; exact h.1.2.1
    rw [impl_IsClosed.l2, if_neg (by omega), up1 (by omega) (by omega)]; rfl
  | d + 1, k, hd => by
    have ih := iClosed_2 s l h i j hi hj r hr d (k + 1) (by omega)
    have h8 : s ≤ 8 := by unfold tableOk at h; simp only [Bool.and_eq_true, decide_eq_true_eq] at h; exact h.1.2.1
    refine suc (f := fun n => (impl_AddBounds.f n (cellT s l i j) (cellT s l j k)).bind fun t => if cellT s l i k > t then some false else impl_IsClosed.l2 n (i : Int) (j : Int) ((k + 1 : Nat) : Int) s l) (fun n => ?_) (bev (iAddB _ _) ?_)
    · rw [impl_IsClosed.l2, if_pos (by omega), icell h hi (by omega), icell h hi hj, icell h hj (by omega), up1 (by omega) (by omega)]; rfl
    · simp only [allF]
      by_cases hc : cellT s l i k > addB (cellT s l i j) (cellT s l j k)
      · rw [show closedOk s l i j k = false by simp only [closedOk, decide_eq_false_iff_not]; omega, Bool.false_and, Bool.false_and]
        exact ifp hc now
      · rw [show closedOk s l i j k = true by simp only [closedOk, decide_eq_true_eq]; omega, Bool.true_and]
        exact ifn hc ih
theorem iClosed_1 (s : Int) (l : List Int) (h : tableOk s l = true) (i : Nat) (hi : (i : Int) < s) (r : Bool) (hr : Ev (fun n => impl_IsClosed.l0 n ((i + 1 : Nat) : Int) s l) r) : ∀ (d j : Nat), ((j + d : Nat) : Int) = s → Ev (fun n => impl_IsClosed.l1 n (i : Int) (j : Int) s l) (allF (fun j => allF (closedOk s l i j) 0 s.toNat) j d && r)
  | 0, j, hd => by
    simp only [allF, Bool.true_and]
    have h8 : s ≤ 8 := by unfold tableOk at h; simp only [Bool.and_eq_true, decide_eq_true_eq] at h; exact h.1.2.1
    refine suc (f := fun n => impl_IsClosed.l0 n ((i + 1 : Nat) : Int) s l) (fun n => ?_) hr
    rw [impl_IsClosed.l1, if_neg (by omega), up1 (by omega) (by omega)]; rfl
  | d + 1, j, hd => by
    have ih := iClosed_1 s l h i hi r hr d (j + 1) (by omega)
    simp only [allF]
    rw [Bool.and_assoc]
    refine suc (f := fun n => impl_IsClosed.l2 n (i : Int) (j : Int) ((0 : Nat) : Int) s l) (fun n => ?_) (iClosed_2 s l h i j hi (by omega) _ ih s.toNat 0 (by omega))
    rw [impl_IsClosed.l1, if_pos (by omega)]; rfl
theorem iClosed_0 (s : Int) (l : List Int) (h : tableOk s l = true) : ∀ (d i : Nat), ((i + d : Nat) : Int) = s → Ev (fun n => impl_IsClosed.l0 n (i : Int) s l) (allF (fun i => allF (fun j => allF (closedOk s l i j) 0 s.toNat) 0 s.toNat) i d)
  | 0, i, hd => by
    simp only [allF]
    exact suc (f := fun _ => some true) (fun n => by rw [impl_IsClosed.l0, if_neg (by omega)]) now
  | d + 1, i, hd => by
    have ih := iClosed_0 s l h d (i + 1) (by omega)
    simp only [allF]
    refine suc (f := fun n => impl_IsClosed.l1 n (i : Int) ((0 : Nat) : Int) s l) (fun n => ?_) (iClosed_1 s l h i (by omega) _ ih s.toNat 0 (by omega))
    rw [impl_IsClosed.l0, if_pos (by omega)]; rfl
theorem iClosed (s : Int) (l : List Int) (hn : l.length ≤ 4194304) : Ev (fun n => impl_IsClosed.f n s l) (closedT s l) := by
  unfold impl_IsClosed.f closedT
  refine bev (iTableOk s l hn) ?_
  by_cases h : tableOk s l = true
  · rw [h, Bool.true_and]
    have h0 : 0 ≤ s := by unfold tableOk at h; simp only [Bool.and_eq_true, decide_eq_true_eq] at h; exact h.1.1
    exact ifp rfl (iClosed_0 s l h s.toNat 0 (by omega))
  · rw [Bool.not_eq_true] at h
    rw [h, Bool.false_and]
    exact ifn (by simp) now
theorem and255 (n : Int) : Go.bits .and .i64 n 255 = n % 256 := by
  have h : (BitVec.ofInt 64 255).toNat = 2 ^ 8 - 1 := by decide
  have key : (BitVec.ofInt 64 n &&& BitVec.ofInt 64 255).toNat = (n % ((2 ^ 64 : Nat) : Int)).toNat % 2 ^ 8 := by
    rw [BitVec.toNat_and, BitVec.toNat_ofInt, h, Nat.and_two_pow_sub_one_eq_mod]
  show IntKind.i64.wrap ((BitVec.ofInt 64 n &&& BitVec.ofInt 64 255).toNat : Nat) = n % 256
  rw [key, IntKind.wrap_i64]
  omega
theorem byteM (s : List Int) (i h : Int) (hs : s.length ≤ 1048576) (h0 : 0 ≤ i) : ∃ b i' h', spec_l01Byte.f s i h = some (b, i', h') ∧ 0 ≤ b ∧ b < 256 ∧ 0 ≤ i' := by
  unfold spec_l01Byte.f
  by_cases c : i < (s.length : Int)
  · rw [if_pos c, if_pos h0, and255]
    refine ⟨_, _, _, rfl, ?_, ?_, ?_⟩
    · omega
    · omega
    · rw [w64 (by omega) (by omega)]; omega
  · rw [if_neg c, and255]
    exact ⟨_, _, _, rfl, by omega, by omega, h0⟩
theorem belowM (s : List Int) (i h : Int) (hs : s.length ≤ 1048576) (h0 : 0 ≤ i) (n : Int) (hn : 0 < n) (hn2 : n ≤ 256) : ∃ b i' h', spec_l01Below.f s i h n = some (b, i', h') ∧ 0 ≤ b ∧ b < n ∧ 0 ≤ i' := by
  obtain ⟨b, i', h', e, b0, b1, i0⟩ := byteM s i h hs h0
  unfold spec_l01Below.f
  rw [if_neg (by omega), if_pos hn2, e]
  simp only [Option.bind_some]
  rw [if_neg (by omega)]
  refine ⟨_, _, _, rfl, ?_, ?_, i0⟩
  · rw [Int.tmod_eq_emod_of_nonneg b0]; exact Int.emod_nonneg _ (by omega)
  · rw [Int.tmod_eq_emod_of_nonneg b0]; exact Int.emod_lt_of_pos _ hn
theorem newM_l (s : List Int) (hs : s.length ≤ 1048576) : ∀ (d : Nat) (i : Nat) (h : Int), i + d = s.length → ∃ h', Ev (fun k => spec_l01New.l0 k s h (i : Int)) (s, 0, h')
  | 0, i, h, hd => ⟨h, suc (f := fun _ => some (s, 0, h)) (fun k => by rw [spec_l01New.l0, if_neg (by omega)]) now⟩
  | d + 1, i, h, hd => by
    by_cases c : (i : Int) < 4000
    · obtain ⟨h', e⟩ := newM_l s hs d (i + 1) (Go.bits .and .i64 (wrap64 ((wrap64 ((wrap64 (h * 71)) + (wrap64 (rd s (i : Int))))) + 7)) 1073741823) (by omega)
      refine ⟨h', suc (fun k => ?_) e⟩
      rw [spec_l01New.l0, if_pos (by omega), if_pos c, if_pos (by omega), up1 (by omega) (by omega)]; rfl
    · exact ⟨h, suc (f := fun _ => some (s, 0, h)) (fun k => by rw [spec_l01New.l0, if_pos (by omega), if_neg c]) now⟩
theorem newM (s : List Int) (hs : s.length ≤ 1048576) : ∃ h', Ev (fun k => spec_l01New.f k s) (s, 0, h') := by
  unfold spec_l01New.f
  exact newM_l s hs s.length 0 _ (by omega)
/-- What the drawn graphs are. -/
def drawnG (n : Int) (l : List S70) : Prop := 1 ≤ n ∧ n ≤ 5 ∧ l.length ≤ 9 ∧ ∀ e ∈ l, (0 ≤ e.f0 ∧ e.f0 < n) ∧ (0 ≤ e.f1 ∧ e.f1 < n) ∧ -3 ≤ e.f2 ∧ e.f2 ≤ 10
theorem drawG_l (s : List Int) (hs : s.length ≤ 1048576) (n : Int) (hn : 1 ≤ n ∧ n ≤ 5) : ∀ (d : Nat) (i h : Int) (l : List S70), 0 ≤ i → l.length + d ≤ 9 → (∀ e ∈ l, (0 ≤ e.f0 ∧ e.f0 < n) ∧ (0 ≤ e.f1 ∧ e.f1 < n) ∧ -3 ≤ e.f2 ∧ e.f2 ≤ 10) → ∃ l' i' h', Ev (fun k => spec_l03Draw.l0 k (d : Int) s i h n l) (n, l', i', h') ∧ drawnG n l' ∧ 0 ≤ i'
  | 0, i, h, l, h0, hl, he => ⟨l, i, h, suc (f := fun _ => some (n, l, i, h)) (fun k => by rw [spec_l03Draw.l0, if_neg (by omega)]) now, ⟨hn.1, hn.2, by omega, he⟩, h0⟩
  | d + 1, i, h, l, h0, hl, he => by
    obtain ⟨a, i1, h1, e1, a0, a1, p1⟩ := belowM s i h hs h0 n (by omega) (by omega)
    obtain ⟨b, i2, h2, e2, b0, b1, p2⟩ := belowM s i1 h1 hs p1 n (by omega) (by omega)
    obtain ⟨c, i3, h3, e3, c0, c1, p3⟩ := belowM s i2 h2 hs p2 14 (by omega) (by omega)
    obtain ⟨l', i', h', e, x, y⟩ := drawG_l s hs n hn d i3 h3 (l ++ [(⟨a, b, wrap64 (c - 3)⟩ : S70)]) p3 (by simp only [List.length_append, List.length_cons, List.length_nil]; omega) (fun z hz => by
      rcases List.mem_append.1 hz with hz | hz
      · exact he z hz
      · rw [List.mem_singleton.1 hz]
        refine ⟨⟨a0, a1⟩, ⟨b0, b1⟩, ?_⟩
        show -3 ≤ wrap64 (c - 3) ∧ wrap64 (c - 3) ≤ 10
        rw [w64 (by omega) (by omega)]; omega)
    refine ⟨l', i', h', suc (fun k => ?_) e, x, y⟩
    rw [spec_l03Draw.l0, if_pos (by omega), e1]
    simp only [Option.bind_some]
    rw [e2]
    simp only [Option.bind_some]
    rw [e3]
    simp only [Option.bind_some]
    rw [if_pos (by omega), w64 (i := ((d + 1 : Nat) : Int) - 1) (by omega) (by omega), show ((d + 1 : Nat) : Int) - 1 = (d : Int) by omega]
theorem drawG (s : List Int) (hs : s.length ≤ 1048576) (i h : Int) (h0 : 0 ≤ i) : ∃ n l i' h', Ev (fun k => spec_l03Draw.f k s i h) (n, l, i', h') ∧ drawnG n l ∧ 0 ≤ i' := by
  obtain ⟨a, i1, h1, e1, a0, a1, p1⟩ := belowM s i h hs h0 5 (by omega) (by omega)
  obtain ⟨b, i2, h2, e2, b0, b1, p2⟩ := belowM s i1 h1 hs p1 10 (by omega) (by omega)
  obtain ⟨l', i', h', e, x, y⟩ := drawG_l s hs (1 + a) ⟨by omega, by omega⟩ b.toNat i2 h2 [] p2 (by simp only [List.length_nil]; omega) (fun z hz => by simp at hz)
  refine ⟨1 + a, l', i', h', ?_, x, y⟩
  unfold spec_l03Draw.f
  refine bnd e1 (bnd e2 ?_)
  rw [w64 (by omega) (by omega)]
  rw [Int.toNat_of_nonneg b0] at e
  exact e
theorem makeG (s : List Int) (hs : s.length ≤ 1048576) : ∃ n l, Ev (fun k => spec_MakeGraph.f k s) (n, l) ∧ drawnG n l := by
  obtain ⟨h, e⟩ := newM s hs
  obtain ⟨n, l, i', h', e2, x, _⟩ := drawG s hs 0 h (by omega)
  refine ⟨n, l, ?_, x⟩
  unfold spec_MakeGraph.f
  exact bev e (bev e2 now)
theorem drawnG_ok {n : Int} {l : List S70} (h : drawnG n l) : graphOk n (l.map tr) = true := by
  obtain ⟨h1, h2, h3, h4⟩ := h
  unfold graphOk
  rw [Bool.and_eq_true, decide_eq_true_eq, List.all_eq_true]
  refine ⟨⟨by omega, by omega, by rw [List.length_map]; omega⟩, fun e he => ?_⟩
  obtain ⟨x, hx, rfl⟩ := List.mem_map.1 he
  have := h4 x hx
  unfold edgeOk tr
  rw [decide_eq_true_eq]
  exact ⟨this.1, this.2.1, by simp only []; omega, by simp only []; omega⟩
theorem mono_step {es : List E3} {s : FS} {i v : Nat} (h : s.k v = true) : (fstep es i s).o v ≤ s.o v := by
  unfold fstep
  split
  · rename_i c
    by_cases e : v = To es i
    · subst e
      unfold improves at c
      simp only [h, Bool.and_eq_true, Bool.not_true, Bool.false_or, decide_eq_true_eq] at c
      simp only [upd_same]; omega
    · simp only [upd_ne _ _ e]; omega
  · omega
theorem mono_rnd {es : List E3} {v : Nat} : ∀ (d i : Nat) (s : FS), s.k v = true → (frnd es i d s).o v ≤ s.o v
  | 0, _, s, _ => Int.le_refl _
  | d + 1, i, s, h => Int.le_trans (mono_rnd d (i + 1) _ (known_step h)) (mono_step h)
theorem mono_rounds {es : List E3} {v : Nat} : ∀ (r : Nat) (s : FS), s.k v = true → (frounds es r s).o v ≤ s.o v
  | 0, s, _ => Int.le_refl _
  | r + 1, s, h => Int.le_trans (mono_rounds r _ (known_rnd es.length 0 _ h)) (mono_rnd es.length 0 { s with ch := -1 } h)
theorem sf_true (es : List E3) : ∀ (d : Nat) (L : LS), (sfLoop es d L).2 = true → ∃ r, r < d ∧ (lrounds es (r + 1) L).ch < 0 ∧ (sfLoop es d L).1 = finL (lrounds es (r + 1) L).o (lrounds es (r + 1) L).k
  | 0, L, h => by simp [sfLoop] at h
  | d + 1, L, h => by
    simp only [sfLoop] at h ⊢
    by_cases c : (lround es L).ch < 0
    · exact ⟨0, by omega, c, by rw [if_pos c]; rfl⟩
    · rw [if_neg c] at h ⊢
      obtain ⟨r, h1, h2, h3⟩ := sf_true es d _ h
      exact ⟨r + 1, by omega, h2, h3⟩
theorem sf_false (es : List E3) : ∀ (d : Nat) (L : LS), ¬ (sfLoop es d L).2 = true → ∀ r, r < d → 0 ≤ (lrounds es (r + 1) L).ch
  | 0, L, h => by intro r hr; omega
  | d + 1, L, h => by
    simp only [sfLoop] at h
    by_cases c : (lround es L).ch < 0
    · rw [if_pos c] at h; exact absurd rfl h
    · rw [if_neg c] at h
      intro r hr
      cases r with
      | zero => show 0 ≤ (lround es L).ch; omega
      | succ r => exact sf_false es d _ h r (by omega)
theorem sumP_walk {n : Nat} {es : List E3} (N : Neg n es) : ∀ m, Walk es (parN es (negS n es) m (negC n es)) (negC n es) (sumP es (negS n es) (negC n es) m)
  | 0 => Walk.nil _
  | m + 1 => by
    obtain ⟨a, b, _⟩ := neg_lastC N m
    have w := sumP_walk N m
    rw [← b] at w
    exact Walk.cons (by omega) w
theorem neg_walk {n : Nat} {es : List E3} (N : Neg n es) : ∃ c w, c < n ∧ Walk es c c w ∧ w < 0 := by
  obtain ⟨m, _, _, h1, _, h2⟩ := N.back
  have w := sumP_walk N m
  rw [h1] at w
  exact ⟨negC n es, _, (neg_lastC N 0).2.2, w, h2⟩
/-- No edge is too short for the numbers of the last round: no walk back is negative. -/
theorem no_walk {n : Nat} {es : List E3} (hv : ValidE n es) (h : (negS n es).ch < 0) {c : Nat} {w : Int} (hc : c < n) (hw : Walk es c c w) : 0 ≤ w := by
  obtain ⟨k, rfl⟩ : ∃ k, n = k + 1 := ⟨n - 1, by omega⟩
  have hk : ∀ s : FS, s.k c = true → (frounds es (k + 1) s).ch < 0 → 0 ≤ w := by
    intro s hs hq
    rw [frounds_succ] at hq
    exact no_neg (fround_quiet es _ hq).2 hw (known_rounds k s hs)
  rw [neg_fs hv] at h
  refine hk _ ?_ h
  show rb (List.replicate (k + 1) true) (c : Int) = true
  unfold rb rdOf
  simp [List.getD_eq_getElem?_getD, hc]
/-- What a told row of distances is: a state of numbers in which every edge holds. -/
structure Dist (n : Nat) (es : List E3) (s : Nat) (row : List Int) (F : FS) : Prop where
  len : row.length = n
  at_ : ∀ v, v < n → rd row (v : Int) = if F.k v = true then (if F.o v > 1000000 then 1000000 else F.o v) else 1000000
  holds_ : ∀ j, j < es.length → holds es F j
  sound : ∀ v, F.k v = true → ∃ a, Walk es s v a ∧ F.o v = a
  src : F.k s = true ∧ F.o s = 0
theorem fin_init (n s : Nat) (h : s < n) : (fsOf (sfInit n s)).k s = true ∧ (fsOf (sfInit n s)).o s = 0 ∧ ∀ u, (fsOf (sfInit n s)).k u = true → u = s := by
  refine ⟨?_, ?_, fun u hu => ?_⟩
  · show rb ((List.replicate n false).set s true) (s : Int) = true
    unfold rb rdOf; simp [List.getD_eq_getElem?_getD, h]
  · show rd (List.replicate n 0) (s : Int) = 0
    unfold rd; simp [List.getD_eq_getElem?_getD, h]
  · have hu : rb ((List.replicate n false).set s true) (u : Int) = true := hu
    by_cases e : u = s
    · exact e
    · exfalso
      unfold rb rdOf at hu
      simp only [Int.toNat_natCast, List.getD_eq_getElem?_getD] at hu
      rw [List.getElem?_set_ne (by omega)] at hu
      rw [List.getElem?_replicate] at hu
      split at hu <;> simp at hu
theorem sf_dist {n : Nat} {es : List E3} (hv : ValidE n es) {s : Nat} (hs : s < n) (h : (sfLoop es n (sfInit n s)).2 = true) : ∃ F, Dist n es s (sfLoop es n (sfInit n s)).1 F ∧ ∃ r, r < n ∧ F = fsOf (lrounds es (r + 1) (sfInit n s)) := by
  obtain ⟨r, hr, hq, e⟩ := sf_true es n _ h
  have hg := good_rounds (es := es) (r + 1) _ (good_init n s)
  have hf := fs_rounds hv (r + 1) _ (good_init n s)
  obtain ⟨i1, i2, i3⟩ := fin_init n s hs
  have hq' : (frounds es (r + 1) (fsOf (sfInit n s))).ch < 0 := by rw [← hf]; exact hq
  have hq2 := hq'
  rw [frounds_succ] at hq2
  obtain ⟨q1, q2⟩ := fround_quiet es _ hq2
  have hh : ∀ j, j < es.length → holds es (frounds es (r + 1) (fsOf (sfInit n s))) j := by
    intro j hj
    rw [frounds_succ, q1]
    exact q2 j hj
  have snd : Sound es (fsOf (sfInit n s)) (frounds es (r + 1) (fsOf (sfInit n s))) := sound_rounds (r + 1) _ (fun v hv => ⟨v, 0, hv, Walk.nil v, by omega⟩)
  have snd' : ∀ v, (frounds es (r + 1) (fsOf (sfInit n s))).k v = true → ∃ a, Walk es s v a ∧ (frounds es (r + 1) (fsOf (sfInit n s))).o v = a := by
    intro v hk
    obtain ⟨u, a, h1, h2, h3⟩ := snd v hk
    obtain rfl := i3 u h1
    rw [i2, Int.zero_add] at h3
    exact ⟨a, h2, h3⟩
  have ks := known_rounds (es := es) (r + 1) _ i1
  refine ⟨frounds es (r + 1) (fsOf (sfInit n s)), ⟨?_, ?_, hh, snd', ks, ?_⟩, r, hr, hf.symm⟩
  · rw [e, finL_len _ _ (by rw [hg.1, hg.2.2]), hg.1]
  · intro v hvn
    rw [e, finL_get _ _ v (by rw [hg.1, hg.2.2]) (by rw [hg.1]; exact hvn), ← hf]
    rfl
  · obtain ⟨a, h1, h2⟩ := snd' s ks
    have h3 := no_neg hh h1 ks
    have h4 := mono_rounds (es := es) (r + 1) _ i1
    omega
theorem sf_ok {n : Nat} {es : List E3} (hv : ValidE n es) (hq : (negS n es).ch < 0) {s : Nat} (hs : s < n) : (sfLoop es n (sfInit n s)).2 = true := by
  refine Classical.byContradiction fun h => ?_
  have h1 := sf_false es n _ h (n - 1) (by omega)
  rw [show n - 1 + 1 = n by omega] at h1
  have h2 : 0 ≤ (frounds es n (fsOf (sfInit n s))).ch := by rw [← fs_rounds hv n _ (good_init n s)]; exact h1
  have hI := neg_of_change n (by omega) (valid_nodes hv) _ h2
  obtain ⟨v, w, _, h3, h4⟩ := hI
  have hvn : v < n := by
    cases h3 with
    | nil => omega
    | cons hi _ => exact (valid_nodes hv _ hi).1
  have := no_walk hv hq hvn h3
  omega
theorem sf_bad {n : Nat} {es : List E3} (hv : ValidE n es) (hq : 0 ≤ (negS n es).ch) : ∃ c, c < n ∧ ¬ (sfLoop es n (sfInit n c)).2 = true := by
  obtain ⟨c, w, hc, h1, h2⟩ := neg_walk (neg_of hv hq)
  refine ⟨c, hc, fun h => ?_⟩
  obtain ⟨F, D, _⟩ := sf_dist hv hc h
  have := no_neg D.holds_ h1 D.src.1
  omega
theorem sfM_at {n : Int} {es : List E3} (hg : graphOk n es = true) {i : Nat} (hi : (i : Int) < n) : sfM n es (i : Int) = sfLoop es n.toNat (sfInit n.toNat i) := by
  unfold sfM
  rw [if_pos ⟨hg, by omega, hi⟩]; rfl
def rowsC (n : Int) (es : List E3) : Nat → Nat → List Int
  | 0, _ => []
  | d + 1, i => (sfM n es (i : Int)).1.map clampB ++ rowsC n es d (i + 1)
theorem closeL_ok (n : Int) (es : List E3) : ∀ (d i : Nat) (o : List Int), (∀ j, i ≤ j → j < i + d → (sfM n es (j : Int)).2 = true) → closeL n es d i o = (n, o ++ rowsC n es d i, true)
  | 0, i, o, _ => by simp [closeL, rowsC]
  | d + 1, i, o, h => by
    rw [closeL, if_pos (h i (by omega) (by omega)), closeL_ok n es d (i + 1) _ (fun j h1 h2 => h j (by omega) (by omega)), rowsC, List.append_assoc]
theorem closeL_bad (n : Int) (es : List E3) : ∀ (d i : Nat) (o : List Int), (∃ j, i ≤ j ∧ j < i + d ∧ ¬ (sfM n es (j : Int)).2 = true) → closeL n es d i o = (0, [], false)
  | 0, i, o, h => by obtain ⟨j, h1, h2, _⟩ := h; omega
  | d + 1, i, o, h => by
    by_cases c : (sfM n es (i : Int)).2 = true
    · rw [closeL, if_pos c]
      obtain ⟨j, h1, h2, h3⟩ := h
      exact closeL_bad n es d (i + 1) _ ⟨j, by
        rcases Nat.lt_or_ge i j with h4 | h4
        · exact h4
        · have : i = j := by omega
          subst this; exact absurd c h3, by omega, h3⟩
    · rw [closeL, if_neg c]
theorem close_ok {n : Int} {es : List E3} (hg : graphOk n es = true) (h : negM n es = []) : closeM n es = (n, rowsC n es n.toNat 0, true) ∧ ∀ i : Nat, (i : Int) < n → (sfM n es (i : Int)).2 = true := by
  have hv := valid_of hg
  have hq : (negS n.toNat es).ch < 0 := by
    have := negM_nil.1 h
    rcases Int.lt_or_le (negS n.toNat es).ch 0 with h1 | h1
    · exact h1
    · exact absurd ⟨hg, h1⟩ this
  have ha : ∀ i : Nat, (i : Int) < n → (sfM n es (i : Int)).2 = true := fun i hi => by
    rw [sfM_at hg hi]; exact sf_ok hv hq (by omega)
  refine ⟨?_, ha⟩
  unfold closeM
  rw [if_pos hg, closeL_ok n es n.toNat 0 [] (fun j _ hj => ha j (by omega)), List.nil_append]
theorem close_bad {n : Int} {es : List E3} (h : negM n es ≠ []) : closeM n es = (0, [], false) := by
  have c : graphOk n es = true ∧ 0 ≤ (negS n.toNat es).ch := Classical.byContradiction fun c => h (negM_nil.2 c)
  obtain ⟨i, hi, h1⟩ := sf_bad (valid_of c.1) c.2
  unfold closeM
  rw [if_pos c.1]
  have h0 := (graphOk_iff c.1).1
  exact closeL_bad n es n.toNat 0 [] ⟨i, by omega, by omega, by rw [sfM_at c.1 (by omega)]; exact h1⟩
theorem rd_app {a b : List Int} (x : Nat) : rd (a ++ b) (x : Int) = if x < a.length then rd a x else rd b ((x - a.length : Nat) : Int) := by
  unfold rd
  simp only [Int.toNat_natCast, List.getD_eq_getElem?_getD]
  split
  · rename_i h; rw [List.getElem?_append_left h]
  · rename_i h; rw [List.getElem?_append_right (by omega)]
theorem rd_map (f : Int → Int) {a : List Int} (x : Nat) (h : x < a.length) : rd (a.map f) (x : Int) = f (rd a x) := by
  rw [rd_at (by simpa using h), rd_at h, List.getElem_map]
theorem rowsC_len {n : Int} {es : List E3} (m : Nat) : ∀ (d i : Nat), (∀ j, i ≤ j → j < i + d → (sfM n es (j : Int)).1.length = m) → (rowsC n es d i).length = d * m
  | 0, i, _ => by simp [rowsC]
  | d + 1, i, h => by
    rw [rowsC, List.length_append, List.length_map, h i (by omega) (by omega), rowsC_len m d (i + 1) (fun j h1 h2 => h j (by omega) (by omega)), Nat.add_mul, Nat.one_mul]; omega
theorem rowsC_at {n : Int} {es : List E3} (m : Nat) : ∀ (d i : Nat), (∀ j, i ≤ j → j < i + d → (sfM n es (j : Int)).1.length = m) → ∀ a k, a < d → k < m → rd (rowsC n es d i) ((a * m + k : Nat) : Int) = clampB (rd (sfM n es ((i + a : Nat) : Int)).1 (k : Int))
  | 0, i, _, a, k, ha, _ => by omega
  | d + 1, i, h, a, k, ha, hk => by
    rw [rowsC, rd_app, List.length_map, h i (by omega) (by omega)]
    cases a with
    | zero => 
      rw [if_pos (by omega), Nat.zero_mul, Nat.zero_add, rd_map _ _ (by rw [h i (by omega) (by omega)]; exact hk)]; rfl
    | succ a =>
      have e : (a + 1) * m + k = m + (a * m + k) := by rw [Nat.add_mul, Nat.one_mul]; omega
      rw [e, if_neg (by omega), Nat.add_sub_cancel_left, rowsC_at m d (i + 1) (fun j h1 h2 => h j (by omega) (by omega)) a k (by omega) hk, show i + 1 + a = i + (a + 1) by omega]
/-- The table of distances: each cell is the distance of a walk, or a million where none is. -/
structure Tab (n : Nat) (es : List E3) (cells : List Int) : Prop where
  len : cells.length = n * n
  row : ∀ i, i < n → ∃ F row, (∀ k, k < n → rd cells ((i * n + k : Nat) : Int) = clampB (rd row k)) ∧ Dist n es i row F ∧ sfM (n : Int) es (i : Int) = (row, true) ∧ ∃ r, r < n ∧ F = fsOf (lrounds es (r + 1) (sfInit n i))
theorem tab_of {n : Int} {es : List E3} (hg : graphOk n es = true) (h : negM n es = []) : closeM n es = (n, rowsC n es n.toNat 0, true) ∧ Tab n.toNat es (rowsC n es n.toNat 0) := by
  obtain ⟨h1, h2⟩ := close_ok hg h
  have hv := valid_of hg
  have h0 := (graphOk_iff hg).1
  have hD : ∀ i : Nat, i < n.toNat → ∃ F, Dist n.toNat es i (sfM n es (i : Int)).1 F ∧ ∃ r, r < n.toNat ∧ F = fsOf (lrounds es (r + 1) (sfInit n.toNat i)) := fun i hi => by
    have := h2 i (by omega)
    rw [sfM_at hg (by omega)] at this ⊢
    exact sf_dist hv hi this
  have hl : ∀ j, 0 ≤ j → j < 0 + n.toNat → (sfM n es (j : Int)).1.length = n.toNat := fun j _ hj => by
    obtain ⟨F, D, _⟩ := hD j (by omega)
    exact D.len
  refine ⟨h1, rowsC_len n.toNat n.toNat 0 hl, fun i hi => ?_⟩
  obtain ⟨F, D, hr⟩ := hD i hi
  refine ⟨F, _, fun k hk => ?_, D, ?_, hr⟩
  · rw [rowsC_at n.toNat n.toNat 0 hl i k hi hk, Nat.zero_add]
  · rw [Int.toNat_of_nonneg h0]
    exact Prod.ext rfl (h2 i (by omega))
theorem clampB_in (x : Int) : -1000000 ≤ clampB x ∧ clampB x ≤ 1000000 := by
  unfold clampB
  repeat' split
  all_goals omega
theorem tab_cell {n : Nat} {es : List E3} {cells : List Int} (T : Tab n es cells) {i k : Nat} (hi : i < n) (hk : k < n) : cellT (n : Int) cells i k = rd cells ((i * n + k : Nat) : Int) := by
  unfold cellT
  congr 1
theorem tab_ok {n : Nat} {es : List E3} {cells : List Int} (h8 : n ≤ 8) (T : Tab n es cells) : tableOk (n : Int) cells = true := by
  unfold tableOk
  rw [Bool.and_eq_true, decide_eq_true_eq, allF0]
  refine ⟨⟨by omega, by omega, by rw [T.len]; simp⟩, fun x hx => ?_⟩
  rw [T.len] at hx
  have hn : 0 < n := by
    rcases Nat.eq_zero_or_pos n with e | e
    · subst e; simp at hx
    · exact e
  have hq : x / n < n := Nat.div_lt_of_lt_mul hx
  have hr : x % n < n := Nat.mod_lt _ hn
  have e := Nat.div_add_mod x n
  rw [Nat.mul_comm] at e
  obtain ⟨F, row, h1, D, _⟩ := T.row _ hq
  have h2 := h1 _ hr
  rw [e] at h2
  unfold cellOk
  rw [decide_eq_true_eq, h2]
  refine ⟨(clampB_in _).1, (clampB_in _).2, fun hd => ?_⟩
  have hd' : x / n = x % n := by omega
  rw [D.at_ _ hr, ← hd', if_pos D.src.1, D.src.2]
  decide
theorem tab_edge {n : Nat} {es : List E3} {cells : List Int} (hv : ValidE n es) (T : Tab n es cells) {j : Nat} (hj : j < es.length) : cellT (n : Int) cells (Fr es j) (To es j) ≤ Wt es j := by
  obtain ⟨hf, ht⟩ := valid_nodes hv j hj
  rw [tab_cell T hf ht]
  obtain ⟨F, row, h1, D, _⟩ := T.row _ hf
  obtain ⟨k1, k2⟩ := D.holds_ j hj D.src.1
  rw [h1 _ ht, D.at_ _ ht, if_pos k1]
  rw [D.src.2] at k2
  have hw := (hv j hj).2.2
  unfold Wt at k2 ⊢
  unfold clampB
  repeat' split
  all_goals omega
/-- Weights of at most a hundred: no distance comes near a million. -/
def SmallW (es : List E3) : Prop := ∀ i : Nat, i < es.length → -100 ≤ (eAt es i).2.2 ∧ (eAt es i).2.2 ≤ 100
theorem smallW_step {n : Nat} {es : List E3} {L : LS} {i : Nat} {B : Int} (hv : ValidE n es) (hw : SmallW es) (hi : i < es.length) (h : GoodL n L) (hs : SmallL B L) : SmallL (B + 100) (lstep es i L) := by
  obtain ⟨⟨f0, f1⟩, _, _⟩ := hv i hi
  have hm := hs _ (rd_mem f0 (by rw [h.1]; exact f1))
  have hw' := hw i hi
  unfold lstep
  split
  · intro x hx
    rcases List.mem_or_eq_of_mem_set hx with h1 | h1
    · have := hs x h1; omega
    · omega
  · intro x hx
    have := hs x hx; omega
theorem smallW_rnd {n : Nat} {es : List E3} (hv : ValidE n es) (hw : SmallW es) : ∀ (d i : Nat) (L : LS) (B : Int), i + d ≤ es.length → GoodL n L → SmallL B L → SmallL (B + 100 * d) (lrnd es i d L)
  | 0, _, _, B, _, _, h => by simpa [lrnd] using h
  | d + 1, i, L, B, hd, h, hs => by
    have := smallW_rnd hv hw d (i + 1) (lstep es i L) (B + 100) (by omega) (good_step i h) (smallW_step hv hw (by omega) h hs)
    rw [show B + 100 * ((d + 1 : Nat) : Int) = B + 100 + 100 * (d : Int) by omega]
    exact this
theorem smallW_rounds {n : Nat} {es : List E3} (hv : ValidE n es) (hw : SmallW es) (he : es.length ≤ 80) : ∀ (r : Nat) (L : LS) (B : Int), GoodL n L → SmallL B L → SmallL (B + 8000 * r) (lrounds es r L)
  | 0, L, B, _, h => by simpa [lrounds] using h
  | r + 1, L, B, hg, hs => by
    have h1 := smallW_rnd hv hw es.length 0 { L with ch := -1 } B (by omega) hg hs
    have h2 : SmallL (B + 8000) (lround es L) := by
      intro x hx
      have := h1 x hx
      omega
    have := smallW_rounds hv hw he r _ _ (good_round hg) h2
    rw [show B + 8000 * ((r + 1 : Nat) : Int) = B + 8000 + 8000 * (r : Int) by omega]
    exact this
theorem dist_small {n : Nat} {es : List E3} (hv : ValidE n es) (hw : SmallW es) (he : es.length ≤ 80) (h8 : n ≤ 8) {s r v : Nat} (hr : r < n) (hvn : v < n) : -64000 ≤ (fsOf (lrounds es (r + 1) (sfInit n s))).o v ∧ (fsOf (lrounds es (r + 1) (sfInit n s))).o v ≤ 64000 := by
  have hg := good_rounds (es := es) (r + 1) _ (good_init n s)
  have hs := smallW_rounds hv hw he (r + 1) _ 0 (good_init n s) (small_init n s)
  have := hs _ (rd_mem (l := (lrounds es (r + 1) (sfInit n s)).o) (i := (v : Int)) (by omega) (by rw [hg.1]; omega))
  show -64000 ≤ rd _ (v : Int) ∧ rd _ (v : Int) ≤ 64000
  omega
theorem tab_val {n : Nat} {es : List E3} {cells : List Int} (hv : ValidE n es) (hw : SmallW es) (he : es.length ≤ 80) (h8 : n ≤ 8) (T : Tab n es cells) {i : Nat} (hi : i < n) : ∃ F : FS, (∀ j, j < es.length → holds es F j) ∧ (∀ v, F.k v = true → ∃ a, Walk es i v a ∧ F.o v = a) ∧ F.k i = true ∧ F.o i = 0 ∧ ∀ k, k < n → (cellT (n : Int) cells i k = if F.k k = true then F.o k else 1000000) ∧ -64000 ≤ F.o k ∧ F.o k ≤ 64000 := by
  obtain ⟨F, row, h1, D, _, r, hr, e⟩ := T.row i hi
  refine ⟨F, D.holds_, D.sound, D.src.1, D.src.2, fun k hk => ?_⟩
  have hb := dist_small hv hw he h8 (s := i) hr hk
  rw [← e] at hb
  refine ⟨?_, hb⟩
  rw [tab_cell T hi hk, h1 k hk, D.at_ k hk]
  unfold clampB
  repeat' split
  all_goals first | rfl | omega | simp_all
theorem tab_closed {n : Nat} {es : List E3} {cells : List Int} (hv : ValidE n es) (hw : SmallW es) (he : es.length ≤ 80) (h8 : n ≤ 8) (T : Tab n es cells) : closedT (n : Int) cells = true := by
  unfold closedT
  rw [Bool.and_eq_true, allF0]
  refine ⟨tab_ok h8 T, fun i hi => ?_⟩
  rw [allF0]
  intro j hj
  rw [allF0]
  intro k hk
  rw [Int.toNat_natCast] at hi hj hk
  unfold closedOk
  rw [decide_eq_true_eq]
  obtain ⟨F, f1, f2, f3, f4, f5⟩ := tab_val hv hw he h8 T hi
  obtain ⟨G, g1, g2, g3, g4, g5⟩ := tab_val hv hw he h8 T hj
  obtain ⟨a1, a2, a3⟩ := f5 k hk
  obtain ⟨b1, b2, b3⟩ := f5 j hj
  obtain ⟨c1, c2, c3⟩ := g5 k hk
  rw [a1, b1, c1]
  have hX : (if F.k k = true then F.o k else 1000000) ≤ 1000000 := by split <;> omega
  cases hF : F.k j with
  | false => 
    simp only [Bool.false_eq_true, if_false]
    generalize (if F.k k = true then F.o k else 1000000) = X at hX ⊢
    unfold addB
    rw [if_pos (by omega)]
    omega
  | true =>
    cases hG : G.k k with
    | false =>
      simp only [Bool.false_eq_true, if_false, if_true]
      generalize (if F.k k = true then F.o k else 1000000) = X at hX ⊢
      unfold addB
      rw [if_neg (by omega), if_pos (by omega)]
      omega
    | true =>
      obtain ⟨w, hwk, ew⟩ := g2 k hG
      obtain ⟨k1, k2⟩ := walk_low f1 hwk hF
      rw [k1]
      simp only [if_true]
      unfold addB
      repeat' split
      all_goals omega
theorem drawnG_small {n : Int} {l : List S70} (h : drawnG n l) : SmallW (l.map tr) := by
  obtain ⟨h1, h2, h3, h4⟩ := h
  intro i hi
  have hm := eAt_mem (es := l.map tr) (j := (i : Int)) (by omega) (by omega)
  obtain ⟨x, hx, e⟩ := List.mem_map.1 hm
  have := h4 x hx
  rw [← e]
  show -100 ≤ x.f2 ∧ x.f2 ≤ 100
  omega
theorem dist_l (n : Int) (g : List S70) (t : Int) (cells : List Int) (hc : cells.length ≤ 4194304) (R : Bool) (hg : ∀ i : Nat, i < g.length → cellOf t cells (eAt (g.map tr) i).1 (eAt (g.map tr) i).2.1 ≤ (eAt (g.map tr) i).2.2) (hl : g.length ≤ 80)
    (h : Ev (fun k => (impl_ShortestFrom.f k n g 0).bind fun bt263 => (if bt263.2 = true then (if (bt263.1.length : Int) = n then ((impl_IsClosed.f k t cells).bind fun t267 => (if t267 = true then ((impl_TableOk.f k t cells).bind fun t268 => (if t268 = true then (if 0 < (bt263.1.length : Int) then (if (rd bt263.1 0) = 0 then ((impl_NegativeCycle.f k n g).bind fun t270 => (some ((t270.length : Int) == 0))) else (some false)) else (none)) else (some false))) else (some false))) else (some false)) else (some false))) R) : ∀ (d i : Nat), i + d = g.length → Ev (fun k => laws_FnDistances.l0 k g (g.length : Int) (i : Int) n g t cells) R
  | 0, i, hd => suc (fun k => by rw [laws_FnDistances.l0, if_neg (by omega)]) h
  | d + 1, i, hd => by
    have ih := dist_l n g t cells hc R hg hl h d (i + 1) (by omega)
    have hv := iCellOf t cells (eAt (g.map tr) i).1 (eAt (g.map tr) i).2.1 hc
    refine suc (f := fun k => (impl_CellOf.f k t cells (eAt (g.map tr) i).1 (eAt (g.map tr) i).2.1).bind fun t262 => if t262 > (eAt (g.map tr) i).2.2 then some false else laws_FnDistances.l0 k g (g.length : Int) ((i + 1 : Nat) : Int) n g t cells) (fun k => ?_) (bev hv (ifn ?_ ih))
    · rw [laws_FnDistances.l0, if_pos (by omega), if_pos (by omega), if_pos (by omega), tr0, tr1, tr2, up1 (by omega) (by omega)]; rfl
    · have := hg i (by omega); omega

theorem FnDistances : laws_FnDistances.Pure := by
  intro l hl _
  refine Ev.rounds ?_
  unfold laws_FnDistances.f
  by_cases hx : (l.length : Int) > 1048576
  · exact ifp hx now
  refine ifn hx ?_
  obtain ⟨n, g, hm, hD⟩ := makeG l (by omega)
  have hg := drawnG_ok hD
  have hN := iNeg n g
  have hC := iClose n g

  by_cases c : negM n (g.map tr) = []
  · have hv := valid_of hg
    obtain ⟨h0, h8, hlen, _⟩ := graphOk_iff hg
    have hW := drawnG_small hD
    obtain ⟨h1, T⟩ := tab_of hg c
    have e : ((n.toNat : Nat) : Int) = n := Int.toNat_of_nonneg h0
    rw [h1] at hC
    rw [c] at hN
    generalize rowsC n (g.map tr) n.toNat 0 = cells at *
    have hcl : cells.length ≤ 64 := by
      have := Nat.mul_le_mul (show n.toNat ≤ 8 by omega) (show n.toNat ≤ 8 by omega)
      rw [T.len]; omega
    have hok := tab_ok (by omega) T
    have hcd := tab_closed hv hW hlen (by omega) T
    rw [e] at hok hcd
    obtain ⟨F, row, r1, D, r2, _⟩ := T.row 0 (by have := hD.1; omega)
    rw [e] at r2
    have hS := iSf n g 0
    have r3 : sfM n (g.map tr) 0 = (row, true) := r2
    rw [r3] at hS
    refine bev hm (bev hC (ifp rfl ?_))
    refine dist_l n g n cells (by omega) true (fun i hi => ?_) (by simpa using hlen) ?_ g.length 0 (by omega)
    · obtain ⟨⟨f0, f1⟩, ⟨t0, t1⟩, _⟩ := hv i (by rw [List.length_map]; exact hi)
      have h5 := tab_edge hv T (j := i) (by rw [List.length_map]; exact hi)
      unfold cellOf
      rw [if_pos ⟨hok, ⟨f0, by omega⟩, ⟨t0, by omega⟩⟩]
      rw [e] at h5
      exact h5
    · have hn1 := hD.1
      have hlr : (row.length : Int) = n := by rw [D.len]; exact e
      have hr0 : rd row 0 = 0 := by
        have := D.at_ 0 (by omega)
        rw [D.src.2, if_pos D.src.1] at this
        exact this
      refine bev hS (ifp rfl (ifp hlr (bev (iClosed n cells (by omega)) (ifp hcd (bev (iTableOk n cells (by omega)) (ifp hok (ifp (show (0 : Int) < (row.length : Int) by omega) (ifp hr0 (bev hN now)))))))))
  · rw [close_bad c] at hC
    refine bev hm (bev hC (ifn (by simp) (bev hN (ifp ?_ (bnd (iGraphOk n g) ?_)))))
    · have : 0 < (negM n (g.map tr)).length := List.length_pos_iff.2 c
      omega
    · rw [hg]; exact now

end Go.Proofs.Ytbbblnmngjhadaa.Own
