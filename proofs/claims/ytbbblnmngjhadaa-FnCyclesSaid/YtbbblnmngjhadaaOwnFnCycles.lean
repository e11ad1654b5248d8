/- The law FnCycles answers true for every code. No condition. -/
import Derived.Test.YtbbblnmngjhadaaQFnCyclesx7
import Derived.Test.YtbbblnmngjhadaaNc
namespace Go.Proofs.Ytbbblnmngjhadaa.Own
open Go.RowKit Go.Proofs.Ytbbblnmngjhadaa.QFnCycles Go.Proofs.YtbbblnmngjhadaaW.PrintWords Go.Proofs.YtbbblnmngjhadaaW.PrintLast Go.Proofs.YtbbblnmngjhadaaW.PrintMore Go.Proofs.YtbbblnmngjhadaaT Go.Proofs.YtbbblnmngjhadaaT
set_option linter.unusedVariables false
set_option linter.unusedSimpArgs false

theorem rd_mid (a b : List Int) (x : Int) : rd (a ++ x :: b) (a.length : Int) = x := by unfold rd; simp [List.getD_eq_getElem?_getD]
theorem rb_mid (a b : List Bool) (x : Bool) {n : Nat} (h : a.length = n) : rdOf false (a ++ x :: b) (n : Int) = x := by subst h; unfold rdOf; simp [List.getD_eq_getElem?_getD]
theorem set_mid (a b : List Int) (x y : Int) : (a ++ x :: b).set (a.length : Int).toNat y = a ++ y :: b := by simp
theorem rev_l : ∀ (n : Nat) (mid p q : List Int), mid.length = n → p.length = q.length → p.length + q.length + mid.length ≤ 1000000 → Ev (fun k => slices_Reverse_int_int.l0 k (p ++ (mid ++ q)) (p.length : Int) ((p.length : Int) + mid.length - 1)) (p ++ (mid.reverse ++ q)) := by
  intro n
  induction n using Nat.strongRecOn with
  | _ n ih =>
    intro mid p q hn hp hb
    cases mid with
    | nil => exact suc (f := fun _ => some (p ++ ([] ++ q))) (fun k => by rw [slices_Reverse_int_int.l0, if_neg (by simp only [List.length_nil]; omega)]) now
    | cons a t =>
      rcases List.eq_nil_or_concat t with h | ⟨m, b, h⟩
      · subst h
        exact suc (f := fun _ => some (p ++ ([a] ++ q))) (fun k => by rw [slices_Reverse_int_int.l0, if_neg (by simp only [List.length_cons, List.length_nil]; omega)]) now
      · rw [List.concat_eq_append] at h
        subst h
        simp only [List.length_cons, List.length_append, List.length_nil] at hn hb
        have e1 : p ++ (a :: (m ++ [b]) ++ q) = p ++ a :: (m ++ b :: q) := by simp
        have e2 : p ++ a :: (m ++ b :: q) = (p ++ a :: m) ++ b :: q := by simp
        have hlen : ((p ++ a :: (m ++ b :: q)).length : Int) = (p.length : Int) + (m.length + 2) + q.length := by simp only [List.length_append, List.length_cons]; omega
        have r1 : rd (p ++ a :: (m ++ b :: q)) (p.length : Int) = a := rd_mid _ _ _
        have el : (p.length : Int) + ((a :: (m ++ [b])).length : Int) - 1 = ((p ++ a :: m).length : Int) := by simp only [List.length_append, List.length_cons, List.length_nil]; omega
        have r2 : rd (p ++ a :: (m ++ b :: q)) ((p ++ a :: m).length : Int) = b := by rw [e2]; exact rd_mid _ _ _
        have r3 : ((p ++ a :: (m ++ b :: q)).set (p.length : Int).toNat b).set ((p ++ a :: m).length : Int).toNat a = (p ++ [b]) ++ (m ++ (a :: q)) := by
          rw [set_mid]
          have e3 : p ++ b :: (m ++ b :: q) = (p ++ b :: m) ++ b :: q := by simp
          have e4 : (p ++ a :: m).length = (p ++ b :: m).length := by simp
          rw [e3, e4, set_mid]; simp
        have ih' := ih m.length (by omega) m (p ++ [b]) (a :: q) rfl (by simp [hp]) (by simp only [List.length_append, List.length_cons, List.length_nil]; omega)
        rw [e1, el]
        refine eqr (suc (fun k => ?_) ih') (by simp)
        have hl2 : ((p ++ a :: m).length : Int) = p.length + (m.length + 1) := by simp only [List.length_append, List.length_cons]; omega
        rw [slices_Reverse_int_int.l0, if_pos (by omega), if_pos (by omega), if_pos (by omega), if_pos (by omega), if_pos (by omega), r1, r2, r3, hl2, w64 (i := (p.length : Int) + 1) (by omega) (by omega), w64 (by omega) (by omega)]
        have h5 : ((p ++ [b]).length : Int) = (p.length : Int) + 1 := by simp
        rw [h5]
        congr 1
        omega
theorem revM (l : List Int) (h : l.length ≤ 1000) : Ev (fun k => slices_Reverse_int_int.f k l) l.reverse := by
  unfold slices_Reverse_int_int.f
  have := rev_l l.length l [] [] rfl rfl (by simp only [List.length_nil]; omega)
  simp only [List.nil_append, List.append_nil, List.length_nil] at this
  rw [w64 (by omega) (by omega)]
  refine Ev.congr (fun k => ?_) this
  congr 1
  omega
def tr (e : S70) : E3 := (e.f0, e.f1, e.f2)
theorem tr_rd (l : List S70) (p : Int) : eAt (l.map tr) p = tr (rd_T70 l p) := by
  unfold eAt rd_T70
  simp only [List.getD_eq_getElem?_getD, List.getElem?_map]
  cases l[p.toNat]? <;> rfl
theorem tr0 (l : List S70) (p : Int) : (rd_T70 l p).f0 = (eAt (l.map tr) p).1 := by rw [tr_rd]; rfl
theorem tr1 (l : List S70) (p : Int) : (rd_T70 l p).f1 = (eAt (l.map tr) p).2.1 := by rw [tr_rd]; rfl
theorem tr2 (l : List S70) (p : Int) : (rd_T70 l p).f2 = (eAt (l.map tr) p).2.2 := by rw [tr_rd]; rfl
theorem rdE_at {l : List S70} {i : Nat} (h : i < l.length) : rd_T70 l (i : Int) = l[i] := by
  unfold rd_T70; simp [List.getD_eq_getElem?_getD, h]
/-- What both programs know of the last round's parents. -/
theorem neg_edge {n : Nat} {es : List E3} (hv : ValidE n es) {k : Int} (hk : 0 ≤ k ∧ k < es.length) : (eAt es k).1 = ((Fr es k.toNat : Nat) : Int) ∧ (eAt es k).2.1 = ((To es k.toNat : Nat) : Int) := by
  have h := hv k.toNat (by omega)
  have e : eAt es k = eAt es ((k.toNat : Nat) : Int) := rfl
  unfold Fr To
  rw [e]
  omega
theorem neg_par {n : Nat} {es : List E3} (hv : ValidE n es) {s : FS} {a : Nat} (hk : 0 ≤ s.l a ∧ s.l a < es.length) : (eAt es (s.l a)).1 = ((par es s a : Nat) : Int) := (neg_edge hv hk).1
theorem all_step {n : Nat} {es : List E3} {L : LS} (i : Nat) (h : L.k = List.replicate n true) : (lstep es i L).k = List.replicate n true := by
  unfold lstep
  split
  · show L.k.set _ true = _
    rw [h]; simp
  · exact h
theorem all_rnd {n : Nat} {es : List E3} : ∀ (d i : Nat) (L : LS), L.k = List.replicate n true → (lrnd es i d L).k = List.replicate n true
  | 0, _, _, h => h
  | d + 1, i, L, h => all_rnd d (i + 1) _ (all_step i h)
theorem all_round {n : Nat} {es : List E3} {L : LS} (h : L.k = List.replicate n true) : (lround es L).k = List.replicate n true := all_rnd _ _ _ h
def trl (s : FS) (es : List E3) (c : Nat) (i : Nat) : List Int := (List.range i).map fun j => s.l (parN es s j c)
theorem trl_succ (s : FS) (es : List E3) (c i : Nat) : trl s es c (i + 1) = trl s es c i ++ [s.l (parN es s i c)] := by unfold trl; rw [List.range_succ, List.map_append]; rfl
theorem trl_len (s : FS) (es : List E3) (c i : Nat) : (trl s es c i).length = i := by unfold trl; simp
theorem badE (n : Int) (e : S70) : badEdge n e = !(edgeOk n (tr e)) := by
  unfold badEdge gNodeB gWeightB edgeOk tr
  rw [Bool.eq_iff_iff]
  simp only [Bool.or_eq_true, Bool.not_eq_true', decide_eq_false_iff_not]
  by_cases h1 : 0 ≤ e.f0 ∧ e.f0 < n <;> by_cases h2 : 0 ≤ e.f1 ∧ e.f1 < n <;> by_cases h3 : -1000000 < e.f2 ∧ e.f2 < 1000000 <;> simp [h1, h2, h3]
theorem iGraphOk (n : Int) (l : List S70) : impl_GraphOk.f n l = some (graphOk n (l.map tr)) := by
  unfold impl_GraphOk.f graphOk
  have e : (!(l.any (badEdge n))) = (l.map tr).all (edgeOk n) := by
    rw [List.all_map, List.all_eq_not_any_not]
    congr 2
    funext x
    simp [badE]
  congr 1
  by_cases h1 : n < 0
  · rw [if_pos h1, decide_eq_false (by omega), Bool.false_and]
  · rw [if_neg h1]
    by_cases h2 : n > 8
    · rw [if_pos h2, decide_eq_false (by omega), Bool.false_and]
    · rw [if_neg h2]
      by_cases h3 : (l.length : Int) > 80
      · rw [if_pos h3, decide_eq_false (by simp only [List.length_map]; omega), Bool.false_and]
      · rw [if_neg h3, decide_eq_true (by simp only [List.length_map]; omega), Bool.true_and, e]
theorem iNr_l (n : Nat) (l : List S70) (hl : l.length ≤ 80) (hv : ValidE n (l.map tr)) (r : Int) (R : List Int) : ∀ (d i : Nat) (L : LS) (B : Int), i + d = l.length → GoodL n L → L.k = List.replicate n true → SmallL B L → B + 1000000 * d ≤ 1000000000000 → 0 ≤ B →
    Ev (fun k => impl_NegativeCycle.l0 k (lrnd (l.map tr) i d L).o (lrnd (l.map tr) i d L).l (lrnd (l.map tr) i d L).ch (wrap64 (r + 1)) (n : Int) l) R →
    Ev (fun k => impl_NegativeCycle.l1 k L.o L.l L.ch r l (l.length : Int) (i : Int) (n : Int) l) R
  | 0, i, L, B, hd, hg, ha, hs, hB, h0, h => suc (fun k => by rw [impl_NegativeCycle.l1, if_neg (by omega)]; rfl) h
  | d + 1, i, L, B, hd, hg, ha, hs, hB, h0, h => by
    have ih := iNr_l n l hl hv r R d (i + 1) (lstep (l.map tr) i L) (B + 1000000) (by omega) (good_step i hg) (all_step i ha) (small_step hv (by simp only [List.length_map]; omega) hg hs) (by omega) (by omega) h
    refine suc (fun k => ?_) ih
    obtain ⟨⟨f0, f1⟩, ⟨t0, t1⟩, w0, w1⟩ := hv i (by simp only [List.length_map]; omega)
    obtain ⟨h1, h2, h3⟩ := hg
    have hb := hs _ (rd_mem (l := L.o) f0 (by omega))
    have kk : ∀ v : Int, 0 ≤ v → v < n → rb L.k v = true := fun v v0 v1 => by
      rw [ha]; unfold rb rdOf
      rw [List.getD_eq_getElem?_getD, List.getElem?_replicate, if_pos (by omega)]; rfl
    rw [impl_NegativeCycle.l1, if_pos (by omega), if_pos (by omega), if_pos (by omega)]
    simp only [tr0, tr1, tr2]
    rw [up1 (by omega) (by omega), w64 (i := rd L.o _ + _) (by omega) (by omega), if_pos f0, if_pos (by omega), if_pos t0, if_pos (by omega)]
    unfold lstep better
    rw [kk _ f0 f1, kk _ t0 t1]
    by_cases c : rd L.o (eAt (l.map tr) i).1 + (eAt (l.map tr) i).2.2 < rd L.o (eAt (l.map tr) i).2.1
    · rw [if_pos c, if_pos (by omega)]
      simp only [c, decide_true, Bool.not_true, Bool.false_or, Bool.and_self, if_true]
      rfl
    · rw [if_neg c]
      simp only [c, decide_false, Bool.not_true, Bool.or_self, Bool.and_false, Bool.false_eq_true, if_false]
      rfl
theorem iNr (n : Nat) (hn : n ≤ 8) (l : List S70) (hl : l.length ≤ 80) (hv : ValidE n (l.map tr)) (R : List Int) : ∀ (d i : Nat) (L : LS) (B : Int), i + d = n → GoodL n L → L.k = List.replicate n true → SmallL B L → B + 80000000 * d ≤ 1000000000 → 0 ≤ B →
    Ev (fun k => impl_NegativeCycle.l0 k (lrounds (l.map tr) d L).o (lrounds (l.map tr) d L).l (lrounds (l.map tr) d L).ch (n : Int) (n : Int) l) R →
    Ev (fun k => impl_NegativeCycle.l0 k L.o L.l L.ch (i : Int) (n : Int) l) R
  | 0, i, L, B, hd, hg, ha, hs, hB, h0, h => by
    obtain rfl : i = n := by omega
    exact h
  | d + 1, i, L, B, hd, hg, ha, hs, hB, h0, h => by
    have hg' := good_round (es := l.map tr) hg
    have hs' := small_round hv (by simpa using hl) hg hs
    have ih := iNr n hn l hl hv R d (i + 1) (lround (l.map tr) L) (B + 80000000) (by omega) hg' (all_round ha) hs' (by omega) (by omega) h
    refine suc (f := fun k => impl_NegativeCycle.l1 k L.o L.l (-1) (i : Int) l (l.length : Int) ((0 : Nat) : Int) (n : Int) l) (fun k => by rw [impl_NegativeCycle.l0, if_pos (by omega)]; rfl) ?_
    refine iNr_l n l hl hv (i : Int) R l.length 0 { L with ch := -1 } B (by omega) hg ha hs (by omega) h0 ?_
    have e : lrnd (l.map tr) 0 l.length { L with ch := -1 } = lround (l.map tr) L := by unfold lround; rw [List.length_map]
    rw [e, up1 (by omega) (by omega)]
    exact ih
theorem iN3 (n : Nat) (hn : n ≤ 8) (l : List S70) (hv : ValidE n (l.map tr)) (N : Neg n (l.map tr)) (m : Nat) (hm : m < n) (hb : parN (l.map tr) (negS n (l.map tr)) (m + 1) (negC n (l.map tr)) = negC n (l.map tr)) (hno : ∀ i, i < m → parN (l.map tr) (negS n (l.map tr)) (i + 1) (negC n (l.map tr)) ≠ negC n (l.map tr)) : ∀ (d i : Nat), i + d = m + 1 →
    Ev (fun k => impl_NegativeCycle.l3 k (lrounds (l.map tr) n (negInit n)).l (negC n (l.map tr) : Int) (trl (negS n (l.map tr)) (l.map tr) (negC n (l.map tr)) i) (parN (l.map tr) (negS n (l.map tr)) i (negC n (l.map tr)) : Int) (n : Int) l) (trl (negS n (l.map tr)) (l.map tr) (negC n (l.map tr)) (m + 1)).reverse
  | 0, i, hd => by
    obtain rfl : i = m + 1 := by omega
    have hr := revM (trl (negS n (l.map tr)) (l.map tr) (negC n (l.map tr)) (m + 1)) (by rw [trl_len]; omega)
    refine suc (fun k => ?_) (bev hr now)
    rw [impl_NegativeCycle.l3, if_neg (by rw [trl_len]; omega), if_pos (by rw [hb])]
  | d + 1, i, hd => by
    have ih := iN3 n hn l hv N m hm hb hno d (i + 1) (by omega)
    obtain ⟨a, b, c⟩ := neg_lastC N i
    have hg := good_rounds (es := l.map tr) n _ (good_neg n)
    have e1 : rd (lrounds (l.map tr) n (negInit n)).l (parN (l.map tr) (negS n (l.map tr)) i (negC n (l.map tr)) : Int) = (negS n (l.map tr)).l (parN (l.map tr) (negS n (l.map tr)) i (negC n (l.map tr))) := rfl
    have e2 := neg_par hv a
    have hlm : ((l.map tr).length : Int) = l.length := by simp
    rw [hlm] at a
    refine suc (fun k => ?_) ih
    rw [impl_NegativeCycle.l3, e1, trl_len, trl_succ]
    have e3 : ((parN (l.map tr) (negS n (l.map tr)) (i + 1) (negC n (l.map tr)) : Nat) : Int) = (rd_T70 l ((negS n (l.map tr)).l (parN (l.map tr) (negS n (l.map tr)) i (negC n (l.map tr))))).f0 := by
      rw [tr0, e2]; rfl
    rw [← e3]
    by_cases h0 : i = 0
    · subst h0
      rw [if_pos (by omega), if_pos (by omega), if_pos (by rw [hg.2.1]; omega), if_pos (by omega), if_pos a.1, if_pos a.2]
    · have hne := hno (i - 1) (by omega)
      rw [show i - 1 + 1 = i by omega] at hne
      rw [if_neg (by omega), if_neg (by omega), if_pos (by omega), if_pos (by rw [hg.2.1]; omega), if_pos (by omega), if_pos a.1, if_pos a.2]
theorem iN2 (n : Nat) (hn : n ≤ 8) (l : List S70) (hv : ValidE n (l.map tr)) (N : Neg n (l.map tr)) (R : List Int) (h : Ev (fun k => impl_NegativeCycle.l3 k (lrounds (l.map tr) n (negInit n)).l (negC n (l.map tr) : Int) [] (negC n (l.map tr) : Int) (n : Int) l) R) : ∀ (d i : Nat), i + d = n →
    Ev (fun k => impl_NegativeCycle.l2 k (lrounds (l.map tr) n (negInit n)).l (parN (l.map tr) (negS n (l.map tr)) i (negV n (l.map tr)) : Int) (i : Int) (n : Int) l) R
  | 0, i, hd => by
    obtain rfl : i = n := by omega
    exact suc (fun k => by rw [impl_NegativeCycle.l2, if_neg (by omega)]; rfl) h
  | d + 1, i, hd => by
    have ih := iN2 n hn l hv N R h d (i + 1) (by omega)
    have a := N.last i
    have c := N.inn i
    have hg := good_rounds (es := l.map tr) n _ (good_neg n)
    have e1 : rd (lrounds (l.map tr) n (negInit n)).l (parN (l.map tr) (negS n (l.map tr)) i (negV n (l.map tr)) : Int) = (negS n (l.map tr)).l (parN (l.map tr) (negS n (l.map tr)) i (negV n (l.map tr))) := rfl
    have e2 := neg_par hv a
    have hlm : ((l.map tr).length : Int) = l.length := by simp
    rw [hlm] at a
    refine suc (fun k => ?_) ih
    have e3 : ((parN (l.map tr) (negS n (l.map tr)) (i + 1) (negV n (l.map tr)) : Nat) : Int) = (rd_T70 l ((negS n (l.map tr)).l (parN (l.map tr) (negS n (l.map tr)) i (negV n (l.map tr))))).f0 := by
      rw [tr0, e2]; rfl
    rw [impl_NegativeCycle.l2, e1, ← e3, if_pos (by omega), if_pos (by omega), if_pos (by rw [hg.2.1]; omega), if_pos a.1, if_pos a.2, up1 (by omega) (by omega)]; rfl
theorem iNeg (n : Int) (l : List S70) : Ev (fun k => impl_NegativeCycle.f k n l) (negM n (l.map tr)) := by
  unfold impl_NegativeCycle.f negM
  refine bnd (iGraphOk n l) ?_
  by_cases hg : graphOk n (l.map tr) = true
  · obtain ⟨h0, h8, hl, _⟩ := graphOk_iff hg
    have hl : l.length ≤ 80 := by simpa using hl
    have hv := valid_of hg
    refine ifp hg (ifp h0 (ifp (by omega) ?_))
    obtain ⟨m, rfl⟩ : ∃ m : Nat, n = (m : Int) := ⟨n.toNat, by omega⟩
    rw [Int.toNat_natCast] at hv ⊢
    have hrep : slices_Repeat_int_int.f [(-1)] (m : Int) = some (List.replicate m (-1)) := by
      unfold slices_Repeat_int_int.f
      rw [if_pos ⟨rfl, by omega, by omega⟩]; rfl
    refine bnd hrep ?_
    refine iNr m (by omega) l hl hv _ m 0 (negInit m) 0 (by omega) (good_neg m) rfl (small_neg m) (by omega) (by omega) ?_
    have ech : (lrounds (l.map tr) m (negInit m)).ch = (negS m (l.map tr)).ch := rfl
    by_cases hq : 0 ≤ (negS m (l.map tr)).ch
    · have N := neg_of hv hq
      obtain ⟨q, hq1, hq2, hq3, _, hq4⟩ := negT_eq N
      have h3 := iN3 m (by omega) l hv N q hq1 hq2 hq3 (q + 1) 0 (by omega)
      have h2 := iN2 m (by omega) l hv N _ h3 m 0 (by omega)
      rw [if_pos ⟨hg, hq⟩, hq4]
      refine suc (fun k => ?_) h2
      have hc := N.ch
      rw [List.length_map] at hc
      rw [impl_NegativeCycle.l0, if_neg (by omega), ech, if_neg (by omega), if_pos hq, if_pos (by omega), tr1]
      have e : (eAt (l.map tr) (negS m (l.map tr)).ch).2.1 = ((negV m (l.map tr) : Nat) : Int) := (neg_edge hv ⟨hq, by rw [List.length_map]; omega⟩).2
      rw [e]; rfl
    · refine eqr (suc (f := fun _ => some ([] : List Int)) (fun k => ?_) now) (if_neg (fun h => hq h.2)).symm
      rw [impl_NegativeCycle.l0, if_neg (by omega), ech, if_pos (by omega)]
  · exact eqr (ifn hg now) (if_neg (fun h => hg h.1)).symm
theorem sfLoop_len (es : List E3) (n : Nat) : ∀ (d : Nat) (L : LS), GoodL n L → (sfLoop es d L).1.length ≤ n
  | 0, L, _ => by simp [sfLoop]
  | d + 1, L, h => by
    have h' := good_round (es := es) h
    simp only [sfLoop]
    split
    · show (finL _ _).length ≤ n
      rw [finL_len _ _ (by rw [h'.1, h'.2.2]), h'.1]
      exact Nat.le_refl _
    · exact sfLoop_len es n d _ h'
theorem sfM_len (n : Int) (es : List E3) (s : Int) : (sfM n es s).1.length ≤ 8 := by
  unfold sfM
  split
  · rename_i h
    have h1 := sfLoop_len es n.toNat n.toNat (sfInit n.toNat s.toNat) (good_init _ _)
    have := (graphOk_iff h.1).2.1
    omega
  · simp
def clampB (x : Int) : Int := if x < -1000000 then -1000000 else if x > 1000000 then 1000000 else x
def closeL (n : Int) (es : List E3) : Nat → Nat → List Int → Int × List Int × Bool
  | 0, _, o => (n, o, true)
  | d + 1, i, o => if (sfM n es (i : Int)).2 = true then closeL n es d (i + 1) (o ++ (sfM n es (i : Int)).1.map clampB) else (0, [], false)
theorem closeL_len (n : Int) (es : List E3) : ∀ (d i : Nat) (o : List Int), o.length ≤ 8 * i → (closeL n es d i o).2.1.length ≤ 8 * (i + d)
  | 0, i, o, h => by simpa [closeL] using h
  | d + 1, i, o, h => by
    unfold closeL
    have hs := sfM_len n es (i : Int)
    split
    · have := closeL_len n es d (i + 1) (o ++ (sfM n es (i : Int)).1.map clampB) (by simp only [List.length_append, List.length_map]; omega)
      omega
    · simp
def closeM (n : Int) (es : List E3) : Int × List Int × Bool := if graphOk n es = true then closeL n es n.toNat 0 [] else (0, [], false)
theorem closeM_len (n : Int) (es : List E3) : (closeM n es).2.1.length ≤ 64 := by
  unfold closeM
  split
  · rename_i h
    have h8 := (graphOk_iff h).2.1
    have := closeL_len n es n.toNat 0 [] (by simp)
    omega
  · simp
theorem isNode (n x : Int) : impl_isNode.f n x = some (decide (0 ≤ x ∧ x < n)) := by
  unfold impl_isNode.f
  by_cases h : x ≥ 0
  · rw [if_pos h]; congr 1; rw [Bool.eq_iff_iff]; simp only [decide_eq_true_eq]; omega
  · rw [if_neg h]; congr 1; symm; rw [decide_eq_false_iff_not]; omega
theorem iFin : ∀ (ob : List Int) (kb : List Bool) (a : List Int) (ka : List Bool), ka.length = a.length → ob.length = kb.length → a.length + ob.length ≤ 1000 → Ev (fun k => impl_ShortestFrom.l2 k (a ++ ob) (ka ++ kb) ((a.length + ob.length : Nat) : Int) (a.length : Int)) (a ++ finL ob kb, true)
  | [], [], a, ka, hk, ho, hn => by
    simp only [finL]
    exact suc (f := fun _ => some (a ++ [], true)) (fun k => by rw [impl_ShortestFrom.l2, if_neg (by simp)]) now
  | x :: ob, b :: kb, a, ka, hk, ho, hn => by
    simp only [List.length_cons] at ho hn
    have ih := iFin ob kb (a ++ [if b = true then (if x > 1000000 then 1000000 else x) else 1000000]) (ka ++ [b]) (by simp [hk]) (by omega) (by simp only [List.length_append, List.length_cons, List.length_nil]; omega)
    refine eqr (suc (f := fun k => impl_ShortestFrom.l2 k (a ++ [if b = true then (if x > 1000000 then 1000000 else x) else 1000000] ++ ob) (ka ++ [b] ++ kb) (((a ++ [if b = true then (if x > 1000000 then 1000000 else x) else (1000000 : Int)]).length + ob.length : Nat) : Int) ((a ++ [if b = true then (if x > 1000000 then 1000000 else x) else (1000000 : Int)]).length : Int)) (fun k => ?_) ih) (by simp [finL])
    have hlen : (a.length : Int) < ((ka ++ b :: kb).length : Int) := by simp only [List.length_append, List.length_cons]; omega
    have hlen2 : (a.length : Int) < ((a ++ x :: ob).length : Int) := by simp only [List.length_append, List.length_cons]; omega
    rw [impl_ShortestFrom.l2, if_pos (by simp only [List.length_cons]; omega), if_pos (by omega), if_pos hlen, rb_mid ka kb b hk, rd_mid, set_mid, set_mid, w64 (i := (a.length : Int) + 1) (by omega) (by omega)]
    have e1 : (((a ++ [if b = true then (if x > 1000000 then 1000000 else x) else (1000000 : Int)]).length : Nat) : Int) = (a.length : Int) + 1 := by simp
    have e2 : (((a ++ [if b = true then (if x > 1000000 then 1000000 else x) else (1000000 : Int)]).length + ob.length : Nat) : Int) = ((a.length + (x :: ob).length : Nat) : Int) := by simp only [List.length_append, List.length_cons, List.length_nil]; omega
    rw [e1, e2]
    cases b with
    | true =>
      rw [if_pos rfl, if_pos hlen2]
      unfold mn
      by_cases hx : 1000000 < x
      · rw [if_pos hx]; simp [hx]
      · rw [if_neg hx]; simp [hx]
    | false =>
      rw [if_neg (by simp), if_pos hlen2]
      simp only [Option.bind_some]
      rw [rd_mid, set_mid]
      unfold mn
      simp
  | [], b :: kb, a, ka, hk, ho, hn => by simp at ho
  | x :: ob, [], a, ka, hk, ho, hn => by simp at ho
theorem iRound_l (n : Nat) (l : List S70) (hl : l.length ≤ 80) (hv : ValidE n (l.map tr)) (r : Int) (R : List Int × Bool) : ∀ (d i : Nat) (L : LS) (B : Int), i + d = l.length → GoodL n L → SmallL B L → B + 1000000 * d ≤ 1000000000000 → 0 ≤ B →
    Ev (fun k => if decide (0 ≤ (lrnd (l.map tr) i d L).ch) = true then (if r = (n : Int) then some (([] : List Int), false) else impl_ShortestFrom.l0 k (lrnd (l.map tr) i d L).o (lrnd (l.map tr) i d L).k (wrap64 (r + 1)) (n : Int) l) else impl_ShortestFrom.l2 k (lrnd (l.map tr) i d L).o (lrnd (l.map tr) i d L).k ((lrnd (l.map tr) i d L).o.length : Int) 0) R →
    Ev (fun k => impl_ShortestFrom.l1 k L.o L.k r (decide (0 ≤ L.ch)) l (l.length : Int) (i : Int) (n : Int) l) R
  | 0, i, L, B, hd, hg, hs, hB, h0, h => suc (fun k => by rw [impl_ShortestFrom.l1, if_neg (by omega)]; rfl) h
  | d + 1, i, L, B, hd, hg, hs, hB, h0, h => by
    have ih := iRound_l n l hl hv r R d (i + 1) (lstep (l.map tr) i L) (B + 1000000) (by omega) (good_step i hg) (small_step hv (by simp only [List.length_map]; omega) hg hs) (by omega) (by omega) h
    have hu : ∀ k, impl_ShortestFrom.l1 (k + 1) L.o L.k r (decide (0 ≤ L.ch)) l (l.length : Int) (i : Int) (n : Int) l = impl_ShortestFrom.l1 k (lstep (l.map tr) i L).o (lstep (l.map tr) i L).k r (decide (0 ≤ (lstep (l.map tr) i L).ch)) l (l.length : Int) ((i + 1 : Nat) : Int) (n : Int) l := by

      intro k
      obtain ⟨⟨f0, f1⟩, ⟨t0, t1⟩, w0, w1⟩ := hv i (by simp only [List.length_map]; omega)
      obtain ⟨h1, h2, h3⟩ := hg
      have hb := hs _ (rd_mem (l := L.o) f0 (by omega))
      rw [impl_ShortestFrom.l1, if_pos (by omega), if_pos (by omega), if_pos (by omega)]
      simp only [tr0, tr1, tr2]
      rw [up1 (by omega) (by omega), w64 (i := rd L.o _ + _) (by omega) (by omega), if_pos f0, if_pos (by omega), if_pos (by omega)]
      unfold lstep better rb
      by_cases k1 : rdOf false L.k (eAt (l.map tr) i).1 = true
      · rw [if_pos k1, if_pos t0, if_pos (by omega)]
        by_cases k2 : rdOf false L.k (eAt (l.map tr) i).2.1 = true
        · rw [if_pos k2, if_pos (by omega)]
          by_cases c : rd L.o (eAt (l.map tr) i).1 + (eAt (l.map tr) i).2.2 < rd L.o (eAt (l.map tr) i).2.1
          · rw [if_pos c]
            simp only [k1, k2, c, decide_true, Bool.not_true, Bool.false_or, Bool.and_self, if_true]
            rw [show decide (0 ≤ (i : Int)) = true from decide_eq_true (by omega)]; rfl
          · rw [if_neg c]
            simp only [k1, k2, c, decide_false, Bool.not_true, Bool.or_self, Bool.and_false, Bool.false_eq_true, if_false]
            rfl
        · rw [if_neg k2, if_pos (by omega)]
          rw [Bool.not_eq_true] at k2
          simp only [k1, k2, Bool.not_false, Bool.true_or, Bool.and_self, if_true]
          rw [show decide (0 ≤ (i : Int)) = true from decide_eq_true (by omega)]; rfl
      · rw [if_neg k1]
        rw [Bool.not_eq_true] at k1
        simp only [k1, Bool.false_and, Bool.false_eq_true, if_false]
        rfl

    exact suc hu ih
theorem iSf_l (n : Nat) (hn : n ≤ 8) (l : List S70) (hl : l.length ≤ 80) (hv : ValidE n (l.map tr)) : ∀ (d i : Nat) (L : LS) (B : Int), i + d = n → GoodL n L → SmallL B L → B + 80000000 * (d + 1) ≤ 1000000000 → 0 ≤ B →
    Ev (fun k => impl_ShortestFrom.l0 k L.o L.k (i : Int) (n : Int) l) (sfLoop (l.map tr) (d + 1) L) := by
  intro d
  induction d with
  | zero =>
    intro i L B hd hg hs hB h0
    have hg' := good_round (es := l.map tr) hg
    refine suc (f := fun k => impl_ShortestFrom.l1 k L.o L.k (i : Int) false l (l.length : Int) ((0 : Nat) : Int) (n : Int) l) (fun k => by rw [impl_ShortestFrom.l0]; rfl) ?_
    refine iRound_l n l hl hv (i : Int) _ l.length 0 { L with ch := -1 } B (by omega) hg hs (by omega) h0 ?_
    show Ev (fun k => if decide (0 ≤ (lrnd (l.map tr) 0 l.length { L with ch := -1 }).ch) = true then _ else _) _
    have e : lrnd (l.map tr) 0 l.length { L with ch := -1 } = lround (l.map tr) L := by unfold lround; rw [List.length_map]
    rw [e]
    simp only [sfLoop]
    by_cases hq : (lround (l.map tr) L).ch < 0
    · refine ifn (by simpa using hq) ?_
      rw [if_pos hq]
      have := iFin (lround (l.map tr) L).o (lround (l.map tr) L).k [] [] rfl (by rw [hg'.1, hg'.2.2]) (by simp only [List.length_nil]; rw [hg'.1]; omega)
      simp only [List.nil_append, List.length_nil, Nat.zero_add] at this
      exact this
    · rw [if_neg hq]
      exact ifp (by simpa using hq) (ifp (by omega) now)
  | succ d ih =>
    intro i L B hd hg hs hB h0
    have hg' := good_round (es := l.map tr) hg
    have hs' := small_round hv (by simpa using hl) hg hs
    have ih' := ih (i + 1) (lround (l.map tr) L) (B + 80000000) (by omega) hg' hs' (by omega) (by omega)
    refine suc (f := fun k => impl_ShortestFrom.l1 k L.o L.k (i : Int) false l (l.length : Int) ((0 : Nat) : Int) (n : Int) l) (fun k => by rw [impl_ShortestFrom.l0]; rfl) ?_
    refine iRound_l n l hl hv (i : Int) _ l.length 0 { L with ch := -1 } B (by omega) hg hs (by omega) h0 ?_
    show Ev (fun k => if decide (0 ≤ (lrnd (l.map tr) 0 l.length { L with ch := -1 }).ch) = true then _ else _) _
    have e : lrnd (l.map tr) 0 l.length { L with ch := -1 } = lround (l.map tr) L := by unfold lround; rw [List.length_map]
    rw [e]
    show Ev _ (if (lround (l.map tr) L).ch < 0 then _ else sfLoop (l.map tr) (d + 1) (lround (l.map tr) L))
    by_cases hq : (lround (l.map tr) L).ch < 0
    · refine ifn (by simpa using hq) ?_
      rw [if_pos hq]
      have := iFin (lround (l.map tr) L).o (lround (l.map tr) L).k [] [] rfl (by rw [hg'.1, hg'.2.2]) (by simp only [List.length_nil]; rw [hg'.1]; omega)
      simp only [List.nil_append, List.length_nil, Nat.zero_add] at this
      exact this
    · rw [if_neg hq]
      refine ifp (by simpa using hq) (ifn (by omega) ?_)
      rw [up1 (by omega) (by omega)]
      exact ih'
theorem iSf (n : Int) (l : List S70) (s : Int) : Ev (fun k => impl_ShortestFrom.f k n l s) (sfM n (l.map tr) s) := by
  have hf : Ev (fun k => impl_ShortestFrom.j0 k s true n l) ([], false) := suc (f := fun _ => some ([], false)) (fun k => by rw [impl_ShortestFrom.j0, if_pos rfl]) now
  unfold impl_ShortestFrom.f sfM
  refine bnd (iGraphOk n l) ?_
  by_cases hg : graphOk n (l.map tr) = true
  · obtain ⟨h0, h8, hl, _⟩ := graphOk_iff hg
    refine ifp hg (bnd (isNode n s) ?_)
    by_cases hs : 0 ≤ s ∧ s < n
    · rw [show decide (0 ≤ s ∧ s < n) = true from decide_eq_true hs]
      refine eqr ?_ (if_pos ⟨hg, hs⟩).symm
      have hv := valid_of hg
      have h := iSf_l n.toNat (by omega) l (by simpa using hl) hv n.toNat 0 (sfInit n.toNat s.toNat) 0 (by omega) (good_init _ _) (small_init _ _) (by omega) (by omega)
      rw [Int.toNat_of_nonneg h0, sf_once hg hs] at h
      refine suc (fun k => ?_) h
      rw [impl_ShortestFrom.j0, if_neg (by simp), if_pos h0, if_pos (by omega), if_pos (by omega)]
      simp only [Option.bind_some]
      rw [if_pos hs.1, if_pos (by simp only [List.length_replicate]; omega)]
      rfl
    · rw [show decide (0 ≤ s ∧ s < n) = false from decide_eq_false hs]
      exact eqr hf (if_neg (fun h => hs h.2)).symm
  · exact eqr (ifn hg hf) (if_neg (fun h => hg h.1)).symm
theorem iClamp (x : Int) : impl_ClampBound.f x = some (clampB x) := by
  unfold impl_ClampBound.f clampB mx mn
  congr 1
  repeat' split
  all_goals omega

theorem iCl_in (n : Int) (l : List S70) (i : Nat) (hi8 : i ≤ 8) (r : List Int) (hr : r.length ≤ 8) (R : Int × List Int × Bool) : ∀ (d j : Nat) (o : List Int), j + d = r.length → o.length + d ≤ 100000 →
    Ev (fun k => impl_CloseGraph.l0 k ((i + 1 : Nat) : Int) n l n (o ++ (r.drop j).map clampB)) R → Ev (fun k => impl_CloseGraph.l1 k (i : Int) r (r.length : Int) (j : Int) n l n o) R
  | 0, j, o, hd, ho, h => by
    rw [List.drop_eq_nil_of_le (by omega), List.map_nil, List.append_nil] at h
    exact suc (f := fun k => impl_CloseGraph.l0 k ((i + 1 : Nat) : Int) n l n o) (fun k => by rw [impl_CloseGraph.l1, if_neg (by omega), up1 (by omega) (by omega)]; rfl) h
  | d + 1, j, o, hd, ho, h => by
    have hj : j < r.length := by omega
    have e : rd r (j : Int) = r[j] := by unfold rd; simp [List.getD_eq_getElem?_getD, hj]
    rw [List.drop_eq_getElem_cons hj, List.map_cons, ← e] at h
    refine suc (f := fun k => impl_CloseGraph.l1 k (i : Int) r (r.length : Int) ((j + 1 : Nat) : Int) n l n (o ++ [clampB (rd r (j : Int))])) (fun k => ?_) (iCl_in n l i hi8 r hr R d (j + 1) _ (by omega) (by simp only [List.length_append, List.length_cons, List.length_nil]; omega) (by rw [List.append_assoc]; exact h))
    rw [impl_CloseGraph.l1, if_pos (by omega), if_pos (by omega), if_pos (by omega), iClamp, up1 (by omega) (by omega)]
    simp only [Option.bind_some]
    rw [if_pos (by omega)]; rfl
theorem iCl (n : Nat) (hn : n ≤ 8) (l : List S70) : ∀ (d i : Nat) (o : List Int), i + d = n → o.length ≤ 8 * i → Ev (fun k => impl_CloseGraph.l0 k (i : Int) (n : Int) l (n : Int) o) (closeL n (l.map tr) d i o)
  | 0, i, o, hd, ho => by
    simp only [closeL]
    exact suc (f := fun _ => some ((n : Int), o, true)) (fun k => by rw [impl_CloseGraph.l0, if_neg (by omega)]) now
  | d + 1, i, o, hd, ho => by
    simp only [closeL]
    have hs := sfM_len n (l.map tr) (i : Int)
    refine suc (fun k => by rw [impl_CloseGraph.l0, if_pos (by omega)]) ?_
    refine bev (iSf n l (i : Int)) ?_
    by_cases h : (sfM n (l.map tr) (i : Int)).2 = true
    · rw [if_pos h]
      refine ifp h (iCl_in n l i (by omega) _ hs _ (sfM n (l.map tr) (i : Int)).1.length 0 o (by omega) (by omega) ?_)
      rw [List.drop_zero]
      exact iCl n hn l d (i + 1) _ (by omega) (by simp only [List.length_append, List.length_map]; omega)
    · rw [if_neg h]
      exact ifn h now
theorem iClose (n : Int) (l : List S70) : Ev (fun k => impl_CloseGraph.f k n l) (closeM n (l.map tr)) := by
  unfold impl_CloseGraph.f closeM
  refine bnd (iGraphOk n l) ?_
  by_cases h : graphOk n (l.map tr) = true
  · rw [if_pos h]
    have h8 := (graphOk_iff h).2.1
    have h0 := (graphOk_iff h).1
    obtain ⟨m, rfl⟩ : ∃ m : Nat, n = (m : Int) := ⟨n.toNat, by omega⟩
    exact ifp h (iCl m (by omega) l m 0 [] (by omega) (by simp))
  · rw [if_neg h]; exact ifn h now
theorem iPath_l (n : Int) (l : List S70) (x : List Int) (hl : l.length ≤ 80) (hx : x.length ≤ 80) : ∀ (d i : Nat) (s : Int), i + d = x.length → Ev (fun k => impl_PathWeight.l0 k s x (x.length : Int) (i : Int) n l) (pathW (l.map tr) s (x.drop i))
  | 0, i, s, hd => by
    rw [List.drop_eq_nil_of_le (by omega)]
    exact suc (f := fun _ => some s) (fun k => by rw [impl_PathWeight.l0, if_neg (by omega)]) now
  | d + 1, i, s, hd => by
    rw [List.drop_eq_getElem_cons (by omega)]
    have e : x[i]'(by omega) = rd x i := (rd_at (by omega)).symm
    simp only [pathW, e, List.length_map]
    have hu : ∀ k, impl_PathWeight.l0 (k + 1) s x (x.length : Int) (i : Int) n l = impl_PathWeight.l0 k (if 0 ≤ rd x i ∧ rd x i < l.length then wrap64 (s + (eAt (l.map tr) (rd x i)).2.2) else s) x (x.length : Int) ((i + 1 : Nat) : Int) n l := by
      intro k
      rw [impl_PathWeight.l0, if_pos (by omega), if_pos (by omega), if_pos (by omega), isNode, up1 (by omega) (by omega)]
      simp only [Option.bind_some, decide_eq_true_eq]
      by_cases h : 0 ≤ rd x i ∧ rd x i < l.length
      · rw [if_pos h, if_pos h, if_pos h.1, if_pos h.2, tr2]; rfl
      · rw [if_neg h, if_neg h]; rfl
    exact suc hu (iPath_l n l x hl hx d (i + 1) _ (by omega))
theorem iPath (n : Int) (l : List S70) (x : List Int) : Ev (fun k => impl_PathWeight.f k n l x) (if graphOk n (l.map tr) = true ∧ x.length ≤ 80 then pathW (l.map tr) 0 x else 0) := by
  have hf : Ev (fun k => impl_PathWeight.j0 k x true n l) 0 := suc (f := fun _ => some 0) (fun k => by rw [impl_PathWeight.j0, if_pos rfl]) now
  unfold impl_PathWeight.f
  refine bnd (iGraphOk n l) ?_
  by_cases hg : graphOk n (l.map tr) = true
  · refine ifp hg ?_
    by_cases hx : x.length ≤ 80
    · have hl : l.length ≤ 80 := by have := (graphOk_iff hg).2.2.1; simpa using this
      rw [show decide ((x.length : Int) > 80) = false from decide_eq_false (by omega)]
      refine eqr ?_ (if_pos ⟨hg, hx⟩).symm
      have := iPath_l n l x hl hx x.length 0 0 (by omega)
      rw [List.drop_zero] at this
      exact suc (f := fun k => impl_PathWeight.l0 k 0 x (x.length : Int) ((0 : Nat) : Int) n l) (fun k => by rw [impl_PathWeight.j0, if_neg (by simp)]; rfl) this
    · rw [show decide ((x.length : Int) > 80) = true from decide_eq_true (by omega)]
      exact eqr hf (if_neg (fun h => hx h.2)).symm
  · exact eqr (ifn hg hf) (if_neg (fun h => hg h.1)).symm
theorem iprev (n i : Nat) (hi : i < n) (hn : n ≤ 4194304) : Int.tmod (wrap64 ((wrap64 ((i : Int) + (n : Int))) - 1)) (n : Int) = prevI n i ∧ 0 ≤ prevI n i ∧ prevI n i < n := by
  rw [w64 (i := (i : Int) + n) (by omega) (by omega), w64 (by omega) (by omega), Int.tmod_eq_emod_of_nonneg (by omega)]
  unfold prevI
  exact ⟨rfl, Int.emod_nonneg _ (by omega), Int.emod_lt_of_pos _ (by omega)⟩
theorem icyc_l (n : Int) (l : List S70) (c : List Int) (hl : l.length ≤ 80) (hc : c.length ≤ 4194304) : ∀ (d i : Nat) (s : Int), i + d = c.length → Ev (fun k => impl_IsNegativeCycle.l0 k c s c (c.length : Int) (i : Int) n l) (cycL (l.map tr) c s i d)
  | 0, i, s, hd => by
    simp only [cycL]
    exact suc (f := fun _ => some (decide (s < 0))) (fun k => by rw [impl_IsNegativeCycle.l0, if_neg (by omega)]) now
  | d + 1, i, s, hd => by
    have ih := icyc_l n l c hl hc d (i + 1) (wrap64 (s + (eAt (l.map tr) (rd c i)).2.2)) (by omega)
    obtain ⟨e1, e2, e3⟩ := iprev c.length i (by omega) hc
    simp only [cycL]
    have hu : ∀ k, impl_IsNegativeCycle.l0 (k + 1) c s c (c.length : Int) (i : Int) n l = if (0 ≤ rd c i ∧ rd c i < l.length) ∧ (0 ≤ rd c (prevI c.length i) ∧ rd c (prevI c.length i) < l.length) ∧ (eAt (l.map tr) (rd c (prevI c.length i))).2.1 = (eAt (l.map tr) (rd c i)).1 then impl_IsNegativeCycle.l0 k c (wrap64 (s + (eAt (l.map tr) (rd c i)).2.2)) c (c.length : Int) ((i + 1 : Nat) : Int) n l else some false := by
      intro k
      rw [impl_IsNegativeCycle.l0, if_pos (by omega), if_pos (by omega), if_pos (by omega), e1]
      rw [if_neg (by omega), if_pos e2, if_pos e3, isNode, isNode]
      simp only [Option.bind_some, decide_eq_true_eq]
      by_cases h1 : 0 ≤ rd c i ∧ rd c i < l.length
      · rw [if_pos h1]
        by_cases h2 : 0 ≤ rd c (prevI c.length i) ∧ rd c (prevI c.length i) < l.length
        · rw [if_pos h2, if_pos h2.1, if_pos h2.2, if_pos h1.1, if_pos h1.2, tr0, tr1, tr2, up1 (by omega) (by omega)]
          by_cases h3 : (eAt (l.map tr) (rd c (prevI c.length i))).2.1 = (eAt (l.map tr) (rd c i)).1
          · rw [if_pos h3, if_pos ⟨h1, h2, h3⟩]; rfl
          · rw [if_neg h3, if_neg (fun x => h3 x.2.2)]
        · rw [if_neg h2, if_neg (fun x => h2 x.2.1)]
      · rw [if_neg h1, if_neg (fun x => h1 x.1)]
    refine suc hu ?_
    unfold cycAt
    simp only [List.length_map]
    by_cases h : (0 ≤ rd c i ∧ rd c i < l.length) ∧ (0 ≤ rd c (prevI c.length i) ∧ rd c (prevI c.length i) < l.length) ∧ (eAt (l.map tr) (rd c (prevI c.length i))).2.1 = (eAt (l.map tr) (rd c i)).1
    · rw [decide_eq_true h, Bool.true_and]
      exact ifp h ih
    · rw [decide_eq_false h, Bool.false_and]
      exact ifn h now
theorem icyc (n : Int) (l : List S70) (c : List Int) (hc : c.length ≤ 4194304) : Ev (fun k => impl_IsNegativeCycle.f k n l c) (isNegCyc n (l.map tr) c) := by
  have hf : Ev (fun k => impl_IsNegativeCycle.j0 k c true n l) false := suc (f := fun _ => some false) (fun k => by rw [impl_IsNegativeCycle.j0, if_pos rfl]) now
  unfold impl_IsNegativeCycle.f isNegCyc
  refine bnd (iGraphOk n l) ?_
  by_cases hg : graphOk n (l.map tr) = true
  · refine ifp hg ?_
    rw [hg, Bool.true_and]
    have hl : l.length ≤ 80 := by have := (graphOk_iff hg).2.2.1; simpa using this
    by_cases h0 : c.length = 0
    · rw [show ((c.length : Int) == 0) = true by simp [h0]]
      exact eqr hf (by rw [decide_eq_false (fun h => h h0), Bool.false_and])
    · rw [show ((c.length : Int) == 0) = false by simpa using h0, decide_eq_true h0, Bool.true_and]
      exact suc (f := fun k => impl_IsNegativeCycle.l0 k c 0 c (c.length : Int) ((0 : Nat) : Int) n l) (fun k => by rw [impl_IsNegativeCycle.j0, if_neg (by simp)]; rfl) (icyc_l n l c hl hc c.length 0 0 (by omega))
  · rw [Bool.not_eq_true] at hg
    exact eqr (ifn (by rw [hg]; simp) hf) (by rw [hg, Bool.false_and])
theorem rd_rev (f : Nat → Int) (m i : Nat) (h : i < m + 1) : rd ((List.range (m + 1)).map f).reverse (i : Int) = f (m - i) := by
  rw [rd_at (by simpa using h), List.getElem_reverse, List.getElem_map, List.getElem_range]
  congr 1
  simp only [List.length_map, List.length_range]; omega
theorem eAt_nat {es : List E3} {x : Int} : eAt es x = eAt es ((x.toNat : Nat) : Int) := rfl
theorem cyc_prev (m i : Nat) (h : i < m + 1) : prevI (m + 1) i = ((if i = 0 then m else i - 1 : Nat) : Int) := by
  unfold prevI
  by_cases e : i = 0
  · subst e
    rw [if_pos rfl, show ((0 : Nat) : Int) + ((m + 1 : Nat) : Int) - 1 = (m : Int) by omega, Int.emod_eq_of_lt (by omega) (by omega)]
  · rw [if_neg e, show (i : Int) + ((m + 1 : Nat) : Int) - 1 = ((i - 1 : Nat) : Int) + ((m + 1 : Nat) : Int) by omega, Int.add_emod_right, Int.emod_eq_of_lt (by omega) (by omega)]
theorem cyc_at {n : Nat} {es : List E3} (hv : ValidE n es) (N : Neg n es) {m : Nat} (hb : parN es (negS n es) (m + 1) (negC n es) = negC n es) {i : Nat} (hi : i < m + 1) (C : List Int) (hC : C = ((List.range (m + 1)).map fun i => (negS n es).l (parN es (negS n es) i (negC n es))).reverse) : cycAt es C i = true := by
  have hlen : C.length = m + 1 := by rw [hC]; simp
  have hr : ∀ j, j < m + 1 → rd C (j : Int) = (negS n es).l (parN es (negS n es) (m - j) (negC n es)) := fun j hj => by rw [hC]; exact rd_rev _ m j hj
  unfold cycAt
  rw [decide_eq_true_eq, hlen, cyc_prev m i hi, hr i hi, hr _ (by split <;> omega)]
  have a := neg_lastC N (m - i)
  have b := neg_lastC N (m - (if i = 0 then m else i - 1))
  refine ⟨a.1, b.1, ?_⟩
  have e1 : (eAt es ((negS n es).l (parN es (negS n es) (m - i) (negC n es)))).1 = (parN es (negS n es) (m - i + 1) (negC n es) : Int) := by
    have h := hv ((negS n es).l (parN es (negS n es) (m - i) (negC n es))).toNat (by omega)
    rw [eAt_nat]
    show _ = ((Fr es ((negS n es).l (parN es (negS n es) (m - i) (negC n es))).toNat : Nat) : Int)
    unfold Fr
    omega
  have e2 : (eAt es ((negS n es).l (parN es (negS n es) (m - (if i = 0 then m else i - 1)) (negC n es)))).2.1 = (parN es (negS n es) (m - (if i = 0 then m else i - 1)) (negC n es) : Int) := by
    have h := hv ((negS n es).l (parN es (negS n es) (m - (if i = 0 then m else i - 1)) (negC n es))).toNat (by omega)
    have h2 := b.2.1
    rw [eAt_nat]
    unfold To at h2
    omega
  rw [e1, e2]
  by_cases e : i = 0
  · subst e
    rw [if_pos rfl, show m - m = 0 by omega, show m - 0 + 1 = m + 1 by omega, hb]; rfl
  · rw [if_neg e, show m - (i - 1) = m - i + 1 by omega]
theorem wt_small {n : Nat} {es : List E3} (hv : ValidE n es) {k : Int} (h : 0 ≤ k ∧ k < es.length) : -1000000 < (eAt es k).2.2 ∧ (eAt es k).2.2 < 1000000 := by
  have := (hv k.toNat (by omega)).2.2
  rwa [← eAt_nat] at this
theorem cycL_neg {n : Nat} {es : List E3} (hv : ValidE n es) (N : Neg n es) {m : Nat} (hm : m < 8) (hb : parN es (negS n es) (m + 1) (negC n es) = negC n es) (C : List Int) (hC : C = ((List.range (m + 1)).map fun i => (negS n es).l (parN es (negS n es) i (negC n es))).reverse) :
    ∀ (d i : Nat) (a : Int), i + d = m + 1 → -1000000 * (i : Int) ≤ a → a ≤ 1000000 * (i : Int) → a + sumP es (negS n es) (negC n es) d < 0 → cycL es C a i d = true
  | 0, i, a, _, _, _, h => by
    simp only [cycL, decide_eq_true_eq]
    simpa [sumP] using h
  | d + 1, i, a, hd, h0, h1, h => by
    have hw := wt_small hv (neg_lastC N d).1
    have hr : rd C (i : Int) = (negS n es).l (parN es (negS n es) d (negC n es)) := by
      rw [hC, rd_rev _ m i (by omega), show m - i = d by omega]
    have hs : sumP es (negS n es) (negC n es) (d + 1) = (eAt es ((negS n es).l (parN es (negS n es) d (negC n es)))).2.2 + sumP es (negS n es) (negC n es) d := rfl
    rw [cycL, cyc_at hv N hb (by omega) C hC, Bool.true_and, hr, w64 (by omega) (by omega)]
    exact cycL_neg hv N hm hb C hC d (i + 1) _ (by omega) (by omega) (by omega) (by omega)
theorem pathW_rev {n : Nat} {es : List E3} (hv : ValidE n es) (N : Neg n es) (m : Nat) : ∀ (a : Int), m ≤ 8 → -1000000 * (20 - (m : Int)) ≤ a → a ≤ 1000000 * (20 - (m : Int)) → pathW es a ((List.range m).map fun i => (negS n es).l (parN es (negS n es) i (negC n es))).reverse = a + sumP es (negS n es) (negC n es) m := by
  induction m with
  | zero => intro a _ _ _; simp [pathW, sumP]
  | succ m ih =>
    intro a h8 h0 h1
    have k := (neg_lastC N m).1
    have hw := wt_small hv k
    have hs : sumP es (negS n es) (negC n es) (m + 1) = (eAt es ((negS n es).l (parN es (negS n es) m (negC n es)))).2.2 + sumP es (negS n es) (negC n es) m := rfl
    rw [List.range_succ, List.map_append, List.reverse_append]
    simp only [List.map_cons, List.map_nil, List.reverse_cons, List.reverse_nil, List.nil_append, List.singleton_append, pathW]
    rw [if_pos k, w64 (by omega) (by omega), ih _ (by omega) (by omega) (by omega), hs]
    omega
theorem negM_cyc {n : Int} {es : List E3} (h : negM n es ≠ []) : isNegCyc n es (negM n es) = true ∧ pathW es 0 (negM n es) < 0 := by
  have c : graphOk n es = true ∧ 0 ≤ (negS n.toNat es).ch := Classical.byContradiction fun c => h (negM_nil.2 c)
  have hv := valid_of c.1
  have h8 := (graphOk_iff c.1).2.1
  have N := neg_of hv c.2
  obtain ⟨m, hm, m1, _, m2, e⟩ := negT_eq N
  have e2 : negM n es = ((List.range (m + 1)).map fun i => (negS n.toNat es).l (parN es (negS n.toNat es) i (negC n.toNat es))).reverse := by
    unfold negM; rw [if_pos c, e]
  refine ⟨?_, ?_⟩
  · unfold isNegCyc
    rw [c.1, Bool.true_and, Bool.and_eq_true, decide_eq_true_eq]
    have hl : (negM n es).length = m + 1 := by rw [e2]; simp
    refine ⟨by omega, ?_⟩
    rw [hl]
    exact cycL_neg hv N (by omega) m1 _ e2 (m + 1) 0 0 (by omega) (by omega) (by omega) (by omega)
  · rw [e2, pathW_rev hv N (m + 1) 0 (by omega) (by omega) (by omega)]
    omega
theorem mono_step {es : List E3} {s : FS} {i v : Nat} (h : s.k v = true) : (fstep es i s).o v ≤ s.o v := by
  unfold fstep
  split
  · rename_i c
    by_cases e : v = To es i
    · subst e
      unfold improves at c
      simp only [h, Bool.and_eq_true, Bool.not_true, Bool.false_or, decide_eq_true_eq] at c
      simp only [upd_same]; omega
    · simp only [upd_ne _ _ e]; omega
  · omega
theorem mono_rnd {es : List E3} {v : Nat} : ∀ (d i : Nat) (s : FS), s.k v = true → (frnd es i d s).o v ≤ s.o v
  | 0, _, s, _ => Int.le_refl _
  | d + 1, i, s, h => Int.le_trans (mono_rnd d (i + 1) _ (known_step h)) (mono_step h)
theorem mono_rounds {es : List E3} {v : Nat} : ∀ (r : Nat) (s : FS), s.k v = true → (frounds es r s).o v ≤ s.o v
  | 0, s, _ => Int.le_refl _
  | r + 1, s, h => Int.le_trans (mono_rounds r _ (known_rnd es.length 0 _ h)) (mono_rnd es.length 0 { s with ch := -1 } h)
theorem sf_true (es : List E3) : ∀ (d : Nat) (L : LS), (sfLoop es d L).2 = true → ∃ r, r < d ∧ (lrounds es (r + 1) L).ch < 0 ∧ (sfLoop es d L).1 = finL (lrounds es (r + 1) L).o (lrounds es (r + 1) L).k
  | 0, L, h => by simp [sfLoop] at h
  | d + 1, L, h => by
    simp only [sfLoop] at h ⊢
    by_cases c : (lround es L).ch < 0
    · exact ⟨0, by omega, c, by rw [if_pos c]; rfl⟩
    · rw [if_neg c] at h ⊢
      obtain ⟨r, h1, h2, h3⟩ := sf_true es d _ h
      exact ⟨r + 1, by omega, h2, h3⟩
theorem sf_false (es : List E3) : ∀ (d : Nat) (L : LS), ¬ (sfLoop es d L).2 = true → ∀ r, r < d → 0 ≤ (lrounds es (r + 1) L).ch
  | 0, L, h => by intro r hr; omega
  | d + 1, L, h => by
    simp only [sfLoop] at h
    by_cases c : (lround es L).ch < 0
    · rw [if_pos c] at h; exact absurd rfl h
    · rw [if_neg c] at h
      intro r hr
      cases r with
      | zero => show 0 ≤ (lround es L).ch; omega
      | succ r => exact sf_false es d _ h r (by omega)
theorem sumP_walk {n : Nat} {es : List E3} (N : Neg n es) : ∀ m, Walk es (parN es (negS n es) m (negC n es)) (negC n es) (sumP es (negS n es) (negC n es) m)
  | 0 => Walk.nil _
  | m + 1 => by
    obtain ⟨a, b, _⟩ := neg_lastC N m
    have w := sumP_walk N m
    rw [← b] at w
    exact Walk.cons (by omega) w
theorem neg_walk {n : Nat} {es : List E3} (N : Neg n es) : ∃ c w, c < n ∧ Walk es c c w ∧ w < 0 := by
  obtain ⟨m, _, _, h1, _, h2⟩ := N.back
  have w := sumP_walk N m
  rw [h1] at w
  exact ⟨negC n es, _, (neg_lastC N 0).2.2, w, h2⟩
/-- No edge is too short for the numbers of the last round: no walk back is negative. -/
theorem no_walk {n : Nat} {es : List E3} (hv : ValidE n es) (h : (negS n es).ch < 0) {c : Nat} {w : Int} (hc : c < n) (hw : Walk es c c w) : 0 ≤ w := by
  obtain ⟨k, rfl⟩ : ∃ k, n = k + 1 := ⟨n - 1, by omega⟩
  have hk : ∀ s : FS, s.k c = true → (frounds es (k + 1) s).ch < 0 → 0 ≤ w := by
    intro s hs hq
    rw [frounds_succ] at hq
    exact no_neg (fround_quiet es _ hq).2 hw (known_rounds k s hs)
  rw [neg_fs hv] at h
  refine hk _ ?_ h
  show rb (List.replicate (k + 1) true) (c : Int) = true
  unfold rb rdOf
  simp [List.getD_eq_getElem?_getD, hc]
/-- What a told row of distances is: a state of numbers in which every edge holds. -/
structure Dist (n : Nat) (es : List E3) (s : Nat) (row : List Int) (F : FS) : Prop where
  len : row.length = n
  at_ : ∀ v, v < n → rd row (v : Int) = if F.k v = true then (if F.o v > 1000000 then 1000000 else F.o v) else 1000000
  holds_ : ∀ j, j < es.length → holds es F j
  sound : ∀ v, F.k v = true → ∃ a, Walk es s v a ∧ F.o v = a
  src : F.k s = true ∧ F.o s = 0
theorem fin_init (n s : Nat) (h : s < n) : (fsOf (sfInit n s)).k s = true ∧ (fsOf (sfInit n s)).o s = 0 ∧ ∀ u, (fsOf (sfInit n s)).k u = true → u = s := by
  refine ⟨?_, ?_, fun u hu => ?_⟩
  · show rb ((List.replicate n false).set s true) (s : Int) = true
    unfold rb rdOf; simp [List.getD_eq_getElem?_getD, h]
  · show rd (List.replicate n 0) (s : Int) = 0
    unfold rd; simp [List.getD_eq_getElem?_getD, h]
  · have hu : rb ((List.replicate n false).set s true) (u : Int) = true := hu
    by_cases e : u = s
    · exact e
    · exfalso
      unfold rb rdOf at hu
      simp only [Int.toNat_natCast, List.getD_eq_getElem?_getD] at hu
      rw [List.getElem?_set_ne (by omega)] at hu
      rw [List.getElem?_replicate] at hu
      split at hu <;> simp at hu
theorem sf_dist {n : Nat} {es : List E3} (hv : ValidE n es) {s : Nat} (hs : s < n) (h : (sfLoop es n (sfInit n s)).2 = true) : ∃ F, Dist n es s (sfLoop es n (sfInit n s)).1 F ∧ ∃ r, r < n ∧ F = fsOf (lrounds es (r + 1) (sfInit n s)) := by
  obtain ⟨r, hr, hq, e⟩ := sf_true es n _ h
  have hg := good_rounds (es := es) (r + 1) _ (good_init n s)
  have hf := fs_rounds hv (r + 1) _ (good_init n s)
  obtain ⟨i1, i2, i3⟩ := fin_init n s hs
  have hq' : (frounds es (r + 1) (fsOf (sfInit n s))).ch < 0 := by rw [← hf]; exact hq
  have hq2 := hq'
  rw [frounds_succ] at hq2
  obtain ⟨q1, q2⟩ := fround_quiet es _ hq2
  have hh : ∀ j, j < es.length → holds es (frounds es (r + 1) (fsOf (sfInit n s))) j := by
    intro j hj
    rw [frounds_succ, q1]
    exact q2 j hj
  have snd : Sound es (fsOf (sfInit n s)) (frounds es (r + 1) (fsOf (sfInit n s))) := sound_rounds (r + 1) _ (fun v hv => ⟨v, 0, hv, Walk.nil v, by omega⟩)
  have snd' : ∀ v, (frounds es (r + 1) (fsOf (sfInit n s))).k v = true → ∃ a, Walk es s v a ∧ (frounds es (r + 1) (fsOf (sfInit n s))).o v = a := by
    intro v hk
    obtain ⟨u, a, h1, h2, h3⟩ := snd v hk
    obtain rfl := i3 u h1
    rw [i2, Int.zero_add] at h3
    exact ⟨a, h2, h3⟩
  have ks := known_rounds (es := es) (r + 1) _ i1
  refine ⟨frounds es (r + 1) (fsOf (sfInit n s)), ⟨?_, ?_, hh, snd', ks, ?_⟩, r, hr, hf.symm⟩
  · rw [e, finL_len _ _ (by rw [hg.1, hg.2.2]), hg.1]
  · intro v hvn
    rw [e, finL_get _ _ v (by rw [hg.1, hg.2.2]) (by rw [hg.1]; exact hvn), ← hf]
    rfl
  · obtain ⟨a, h1, h2⟩ := snd' s ks
    have h3 := no_neg hh h1 ks
    have h4 := mono_rounds (es := es) (r + 1) _ i1
    omega
theorem sf_ok {n : Nat} {es : List E3} (hv : ValidE n es) (hq : (negS n es).ch < 0) {s : Nat} (hs : s < n) : (sfLoop es n (sfInit n s)).2 = true := by
  refine Classical.byContradiction fun h => ?_
  have h1 := sf_false es n _ h (n - 1) (by omega)
  rw [show n - 1 + 1 = n by omega] at h1
  have h2 : 0 ≤ (frounds es n (fsOf (sfInit n s))).ch := by rw [← fs_rounds hv n _ (good_init n s)]; exact h1
  have hI := neg_of_change n (by omega) (valid_nodes hv) _ h2
  obtain ⟨v, w, _, h3, h4⟩ := hI
  have hvn : v < n := by
    cases h3 with
    | nil => omega
    | cons hi _ => exact (valid_nodes hv _ hi).1
  have := no_walk hv hq hvn h3
  omega
theorem sf_bad {n : Nat} {es : List E3} (hv : ValidE n es) (hq : 0 ≤ (negS n es).ch) : ∃ c, c < n ∧ ¬ (sfLoop es n (sfInit n c)).2 = true := by
  obtain ⟨c, w, hc, h1, h2⟩ := neg_walk (neg_of hv hq)
  refine ⟨c, hc, fun h => ?_⟩
  obtain ⟨F, D, _⟩ := sf_dist hv hc h
  have := no_neg D.holds_ h1 D.src.1
  omega
theorem sfM_at {n : Int} {es : List E3} (hg : graphOk n es = true) {i : Nat} (hi : (i : Int) < n) : sfM n es (i : Int) = sfLoop es n.toNat (sfInit n.toNat i) := by
  unfold sfM
  rw [if_pos ⟨hg, by omega, hi⟩]; rfl
def rowsC (n : Int) (es : List E3) : Nat → Nat → List Int
  | 0, _ => []
  | d + 1, i => (sfM n es (i : Int)).1.map clampB ++ rowsC n es d (i + 1)
theorem closeL_ok (n : Int) (es : List E3) : ∀ (d i : Nat) (o : List Int), (∀ j, i ≤ j → j < i + d → (sfM n es (j : Int)).2 = true) → closeL n es d i o = (n, o ++ rowsC n es d i, true)
  | 0, i, o, _ => by simp [closeL, rowsC]
  | d + 1, i, o, h => by
    rw [closeL, if_pos (h i (by omega) (by omega)), closeL_ok n es d (i + 1) _ (fun j h1 h2 => h j (by omega) (by omega)), rowsC, List.append_assoc]
theorem closeL_bad (n : Int) (es : List E3) : ∀ (d i : Nat) (o : List Int), (∃ j, i ≤ j ∧ j < i + d ∧ ¬ (sfM n es (j : Int)).2 = true) → closeL n es d i o = (0, [], false)
  | 0, i, o, h => by obtain ⟨j, h1, h2, _⟩ := h; omega
  | d + 1, i, o, h => by
    by_cases c : (sfM n es (i : Int)).2 = true
    · rw [closeL, if_pos c]
      obtain ⟨j, h1, h2, h3⟩ := h
      exact closeL_bad n es d (i + 1) _ ⟨j, by
        rcases Nat.lt_or_ge i j with h4 | h4
        · exact h4
        · have : i = j := by omega
          subst this; exact absurd c h3, by omega, h3⟩
    · rw [closeL, if_neg c]
theorem close_ok {n : Int} {es : List E3} (hg : graphOk n es = true) (h : negM n es = []) : closeM n es = (n, rowsC n es n.toNat 0, true) ∧ ∀ i : Nat, (i : Int) < n → (sfM n es (i : Int)).2 = true := by
  have hv := valid_of hg
  have hq : (negS n.toNat es).ch < 0 := by
    have := negM_nil.1 h
    rcases Int.lt_or_le (negS n.toNat es).ch 0 with h1 | h1
    · exact h1
    · exact absurd ⟨hg, h1⟩ this
  have ha : ∀ i : Nat, (i : Int) < n → (sfM n es (i : Int)).2 = true := fun i hi => by
    rw [sfM_at hg hi]; exact sf_ok hv hq (by omega)
  refine ⟨?_, ha⟩
  unfold closeM
  rw [if_pos hg, closeL_ok n es n.toNat 0 [] (fun j _ hj => ha j (by omega)), List.nil_append]
theorem close_bad {n : Int} {es : List E3} (h : negM n es ≠ []) : closeM n es = (0, [], false) := by
  have c : graphOk n es = true ∧ 0 ≤ (negS n.toNat es).ch := Classical.byContradiction fun c => h (negM_nil.2 c)
  obtain ⟨i, hi, h1⟩ := sf_bad (valid_of c.1) c.2
  unfold closeM
  rw [if_pos c.1]
  have h0 := (graphOk_iff c.1).1
  exact closeL_bad n es n.toNat 0 [] ⟨i, by omega, by omega, by rw [sfM_at c.1 (by omega)]; exact h1⟩
theorem and255 (n : Int) : Go.bits .and .i64 n 255 = n % 256 := by
  have h : (BitVec.ofInt 64 255).toNat = 2 ^ 8 - 1 := by decide
  have key : (BitVec.ofInt 64 n &&& BitVec.ofInt 64 255).toNat = (n % ((2 ^ 64 : Nat) : Int)).toNat % 2 ^ 8 := by
    rw [BitVec.toNat_and, BitVec.toNat_ofInt, h, Nat.and_two_pow_sub_one_eq_mod]
  show IntKind.i64.wrap ((BitVec.ofInt 64 n &&& BitVec.ofInt 64 255).toNat : Nat) = n % 256
  rw [key, IntKind.wrap_i64]
  omega
theorem byteM (s : List Int) (i h : Int) (hs : s.length ≤ 1048576) (h0 : 0 ≤ i) : ∃ b i' h', spec_l01Byte.f s i h = some (b, i', h') ∧ 0 ≤ b ∧ b < 256 ∧ 0 ≤ i' := by
  unfold spec_l01Byte.f
  by_cases c : i < (s.length : Int)
  · rw [if_pos c, if_pos h0, and255]
    refine ⟨_, _, _, rfl, ?_, ?_, ?_⟩
    · omega
    · omega
    · rw [w64 (by omega) (by omega)]; omega
  · rw [if_neg c, and255]
    exact ⟨_, _, _, rfl, by omega, by omega, h0⟩
theorem belowM (s : List Int) (i h : Int) (hs : s.length ≤ 1048576) (h0 : 0 ≤ i) (n : Int) (hn : 0 < n) (hn2 : n ≤ 256) : ∃ b i' h', spec_l01Below.f s i h n = some (b, i', h') ∧ 0 ≤ b ∧ b < n ∧ 0 ≤ i' := by
  obtain ⟨b, i', h', e, b0, b1, i0⟩ := byteM s i h hs h0
  unfold spec_l01Below.f
  rw [if_neg (by omega), if_pos hn2, e]
  simp only [Option.bind_some]
  rw [if_neg (by omega)]
  refine ⟨_, _, _, rfl, ?_, ?_, i0⟩
  · rw [Int.tmod_eq_emod_of_nonneg b0]; exact Int.emod_nonneg _ (by omega)
  · rw [Int.tmod_eq_emod_of_nonneg b0]; exact Int.emod_lt_of_pos _ hn
theorem newM_l (s : List Int) (hs : s.length ≤ 1048576) : ∀ (d : Nat) (i : Nat) (h : Int), i + d = s.length → ∃ h', Ev (fun k => spec_l01New.l0 k s h (i : Int)) (s, 0, h')
  | 0, i, h, hd => ⟨h, suc (f := fun _ => some (s, 0, h)) (fun k => by rw [spec_l01New.l0, if_neg (by omega)]) now⟩
  | d + 1, i, h, hd => by
    by_cases c : (i : Int) < 4000
    · obtain ⟨h', e⟩ := newM_l s hs d (i + 1) (Go.bits .and .i64 (wrap64 ((wrap64 ((wrap64 (h * 71)) + (wrap64 (rd s (i : Int))))) + 7)) 1073741823) (by omega)
      refine ⟨h', suc (fun k => ?_) e⟩
      rw [spec_l01New.l0, if_pos (by omega), if_pos c, if_pos (by omega), up1 (by omega) (by omega)]; rfl
    · exact ⟨h, suc (f := fun _ => some (s, 0, h)) (fun k => by rw [spec_l01New.l0, if_pos (by omega), if_neg c]) now⟩
theorem newM (s : List Int) (hs : s.length ≤ 1048576) : ∃ h', Ev (fun k => spec_l01New.f k s) (s, 0, h') := by
  unfold spec_l01New.f
  exact newM_l s hs s.length 0 _ (by omega)
/-- What the drawn graphs are. -/
def drawnG (n : Int) (l : List S70) : Prop := 1 ≤ n ∧ n ≤ 5 ∧ l.length ≤ 9 ∧ ∀ e ∈ l, (0 ≤ e.f0 ∧ e.f0 < n) ∧ (0 ≤ e.f1 ∧ e.f1 < n) ∧ -3 ≤ e.f2 ∧ e.f2 ≤ 10
theorem drawG_l (s : List Int) (hs : s.length ≤ 1048576) (n : Int) (hn : 1 ≤ n ∧ n ≤ 5) : ∀ (d : Nat) (i h : Int) (l : List S70), 0 ≤ i → l.length + d ≤ 9 → (∀ e ∈ l, (0 ≤ e.f0 ∧ e.f0 < n) ∧ (0 ≤ e.f1 ∧ e.f1 < n) ∧ -3 ≤ e.f2 ∧ e.f2 ≤ 10) → ∃ l' i' h', Ev (fun k => spec_l03Draw.l0 k (d : Int) s i h n l) (n, l', i', h') ∧ drawnG n l' ∧ 0 ≤ i'
  | 0, i, h, l, h0, hl, he => ⟨l, i, h, suc (f := fun _ => some (n, l, i, h)) (fun k => by rw [spec_l03Draw.l0, if_neg (by omega)]) now, ⟨hn.1, hn.2, by omega, he⟩, h0⟩
  | d + 1, i, h, l, h0, hl, he => by
    obtain ⟨a, i1, h1, e1, a0, a1, p1⟩ := belowM s i h hs h0 n (by omega) (by omega)
    obtain ⟨b, i2, h2, e2, b0, b1, p2⟩ := belowM s i1 h1 hs p1 n (by omega) (by omega)
    obtain ⟨c, i3, h3, e3, c0, c1, p3⟩ := belowM s i2 h2 hs p2 14 (by omega) (by omega)
    obtain ⟨l', i', h', e, x, y⟩ := drawG_l s hs n hn d i3 h3 (l ++ [(⟨a, b, wrap64 (c - 3)⟩ : S70)]) p3 (by simp only [List.length_append, List.length_cons, List.length_nil]; omega) (fun z hz => by
      rcases List.mem_append.1 hz with hz | hz
      · exact he z hz
      · rw [List.mem_singleton.1 hz]
        refine ⟨⟨a0, a1⟩, ⟨b0, b1⟩, ?_⟩
        show -3 ≤ wrap64 (c - 3) ∧ wrap64 (c - 3) ≤ 10
        rw [w64 (by omega) (by omega)]; omega)
    refine ⟨l', i', h', suc (fun k => ?_) e, x, y⟩
    rw [spec_l03Draw.l0, if_pos (by omega), e1]
    simp only [Option.bind_some]
    rw [e2]
    simp only [Option.bind_some]
    rw [e3]
    simp only [Option.bind_some]
    rw [if_pos (by omega), w64 (i := ((d + 1 : Nat) : Int) - 1) (by omega) (by omega), show ((d + 1 : Nat) : Int) - 1 = (d : Int) by omega]
theorem drawG (s : List Int) (hs : s.length ≤ 1048576) (i h : Int) (h0 : 0 ≤ i) : ∃ n l i' h', Ev (fun k => spec_l03Draw.f k s i h) (n, l, i', h') ∧ drawnG n l ∧ 0 ≤ i' := by
  obtain ⟨a, i1, h1, e1, a0, a1, p1⟩ := belowM s i h hs h0 5 (by omega) (by omega)
  obtain ⟨b, i2, h2, e2, b0, b1, p2⟩ := belowM s i1 h1 hs p1 10 (by omega) (by omega)
  obtain ⟨l', i', h', e, x, y⟩ := drawG_l s hs (1 + a) ⟨by omega, by omega⟩ b.toNat i2 h2 [] p2 (by simp only [List.length_nil]; omega) (fun z hz => by simp at hz)
  refine ⟨1 + a, l', i', h', ?_, x, y⟩
  unfold spec_l03Draw.f
  refine bnd e1 (bnd e2 ?_)
  rw [w64 (by omega) (by omega)]
  rw [Int.toNat_of_nonneg b0] at e
  exact e
theorem makeG (s : List Int) (hs : s.length ≤ 1048576) : ∃ n l, Ev (fun k => spec_MakeGraph.f k s) (n, l) ∧ drawnG n l := by
  obtain ⟨h, e⟩ := newM s hs
  obtain ⟨n, l, i', h', e2, x, _⟩ := drawG s hs 0 h (by omega)
  refine ⟨n, l, ?_, x⟩
  unfold spec_MakeGraph.f
  exact bev e (bev e2 now)
theorem drawnG_ok {n : Int} {l : List S70} (h : drawnG n l) : graphOk n (l.map tr) = true := by
  obtain ⟨h1, h2, h3, h4⟩ := h
  unfold graphOk
  rw [Bool.and_eq_true, decide_eq_true_eq, List.all_eq_true]
  refine ⟨⟨by omega, by omega, by rw [List.length_map]; omega⟩, fun e he => ?_⟩
  obtain ⟨x, hx, rfl⟩ := List.mem_map.1 he
  have := h4 x hx
  unfold edgeOk tr
  rw [decide_eq_true_eq]
  exact ⟨this.1, this.2.1, by simp only []; omega, by simp only []; omega⟩

theorem FnCycles : laws_FnCycles.Pure := by
  intro l hl _
  refine Ev.rounds ?_
  unfold laws_FnCycles.f
  by_cases hx : (l.length : Int) > 1048576
  · exact ifp hx now
  refine ifn hx ?_
  obtain ⟨n, g, hm, hD⟩ := makeG l (by omega)
  have hg := drawnG_ok hD
  have hN := iNeg n g
  have hC := iClose n g

  have hl8 := negM_len n (g.map tr)
  by_cases c : negM n (g.map tr) = []
  · obtain ⟨h1, _⟩ := close_ok hg c
    rw [h1] at hC
    rw [c] at hN
    refine bev hm (bev hN (bev hC (ifp rfl (ifp rfl (bev (iPath n g []) ?_)))))
    rw [if_pos ⟨hg, by simp⟩]
    refine ifp rfl (eqr (bev (icyc n g [] (by simp)) now) ?_)
    unfold isNegCyc
    simp
  · obtain ⟨h2, h3⟩ := negM_cyc c
    rw [close_bad c] at hC
    refine bev hm (bev hN (bev hC (ifn ?_ (ifn (by simp) (bev (icyc n g _ (by omega)) (ifp h2 ?_))))))
    · intro h
      exact c (List.length_eq_zero_iff.1 (by omega))
    · refine eqr (bev (iPath n g _) now) ?_
      rw [if_pos ⟨hg, by omega⟩]
      exact decide_eq_true h3

end Go.Proofs.Ytbbblnmngjhadaa.Own
