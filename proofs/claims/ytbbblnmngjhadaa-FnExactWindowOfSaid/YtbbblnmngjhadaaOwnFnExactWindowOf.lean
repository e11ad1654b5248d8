/- The law FnExactWindowOf answers true for every network and every event. No condition. -/
import Derived.Test.YtbbblnmngjhadaaQFnExactWindowOfx14
import Derived.Test.YtbbblnmngjhadaaNc
namespace Go.Proofs.Ytbbblnmngjhadaa.Own
open Go.RowKit Go.Proofs.Ytbbblnmngjhadaa.QFnExactWindowOf Go.Proofs.YtbbblnmngjhadaaW.PrintWords Go.Proofs.YtbbblnmngjhadaaW.PrintLast Go.Proofs.YtbbblnmngjhadaaW.PrintMore Go.Proofs.YtbbblnmngjhadaaT Go.Proofs.YtbbblnmngjhadaaT
set_option linter.unusedVariables false
set_option linter.unusedSimpArgs false

theorem szSimple (s : Int) (l : List S128) (hl : l.length ≤ maxLen) : (laws_szSimple.f s l 1048576 = some (-1) ∧ 1048576 < l.length) ∨ (laws_szSimple.f s l 1048576 = some (1048576 - (l.length : Int)) ∧ l.length ≤ 1048576) := by
  unfold maxLen at hl
  unfold laws_szSimple.f laws_szLinkS.f
  rw [w64 (by omega) (by omega)]
  by_cases h : l.length ≤ 1048576
  · right
    rw [if_neg (by omega)]
    simp only [Option.bind_some]
    rw [if_neg (by omega)]
    exact ⟨rfl, h⟩
  · left
    rw [if_pos (by omega)]
    simp only [Option.bind_some]
    rw [if_pos (by omega)]
    exact ⟨rfl, by omega⟩
def cvL (e : S128) : S76 := ⟨e.f0, e.f1, ⟨e.f2.f0, e.f2.f1⟩⟩
theorem rdK_at {l : List S128} {i : Nat} (h : i < l.length) : rd_T128 l (i : Int) = l[i] := by
  unfold rd_T128; simp [List.getD_eq_getElem?_getD, h]
theorem toLink (a b c d : Int) : laws_toLink.f a b c d = some (a, b, c, d) := rfl
theorem toLinkS_l (x : List S128) (hn : x.length ≤ 4194304) : ∀ (d i : Nat) (y : List S76), i + d = x.length → y.length = x.length → (∀ j, j < i → y[j]? = (x.map cvL)[j]?) → Ev (fun k => laws_toLinkS.l0 k x y (i : Int)) (x.map cvL)
  | 0, i, y, hd, hy, hj => by
    have e : y = x.map cvL := by
      apply List.ext_getElem?; intro j
      by_cases h : j < i
      · exact hj j h
      · rw [List.getElem?_eq_none (by omega), List.getElem?_eq_none (by simp; omega)]
    subst e
    exact suc (f := fun _ => some (x.map cvL)) (fun k => by rw [laws_toLinkS.l0, if_neg (by omega)]) now
  | d + 1, i, y, hd, hy, hj => by
    refine suc (f := fun k => laws_toLinkS.l0 k x (y.set i (cvL (rd_T128 x i))) ((i + 1 : Nat) : Int)) (fun k => ?_) (toLinkS_l x hn d (i + 1) _ (by omega) (by simp [hy]) (fun j h => ?_))
    · rw [laws_toLinkS.l0, if_pos (by omega), if_pos (by omega), toLink]
      simp only [Option.bind_some]
      rw [if_pos (by omega), up1 (by omega) (by omega)]; rfl
    · by_cases e : j = i
      · subst e; rw [rdK_at (by omega)]; simp [show j < y.length by omega, show j < x.length by omega]
      · rw [List.getElem?_set_ne (by omega)]; exact hj j (by omega)
theorem toLinkS (x : List S128) (hn : x.length ≤ 4194304) : Ev (fun k => laws_toLinkS.f k x) (x.map cvL) := by
  unfold laws_toLinkS.f
  exact ifp (by omega) (ifp (by simp; omega) (toLinkS_l x hn x.length 0 _ (by omega) (by simp) (fun j h => by omega)))
theorem toSimple (s : Int) (l : List S128) (hn : l.length ≤ 4194304) : Ev (fun k => laws_toSimple.f k s l) (s, l.map cvL) := by
  unfold laws_toSimple.f
  exact bev (toLinkS l hn) now
theorem eqLink (a b c d : Int) : laws_eqLink.f a b c d a b c d = some true := by
  unfold laws_eqLink.f laws_eqInterval.f
  simp
theorem eqLinkS_l (x : List S76) (hn : x.length ≤ 4194304) : ∀ (d i : Nat), i + d = x.length → Ev (fun k => laws_eqLinkS.l0 k x x (i : Int)) true
  | 0, i, hd => suc (f := fun _ => some true) (fun k => by rw [laws_eqLinkS.l0, if_neg (by omega)]) now
  | d + 1, i, hd => by
    refine suc (f := fun k => laws_eqLinkS.l0 k x x ((i + 1 : Nat) : Int)) (fun k => ?_) (eqLinkS_l x hn d (i + 1) (by omega))
    rw [laws_eqLinkS.l0, if_pos (by omega), if_pos (by omega), if_pos (by omega), eqLink]
    simp only [Option.bind_some, if_true]
    rw [up1 (by omega) (by omega)]; rfl
theorem eqLinkS (x : List S76) (hn : x.length ≤ 4194304) : Ev (fun k => laws_eqLinkS.f k x x) true := by
  unfold laws_eqLinkS.f
  exact ifp rfl (eqLinkS_l x hn x.length 0 (by omega))
theorem eqSimple (s : Int) (l : List S76) (hn : l.length ≤ 4194304) : Ev (fun k => laws_eqSimple.f k s l s l) true := by
  unfold laws_eqSimple.f
  exact ifp rfl (bev (eqLinkS l hn) (ifp rfl now))
theorem eqInterval (a b : Int) : laws_eqInterval.f a b a b = some true := by
  unfold laws_eqInterval.f
  simp
def tr (e : S70) : E3 := (e.f0, e.f1, e.f2)
theorem tr_rd (l : List S70) (p : Int) : eAt (l.map tr) p = tr (rd_T70 l p) := by
  unfold eAt rd_T70
  simp only [List.getD_eq_getElem?_getD, List.getElem?_map]
  cases l[p.toNat]? <;> rfl
theorem tr0 (l : List S70) (p : Int) : (rd_T70 l p).f0 = (eAt (l.map tr) p).1 := by rw [tr_rd]; rfl
theorem tr1 (l : List S70) (p : Int) : (rd_T70 l p).f1 = (eAt (l.map tr) p).2.1 := by rw [tr_rd]; rfl
theorem tr2 (l : List S70) (p : Int) : (rd_T70 l p).f2 = (eAt (l.map tr) p).2.2 := by rw [tr_rd]; rfl
theorem rdE_at {l : List S70} {i : Nat} (h : i < l.length) : rd_T70 l (i : Int) = l[i] := by
  unfold rd_T70; simp [List.getD_eq_getElem?_getD, h]
def trL (e : S76) : L4 := (e.f0, e.f1, e.f2.f0, e.f2.f1)
theorem trL_rd (l : List S76) (p : Int) : lAt (l.map trL) p = trL (rd_T76 l p) := by
  unfold lAt rd_T76
  simp only [List.getD_eq_getElem?_getD, List.getElem?_map]
  cases l[p.toNat]? <;> rfl
theorem lk0 (l : List S76) (p : Int) : (rd_T76 l p).f0 = (lAt (l.map trL) p).1 := by rw [trL_rd]; rfl
theorem lk1 (l : List S76) (p : Int) : (rd_T76 l p).f1 = (lAt (l.map trL) p).2.1 := by rw [trL_rd]; rfl
theorem lk2 (l : List S76) (p : Int) : (rd_T76 l p).f2.f0 = (lAt (l.map trL) p).2.2.1 := by rw [trL_rd]; rfl
theorem lk3 (l : List S76) (p : Int) : (rd_T76 l p).f2.f1 = (lAt (l.map trL) p).2.2.2 := by rw [trL_rd]; rfl
def lkEs (e : S76) : List S70 := (if e.f2.f1 = 1000000 then [] else [⟨e.f0, e.f1, e.f2.f1⟩]) ++ (if e.f2.f0 = -1000000 then [] else [⟨e.f1, e.f0, -e.f2.f0⟩])
def lkS : List S76 → List S70
  | [] => []
  | e :: t => lkEs e ++ lkS t
theorem lkEs_tr (e : S76) : (lkEs e).map tr = linkE (trL e) := by
  unfold lkEs linkE trL tr
  by_cases h1 : e.f2.f1 = 1000000 <;> by_cases h2 : e.f2.f0 = -1000000 <;> simp [h1, h2]
theorem lkS_tr : ∀ l : List S76, (lkS l).map tr = linksE (l.map trL)
  | [] => rfl
  | e :: t => by simp only [lkS, List.map_append, lkEs_tr, lkS_tr t, List.map_cons, linksE]
theorem lkEs_len (e : S76) : (lkEs e).length ≤ 2 := by
  rw [← List.length_map (f := tr), lkEs_tr]; exact linkE_len _
theorem lkS_len (l : List S76) : (lkS l).length ≤ 2 * l.length := by
  rw [← List.length_map (f := tr), lkS_tr]
  have := linksE_len (l.map trL)
  rw [List.length_map] at this; exact this
theorem lkS_drop {l : List S76} {i : Nat} (h : i < l.length) : lkS (l.drop i) = lkEs (rd_T76 l (i : Int)) ++ lkS (l.drop (i + 1)) := by
  rw [List.drop_eq_getElem_cons h]
  have : rd_T76 l (i : Int) = l[i] := by unfold rd_T76; simp [List.getD_eq_getElem?_getD, h]
  rw [this]; rfl
theorem lkI_drop {l : List S76} {i : Nat} (h : i < l.length) : linksI i ((l.map trL).drop i) = linkI i (trL (rd_T76 l (i : Int))) ++ linksI (i + 1) ((l.map trL).drop (i + 1)) := by
  rw [List.drop_eq_getElem_cons (by rw [List.length_map]; exact h)]
  have : rd_T76 l (i : Int) = l[i] := by unfold rd_T76; simp [List.getD_eq_getElem?_getD, h]
  rw [this, List.getElem_map]; rfl
theorem rdL_mem {l : List S76} {i : Nat} (h : i < l.length) : rd_T76 l (i : Int) ∈ l := by
  have : rd_T76 l (i : Int) = l[i] := by unfold rd_T76; simp [List.getD_eq_getElem?_getD, h]
  rw [this]; exact List.getElem_mem _
theorem lo_of {n : Int} {l : List S76} (h : simpleOk n (l.map trL) = true) : l.length ≤ 40 ∧ ∀ e ∈ l, -1000000 ≤ e.f2.f0 ∧ e.f2.f0 ≤ 1000000 := by
  obtain ⟨_, _, h3, h4⟩ := simpleOk_iff h
  refine ⟨by simpa using h3, fun e he => ?_⟩
  have := (okB_iff).1 (h4 (trL e) (List.mem_map_of_mem he)).2
  exact ⟨this.1, Int.le_trans this.2.1 this.2.2.1⟩
theorem lkEs_w (e : S76) (h : -1000000 ≤ e.f2.f0 ∧ e.f2.f0 ≤ 1000000) : wrap64 (-e.f2.f0) = -e.f2.f0 := w64 (by omega) (by omega)
def gOf (n : Int) (l : List S76) : Int × List S70 := if simpleOk n (l.map trL) = true then (n, lkS l) else (0, [])
theorem gOf_len (n : Int) (l : List S76) : (gOf n l).2.length ≤ 80 := by
  unfold gOf
  split
  · rename_i h
    have := (lo_of h).1
    have := lkS_len l
    simp only; omega
  · simp
def consM (n : Int) (ls : List L4) : Bool := if simpleOk n ls = true then (negM n (linksE ls)).isEmpty else false
theorem sfLoop_len (es : List E3) (n : Nat) : ∀ (d : Nat) (L : LS), GoodL n L → (sfLoop es d L).1.length ≤ n
  | 0, L, _ => by simp [sfLoop]
  | d + 1, L, h => by
    have h' := good_round (es := es) h
    simp only [sfLoop]
    split
    · show (finL _ _).length ≤ n
      rw [finL_len _ _ (by rw [h'.1, h'.2.2]), h'.1]
      exact Nat.le_refl _
    · exact sfLoop_len es n d _ h'
theorem sfM_len (n : Int) (es : List E3) (s : Int) : (sfM n es s).1.length ≤ 8 := by
  unfold sfM
  split
  · rename_i h
    have h1 := sfLoop_len es n.toNat n.toNat (sfInit n.toNat s.toNat) (good_init _ _)
    have := (graphOk_iff h.1).2.1
    omega
  · simp
def clampB (x : Int) : Int := if x < -1000000 then -1000000 else if x > 1000000 then 1000000 else x
def closeL (n : Int) (es : List E3) : Nat → Nat → List Int → Int × List Int × Bool
  | 0, _, o => (n, o, true)
  | d + 1, i, o => if (sfM n es (i : Int)).2 = true then closeL n es d (i + 1) (o ++ (sfM n es (i : Int)).1.map clampB) else (0, [], false)
theorem closeL_len (n : Int) (es : List E3) : ∀ (d i : Nat) (o : List Int), o.length ≤ 8 * i → (closeL n es d i o).2.1.length ≤ 8 * (i + d)
  | 0, i, o, h => by simpa [closeL] using h
  | d + 1, i, o, h => by
    unfold closeL
    have hs := sfM_len n es (i : Int)
    split
    · have := closeL_len n es d (i + 1) (o ++ (sfM n es (i : Int)).1.map clampB) (by simp only [List.length_append, List.length_map]; omega)
      omega
    · simp
def closeM (n : Int) (es : List E3) : Int × List Int × Bool := if graphOk n es = true then closeL n es n.toNat 0 [] else (0, [], false)
theorem closeM_len (n : Int) (es : List E3) : (closeM n es).2.1.length ≤ 64 := by
  unfold closeM
  split
  · rename_i h
    have h8 := (graphOk_iff h).2.1
    have := closeL_len n es n.toNat 0 [] (by simp)
    omega
  · simp
theorem mono_step {es : List E3} {s : FS} {i v : Nat} (h : s.k v = true) : (fstep es i s).o v ≤ s.o v := by
  unfold fstep
  split
  · rename_i c
    by_cases e : v = To es i
    · subst e
      unfold improves at c
      simp only [h, Bool.and_eq_true, Bool.not_true, Bool.false_or, decide_eq_true_eq] at c
      simp only [upd_same]; omega
    · simp only [upd_ne _ _ e]; omega
  · omega
theorem mono_rnd {es : List E3} {v : Nat} : ∀ (d i : Nat) (s : FS), s.k v = true → (frnd es i d s).o v ≤ s.o v
  | 0, _, s, _ => Int.le_refl _
  | d + 1, i, s, h => Int.le_trans (mono_rnd d (i + 1) _ (known_step h)) (mono_step h)
theorem mono_rounds {es : List E3} {v : Nat} : ∀ (r : Nat) (s : FS), s.k v = true → (frounds es r s).o v ≤ s.o v
  | 0, s, _ => Int.le_refl _
  | r + 1, s, h => Int.le_trans (mono_rounds r _ (known_rnd es.length 0 _ h)) (mono_rnd es.length 0 { s with ch := -1 } h)
theorem sf_true (es : List E3) : ∀ (d : Nat) (L : LS), (sfLoop es d L).2 = true → ∃ r, r < d ∧ (lrounds es (r + 1) L).ch < 0 ∧ (sfLoop es d L).1 = finL (lrounds es (r + 1) L).o (lrounds es (r + 1) L).k
  | 0, L, h => by simp [sfLoop] at h
  | d + 1, L, h => by
    simp only [sfLoop] at h ⊢
    by_cases c : (lround es L).ch < 0
    · exact ⟨0, by omega, c, by rw [if_pos c]; rfl⟩
    · rw [if_neg c] at h ⊢
      obtain ⟨r, h1, h2, h3⟩ := sf_true es d _ h
      exact ⟨r + 1, by omega, h2, h3⟩
theorem sf_false (es : List E3) : ∀ (d : Nat) (L : LS), ¬ (sfLoop es d L).2 = true → ∀ r, r < d → 0 ≤ (lrounds es (r + 1) L).ch
  | 0, L, h => by intro r hr; omega
  | d + 1, L, h => by
    simp only [sfLoop] at h
    by_cases c : (lround es L).ch < 0
    · rw [if_pos c] at h; exact absurd rfl h
    · rw [if_neg c] at h
      intro r hr
      cases r with
      | zero => show 0 ≤ (lround es L).ch; omega
      | succ r => exact sf_false es d _ h r (by omega)
theorem sumP_walk {n : Nat} {es : List E3} (N : Neg n es) : ∀ m, Walk es (parN es (negS n es) m (negC n es)) (negC n es) (sumP es (negS n es) (negC n es) m)
  | 0 => Walk.nil _
  | m + 1 => by
    obtain ⟨a, b, _⟩ := neg_lastC N m
    have w := sumP_walk N m
    rw [← b] at w
    exact Walk.cons (by omega) w
theorem neg_walk {n : Nat} {es : List E3} (N : Neg n es) : ∃ c w, c < n ∧ Walk es c c w ∧ w < 0 := by
  obtain ⟨m, _, _, h1, _, h2⟩ := N.back
  have w := sumP_walk N m
  rw [h1] at w
  exact ⟨negC n es, _, (neg_lastC N 0).2.2, w, h2⟩
/-- No edge is too short for the numbers of the last round: no walk back is negative. -/
theorem no_walk {n : Nat} {es : List E3} (hv : ValidE n es) (h : (negS n es).ch < 0) {c : Nat} {w : Int} (hc : c < n) (hw : Walk es c c w) : 0 ≤ w := by
  obtain ⟨k, rfl⟩ : ∃ k, n = k + 1 := ⟨n - 1, by omega⟩
  have hk : ∀ s : FS, s.k c = true → (frounds es (k + 1) s).ch < 0 → 0 ≤ w := by
    intro s hs hq
    rw [frounds_succ] at hq
    exact no_neg (fround_quiet es _ hq).2 hw (known_rounds k s hs)
  rw [neg_fs hv] at h
  refine hk _ ?_ h
  show rb (List.replicate (k + 1) true) (c : Int) = true
  unfold rb rdOf
  simp [List.getD_eq_getElem?_getD, hc]
/-- What a told row of distances is: a state of numbers in which every edge holds. -/
structure Dist (n : Nat) (es : List E3) (s : Nat) (row : List Int) (F : FS) : Prop where
  len : row.length = n
  at_ : ∀ v, v < n → rd row (v : Int) = if F.k v = true then (if F.o v > 1000000 then 1000000 else F.o v) else 1000000
  holds_ : ∀ j, j < es.length → holds es F j
  sound : ∀ v, F.k v = true → ∃ a, Walk es s v a ∧ F.o v = a
  src : F.k s = true ∧ F.o s = 0
theorem fin_init (n s : Nat) (h : s < n) : (fsOf (sfInit n s)).k s = true ∧ (fsOf (sfInit n s)).o s = 0 ∧ ∀ u, (fsOf (sfInit n s)).k u = true → u = s := by
  refine ⟨?_, ?_, fun u hu => ?_⟩
  · show rb ((List.replicate n false).set s true) (s : Int) = true
    unfold rb rdOf; simp [List.getD_eq_getElem?_getD, h]
  · show rd (List.replicate n 0) (s : Int) = 0
    unfold rd; simp [List.getD_eq_getElem?_getD, h]
  · have hu : rb ((List.replicate n false).set s true) (u : Int) = true := hu
    by_cases e : u = s
    · exact e
    · exfalso
      unfold rb rdOf at hu
      simp only [Int.toNat_natCast, List.getD_eq_getElem?_getD] at hu
      rw [List.getElem?_set_ne (by omega)] at hu
      rw [List.getElem?_replicate] at hu
      split at hu <;> simp at hu
theorem sf_dist {n : Nat} {es : List E3} (hv : ValidE n es) {s : Nat} (hs : s < n) (h : (sfLoop es n (sfInit n s)).2 = true) : ∃ F, Dist n es s (sfLoop es n (sfInit n s)).1 F ∧ ∃ r, r < n ∧ F = fsOf (lrounds es (r + 1) (sfInit n s)) := by
  obtain ⟨r, hr, hq, e⟩ := sf_true es n _ h
  have hg := good_rounds (es := es) (r + 1) _ (good_init n s)
  have hf := fs_rounds hv (r + 1) _ (good_init n s)
  obtain ⟨i1, i2, i3⟩ := fin_init n s hs
  have hq' : (frounds es (r + 1) (fsOf (sfInit n s))).ch < 0 := by rw [← hf]; exact hq
  have hq2 := hq'
  rw [frounds_succ] at hq2
  obtain ⟨q1, q2⟩ := fround_quiet es _ hq2
  have hh : ∀ j, j < es.length → holds es (frounds es (r + 1) (fsOf (sfInit n s))) j := by
    intro j hj
    rw [frounds_succ, q1]
    exact q2 j hj
  have snd : Sound es (fsOf (sfInit n s)) (frounds es (r + 1) (fsOf (sfInit n s))) := sound_rounds (r + 1) _ (fun v hv => ⟨v, 0, hv, Walk.nil v, by omega⟩)
  have snd' : ∀ v, (frounds es (r + 1) (fsOf (sfInit n s))).k v = true → ∃ a, Walk es s v a ∧ (frounds es (r + 1) (fsOf (sfInit n s))).o v = a := by
    intro v hk
    obtain ⟨u, a, h1, h2, h3⟩ := snd v hk
    obtain rfl := i3 u h1
    rw [i2, Int.zero_add] at h3
    exact ⟨a, h2, h3⟩
  have ks := known_rounds (es := es) (r + 1) _ i1
  refine ⟨frounds es (r + 1) (fsOf (sfInit n s)), ⟨?_, ?_, hh, snd', ks, ?_⟩, r, hr, hf.symm⟩
  · rw [e, finL_len _ _ (by rw [hg.1, hg.2.2]), hg.1]
  · intro v hvn
    rw [e, finL_get _ _ v (by rw [hg.1, hg.2.2]) (by rw [hg.1]; exact hvn), ← hf]
    rfl
  · obtain ⟨a, h1, h2⟩ := snd' s ks
    have h3 := no_neg hh h1 ks
    have h4 := mono_rounds (es := es) (r + 1) _ i1
    omega
theorem sf_ok {n : Nat} {es : List E3} (hv : ValidE n es) (hq : (negS n es).ch < 0) {s : Nat} (hs : s < n) : (sfLoop es n (sfInit n s)).2 = true := by
  refine Classical.byContradiction fun h => ?_
  have h1 := sf_false es n _ h (n - 1) (by omega)
  rw [show n - 1 + 1 = n by omega] at h1
  have h2 : 0 ≤ (frounds es n (fsOf (sfInit n s))).ch := by rw [← fs_rounds hv n _ (good_init n s)]; exact h1
  have hI := neg_of_change n (by omega) (valid_nodes hv) _ h2
  obtain ⟨v, w, _, h3, h4⟩ := hI
  have hvn : v < n := by
    cases h3 with
    | nil => omega
    | cons hi _ => exact (valid_nodes hv _ hi).1
  have := no_walk hv hq hvn h3
  omega
theorem sf_bad {n : Nat} {es : List E3} (hv : ValidE n es) (hq : 0 ≤ (negS n es).ch) : ∃ c, c < n ∧ ¬ (sfLoop es n (sfInit n c)).2 = true := by
  obtain ⟨c, w, hc, h1, h2⟩ := neg_walk (neg_of hv hq)
  refine ⟨c, hc, fun h => ?_⟩
  obtain ⟨F, D, _⟩ := sf_dist hv hc h
  have := no_neg D.holds_ h1 D.src.1
  omega
theorem sfM_at {n : Int} {es : List E3} (hg : graphOk n es = true) {i : Nat} (hi : (i : Int) < n) : sfM n es (i : Int) = sfLoop es n.toNat (sfInit n.toNat i) := by
  unfold sfM
  rw [if_pos ⟨hg, by omega, hi⟩]; rfl
def rowsC (n : Int) (es : List E3) : Nat → Nat → List Int
  | 0, _ => []
  | d + 1, i => (sfM n es (i : Int)).1.map clampB ++ rowsC n es d (i + 1)
theorem closeL_ok (n : Int) (es : List E3) : ∀ (d i : Nat) (o : List Int), (∀ j, i ≤ j → j < i + d → (sfM n es (j : Int)).2 = true) → closeL n es d i o = (n, o ++ rowsC n es d i, true)
  | 0, i, o, _ => by simp [closeL, rowsC]
  | d + 1, i, o, h => by
    rw [closeL, if_pos (h i (by omega) (by omega)), closeL_ok n es d (i + 1) _ (fun j h1 h2 => h j (by omega) (by omega)), rowsC, List.append_assoc]
theorem closeL_bad (n : Int) (es : List E3) : ∀ (d i : Nat) (o : List Int), (∃ j, i ≤ j ∧ j < i + d ∧ ¬ (sfM n es (j : Int)).2 = true) → closeL n es d i o = (0, [], false)
  | 0, i, o, h => by obtain ⟨j, h1, h2, _⟩ := h; omega
  | d + 1, i, o, h => by
    by_cases c : (sfM n es (i : Int)).2 = true
    · rw [closeL, if_pos c]
      obtain ⟨j, h1, h2, h3⟩ := h
      exact closeL_bad n es d (i + 1) _ ⟨j, by
        rcases Nat.lt_or_ge i j with h4 | h4
        · exact h4
        · have : i = j := by omega
          subst this; exact absurd c h3, by omega, h3⟩
    · rw [closeL, if_neg c]
theorem close_ok {n : Int} {es : List E3} (hg : graphOk n es = true) (h : negM n es = []) : closeM n es = (n, rowsC n es n.toNat 0, true) ∧ ∀ i : Nat, (i : Int) < n → (sfM n es (i : Int)).2 = true := by
  have hv := valid_of hg
  have hq : (negS n.toNat es).ch < 0 := by
    have := negM_nil.1 h
    rcases Int.lt_or_le (negS n.toNat es).ch 0 with h1 | h1
    · exact h1
    · exact absurd ⟨hg, h1⟩ this
  have ha : ∀ i : Nat, (i : Int) < n → (sfM n es (i : Int)).2 = true := fun i hi => by
    rw [sfM_at hg hi]; exact sf_ok hv hq (by omega)
  refine ⟨?_, ha⟩
  unfold closeM
  rw [if_pos hg, closeL_ok n es n.toNat 0 [] (fun j _ hj => ha j (by omega)), List.nil_append]
theorem close_bad {n : Int} {es : List E3} (h : negM n es ≠ []) : closeM n es = (0, [], false) := by
  have c : graphOk n es = true ∧ 0 ≤ (negS n.toNat es).ch := Classical.byContradiction fun c => h (negM_nil.2 c)
  obtain ⟨i, hi, h1⟩ := sf_bad (valid_of c.1) c.2
  unfold closeM
  rw [if_pos c.1]
  have h0 := (graphOk_iff c.1).1
  exact closeL_bad n es n.toNat 0 [] ⟨i, by omega, by omega, by rw [sfM_at c.1 (by omega)]; exact h1⟩
def windowB (s : Int) (l : List Int) (i k : Int) : Int × Int × Bool :=
  if tableOk s l = true ∧ (0 ≤ i ∧ i < s) ∧ (0 ≤ k ∧ k < s) then (if okB (-cellT s l k.toNat i.toNat) (cellT s l i.toNat k.toNat) = true then (-cellT s l k.toNat i.toNat, cellT s l i.toNat k.toNat, true) else (0, 0, false)) else (0, 0, false)
theorem cell_range {s : Int} {l : List Int} (h : tableOk s l = true) {i k : Nat} (hi : (i : Int) < s) (hk : (k : Int) < s) : -1000000 ≤ cellT s l i k ∧ cellT s l i k ≤ 1000000 := by
  obtain ⟨h1, h2, _, _⟩ := cell_in h hi hk
  unfold tableOk at h
  rw [Bool.and_eq_true] at h
  have := (allF0 _ _).1 h.2 ((i : Int) * s + k).toNat (by omega)
  simp only [cellOk, decide_eq_true_eq] at this
  unfold cellT
  rw [Int.toNat_of_nonneg h1] at this
  exact ⟨this.1, this.2.1⟩
def closG (n : Int) (l : List S76) : Int × List Int × Bool := closeM (gOf n l).1 ((gOf n l).2.map tr)
def windM (n : Int) (l : List S76) (i : Int) : Int × Int × Bool := if consM n (l.map trL) = true then windowB (closG n l).1 (closG n l).2.1 0 i else (0, 0, false)
theorem consM_ok {n : Int} {l : List S76} (h : consM n (l.map trL) = true) : simpleOk n (l.map trL) = true ∧ closG n l = (n, rowsC n (linksE (l.map trL)) n.toNat 0, true) := by
  unfold consM at h
  split at h
  · rename_i hs
    refine ⟨hs, ?_⟩
    unfold closG gOf
    rw [if_pos hs, lkS_tr]
    exact (close_ok (linksE_ok hs) (List.isEmpty_iff.1 h)).1
  · simp at h
theorem consM_no {n : Int} {l : List S76} (h : ¬ consM n (l.map trL) = true) (hs : simpleOk n (l.map trL) = true) : closG n l = (0, [], false) := by
  unfold consM at h
  rw [if_pos hs] at h
  unfold closG gOf
  rw [if_pos hs, lkS_tr]
  exact close_bad (fun e => h (by rw [e]; rfl))
theorem closG_len (n : Int) (l : List S76) : (closG n l).2.1.length ≤ 64 := closeM_len _ _
theorem badL (n : Int) (e : S76) : badLink n e = !(linkOk n (trL e)) := by
  unfold badLink sNodeB linkOk trL
  rw [show qokB e.f2.f0 e.f2.f1 = okB e.f2.f0 e.f2.f1 from rfl]
  by_cases h1 : 0 ≤ e.f0 ∧ e.f0 < n <;> by_cases h2 : 0 ≤ e.f1 ∧ e.f1 < n <;> cases okB e.f2.f0 e.f2.f1 <;> simp [h1, h2]
theorem iSimpleOk (n : Int) (l : List S76) : impl_SimpleOk.f n l = some (simpleOk n (l.map trL)) := by
  unfold impl_SimpleOk.f simpleOk
  have e : (!(l.any (badLink n))) = (l.map trL).all (linkOk n) := by
    rw [List.all_map, List.all_eq_not_any_not]
    congr 2
    funext x
    simp [badL]
  congr 1
  by_cases h1 : n < 1
  · rw [if_pos h1, decide_eq_false (by omega), Bool.false_and]
  · rw [if_neg h1]
    by_cases h2 : n > 8
    · rw [if_pos h2, decide_eq_false (by omega), Bool.false_and]
    · rw [if_neg h2]
      by_cases h3 : (l.length : Int) > 40
      · rw [if_pos h3, decide_eq_false (by simp only [List.length_map]; omega), Bool.false_and]
      · rw [if_neg h3, decide_eq_true (by simp only [List.length_map]; omega), Bool.true_and, e]
theorem iGr_l (l : List S76) (hl : l.length ≤ 40) (hb : ∀ e ∈ l, -1000000 ≤ e.f2.f0 ∧ e.f2.f0 ≤ 1000000) (n : Int) : ∀ (d i : Nat) (x : List S70) (y : List Int), i + d = l.length → x.length ≤ 2 * i → y.length ≤ 2 * i → Ev (fun k => impl_graphOf.l0 k y l (l.length : Int) (i : Int) n x) (n, x ++ lkS (l.drop i), y ++ linksI i ((l.map trL).drop i))
  | 0, i, x, y, hd, hx, hy => by
    have e1 : l.drop i = [] := List.drop_eq_nil_of_le (by omega)
    have e2 : (l.map trL).drop i = [] := List.drop_eq_nil_of_le (by simp; omega)
    rw [e1, e2]
    refine suc (f := fun _ => some (n, x, y)) (fun k => by rw [impl_graphOf.l0, if_neg (by omega)]) (eqr now ?_)
    simp [lkS, linksI]
  | d + 1, i, x, y, hd, hx, hy => by
    have hi : i < l.length := by omega
    have hw := lkEs_w _ (hb _ (rdL_mem hi))
    have ih := iGr_l l hl hb n d (i + 1) (x ++ lkEs (rd_T76 l (i : Int))) (y ++ linkI i (trL (rd_T76 l (i : Int)))) (by omega)
      (by have := lkEs_len (rd_T76 l (i : Int)); simp only [List.length_append]; omega)
      (by have := linkE_len (trL (rd_T76 l (i : Int))); simp only [List.length_append, linkI_len]; omega)
    rw [lkS_drop hi, lkI_drop hi, ← List.append_assoc, ← List.append_assoc]
    refine suc (fun k => ?_) ih
    rw [impl_graphOf.l0, if_pos (by omega), if_pos (by omega), if_pos (by omega), up1 (by omega) (by omega), show (i : Int) + 1 = ((i + 1 : Nat) : Int) from rfl, hw]
    unfold lkEs linkI trL
    by_cases h1 : (rd_T76 l (i : Int)).f2.f1 = 1000000 <;> by_cases h2 : (rd_T76 l (i : Int)).f2.f0 = -1000000
    · simp only [h1, h2, if_true, List.append_nil]
    · simp only [h1, h2, if_true, if_false, List.nil_append]
      rw [if_pos (by omega), if_pos (by omega)]
    · simp only [h1, h2, if_true, if_false, List.append_nil, Option.bind_some]
      rw [if_pos (by omega), if_pos (by omega)]
    · simp only [h1, h2, if_false, Option.bind_some]
      rw [if_pos (by omega), if_pos (by omega), if_pos (by simp only [List.length_append, List.length_cons, List.length_nil]; omega), if_pos (by simp only [List.length_append, List.length_cons, List.length_nil]; omega)]
      simp only [List.append_assoc]

theorem iGr {n : Int} (l : List S76) (h : simpleOk n (l.map trL) = true) : Ev (fun k => impl_graphOf.f k n l) (n, lkS l, linksI 0 (l.map trL)) := by
  unfold impl_graphOf.f
  exact iGr_l l (lo_of h).1 (lo_of h).2 n l.length 0 [] [] (by omega) (by simp) (by simp)
theorem iGraphOf (n : Int) (l : List S76) : Ev (fun k => impl_GraphOf.f k n l) (gOf n l) := by
  unfold impl_GraphOf.f gOf
  refine bnd (iSimpleOk n l) ?_
  by_cases h : simpleOk n (l.map trL) = true
  · rw [if_pos h]; exact ifp h (bev (iGr l h) now)
  · rw [if_neg h]; exact ifn h now
theorem badE (n : Int) (e : S70) : badEdge n e = !(edgeOk n (tr e)) := by
  unfold badEdge gNodeB gWeightB edgeOk tr
  rw [Bool.eq_iff_iff]
  simp only [Bool.or_eq_true, Bool.not_eq_true', decide_eq_false_iff_not]
  by_cases h1 : 0 ≤ e.f0 ∧ e.f0 < n <;> by_cases h2 : 0 ≤ e.f1 ∧ e.f1 < n <;> by_cases h3 : -1000000 < e.f2 ∧ e.f2 < 1000000 <;> simp [h1, h2, h3]
theorem iGraphOk (n : Int) (l : List S70) : impl_GraphOk.f n l = some (graphOk n (l.map tr)) := by
  unfold impl_GraphOk.f graphOk
  have e : (!(l.any (badEdge n))) = (l.map tr).all (edgeOk n) := by
    rw [List.all_map, List.all_eq_not_any_not]
    congr 2
    funext x
    simp [badE]
  congr 1
  by_cases h1 : n < 0
  · rw [if_pos h1, decide_eq_false (by omega), Bool.false_and]
  · rw [if_neg h1]
    by_cases h2 : n > 8
    · rw [if_pos h2, decide_eq_false (by omega), Bool.false_and]
    · rw [if_neg h2]
      by_cases h3 : (l.length : Int) > 80
      · rw [if_pos h3, decide_eq_false (by simp only [List.length_map]; omega), Bool.false_and]
      · rw [if_neg h3, decide_eq_true (by simp only [List.length_map]; omega), Bool.true_and, e]
theorem isNode (n x : Int) : impl_isNode.f n x = some (decide (0 ≤ x ∧ x < n)) := by
  unfold impl_isNode.f
  by_cases h : x ≥ 0
  · rw [if_pos h]; congr 1; rw [Bool.eq_iff_iff]; simp only [decide_eq_true_eq]; omega
  · rw [if_neg h]; congr 1; symm; rw [decide_eq_false_iff_not]; omega
theorem rd_mid (a b : List Int) (x : Int) : rd (a ++ x :: b) (a.length : Int) = x := by unfold rd; simp [List.getD_eq_getElem?_getD]
theorem rb_mid (a b : List Bool) (x : Bool) {n : Nat} (h : a.length = n) : rdOf false (a ++ x :: b) (n : Int) = x := by subst h; unfold rdOf; simp [List.getD_eq_getElem?_getD]
theorem set_mid (a b : List Int) (x y : Int) : (a ++ x :: b).set (a.length : Int).toNat y = a ++ y :: b := by simp
theorem iFin : ∀ (ob : List Int) (kb : List Bool) (a : List Int) (ka : List Bool), ka.length = a.length → ob.length = kb.length → a.length + ob.length ≤ 1000 → Ev (fun k => impl_ShortestFrom.l2 k (a ++ ob) (ka ++ kb) ((a.length + ob.length : Nat) : Int) (a.length : Int)) (a ++ finL ob kb, true)
  | [], [], a, ka, hk, ho, hn => by
    simp only [finL]
    exact suc (f := fun _ => some (a ++ [], true)) (fun k => by rw [impl_ShortestFrom.l2, if_neg (by simp)]) now
  | x :: ob, b :: kb, a, ka, hk, ho, hn => by
    simp only [List.length_cons] at ho hn
    have ih := iFin ob kb (a ++ [if b = true then (if x > 1000000 then 1000000 else x) else 1000000]) (ka ++ [b]) (by simp [hk]) (by omega) (by simp only [List.length_append, List.length_cons, List.length_nil]; omega)
    refine eqr (suc (f := fun k => impl_ShortestFrom.l2 k (a ++ [if b = true then (if x > 1000000 then 1000000 else x) else 1000000] ++ ob) (ka ++ [b] ++ kb) (((a ++ [if b = true then (if x > 1000000 then 1000000 else x) else (1000000 : Int)]).length + ob.length : Nat) : Int) ((a ++ [if b = true then (if x > 1000000 then 1000000 else x) else (1000000 : Int)]).length : Int)) (fun k => ?_) ih) (by simp [finL])
    have hlen : (a.length : Int) < ((ka ++ b :: kb).length : Int) := by simp only [List.length_append, List.length_cons]; omega
    have hlen2 : (a.length : Int) < ((a ++ x :: ob).length : Int) := by simp only [List.length_append, List.length_cons]; omega
    rw [impl_ShortestFrom.l2, if_pos (by simp only [List.length_cons]; omega), if_pos (by omega), if_pos hlen, rb_mid ka kb b hk, rd_mid, set_mid, set_mid, w64 (i := (a.length : Int) + 1) (by omega) (by omega)]
    have e1 : (((a ++ [if b = true then (if x > 1000000 then 1000000 else x) else (1000000 : Int)]).length : Nat) : Int) = (a.length : Int) + 1 := by simp
    have e2 : (((a ++ [if b = true then (if x > 1000000 then 1000000 else x) else (1000000 : Int)]).length + ob.length : Nat) : Int) = ((a.length + (x :: ob).length : Nat) : Int) := by simp only [List.length_append, List.length_cons, List.length_nil]; omega
    rw [e1, e2]
    cases b with
    | true =>
      rw [if_pos rfl, if_pos hlen2]
      unfold mn
      by_cases hx : 1000000 < x
      · rw [if_pos hx]; simp [hx]
      · rw [if_neg hx]; simp [hx]
    | false =>
      rw [if_neg (by simp), if_pos hlen2]
      simp only [Option.bind_some]
      rw [rd_mid, set_mid]
      unfold mn
      simp
  | [], b :: kb, a, ka, hk, ho, hn => by simp at ho
  | x :: ob, [], a, ka, hk, ho, hn => by simp at ho
theorem iRound_l (n : Nat) (l : List S70) (hl : l.length ≤ 80) (hv : ValidE n (l.map tr)) (r : Int) (R : List Int × Bool) : ∀ (d i : Nat) (L : LS) (B : Int), i + d = l.length → GoodL n L → SmallL B L → B + 1000000 * d ≤ 1000000000000 → 0 ≤ B →
    Ev (fun k => if decide (0 ≤ (lrnd (l.map tr) i d L).ch) = true then (if r = (n : Int) then some (([] : List Int), false) else impl_ShortestFrom.l0 k (lrnd (l.map tr) i d L).o (lrnd (l.map tr) i d L).k (wrap64 (r + 1)) (n : Int) l) else impl_ShortestFrom.l2 k (lrnd (l.map tr) i d L).o (lrnd (l.map tr) i d L).k ((lrnd (l.map tr) i d L).o.length : Int) 0) R →
    Ev (fun k => impl_ShortestFrom.l1 k L.o L.k r (decide (0 ≤ L.ch)) l (l.length : Int) (i : Int) (n : Int) l) R
  | 0, i, L, B, hd, hg, hs, hB, h0, h => suc (fun k => by rw [impl_ShortestFrom.l1, if_neg (by omega)]; rfl) h
  | d + 1, i, L, B, hd, hg, hs, hB, h0, h => by
    have ih := iRound_l n l hl hv r R d (i + 1) (lstep (l.map tr) i L) (B + 1000000) (by omega) (good_step i hg) (small_step hv (by simp only [List.length_map]; omega) hg hs) (by omega) (by omega) h
    have hu : ∀ k, impl_ShortestFrom.l1 (k + 1) L.o L.k r (decide (0 ≤ L.ch)) l (l.length : Int) (i : Int) (n : Int) l = impl_ShortestFrom.l1 k (lstep (l.map tr) i L).o (lstep (l.map tr) i L).k r (decide (0 ≤ (lstep (l.map tr) i L).ch)) l (l.length : Int) ((i + 1 : Nat) : Int) (n : Int) l := by

      intro k
      obtain ⟨⟨f0, f1⟩, ⟨t0, t1⟩, w0, w1⟩ := hv i (by simp only [List.length_map]; omega)
      obtain ⟨h1, h2, h3⟩ := hg
      have hb := hs _ (rd_mem (l := L.o) f0 (by omega))
      rw [impl_ShortestFrom.l1, if_pos (by omega), if_pos (by omega), if_pos (by omega)]
      simp only [tr0, tr1, tr2]
      rw [up1 (by omega) (by omega), w64 (i := rd L.o _ + _) (by omega) (by omega), if_pos f0, if_pos (by omega), if_pos (by omega)]
      unfold lstep better rb
      by_cases k1 : rdOf false L.k (eAt (l.map tr) i).1 = true
      · rw [if_pos k1, if_pos t0, if_pos (by omega)]
        by_cases k2 : rdOf false L.k (eAt (l.map tr) i).2.1 = true
        · rw [if_pos k2, if_pos (by omega)]
          by_cases c : rd L.o (eAt (l.map tr) i).1 + (eAt (l.map tr) i).2.2 < rd L.o (eAt (l.map tr) i).2.1
          · rw [if_pos c]
            simp only [k1, k2, c, decide_true, Bool.not_true, Bool.false_or, Bool.and_self, if_true]
            rw [show decide (0 ≤ (i : Int)) = true from decide_eq_true (by omega)]; rfl
          · rw [if_neg c]
            simp only [k1, k2, c, decide_false, Bool.not_true, Bool.or_self, Bool.and_false, Bool.false_eq_true, if_false]
            rfl
        · rw [if_neg k2, if_pos (by omega)]
          rw [Bool.not_eq_true] at k2
          simp only [k1, k2, Bool.not_false, Bool.true_or, Bool.and_self, if_true]
          rw [show decide (0 ≤ (i : Int)) = true from decide_eq_true (by omega)]; rfl
      · rw [if_neg k1]
        rw [Bool.not_eq_true] at k1
        simp only [k1, Bool.false_and, Bool.false_eq_true, if_false]
        rfl

    exact suc hu ih
theorem iSf_l (n : Nat) (hn : n ≤ 8) (l : List S70) (hl : l.length ≤ 80) (hv : ValidE n (l.map tr)) : ∀ (d i : Nat) (L : LS) (B : Int), i + d = n → GoodL n L → SmallL B L → B + 80000000 * (d + 1) ≤ 1000000000 → 0 ≤ B →
    Ev (fun k => impl_ShortestFrom.l0 k L.o L.k (i : Int) (n : Int) l) (sfLoop (l.map tr) (d + 1) L) := by
  intro d
  induction d with
  | zero =>
    intro i L B hd hg hs hB h0
    have hg' := good_round (es := l.map tr) hg
    refine suc (f := fun k => impl_ShortestFrom.l1 k L.o L.k (i : Int) false l (l.length : Int) ((0 : Nat) : Int) (n : Int) l) (fun k => by rw [impl_ShortestFrom.l0]; rfl) ?_
    refine iRound_l n l hl hv (i : Int) _ l.length 0 { L with ch := -1 } B (by omega) hg hs (by omega) h0 ?_
    show Ev (fun k => if decide (0 ≤ (lrnd (l.map tr) 0 l.length { L with ch := -1 }).ch) = true then _ else _) _
    have e : lrnd (l.map tr) 0 l.length { L with ch := -1 } = lround (l.map tr) L := by unfold lround; rw [List.length_map]
    rw [e]
    simp only [sfLoop]
    by_cases hq : (lround (l.map tr) L).ch < 0
    · refine ifn (by simpa using hq) ?_
      rw [if_pos hq]
      have := iFin (lround (l.map tr) L).o (lround (l.map tr) L).k [] [] rfl (by rw [hg'.1, hg'.2.2]) (by simp only [List.length_nil]; rw [hg'.1]; omega)
      simp only [List.nil_append, List.length_nil, Nat.zero_add] at this
      exact this
    · rw [if_neg hq]
      exact ifp (by simpa using hq) (ifp (by omega) now)
  | succ d ih =>
    intro i L B hd hg hs hB h0
    have hg' := good_round (es := l.map tr) hg
    have hs' := small_round hv (by simpa using hl) hg hs
    have ih' := ih (i + 1) (lround (l.map tr) L) (B + 80000000) (by omega) hg' hs' (by omega) (by omega)
    refine suc (f := fun k => impl_ShortestFrom.l1 k L.o L.k (i : Int) false l (l.length : Int) ((0 : Nat) : Int) (n : Int) l) (fun k => by rw [impl_ShortestFrom.l0]; rfl) ?_
    refine iRound_l n l hl hv (i : Int) _ l.length 0 { L with ch := -1 } B (by omega) hg hs (by omega) h0 ?_
    show Ev (fun k => if decide (0 ≤ (lrnd (l.map tr) 0 l.length { L with ch := -1 }).ch) = true then _ else _) _
    have e : lrnd (l.map tr) 0 l.length { L with ch := -1 } = lround (l.map tr) L := by unfold lround; rw [List.length_map]
    rw [e]
    show Ev _ (if (lround (l.map tr) L).ch < 0 then _ else sfLoop (l.map tr) (d + 1) (lround (l.map tr) L))
    by_cases hq : (lround (l.map tr) L).ch < 0
    · refine ifn (by simpa using hq) ?_
      rw [if_pos hq]
      have := iFin (lround (l.map tr) L).o (lround (l.map tr) L).k [] [] rfl (by rw [hg'.1, hg'.2.2]) (by simp only [List.length_nil]; rw [hg'.1]; omega)
      simp only [List.nil_append, List.length_nil, Nat.zero_add] at this
      exact this
    · rw [if_neg hq]
      refine ifp (by simpa using hq) (ifn (by omega) ?_)
      rw [up1 (by omega) (by omega)]
      exact ih'
theorem iSf (n : Int) (l : List S70) (s : Int) : Ev (fun k => impl_ShortestFrom.f k n l s) (sfM n (l.map tr) s) := by
  have hf : Ev (fun k => impl_ShortestFrom.j0 k s true n l) ([], false) := suc (f := fun _ => some ([], false)) (fun k => by rw [impl_ShortestFrom.j0, if_pos rfl]) now
  unfold impl_ShortestFrom.f sfM
  refine bnd (iGraphOk n l) ?_
  by_cases hg : graphOk n (l.map tr) = true
  · obtain ⟨h0, h8, hl, _⟩ := graphOk_iff hg
    refine ifp hg (bnd (isNode n s) ?_)
    by_cases hs : 0 ≤ s ∧ s < n
    · rw [show decide (0 ≤ s ∧ s < n) = true from decide_eq_true hs]
      refine eqr ?_ (if_pos ⟨hg, hs⟩).symm
      have hv := valid_of hg
      have h := iSf_l n.toNat (by omega) l (by simpa using hl) hv n.toNat 0 (sfInit n.toNat s.toNat) 0 (by omega) (good_init _ _) (small_init _ _) (by omega) (by omega)
      rw [Int.toNat_of_nonneg h0, sf_once hg hs] at h
      refine suc (fun k => ?_) h
      rw [impl_ShortestFrom.j0, if_neg (by simp), if_pos h0, if_pos (by omega), if_pos (by omega)]
      simp only [Option.bind_some]
      rw [if_pos hs.1, if_pos (by simp only [List.length_replicate]; omega)]
      rfl
    · rw [show decide (0 ≤ s ∧ s < n) = false from decide_eq_false hs]
      exact eqr hf (if_neg (fun h => hs h.2)).symm
  · exact eqr (ifn hg hf) (if_neg (fun h => hg h.1)).symm
theorem iClamp (x : Int) : impl_ClampBound.f x = some (clampB x) := by
  unfold impl_ClampBound.f clampB mx mn
  congr 1
  repeat' split
  all_goals omega

theorem iCl_in (n : Int) (l : List S70) (i : Nat) (hi8 : i ≤ 8) (r : List Int) (hr : r.length ≤ 8) (R : Int × List Int × Bool) : ∀ (d j : Nat) (o : List Int), j + d = r.length → o.length + d ≤ 100000 →
    Ev (fun k => impl_CloseGraph.l0 k ((i + 1 : Nat) : Int) n l n (o ++ (r.drop j).map clampB)) R → Ev (fun k => impl_CloseGraph.l1 k (i : Int) r (r.length : Int) (j : Int) n l n o) R
  | 0, j, o, hd, ho, h => by
    rw [List.drop_eq_nil_of_le (by omega), List.map_nil, List.append_nil] at h
    exact suc (f := fun k => impl_CloseGraph.l0 k ((i + 1 : Nat) : Int) n l n o) (fun k => by rw [impl_CloseGraph.l1, if_neg (by omega), up1 (by omega) (by omega)]; rfl) h
  | d + 1, j, o, hd, ho, h => by
    have hj : j < r.length := by omega
    have e : rd r (j : Int) = r[j] := by unfold rd; simp [List.getD_eq_getElem?_getD, hj]
    rw [List.drop_eq_getElem_cons hj, List.map_cons, ← e] at h
    refine suc (f := fun k => impl_CloseGraph.l1 k (i : Int) r (r.length : Int) ((j + 1 : Nat) : Int) n l n (o ++ [clampB (rd r (j : Int))])) (fun k => ?_) (iCl_in n l i hi8 r hr R d (j + 1) _ (by omega) (by simp only [List.length_append, List.length_cons, List.length_nil]; omega) (by rw [List.append_assoc]; exact h))
    rw [impl_CloseGraph.l1, if_pos (by omega), if_pos (by omega), if_pos (by omega), iClamp, up1 (by omega) (by omega)]
    simp only [Option.bind_some]
    rw [if_pos (by omega)]; rfl
theorem iCl (n : Nat) (hn : n ≤ 8) (l : List S70) : ∀ (d i : Nat) (o : List Int), i + d = n → o.length ≤ 8 * i → Ev (fun k => impl_CloseGraph.l0 k (i : Int) (n : Int) l (n : Int) o) (closeL n (l.map tr) d i o)
  | 0, i, o, hd, ho => by
    simp only [closeL]
    exact suc (f := fun _ => some ((n : Int), o, true)) (fun k => by rw [impl_CloseGraph.l0, if_neg (by omega)]) now
  | d + 1, i, o, hd, ho => by
    simp only [closeL]
    have hs := sfM_len n (l.map tr) (i : Int)
    refine suc (fun k => by rw [impl_CloseGraph.l0, if_pos (by omega)]) ?_
    refine bev (iSf n l (i : Int)) ?_
    by_cases h : (sfM n (l.map tr) (i : Int)).2 = true
    · rw [if_pos h]
      refine ifp h (iCl_in n l i (by omega) _ hs _ (sfM n (l.map tr) (i : Int)).1.length 0 o (by omega) (by omega) ?_)
      rw [List.drop_zero]
      exact iCl n hn l d (i + 1) _ (by omega) (by simp only [List.length_append, List.length_map]; omega)
    · rw [if_neg h]
      exact ifn h now
theorem iClose (n : Int) (l : List S70) : Ev (fun k => impl_CloseGraph.f k n l) (closeM n (l.map tr)) := by
  unfold impl_CloseGraph.f closeM
  refine bnd (iGraphOk n l) ?_
  by_cases h : graphOk n (l.map tr) = true
  · rw [if_pos h]
    have h8 := (graphOk_iff h).2.1
    have h0 := (graphOk_iff h).1
    obtain ⟨m, rfl⟩ : ∃ m : Nat, n = (m : Int) := ⟨n.toNat, by omega⟩
    exact ifp h (iCl m (by omega) l m 0 [] (by omega) (by simp))
  · rw [if_neg h]; exact ifn h now
theorem iTableOk_l (s : Int) (l : List Int) (h0 : 0 ≤ s) (h8 : s ≤ 8) (hl : (l.length : Int) = s * s) : ∀ (d i : Nat), i + d = l.length → Ev (fun k => impl_TableOk.l0 k l (l.length : Int) (i : Int) s l) (allF (cellOk s l) i d)
  | 0, i, hd => suc (f := fun _ => some true) (fun k => by rw [impl_TableOk.l0, if_neg (by omega)]) now
  | d + 1, i, hd => by
    have hs : 0 < s := by
      rcases Int.lt_or_eq_of_le h0 with h | h
      · exact h
      · rw [← h] at hl; omega
    have h64 : s * s ≤ 8 * 8 := Int.mul_le_mul h8 h8 h0 (by omega)
    have hq : wrap64 (Int.tdiv (i : Int) s) = (i : Int) / s := by
      rw [Int.tdiv_eq_ediv_of_nonneg (by omega)]
      have h1 : (i : Int) / s < s := Int.ediv_lt_of_lt_mul hs (by omega)
      have h2 : 0 ≤ (i : Int) / s := Int.ediv_nonneg (by omega) h0
      exact w64 (by omega) (by omega)
    have hr : Int.tmod (i : Int) s = (i : Int) % s := Int.tmod_eq_emod_of_nonneg (by omega)
    have ih := iTableOk_l s l h0 h8 hl d (i + 1) (by omega)
    simp only [allF]
    by_cases hc : cellOk s l i = true
    · have hc' := hc
      simp only [cellOk, decide_eq_true_eq] at hc'
      obtain ⟨c1, c2, c3⟩ := hc'
      rw [hc, Bool.true_and]
      refine suc (f := fun k => impl_TableOk.l0 k l (l.length : Int) ((i + 1 : Nat) : Int) s l) (fun k => ?_) ih
      rw [impl_TableOk.l0, if_pos (by omega), if_pos (by omega), if_pos (by omega), if_neg (by omega), if_neg (by omega), if_neg (by omega), hq, hr, up1 (by omega) (by omega)]
      by_cases e : (i : Int) / s = (i : Int) % s
      · rw [if_pos e, if_pos (c3 e)]; rfl
      · rw [if_neg e]; rfl
    · rw [Bool.not_eq_true] at hc
      have hc' := hc
      simp only [cellOk, decide_eq_false_iff_not] at hc'
      rw [hc, Bool.false_and]
      refine suc (f := fun _ => some false) (fun k => ?_) now
      rw [impl_TableOk.l0, if_pos (by omega), if_pos (by omega), if_pos (by omega)]
      by_cases c1 : rd l i < -1000000
      · rw [if_pos c1]
      · rw [if_neg c1]
        by_cases c2 : rd l i > 1000000
        · rw [if_pos c2]
        · rw [if_neg c2, if_neg (by omega), hq, hr]
          by_cases e : (i : Int) / s = (i : Int) % s
          · rw [if_pos e]
            by_cases c3 : rd l i = 0
            · exact absurd ⟨by omega, by omega, fun _ => c3⟩ hc'
            · rw [if_neg c3]
          · exact absurd ⟨by omega, by omega, fun h => absurd h e⟩ hc'
theorem iTableOk (s : Int) (l : List Int) (hn : l.length ≤ 4194304) : Ev (fun k => impl_TableOk.f k s l) (tableOk s l) := by
  have ww : 0 ≤ s → s ≤ 8 → wrap64 (s * s) = s * s := fun h0 h8 => by
    have : s * s ≤ 8 * 8 := Int.mul_le_mul h8 h8 h0 (by omega)
    exact w64 (by have := Int.mul_nonneg h0 h0; omega) (by omega)
  unfold impl_TableOk.f tableOk
  by_cases h0 : s < 0
  · rw [decide_eq_false (by omega), Bool.false_and]
    exact ifp h0 (suc (f := fun _ => some false) (fun k => by rw [impl_TableOk.j0, if_pos rfl]) now)
  · refine ifn h0 ?_
    by_cases h8 : s > 8
    · rw [decide_eq_false (by omega), Bool.false_and]
      exact ifp h8 (suc (f := fun _ => some false) (fun k => by rw [impl_TableOk.j0, if_pos rfl]) now)
    · refine ifn h8 ?_
      rw [ww (by omega) (by omega)]
      by_cases hl : (l.length : Int) = s * s
      · rw [decide_eq_true ⟨by omega, by omega, hl⟩, Bool.true_and]
        refine suc (f := fun k => impl_TableOk.l0 k l (l.length : Int) ((0 : Nat) : Int) s l) (fun k => ?_) (iTableOk_l s l (by omega) (by omega) hl l.length 0 (by omega))
        rw [impl_TableOk.j0, if_neg (by simp [hl])]; rfl
      · rw [decide_eq_false (by omega), Bool.false_and]
        exact suc (f := fun _ => some false) (fun k => by rw [impl_TableOk.j0, if_pos (by simp [hl])]) now
theorem icell {s : Int} {l : List Int} (h : tableOk s l = true) {i k : Nat} (hi : (i : Int) < s) (hk : (k : Int) < s) : impl_Table_cell.f s l (i : Int) (k : Int) = some (cellT s l i k) := by
  obtain ⟨h1, h2, h3, h4⟩ := cell_in h hi hk
  have h8 : s ≤ 8 := by unfold tableOk at h; simp only [Bool.and_eq_true, decide_eq_true_eq] at h; exact h.1.2.1
  unfold impl_Table_cell.f
  rw [w64 (i := (i : Int) * s) (by omega) (by omega), w64 (by omega) (by omega), if_pos h1, if_pos h2]
  rfl
theorem iok (a b : Int) : impl_IntervalOk.f a b = some (okB a b) := by
  unfold impl_IntervalOk.f okB
  repeat' split
  all_goals (congr 1; first | (symm; rw [decide_eq_false_iff_not]; omega) | (rw [Bool.eq_iff_iff]; simp only [bne_iff_ne, ne_eq, decide_eq_true_eq]; omega))
theorem checked (a b : Int) : impl_checked.f a b true = some (if okB a b = true then (a, b, true) else (0, 0, false)) := by
  unfold impl_checked.f
  rw [if_pos rfl, iok]
  simp only [Option.bind_some]
  split <;> rfl
theorem iWindow (s : Int) (l : List Int) (i k : Int) (hn : l.length ≤ 4194304) : Ev (fun n => impl_WindowBetween.f n s l i k) (windowB s l i k) := by
  have hf : Ev (fun n => impl_WindowBetween.j0 n i k true s l) (0, 0, false) := suc (f := fun _ => some (0, 0, false)) (fun n => by rw [impl_WindowBetween.j0, if_pos rfl]) now
  unfold impl_WindowBetween.f windowB
  refine bev (iTableOk s l hn) ?_
  by_cases h : tableOk s l = true
  · rw [h]
    refine ifp rfl (bnd (isNode s i) ?_)
    by_cases hi : 0 ≤ i ∧ i < s
    · refine ifp (decide_eq_true hi) (bnd (isNode s k) ?_)
      by_cases hk : 0 ≤ k ∧ k < s
      · refine eqr ?_ (if_pos ⟨rfl, hi, hk⟩).symm
        rw [decide_eq_true hk]
        have h1 := icell h (i := i.toNat) (k := k.toNat) (by omega) (by omega)
        have h2 := icell h (i := k.toNat) (k := i.toNat) (by omega) (by omega)
        have r2 := cell_range h (i := k.toNat) (k := i.toNat) (by omega) (by omega)
        rw [Int.toNat_of_nonneg hi.1, Int.toNat_of_nonneg hk.1] at h1 h2
        refine suc (f := fun _ => some (if okB (-cellT s l k.toNat i.toNat) (cellT s l i.toNat k.toNat) = true then (-cellT s l k.toNat i.toNat, cellT s l i.toNat k.toNat, true) else (0, 0, false))) (fun n => ?_) now
        rw [impl_WindowBetween.j0, if_neg (by simp), h1, h2]
        simp only [Option.bind_some]
        rw [w64 (by omega) (by omega), checked]
        rfl
      · rw [decide_eq_false hk]
        exact eqr hf (if_neg (fun x => hk x.2.2)).symm
    · exact eqr (ifn (by simpa using hi) hf) (if_neg (fun x => hi x.2.1)).symm
  · exact eqr (ifn h hf) (if_neg (fun x => h x.1)).symm
theorem iWind (n : Int) (l : List S76) (i : Int) : Ev (fun k => impl_WindowOf.f k n l i) (windM n l i) := by
  unfold impl_WindowOf.f windM
  have hl := closG_len n l
  have hC := iClose (gOf n l).1 (gOf n l).2
  change Ev _ (closG n l) at hC
  refine bev (iGraphOf n l) (bev hC ?_)
  by_cases c : consM n (l.map trL) = true
  · obtain ⟨hs, e⟩ := consM_ok c
    rw [if_pos c]
    exact ifp (by rw [e]) (bnd (iSimpleOk n l) (ifp hs (bev (iWindow _ _ 0 i (by omega)) now)))
  · rw [if_neg c]
    by_cases hs : simpleOk n (l.map trL) = true
    · exact ifn (by rw [consM_no c hs]; simp) now
    · by_cases h2 : (closG n l).2.2 = true
      · exact ifp h2 (bnd (iSimpleOk n l) (ifn hs now))
      · exact ifn h2 now
theorem sEd_l (l : List S76) (hl : l.length ≤ 40) (hb : ∀ e ∈ l, -1000000 ≤ e.f2.f0 ∧ e.f2.f0 ≤ 1000000) : ∀ (d i : Nat) (x : List S70) (y : List Int), i + d = l.length → x.length ≤ 2 * i → y.length ≤ 2 * i → Ev (fun k => spec_l05Edges.l0 k x y l (l.length : Int) (i : Int)) (x ++ lkS (l.drop i), y ++ linksI i ((l.map trL).drop i))
  | 0, i, x, y, hd, hx, hy => by
    have e1 : l.drop i = [] := List.drop_eq_nil_of_le (by omega)
    have e2 : (l.map trL).drop i = [] := List.drop_eq_nil_of_le (by simp; omega)
    rw [e1, e2]
    refine suc (f := fun _ => some (x, y)) (fun k => by rw [spec_l05Edges.l0, if_neg (by omega)]) (eqr now ?_)
    simp [lkS, linksI]
  | d + 1, i, x, y, hd, hx, hy => by
    have hi : i < l.length := by omega
    have hw := lkEs_w _ (hb _ (rdL_mem hi))
    have ih := sEd_l l hl hb d (i + 1) (x ++ lkEs (rd_T76 l (i : Int))) (y ++ linkI i (trL (rd_T76 l (i : Int)))) (by omega)
      (by have := lkEs_len (rd_T76 l (i : Int)); simp only [List.length_append]; omega)
      (by have := linkE_len (trL (rd_T76 l (i : Int))); simp only [List.length_append, linkI_len]; omega)
    rw [lkS_drop hi, lkI_drop hi, ← List.append_assoc, ← List.append_assoc]
    refine suc (fun k => ?_) ih
    rw [spec_l05Edges.l0, if_pos (by omega), if_pos (by omega), if_pos (by omega), up1 (by omega) (by omega), show (i : Int) + 1 = ((i + 1 : Nat) : Int) from rfl, hw]
    unfold lkEs linkI trL
    by_cases h1 : (rd_T76 l (i : Int)).f2.f1 = 1000000 <;> by_cases h2 : (rd_T76 l (i : Int)).f2.f0 = -1000000
    · simp only [h1, h2, if_true, List.append_nil]
    · simp only [h1, h2, if_true, if_false, List.nil_append]
      rw [if_pos (by omega), if_pos (by omega)]
    · simp only [h1, h2, if_true, if_false, List.append_nil, Option.bind_some]
      rw [if_pos (by omega), if_pos (by omega)]
    · simp only [h1, h2, if_false, Option.bind_some]
      rw [if_pos (by omega), if_pos (by omega), if_pos (by simp only [List.length_append, List.length_cons, List.length_nil]; omega), if_pos (by simp only [List.length_append, List.length_cons, List.length_nil]; omega)]
      simp only [List.append_assoc]

theorem sEd {n : Int} (l : List S76) (h : simpleOk n (l.map trL) = true) : Ev (fun k => spec_l05Edges.f k n l) (lkS l, linksI 0 (l.map trL)) := by
  unfold spec_l05Edges.f
  exact sEd_l l (lo_of h).1 (lo_of h).2 l.length 0 [] [] (by omega) (by simp) (by simp)
theorem l01In (n a b : Int) : spec_l01In.f n a b = some (decide (a ≤ n ∧ n ≤ b)) := by
  unfold spec_l01In.f
  by_cases h : n ≥ a
  · rw [if_pos h]; congr 1; rw [Bool.eq_iff_iff]; simp only [decide_eq_true_eq]; omega
  · rw [if_neg h]; congr 1; symm; rw [decide_eq_false_iff_not]; omega
theorem in_node {s i : Int} (h0 : 0 ≤ s) (h8 : s ≤ 8) : spec_l01In.f i 0 (wrap64 (s - 1)) = some (decide (0 ≤ i ∧ i < s)) := by
  rw [l01In, w64 (by omega) (by omega)]
  congr 1
  rw [Bool.eq_iff_iff]
  simp only [decide_eq_true_eq]
  omega
theorem tableOk_s {s : Int} {l : List Int} (h : tableOk s l = true) : 0 ≤ s ∧ s ≤ 8 ∧ (l.length : Int) = s * s := by
  unfold tableOk at h; simp only [Bool.and_eq_true, decide_eq_true_eq] at h; exact h.1
theorem sok (a b : Int) : spec_IntervalOk.f a b = some (okB a b) := by
  unfold spec_IntervalOk.f okB
  repeat' split
  all_goals (congr 1; first | (symm; rw [decide_eq_false_iff_not]; omega) | (rw [Bool.eq_iff_iff]; simp only [bne_iff_ne, ne_eq, decide_eq_true_eq]; omega))
theorem sSimpleOk_l (n : Int) (l : List S76) (h0 : 1 ≤ n) (h8 : n ≤ 8) (hl : l.length ≤ 40) : ∀ (d i : Nat), i + d = l.length → Ev (fun k => spec_SimpleOk.l0 k l (l.length : Int) (i : Int) n l) (allF (fun j => linkOk n ((l.map trL).getD j (0, 0, 0, 0))) i d)
  | 0, i, hd => suc (f := fun _ => some true) (fun k => by rw [spec_SimpleOk.l0, if_neg (by omega)]) now
  | d + 1, i, hd => by
    have ih := sSimpleOk_l n l h0 h8 hl d (i + 1) (by omega)
    simp only [allF]
    have e0 : (l.map trL).getD i (0, 0, 0, 0) = lAt (l.map trL) (i : Int) := rfl
    rw [e0]
    have hu : ∀ k, spec_SimpleOk.l0 (k + 1) l (l.length : Int) (i : Int) n l = (if 0 ≤ (lAt (l.map trL) i).1 ∧ (lAt (l.map trL) i).1 < n then (if 0 ≤ (lAt (l.map trL) i).2.1 ∧ (lAt (l.map trL) i).2.1 < n then (if okB (lAt (l.map trL) i).2.2.1 (lAt (l.map trL) i).2.2.2 = true then spec_SimpleOk.l0 k l (l.length : Int) ((i + 1 : Nat) : Int) n l else some false) else some false) else some false) := by
      intro k
      rw [spec_SimpleOk.l0, if_pos (by omega), if_pos (by omega), if_pos (by omega), in_node (by omega) h8, in_node (by omega) h8, sok, lk0, lk1, lk2, lk3, up1 (by omega) (by omega)]
      simp only [Option.bind_some, decide_eq_true_eq]; rfl
    refine suc hu ?_
    unfold linkOk
    by_cases h1 : 0 ≤ (lAt (l.map trL) i).1 ∧ (lAt (l.map trL) i).1 < n
    · refine ifp h1 ?_
      by_cases h2 : 0 ≤ (lAt (l.map trL) i).2.1 ∧ (lAt (l.map trL) i).2.1 < n
      · refine ifp h2 ?_
        rw [decide_eq_true ⟨h1, h2⟩, Bool.true_and]
        by_cases h3 : okB (lAt (l.map trL) i).2.2.1 (lAt (l.map trL) i).2.2.2 = true
        · rw [h3, Bool.true_and]
          exact ifp rfl ih
        · rw [Bool.not_eq_true] at h3
          rw [h3, Bool.false_and]
          exact ifn (by simp) now
      · rw [decide_eq_false (fun x => h2 x.2), Bool.false_and, Bool.false_and]
        exact ifn h2 now
    · rw [decide_eq_false (fun x => h1 x.1), Bool.false_and, Bool.false_and]
      exact ifn h1 now
theorem sSimpleOk (n : Int) (l : List S76) : Ev (fun k => spec_SimpleOk.f k n l) (simpleOk n (l.map trL)) := by
  unfold spec_SimpleOk.f simpleOk
  refine bnd (l01In n 1 8) ?_
  by_cases h : 1 ≤ n ∧ n ≤ 8
  · refine ifp (decide_eq_true h) ?_
    by_cases hl : l.length ≤ 40
    · have e : (decide (1 ≤ n ∧ n ≤ 8 ∧ (l.map trL).length ≤ 40) && (l.map trL).all (linkOk n)) = allF (fun j => linkOk n ((l.map trL).getD j (0, 0, 0, 0))) 0 l.length := by
        rw [decide_eq_true (show 1 ≤ n ∧ n ≤ 8 ∧ (l.map trL).length ≤ 40 from ⟨h.1, h.2, by simpa using hl⟩), Bool.true_and, ← allF_all (0, 0, 0, 0), List.length_map]
      rw [show decide ((l.length : Int) > 40) = false from decide_eq_false (by omega)]
      exact eqr (suc (f := fun k => spec_SimpleOk.l0 k l (l.length : Int) ((0 : Nat) : Int) n l) (fun k => by rw [spec_SimpleOk.j0, if_neg (by simp)]; rfl) (sSimpleOk_l n l h.1 h.2 hl l.length 0 (by omega))) e.symm
    · have e : (decide (1 ≤ n ∧ n ≤ 8 ∧ (l.map trL).length ≤ 40) && (l.map trL).all (linkOk n)) = false := by
        rw [decide_eq_false (show ¬ (1 ≤ n ∧ n ≤ 8 ∧ (l.map trL).length ≤ 40) from fun x => hl (by simpa using x.2.2)), Bool.false_and]
      rw [show decide ((l.length : Int) > 40) = true from decide_eq_true (by omega)]
      exact eqr (suc (f := fun _ => some false) (fun k => by rw [spec_SimpleOk.j0, if_pos rfl]) now) e.symm
  · have e : (decide (1 ≤ n ∧ n ≤ 8 ∧ (l.map trL).length ≤ 40) && (l.map trL).all (linkOk n)) = false := by
      rw [decide_eq_false (show ¬ (1 ≤ n ∧ n ≤ 8 ∧ (l.map trL).length ≤ 40) from fun x => h ⟨x.1, x.2.1⟩), Bool.false_and]
    exact eqr (ifn (by simpa using h) (suc (f := fun _ => some false) (fun k => by rw [spec_SimpleOk.j0, if_pos rfl]) now)) e.symm
theorem sGraphOf (n : Int) (l : List S76) : Ev (fun k => spec_GraphOf.f k n l) (gOf n l) := by
  unfold spec_GraphOf.f gOf
  refine bev (sSimpleOk n l) ?_
  by_cases h : simpleOk n (l.map trL) = true
  · rw [if_pos h]; exact ifp h (bev (sEd l h) now)
  · rw [if_neg h]; exact ifn h now
/-- What both programs know of the last round's parents. -/
theorem neg_edge {n : Nat} {es : List E3} (hv : ValidE n es) {k : Int} (hk : 0 ≤ k ∧ k < es.length) : (eAt es k).1 = ((Fr es k.toNat : Nat) : Int) ∧ (eAt es k).2.1 = ((To es k.toNat : Nat) : Int) := by
  have h := hv k.toNat (by omega)
  have e : eAt es k = eAt es ((k.toNat : Nat) : Int) := rfl
  unfold Fr To
  rw [e]
  omega
theorem neg_par {n : Nat} {es : List E3} (hv : ValidE n es) {s : FS} {a : Nat} (hk : 0 ≤ s.l a ∧ s.l a < es.length) : (eAt es (s.l a)).1 = ((par es s a : Nat) : Int) := (neg_edge hv hk).1
theorem all_step {n : Nat} {es : List E3} {L : LS} (i : Nat) (h : L.k = List.replicate n true) : (lstep es i L).k = List.replicate n true := by
  unfold lstep
  split
  · show L.k.set _ true = _
    rw [h]; simp
  · exact h
theorem all_rnd {n : Nat} {es : List E3} : ∀ (d i : Nat) (L : LS), L.k = List.replicate n true → (lrnd es i d L).k = List.replicate n true
  | 0, _, _, h => h
  | d + 1, i, L, h => all_rnd d (i + 1) _ (all_step i h)
theorem all_round {n : Nat} {es : List E3} {L : LS} (h : L.k = List.replicate n true) : (lround es L).k = List.replicate n true := all_rnd _ _ _ h
def trl (s : FS) (es : List E3) (c : Nat) (i : Nat) : List Int := (List.range i).map fun j => s.l (parN es s j c)
theorem trl_succ (s : FS) (es : List E3) (c i : Nat) : trl s es c (i + 1) = trl s es c i ++ [s.l (parN es s i c)] := by unfold trl; rw [List.range_succ, List.map_append]; rfl
theorem trl_len (s : FS) (es : List E3) (c i : Nat) : (trl s es c i).length = i := by unfold trl; simp
theorem sRound_l (n : Nat) (l : List S70) (hl : l.length ≤ 80) (hv : ValidE n (l.map tr)) : ∀ (d i : Nat) (L : LS) (B : Int), i + d = l.length → GoodL n L → SmallL B L → B + 1000000 * d ≤ 1000000000000 → 0 ≤ B →
    Ev (fun k => spec_l03Round.l0 k L.o L.l L.k L.ch l (l.length : Int) (i : Int)) ((lrnd (l.map tr) i d L).ch, (lrnd (l.map tr) i d L).o, (lrnd (l.map tr) i d L).l, (lrnd (l.map tr) i d L).k)
  | 0, i, L, B, hd, hg, hs, hB, h0 => suc (f := fun _ => some (L.ch, L.o, L.l, L.k)) (fun k => by rw [spec_l03Round.l0, if_neg (by omega)]) now
  | d + 1, i, L, B, hd, hg, hs, hB, h0 => by
    have ih := sRound_l n l hl hv d (i + 1) (lstep (l.map tr) i L) (B + 1000000) (by omega) (good_step i hg) (small_step hv (by simp only [List.length_map]; omega) hg hs) (by omega) (by omega)
    have hu : ∀ k, spec_l03Round.l0 (k + 1) L.o L.l L.k L.ch l (l.length : Int) (i : Int) = spec_l03Round.l0 k (lstep (l.map tr) i L).o (lstep (l.map tr) i L).l (lstep (l.map tr) i L).k (lstep (l.map tr) i L).ch l (l.length : Int) ((i + 1 : Nat) : Int) := by

      intro k
      obtain ⟨⟨f0, f1⟩, ⟨t0, t1⟩, w0, w1⟩ := hv i (by simp only [List.length_map]; omega)
      obtain ⟨h1, h2, h3⟩ := hg
      have hb := hs _ (rd_mem (l := L.o) f0 (by omega))
      rw [spec_l03Round.l0, if_pos (by omega), if_pos (by omega), if_pos (by omega)]
      simp only [tr0, tr1, tr2]
      rw [up1 (by omega) (by omega), w64 (i := rd L.o _ + _) (by omega) (by omega), if_pos f0, if_pos (by omega)]
      unfold lstep better rb
      by_cases k1 : rdOf false L.k (eAt (l.map tr) i).1 = true
      · rw [if_pos k1, if_pos t0, if_pos (by omega)]
        by_cases k2 : rdOf false L.k (eAt (l.map tr) i).2.1 = true
        · rw [if_pos k2, if_pos (by omega), if_pos (by omega)]
          by_cases c : rd L.o (eAt (l.map tr) i).1 + (eAt (l.map tr) i).2.2 < rd L.o (eAt (l.map tr) i).2.1
          · rw [if_pos c, if_pos (by omega)]
            simp only [k1, k2, c, decide_true, Bool.not_true, Bool.false_or, Bool.and_self, if_true]
            rfl
          · rw [if_neg c]
            simp only [k1, k2, c, decide_false, Bool.not_true, Bool.or_self, Bool.and_false, Bool.false_eq_true, if_false]
            rfl
        · rw [if_neg k2, if_pos (by omega), if_pos (by omega), if_pos (by omega)]
          rw [Bool.not_eq_true] at k2
          simp only [k1, k2, Bool.not_false, Bool.true_or, Bool.and_self, if_true]
          rfl
      · rw [if_neg k1]
        rw [Bool.not_eq_true] at k1
        simp only [k1, Bool.false_and, Bool.false_eq_true, if_false]
        rfl

    exact suc hu ih
theorem sRound (n : Nat) (m : Int) (l : List S70) (hl : l.length ≤ 80) (hv : ValidE n (l.map tr)) (L : LS) (B : Int) (hg : GoodL n L) (hs : SmallL B L) (hB : B ≤ 100000000000) (h0 : 0 ≤ B) :
    Ev (fun k => spec_l03Round.f k m l L.o L.l L.k) ((lround (l.map tr) L).ch, (lround (l.map tr) L).o, (lround (l.map tr) L).l, (lround (l.map tr) L).k) := by
  unfold spec_l03Round.f lround
  have := sRound_l n l hl hv l.length 0 { L with ch := -1 } B (by omega) hg hs (by omega) h0
  rw [List.length_map]
  exact this
theorem sGraphOk_l (n : Int) (l : List S70) (h0 : 0 ≤ n) (h8 : n ≤ 8) (hl : l.length ≤ 80) : ∀ (d i : Nat), i + d = l.length → Ev (fun k => spec_GraphOk.l0 k l (l.length : Int) (i : Int) n l) (allF (fun j => edgeOk n ((l.map tr).getD j (0, 0, 0))) i d)
  | 0, i, hd => suc (f := fun _ => some true) (fun k => by rw [spec_GraphOk.l0, if_neg (by omega)]) now
  | d + 1, i, hd => by
    have ih := sGraphOk_l n l h0 h8 hl d (i + 1) (by omega)
    simp only [allF]
    have e0 : (l.map tr).getD i (0, 0, 0) = eAt (l.map tr) (i : Int) := rfl
    rw [e0]
    have hu : ∀ k, spec_GraphOk.l0 (k + 1) l (l.length : Int) (i : Int) n l = (if 0 ≤ (eAt (l.map tr) i).1 ∧ (eAt (l.map tr) i).1 < n then (if 0 ≤ (eAt (l.map tr) i).2.1 ∧ (eAt (l.map tr) i).2.1 < n then (if -1000000 < (eAt (l.map tr) i).2.2 ∧ (eAt (l.map tr) i).2.2 < 1000000 then spec_GraphOk.l0 k l (l.length : Int) ((i + 1 : Nat) : Int) n l else some false) else some false) else some false) := by
      intro k
      rw [spec_GraphOk.l0, if_pos (by omega), if_pos (by omega), if_pos (by omega), in_node h0 h8, in_node h0 h8, l01In, tr0, tr1, tr2, up1 (by omega) (by omega)]
      simp only [Option.bind_some, decide_eq_true_eq]
      have : (-999999 ≤ (eAt (l.map tr) ↑i).2.2 ∧ (eAt (l.map tr) ↑i).2.2 ≤ 999999) = (-1000000 < (eAt (l.map tr) ↑i).2.2 ∧ (eAt (l.map tr) ↑i).2.2 < 1000000) := by apply propext; omega
      simp only [this]; rfl
    refine suc hu ?_
    unfold edgeOk
    by_cases h1 : 0 ≤ (eAt (l.map tr) i).1 ∧ (eAt (l.map tr) i).1 < n
    · refine ifp h1 ?_
      by_cases h2 : 0 ≤ (eAt (l.map tr) i).2.1 ∧ (eAt (l.map tr) i).2.1 < n
      · refine ifp h2 ?_
        by_cases h3 : -1000000 < (eAt (l.map tr) i).2.2 ∧ (eAt (l.map tr) i).2.2 < 1000000
        · rw [decide_eq_true ⟨h1, h2, h3⟩, Bool.true_and]
          exact ifp h3 ih
        · rw [decide_eq_false (fun x => h3 x.2.2), Bool.false_and]
          exact ifn h3 now
      · rw [decide_eq_false (fun x => h2 x.2.1), Bool.false_and]
        exact ifn h2 now
    · rw [decide_eq_false (fun x => h1 x.1), Bool.false_and]
      exact ifn h1 now
theorem sGraphOk (n : Int) (l : List S70) : Ev (fun k => spec_GraphOk.f k n l) (graphOk n (l.map tr)) := by
  unfold spec_GraphOk.f graphOk
  refine bnd (l01In n 0 8) ?_
  by_cases h : 0 ≤ n ∧ n ≤ 8
  · refine ifp (decide_eq_true h) ?_
    by_cases hl : l.length ≤ 80
    · have e : (decide (0 ≤ n ∧ n ≤ 8 ∧ (l.map tr).length ≤ 80) && (l.map tr).all (edgeOk n)) = allF (fun j => edgeOk n ((l.map tr).getD j (0, 0, 0))) 0 l.length := by
        rw [decide_eq_true (show 0 ≤ n ∧ n ≤ 8 ∧ (l.map tr).length ≤ 80 from ⟨h.1, h.2, by simpa using hl⟩), Bool.true_and, ← allF_all (0, 0, 0), List.length_map]
      rw [show decide ((l.length : Int) > 80) = false from decide_eq_false (by omega)]
      exact eqr (suc (f := fun k => spec_GraphOk.l0 k l (l.length : Int) ((0 : Nat) : Int) n l) (fun k => by rw [spec_GraphOk.j0, if_neg (by simp)]; rfl) (sGraphOk_l n l h.1 h.2 hl l.length 0 (by omega))) e.symm
    · have e : (decide (0 ≤ n ∧ n ≤ 8 ∧ (l.map tr).length ≤ 80) && (l.map tr).all (edgeOk n)) = false := by
        rw [decide_eq_false (show ¬ (0 ≤ n ∧ n ≤ 8 ∧ (l.map tr).length ≤ 80) from fun x => hl (by simpa using x.2.2)), Bool.false_and]
      rw [show decide ((l.length : Int) > 80) = true from decide_eq_true (by omega)]
      exact eqr (suc (f := fun _ => some false) (fun k => by rw [spec_GraphOk.j0, if_pos rfl]) now) e.symm
  · have e : (decide (0 ≤ n ∧ n ≤ 8 ∧ (l.map tr).length ≤ 80) && (l.map tr).all (edgeOk n)) = false := by
      rw [decide_eq_false (show ¬ (0 ≤ n ∧ n ≤ 8 ∧ (l.map tr).length ≤ 80) from fun x => h ⟨x.1, x.2.1⟩), Bool.false_and]
    exact eqr (ifn (by simpa using h) (suc (f := fun _ => some false) (fun k => by rw [spec_GraphOk.j0, if_pos rfl]) now)) e.symm
theorem sN0 (n : Nat) (hn : n ≤ 8) (l : List S70) (R : List Int) (h : Ev (fun k => spec_NegativeCycle.l1 k (negInit n).o (negInit n).l (negInit n).k (-1) 0 (n : Int) l) R) : ∀ (d i : Nat), i + d = n → Ev (fun k => spec_NegativeCycle.l0 k (List.replicate n 0) (List.replicate i (-1) ++ List.replicate d 0) (List.replicate i true ++ List.replicate d false) (n : Int) (i : Int) (n : Int) l) R
  | 0, i, hd => by
    obtain rfl : i = n := by omega
    refine suc (fun k => ?_) h
    rw [spec_NegativeCycle.l0, if_neg (by omega)]
    simp [negInit]
  | d + 1, i, hd => by
    have ih := sN0 n hn l R h d (i + 1) (by omega)
    refine suc (fun k => ?_) ih
    rw [spec_NegativeCycle.l0, if_pos (by omega), if_pos (by omega), if_pos (by simp only [List.length_append, List.length_replicate]; omega), if_pos (by simp only [List.length_append, List.length_replicate]; omega), up1 (by omega) (by omega)]
    have e1 : (List.replicate i (-1 : Int) ++ List.replicate (d + 1) 0).set (i : Int).toNat (-1) = List.replicate (i + 1) (-1) ++ List.replicate d 0 := by
      rw [List.replicate_succ (n := d), List.replicate_succ' (n := i), List.append_assoc]
      have := set_mid (List.replicate i (-1 : Int)) (List.replicate d 0) 0 (-1)
      rw [List.length_replicate] at this
      rw [this]; rfl
    have e2 : (List.replicate i true ++ List.replicate (d + 1) false).set (i : Int).toNat true = List.replicate (i + 1) true ++ List.replicate d false := by
      rw [List.replicate_succ (n := d), List.replicate_succ' (n := i), List.append_assoc]
      simp
    rw [e1, e2]; rfl
theorem sNr (n : Nat) (hn : n ≤ 8) (l : List S70) (hl : l.length ≤ 80) (hv : ValidE n (l.map tr)) (R : List Int) : ∀ (d i : Nat) (L : LS) (B : Int), i + d = n → GoodL n L → SmallL B L → B + 80000000 * d ≤ 1000000000 → 0 ≤ B →
    Ev (fun k => spec_NegativeCycle.l1 k (lrounds (l.map tr) d L).o (lrounds (l.map tr) d L).l (lrounds (l.map tr) d L).k (lrounds (l.map tr) d L).ch (n : Int) (n : Int) l) R →
    Ev (fun k => spec_NegativeCycle.l1 k L.o L.l L.k L.ch (i : Int) (n : Int) l) R
  | 0, i, L, B, hd, hg, hs, hB, h0, h => by
    obtain rfl : i = n := by omega
    exact h
  | d + 1, i, L, B, hd, hg, hs, hB, h0, h => by
    have hg' := good_round (es := l.map tr) hg
    have hs' := small_round hv (by simpa using hl) hg hs
    have ih := sNr n hn l hl hv R d (i + 1) (lround (l.map tr) L) (B + 80000000) (by omega) hg' hs' (by omega) (by omega) h
    have hr := sRound n (n : Int) l hl hv L B hg hs (by omega) h0
    refine suc (fun k => by rw [spec_NegativeCycle.l1, if_pos (by omega), up1 (by omega) (by omega)]) (bev hr ?_)
    exact ih
theorem sN3 (n : Nat) (hn : n ≤ 8) (l : List S70) (hv : ValidE n (l.map tr)) (N : Neg n (l.map tr)) (m : Nat) (hm : m < n) (hb : parN (l.map tr) (negS n (l.map tr)) (m + 1) (negC n (l.map tr)) = negC n (l.map tr)) (hno : ∀ i, i < m → parN (l.map tr) (negS n (l.map tr)) (i + 1) (negC n (l.map tr)) ≠ negC n (l.map tr)) : ∀ (d i : Nat), i + d = m + 1 →
    Ev (fun k => spec_NegativeCycle.l3 k (lrounds (l.map tr) n (negInit n)).l (negC n (l.map tr) : Int) (trl (negS n (l.map tr)) (l.map tr) (negC n (l.map tr)) i).reverse (parN (l.map tr) (negS n (l.map tr)) i (negC n (l.map tr)) : Int) (n : Int) l) (trl (negS n (l.map tr)) (l.map tr) (negC n (l.map tr)) (m + 1)).reverse
  | 0, i, hd => by
    obtain rfl : i = m + 1 := by omega
    refine suc (fun k => ?_) now
    rw [spec_NegativeCycle.l3, if_neg (by rw [List.length_reverse, trl_len]; omega), if_pos (by rw [hb])]
  | d + 1, i, hd => by
    have ih := sN3 n hn l hv N m hm hb hno d (i + 1) (by omega)
    obtain ⟨a, b, c⟩ := neg_lastC N i
    have hg := good_rounds (es := l.map tr) n _ (good_neg n)
    have e1 : rd (lrounds (l.map tr) n (negInit n)).l (parN (l.map tr) (negS n (l.map tr)) i (negC n (l.map tr)) : Int) = (negS n (l.map tr)).l (parN (l.map tr) (negS n (l.map tr)) i (negC n (l.map tr))) := rfl
    have e2 := neg_par hv a
    have hlm : ((l.map tr).length : Int) = l.length := by simp
    rw [hlm] at a
    refine suc (fun k => ?_) ih
    rw [spec_NegativeCycle.l3, e1, List.length_reverse, trl_len, trl_succ]
    have e3 : ((parN (l.map tr) (negS n (l.map tr)) (i + 1) (negC n (l.map tr)) : Nat) : Int) = (rd_T70 l ((negS n (l.map tr)).l (parN (l.map tr) (negS n (l.map tr)) i (negC n (l.map tr))))).f0 := by
      rw [tr0, e2]; rfl
    simp only [Option.bind_some, List.reverse_append, List.reverse_cons, List.reverse_nil, List.nil_append, List.length_cons, List.length_nil]
    rw [← e3]
    by_cases h0 : i = 0
    · subst h0
      rw [if_pos (by omega), if_pos (by omega), if_pos (by rw [hg.2.1]; omega), if_pos (by omega), if_pos a.1, if_pos a.2]
    · have hne := hno (i - 1) (by omega)
      rw [show i - 1 + 1 = i by omega] at hne
      rw [if_neg (by omega), if_neg (by omega), if_pos (by omega), if_pos (by rw [hg.2.1]; omega), if_pos (by omega), if_pos a.1, if_pos a.2]
theorem sN2 (n : Nat) (hn : n ≤ 8) (l : List S70) (hv : ValidE n (l.map tr)) (N : Neg n (l.map tr)) (R : List Int) (h : Ev (fun k => spec_NegativeCycle.l3 k (lrounds (l.map tr) n (negInit n)).l (negC n (l.map tr) : Int) [] (negC n (l.map tr) : Int) (n : Int) l) R) : ∀ (d i : Nat), i + d = n →
    Ev (fun k => spec_NegativeCycle.l2 k (lrounds (l.map tr) n (negInit n)).l (parN (l.map tr) (negS n (l.map tr)) i (negV n (l.map tr)) : Int) (i : Int) (n : Int) l) R
  | 0, i, hd => by
    obtain rfl : i = n := by omega
    exact suc (fun k => by rw [spec_NegativeCycle.l2, if_neg (by omega)]; rfl) h
  | d + 1, i, hd => by
    have ih := sN2 n hn l hv N R h d (i + 1) (by omega)
    have a := N.last i
    have c := N.inn i
    have hg := good_rounds (es := l.map tr) n _ (good_neg n)
    have e1 : rd (lrounds (l.map tr) n (negInit n)).l (parN (l.map tr) (negS n (l.map tr)) i (negV n (l.map tr)) : Int) = (negS n (l.map tr)).l (parN (l.map tr) (negS n (l.map tr)) i (negV n (l.map tr))) := rfl
    have e2 := neg_par hv a
    have hlm : ((l.map tr).length : Int) = l.length := by simp
    rw [hlm] at a
    refine suc (fun k => ?_) ih
    have e3 : ((parN (l.map tr) (negS n (l.map tr)) (i + 1) (negV n (l.map tr)) : Nat) : Int) = (rd_T70 l ((negS n (l.map tr)).l (parN (l.map tr) (negS n (l.map tr)) i (negV n (l.map tr))))).f0 := by
      rw [tr0, e2]; rfl
    rw [spec_NegativeCycle.l2, e1, ← e3, if_pos (by omega), if_pos (by omega), if_pos (by rw [hg.2.1]; omega), if_pos a.1, if_pos a.2, up1 (by omega) (by omega)]; rfl
theorem sNeg (n : Int) (l : List S70) : Ev (fun k => spec_NegativeCycle.f k n l) (negM n (l.map tr)) := by
  have hf : Ev (fun k => spec_NegativeCycle.j0 k true n l) [] := suc (f := fun _ => some []) (fun k => by rw [spec_NegativeCycle.j0, if_pos rfl]) now
  unfold spec_NegativeCycle.f
  refine bev (sGraphOk n l) ?_
  by_cases hg : graphOk n (l.map tr) = true
  · obtain ⟨h0, h8, hl, _⟩ := graphOk_iff hg
    have hl : l.length ≤ 80 := by simpa using hl
    have hv := valid_of hg
    refine ifp hg ?_
    obtain ⟨m, rfl⟩ : ∃ m : Nat, n = (m : Int) := ⟨n.toNat, by omega⟩
    unfold negM
    rw [Int.toNat_natCast] at hv ⊢
    by_cases hz : m = 0
    · subst hz
      refine eqr hf (if_neg (fun h => ?_)).symm
      have := ch_zero h.2
      omega
    · have e0 : (((m : Nat) : Int) == 0) = false := by simpa using hz
      rw [e0]
      have ech : (lrounds (l.map tr) m (negInit m)).ch = (negS m (l.map tr)).ch := rfl
      have key : Ev (fun k => spec_NegativeCycle.l1 k (lrounds (l.map tr) m (negInit m)).o (lrounds (l.map tr) m (negInit m)).l (lrounds (l.map tr) m (negInit m)).k (lrounds (l.map tr) m (negInit m)).ch (m : Int) (m : Int) l) (if graphOk (m : Int) (l.map tr) = true ∧ 0 ≤ (negS m (l.map tr)).ch then (negT m (l.map tr)).reverse else []) := by
        by_cases hq : 0 ≤ (negS m (l.map tr)).ch
        · have N := neg_of hv hq
          obtain ⟨q, hq1, hq2, hq3, _, hq4⟩ := negT_eq N
          have h3 := sN3 m (by omega) l hv N q hq1 hq2 hq3 (q + 1) 0 (by omega)
          have h2 := sN2 m (by omega) l hv N _ h3 m 0 (by omega)
          rw [if_pos ⟨hg, hq⟩, hq4]
          refine suc (fun k => ?_) h2
          have hc := N.ch
          rw [List.length_map] at hc
          rw [spec_NegativeCycle.l1, if_neg (by omega), ech, if_neg (by omega), if_pos hq, if_pos (by omega), tr1]
          have e : (eAt (l.map tr) (negS m (l.map tr)).ch).2.1 = ((negV m (l.map tr) : Nat) : Int) := (neg_edge hv ⟨hq, by rw [List.length_map]; omega⟩).2
          rw [e]; rfl
        · refine eqr (suc (f := fun _ => some ([] : List Int)) (fun k => ?_) now) (if_neg (fun h => hq h.2)).symm
          rw [spec_NegativeCycle.l1, if_neg (by omega), ech, if_pos (by omega)]
      have h1 := sNr m (by omega) l hl hv _ m 0 (negInit m) 0 (by omega) (good_neg m) (small_neg m) (by omega) (by omega) key
      have h2 := sN0 m (by omega) l _ h1 m 0 (by omega)
      refine suc (fun k => ?_) h2
      rw [spec_NegativeCycle.j0, if_neg (by simp), if_pos (by omega), if_pos (by omega), if_pos (by omega)]
      simp only [Option.bind_some, Int.toNat_natCast, List.length_replicate, List.replicate_zero, List.nil_append]
      rfl
  · exact eqr (ifn hg hf) (by unfold negM; rw [if_neg (fun h => hg h.1)])
theorem len0 {α : Type} (l : List α) : (((l.length : Nat) : Int) == 0) = l.isEmpty := by
  cases l with
  | nil => rfl
  | cons x l => simp; omega
theorem sCons (n : Int) (l : List S76) : Ev (fun k => spec_IsConsistent.f k n l) (consM n (l.map trL)) := by
  unfold spec_IsConsistent.f consM
  refine bev (sSimpleOk n l) ?_
  by_cases h : simpleOk n (l.map trL) = true
  · rw [if_pos h]
    have hN := sNeg n (lkS l)
    rw [lkS_tr] at hN
    have hG := sGraphOf n l
    unfold gOf at hG
    rw [if_pos h] at hG
    refine ifp h (bev hG (bev hN ?_))
    rw [len0]; exact now
  · rw [if_neg h]; exact ifn h now
theorem sFin : ∀ (ob : List Int) (kb : List Bool) (a : List Int) (ka : List Bool), ka.length = a.length → ob.length = kb.length → a.length + ob.length ≤ 1000 → Ev (fun k => spec_ShortestFrom.l1 k (a ++ ob) (ka ++ kb) ((a.length + ob.length : Nat) : Int) (a.length : Int)) (a ++ finL ob kb, true)
  | [], [], a, ka, hk, ho, hn => by
    simp only [finL]
    exact suc (f := fun _ => some (a ++ [], true)) (fun k => by rw [spec_ShortestFrom.l1, if_neg (by simp)]) now
  | x :: ob, b :: kb, a, ka, hk, ho, hn => by
    simp only [List.length_cons] at ho hn
    have ih := sFin ob kb (a ++ [if b = true then (if x > 1000000 then 1000000 else x) else 1000000]) (ka ++ [b]) (by simp [hk]) (by omega) (by simp only [List.length_append, List.length_cons, List.length_nil]; omega)
    refine eqr (suc (f := fun k => spec_ShortestFrom.l1 k (a ++ [if b = true then (if x > 1000000 then 1000000 else x) else 1000000] ++ ob) (ka ++ [b] ++ kb) (((a ++ [if b = true then (if x > 1000000 then 1000000 else x) else (1000000 : Int)]).length + ob.length : Nat) : Int) ((a ++ [if b = true then (if x > 1000000 then 1000000 else x) else (1000000 : Int)]).length : Int)) (fun k => ?_) ih) (by simp [finL])
    have hlen : (a.length : Int) < ((ka ++ b :: kb).length : Int) := by simp only [List.length_append, List.length_cons]; omega
    have hlen2 : (a.length : Int) < ((a ++ x :: ob).length : Int) := by simp only [List.length_append, List.length_cons]; omega
    rw [spec_ShortestFrom.l1, if_pos (by simp only [List.length_cons]; omega), if_pos (by omega), if_pos hlen, rb_mid ka kb b hk, rd_mid, set_mid, w64 (i := (a.length : Int) + 1) (by omega) (by omega)]
    have e1 : (((a ++ [if b = true then (if x > 1000000 then 1000000 else x) else (1000000 : Int)]).length : Nat) : Int) = (a.length : Int) + 1 := by simp
    have e2 : (((a ++ [if b = true then (if x > 1000000 then 1000000 else x) else (1000000 : Int)]).length + ob.length : Nat) : Int) = ((a.length + (x :: ob).length : Nat) : Int) := by simp only [List.length_append, List.length_cons, List.length_nil]; omega
    rw [e1, e2]
    cases b with
    | true =>
      rw [if_pos rfl, if_pos hlen2]
      by_cases hx : x > 1000000
      · rw [if_pos hx]; simp [hx]
      · rw [if_neg hx]; simp [hx]
    | false =>
      rw [if_neg (by simp), if_pos hlen2]; simp
  | [], b :: kb, a, ka, hk, ho, hn => by simp at ho
  | x :: ob, [], a, ka, hk, ho, hn => by simp at ho
theorem sSf_l (n : Nat) (hn : n ≤ 8) (l : List S70) (hl : l.length ≤ 80) (hv : ValidE n (l.map tr)) : ∀ (d i : Nat) (L : LS) (B : Int), i + d = n → GoodL n L → SmallL B L → B + 80000000 * d ≤ 1000000000 → 0 ≤ B →
    Ev (fun k => spec_ShortestFrom.l0 k L.o L.l L.k (i : Int) (n : Int) l) (sfLoop (l.map tr) d L)
  | 0, i, L, B, hd, hg, hs, hB, h0 => by
    simp only [sfLoop]
    exact suc (f := fun _ => some ([], false)) (fun k => by rw [spec_ShortestFrom.l0, if_neg (by omega)]) now
  | d + 1, i, L, B, hd, hg, hs, hB, h0 => by
    have hg' := good_round (es := l.map tr) hg
    have hs' := small_round hv (by simpa using hl) hg hs
    have ih := sSf_l n hn l hl hv d (i + 1) (lround (l.map tr) L) (B + 80000000) (by omega) hg' hs' (by omega) (by omega)
    have hr := sRound n (n : Int) l hl hv L B hg hs (by omega) h0
    simp only [sfLoop]
    refine suc (f := fun k => (spec_l03Round.f k (n : Int) l L.o L.l L.k).bind fun bt => if bt.1 < 0 then spec_ShortestFrom.l1 k bt.2.1 bt.2.2.2 (L.o.length : Int) 0 else spec_ShortestFrom.l0 k bt.2.1 bt.2.2.1 bt.2.2.2 ((i + 1 : Nat) : Int) (n : Int) l) (fun k => ?_) (bev hr ?_)
    · rw [spec_ShortestFrom.l0, if_pos (by omega), up1 (by omega) (by omega)]; rfl
    · by_cases hq : (lround (l.map tr) L).ch < 0
      · refine ifp hq ?_
        rw [if_pos hq]
        have := sFin (lround (l.map tr) L).o (lround (l.map tr) L).k [] [] rfl (by rw [hg'.1, hg'.2.2]) (by simp only [List.length_nil]; rw [hg'.1]; omega)
        simp only [List.nil_append, List.length_nil, Nat.zero_add, hg'.1] at this
        rw [hg.1]
        exact this
      · refine ifn hq ?_
        rw [if_neg hq]
        exact ih
theorem sSf (n : Int) (l : List S70) (s : Int) : Ev (fun k => spec_ShortestFrom.f k n l s) (sfM n (l.map tr) s) := by
  have hf : Ev (fun k => spec_ShortestFrom.j0 k s true n l) ([], false) := suc (f := fun _ => some ([], false)) (fun k => by rw [spec_ShortestFrom.j0, if_pos rfl]) now
  unfold spec_ShortestFrom.f sfM
  refine bev (sGraphOk n l) ?_
  by_cases hg : graphOk n (l.map tr) = true
  · obtain ⟨h0, h8, hl, _⟩ := graphOk_iff hg
    refine ifp hg (bnd (in_node h0 h8) ?_)
    by_cases hs : 0 ≤ s ∧ s < n
    · rw [show decide (0 ≤ s ∧ s < n) = true from decide_eq_true hs]
      refine eqr ?_ (if_pos ⟨hg, hs⟩).symm
      have hv := valid_of hg
      have h := sSf_l n.toNat (by omega) l (by simpa using hl) hv n.toNat 0 (sfInit n.toNat s.toNat) 0 (by omega) (good_init _ _) (small_init _ _) (by omega) (by omega)
      rw [Int.toNat_of_nonneg h0] at h
      refine suc (fun k => ?_) h
      rw [spec_ShortestFrom.j0, if_neg (by simp), if_pos h0, if_pos (by omega), if_pos (by omega)]
      simp only [Option.bind_some]
      rw [if_pos hs.1, if_pos (by simp only [List.length_replicate]; omega)]
      rfl
    · rw [show decide (0 ≤ s ∧ s < n) = false from decide_eq_false hs]
      exact eqr hf (if_neg (fun h => hs h.2)).symm
  · exact eqr (ifn hg hf) (if_neg (fun h => hg h.1)).symm
theorem sClamp (x : Int) : spec_ClampBound.f x = some (clampB x) := by
  unfold spec_ClampBound.f clampB
  repeat' split
  all_goals rfl

theorem sCl_in (n : Int) (l : List S70) (i : Nat) (hi8 : i ≤ 8) (r : List Int) (hr : r.length ≤ 8) (R : Int × List Int × Bool) : ∀ (d j : Nat) (o : List Int), j + d = r.length → o.length + d ≤ 100000 →
    Ev (fun k => spec_CloseGraph.l0 k ((i + 1 : Nat) : Int) n l n (o ++ (r.drop j).map clampB)) R → Ev (fun k => spec_CloseGraph.l1 k (i : Int) r (r.length : Int) (j : Int) n l n o) R
  | 0, j, o, hd, ho, h => by
    rw [List.drop_eq_nil_of_le (by omega), List.map_nil, List.append_nil] at h
    exact suc (f := fun k => spec_CloseGraph.l0 k ((i + 1 : Nat) : Int) n l n o) (fun k => by rw [spec_CloseGraph.l1, if_neg (by omega), up1 (by omega) (by omega)]; rfl) h
  | d + 1, j, o, hd, ho, h => by
    have hj : j < r.length := by omega
    have e : rd r (j : Int) = r[j] := by unfold rd; simp [List.getD_eq_getElem?_getD, hj]
    rw [List.drop_eq_getElem_cons hj, List.map_cons, ← e] at h
    refine suc (f := fun k => spec_CloseGraph.l1 k (i : Int) r (r.length : Int) ((j + 1 : Nat) : Int) n l n (o ++ [clampB (rd r (j : Int))])) (fun k => ?_) (sCl_in n l i hi8 r hr R d (j + 1) _ (by omega) (by simp only [List.length_append, List.length_cons, List.length_nil]; omega) (by rw [List.append_assoc]; exact h))
    rw [spec_CloseGraph.l1, if_pos (by omega), if_pos (by omega), if_pos (by omega), sClamp, up1 (by omega) (by omega)]
    simp only [Option.bind_some]
    rw [if_pos (by omega)]; rfl
theorem sCl (n : Nat) (hn : n ≤ 8) (l : List S70) : ∀ (d i : Nat) (o : List Int), i + d = n → o.length ≤ 8 * i → Ev (fun k => spec_CloseGraph.l0 k (i : Int) (n : Int) l (n : Int) o) (closeL n (l.map tr) d i o)
  | 0, i, o, hd, ho => by
    simp only [closeL]
    exact suc (f := fun _ => some ((n : Int), o, true)) (fun k => by rw [spec_CloseGraph.l0, if_neg (by omega)]) now
  | d + 1, i, o, hd, ho => by
    simp only [closeL]
    have hs := sfM_len n (l.map tr) (i : Int)
    refine suc (fun k => by rw [spec_CloseGraph.l0, if_pos (by omega)]) ?_
    refine bev (sSf n l (i : Int)) ?_
    by_cases h : (sfM n (l.map tr) (i : Int)).2 = true
    · rw [if_pos h]
      refine ifp h (sCl_in n l i (by omega) _ hs _ (sfM n (l.map tr) (i : Int)).1.length 0 o (by omega) (by omega) ?_)
      rw [List.drop_zero]
      exact sCl n hn l d (i + 1) _ (by omega) (by simp only [List.length_append, List.length_map]; omega)
    · rw [if_neg h]
      exact ifn h now
theorem sClose (n : Int) (l : List S70) : Ev (fun k => spec_CloseGraph.f k n l) (closeM n (l.map tr)) := by
  unfold spec_CloseGraph.f closeM
  refine bev (sGraphOk n l) ?_
  by_cases h : graphOk n (l.map tr) = true
  · rw [if_pos h]
    have h8 := (graphOk_iff h).2.1
    have h0 := (graphOk_iff h).1
    obtain ⟨m, rfl⟩ : ∃ m : Nat, n = (m : Int) := ⟨n.toNat, by omega⟩
    exact ifp h (sCl m (by omega) l m 0 [] (by omega) (by simp))
  · rw [if_neg h]; exact ifn h now
theorem sTableOk_l (s : Int) (l : List Int) (h0 : 0 ≤ s) (h8 : s ≤ 8) (hl : (l.length : Int) = s * s) : ∀ (d i : Nat), i + d = l.length → Ev (fun k => spec_TableOk.l0 k l (l.length : Int) (i : Int) s l) (allF (cellOk s l) i d)
  | 0, i, hd => suc (f := fun _ => some true) (fun k => by rw [spec_TableOk.l0, if_neg (by omega)]) now
  | d + 1, i, hd => by
    have hs : 0 < s := by
      rcases Int.lt_or_eq_of_le h0 with h | h
      · exact h
      · rw [← h] at hl; omega
    have h64 : s * s ≤ 8 * 8 := Int.mul_le_mul h8 h8 h0 (by omega)
    have hw : wrap64 (s + 1) = s + 1 := w64 (by omega) (by omega)
    have hr : Int.tmod (i : Int) (s + 1) = (i : Int) % (s + 1) := Int.tmod_eq_emod_of_nonneg (by omega)
    have hd2 := diag s i hs (by omega) (by omega)
    have ih := sTableOk_l s l h0 h8 hl d (i + 1) (by omega)
    simp only [allF]
    by_cases hc : cellOk s l i = true
    · have hc' := hc
      simp only [cellOk, decide_eq_true_eq] at hc'
      obtain ⟨c1, c2, c3⟩ := hc'
      rw [hc, Bool.true_and]
      refine suc (f := fun k => spec_TableOk.l0 k l (l.length : Int) ((i + 1 : Nat) : Int) s l) (fun k => ?_) ih
      rw [spec_TableOk.l0, if_pos (by omega), if_pos (by omega), if_pos (by omega), l01In, decide_eq_true ⟨c1, c2⟩]
      simp only [Option.bind_some, if_true]
      rw [hw, if_neg (by omega), hr, up1 (by omega) (by omega)]
      by_cases e : (i : Int) / s = (i : Int) % s
      · rw [if_pos (hd2.1 e), if_pos (c3 e)]; rfl
      · rw [if_neg (fun h => e (hd2.2 h))]; rfl
    · rw [Bool.not_eq_true] at hc
      have hc' := hc
      simp only [cellOk, decide_eq_false_iff_not] at hc'
      rw [hc, Bool.false_and]
      refine suc (f := fun _ => some false) (fun k => ?_) now
      rw [spec_TableOk.l0, if_pos (by omega), if_pos (by omega), if_pos (by omega), l01In]
      simp only [Option.bind_some, decide_eq_true_eq]
      by_cases c1 : -1000000 ≤ rd l i ∧ rd l i ≤ 1000000
      · rw [if_pos c1, hw, if_neg (by omega), hr]
        by_cases e : (i : Int) / s = (i : Int) % s
        · rw [if_pos (hd2.1 e)]
          by_cases c3 : rd l i = 0
          · exact absurd ⟨by omega, by omega, fun _ => c3⟩ hc'
          · rw [if_neg c3]
        · exact absurd ⟨by omega, by omega, fun h => absurd h e⟩ hc'
      · rw [if_neg c1]
theorem sTableOk (s : Int) (l : List Int) (hn : l.length ≤ 4194304) : Ev (fun k => spec_TableOk.f k s l) (tableOk s l) := by
  unfold spec_TableOk.f tableOk
  refine bnd (l01In s 0 8) ?_
  by_cases h0 : 0 ≤ s ∧ s ≤ 8
  · refine ifp (by simpa using h0) ?_
    have : s * s ≤ 8 * 8 := Int.mul_le_mul h0.2 h0.2 h0.1 (by omega)
    rw [w64 (i := s * s) (by have := Int.mul_nonneg h0.1 h0.1; omega) (by omega)]
    by_cases hl : (l.length : Int) = s * s
    · rw [decide_eq_true ⟨by omega, by omega, hl⟩, Bool.true_and]
      refine suc (f := fun k => spec_TableOk.l0 k l (l.length : Int) ((0 : Nat) : Int) s l) (fun k => ?_) (sTableOk_l s l (by omega) (by omega) hl l.length 0 (by omega))
      rw [spec_TableOk.j0, if_neg (by simp [hl])]; rfl
    · rw [decide_eq_false (by omega), Bool.false_and]
      exact suc (f := fun _ => some false) (fun k => by rw [spec_TableOk.j0, if_pos (by simp [hl])]) now
  · refine ifn (by simpa using h0) ?_
    rw [decide_eq_false (by omega), Bool.false_and]
    exact suc (f := fun _ => some false) (fun k => by rw [spec_TableOk.j0, if_pos rfl]) now
theorem scell {s : Int} {l : List Int} (h : tableOk s l = true) {i k : Nat} (hi : (i : Int) < s) (hk : (k : Int) < s) : spec_l04At.f s l (i : Int) (k : Int) = some (cellT s l i k) := by
  obtain ⟨h1, h2, h3, h4⟩ := cell_in h hi hk
  have h8 : s ≤ 8 := by unfold tableOk at h; simp only [Bool.and_eq_true, decide_eq_true_eq] at h; exact h.1.2.1
  unfold spec_l04At.f
  rw [w64 (i := (i : Int) * s) (by omega) (by omega), w64 (by omega) (by omega), if_pos h1, if_pos h2]
  rfl
theorem sWindow (s : Int) (l : List Int) (i k : Int) (hn : l.length ≤ 4194304) : Ev (fun n => spec_WindowBetween.f n s l i k) (windowB s l i k) := by
  have hf : Ev (fun n => spec_WindowBetween.j0 n i k true s l) (0, 0, false) := suc (f := fun _ => some (0, 0, false)) (fun n => by rw [spec_WindowBetween.j0, if_pos rfl]) now
  unfold spec_WindowBetween.f windowB
  refine bev (sTableOk s l hn) ?_
  by_cases h : tableOk s l = true
  · rw [h]
    obtain ⟨h0, h8, _⟩ := tableOk_s h
    refine ifp rfl (bnd (in_node h0 h8) ?_)
    by_cases hi : 0 ≤ i ∧ i < s
    · refine ifp (decide_eq_true hi) (bnd (in_node h0 h8) ?_)
      by_cases hk : 0 ≤ k ∧ k < s
      · refine eqr ?_ (if_pos ⟨rfl, hi, hk⟩).symm
        rw [decide_eq_true hk]
        have h1 := scell h (i := i.toNat) (k := k.toNat) (by omega) (by omega)
        have h2 := scell h (i := k.toNat) (k := i.toNat) (by omega) (by omega)
        have r2 := cell_range h (i := k.toNat) (k := i.toNat) (by omega) (by omega)
        rw [Int.toNat_of_nonneg hi.1, Int.toNat_of_nonneg hk.1] at h1 h2
        refine suc (f := fun _ => some (if okB (-cellT s l k.toNat i.toNat) (cellT s l i.toNat k.toNat) = true then (-cellT s l k.toNat i.toNat, cellT s l i.toNat k.toNat, true) else (0, 0, false))) (fun n => ?_) now
        rw [spec_WindowBetween.j0, if_neg (by simp), h1, h2]
        simp only [Option.bind_some]
        rw [w64 (by omega) (by omega), sok]
        simp only [Option.bind_some]
        split <;> rfl
      · rw [decide_eq_false hk]
        exact eqr hf (if_neg (fun x => hk x.2.2)).symm
    · exact eqr (ifn (by simpa using hi) hf) (if_neg (fun x => hi x.2.1)).symm
  · exact eqr (ifn h hf) (if_neg (fun x => h x.1)).symm
theorem sWind (n : Int) (l : List S76) (i : Int) : Ev (fun k => spec_WindowOf.f k n l i) (windM n l i) := by
  unfold spec_WindowOf.f windM
  have hl := closG_len n l
  have hC := sClose (gOf n l).1 (gOf n l).2
  change Ev _ (closG n l) at hC
  refine bev (sCons n l) ?_
  by_cases c : consM n (l.map trL) = true
  · rw [if_pos c]
    exact ifp c (bev (sGraphOf n l) (bev hC (bev (sWindow _ _ 0 i (by omega)) now)))
  · rw [if_neg c]; exact ifn c now

theorem FnExactWindowOf : laws_FnExactWindowOf.Pure := by
  intro s l e _ hl _ _
  refine Ev.rounds ?_
  unfold laws_FnExactWindowOf.f
  rcases szSimple s l hl with ⟨h, _⟩ | ⟨h, hn⟩
  · exact bnd h (ifp (by omega) now)
  · refine bnd h (ifn (by omega) ?_)
    have ht := toSimple s l (by omega)
    have hc : (l.map cvL).length ≤ 4194304 := by simp only [List.length_map]; omega

    refine bev ht (bev (sWind s _ e) (bev ht (bev (iWind s _ e) (bnd (eqInterval _ _) (ifp rfl (suc (fun k => by rw [laws_FnExactWindowOf.j0, if_neg (by simp)]) ?_))))))
    exact bev ht (bev (eqSimple s _ hc) (ifp rfl now))

end Go.Proofs.Ytbbblnmngjhadaa.Own
