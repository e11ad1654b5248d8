/- The law FnSchedules answers true for every code. No condition. -/
import Derived.Test.YtbbblnmngjhadaaQFnSchedulesx10
import Derived.Test.YtbbblnmngjhadaaNc
namespace Go.Proofs.Ytbbblnmngjhadaa.Own
open Go.RowKit Go.Proofs.Ytbbblnmngjhadaa.QFnSchedules Go.Proofs.YtbbblnmngjhadaaW.PrintWords Go.Proofs.YtbbblnmngjhadaaW.PrintLast Go.Proofs.YtbbblnmngjhadaaW.PrintMore Go.Proofs.YtbbblnmngjhadaaT Go.Proofs.YtbbblnmngjhadaaT Go.Proofs.YtbbblnmngjhadaaT Go.Proofs.YtbbblnmngjhadaaT
set_option linter.unusedVariables false
set_option linter.unusedSimpArgs false

def tr (e : S70) : E3 := (e.f0, e.f1, e.f2)
theorem tr_rd (l : List S70) (p : Int) : eAt (l.map tr) p = tr (rd_T70 l p) := by
  unfold eAt rd_T70
  simp only [List.getD_eq_getElem?_getD, List.getElem?_map]
  cases l[p.toNat]? <;> rfl
theorem tr0 (l : List S70) (p : Int) : (rd_T70 l p).f0 = (eAt (l.map tr) p).1 := by rw [tr_rd]; rfl
theorem tr1 (l : List S70) (p : Int) : (rd_T70 l p).f1 = (eAt (l.map tr) p).2.1 := by rw [tr_rd]; rfl
theorem tr2 (l : List S70) (p : Int) : (rd_T70 l p).f2 = (eAt (l.map tr) p).2.2 := by rw [tr_rd]; rfl
theorem rdE_at {l : List S70} {i : Nat} (h : i < l.length) : rd_T70 l (i : Int) = l[i] := by
  unfold rd_T70; simp [List.getD_eq_getElem?_getD, h]
theorem and255 (n : Int) : Go.bits .and .i64 n 255 = n % 256 := by
  have h : (BitVec.ofInt 64 255).toNat = 2 ^ 8 - 1 := by decide
  have key : (BitVec.ofInt 64 n &&& BitVec.ofInt 64 255).toNat = (n % ((2 ^ 64 : Nat) : Int)).toNat % 2 ^ 8 := by
    rw [BitVec.toNat_and, BitVec.toNat_ofInt, h, Nat.and_two_pow_sub_one_eq_mod]
  show IntKind.i64.wrap ((BitVec.ofInt 64 n &&& BitVec.ofInt 64 255).toNat : Nat) = n % 256
  rw [key, IntKind.wrap_i64]
  omega
theorem byteM (s : List Int) (i h : Int) (hs : s.length ≤ 1048576) (h0 : 0 ≤ i) : ∃ b i' h', spec_l01Byte.f s i h = some (b, i', h') ∧ 0 ≤ b ∧ b < 256 ∧ 0 ≤ i' := by
  unfold spec_l01Byte.f
  by_cases c : i < (s.length : Int)
  · rw [if_pos c, if_pos h0, and255]
    refine ⟨_, _, _, rfl, ?_, ?_, ?_⟩
    · omega
    · omega
    · rw [w64 (by omega) (by omega)]; omega
  · rw [if_neg c, and255]
    exact ⟨_, _, _, rfl, by omega, by omega, h0⟩
theorem belowM (s : List Int) (i h : Int) (hs : s.length ≤ 1048576) (h0 : 0 ≤ i) (n : Int) (hn : 0 < n) (hn2 : n ≤ 256) : ∃ b i' h', spec_l01Below.f s i h n = some (b, i', h') ∧ 0 ≤ b ∧ b < n ∧ 0 ≤ i' := by
  obtain ⟨b, i', h', e, b0, b1, i0⟩ := byteM s i h hs h0
  unfold spec_l01Below.f
  rw [if_neg (by omega), if_pos hn2, e]
  simp only [Option.bind_some]
  rw [if_neg (by omega)]
  refine ⟨_, _, _, rfl, ?_, ?_, i0⟩
  · rw [Int.tmod_eq_emod_of_nonneg b0]; exact Int.emod_nonneg _ (by omega)
  · rw [Int.tmod_eq_emod_of_nonneg b0]; exact Int.emod_lt_of_pos _ hn
theorem newM_l (s : List Int) (hs : s.length ≤ 1048576) : ∀ (d : Nat) (i : Nat) (h : Int), i + d = s.length → ∃ h', Ev (fun k => spec_l01New.l0 k s h (i : Int)) (s, 0, h')
  | 0, i, h, hd => ⟨h, suc (f := fun _ => some (s, 0, h)) (fun k => by rw [spec_l01New.l0, if_neg (by omega)]) now⟩
  | d + 1, i, h, hd => by
    by_cases c : (i : Int) < 4000
    · obtain ⟨h', e⟩ := newM_l s hs d (i + 1) (Go.bits .and .i64 (wrap64 ((wrap64 ((wrap64 (h * 71)) + (wrap64 (rd s (i : Int))))) + 7)) 1073741823) (by omega)
      refine ⟨h', suc (fun k => ?_) e⟩
      rw [spec_l01New.l0, if_pos (by omega), if_pos c, if_pos (by omega), up1 (by omega) (by omega)]; rfl
    · exact ⟨h, suc (f := fun _ => some (s, 0, h)) (fun k => by rw [spec_l01New.l0, if_pos (by omega), if_neg c]) now⟩
theorem newM (s : List Int) (hs : s.length ≤ 1048576) : ∃ h', Ev (fun k => spec_l01New.f k s) (s, 0, h') := by
  unfold spec_l01New.f
  exact newM_l s hs s.length 0 _ (by omega)
def trL (e : S76) : L4 := (e.f0, e.f1, e.f2.f0, e.f2.f1)
theorem trL_rd (l : List S76) (p : Int) : lAt (l.map trL) p = trL (rd_T76 l p) := by
  unfold lAt rd_T76
  simp only [List.getD_eq_getElem?_getD, List.getElem?_map]
  cases l[p.toNat]? <;> rfl
theorem lk0 (l : List S76) (p : Int) : (rd_T76 l p).f0 = (lAt (l.map trL) p).1 := by rw [trL_rd]; rfl
theorem lk1 (l : List S76) (p : Int) : (rd_T76 l p).f1 = (lAt (l.map trL) p).2.1 := by rw [trL_rd]; rfl
theorem lk2 (l : List S76) (p : Int) : (rd_T76 l p).f2.f0 = (lAt (l.map trL) p).2.2.1 := by rw [trL_rd]; rfl
theorem lk3 (l : List S76) (p : Int) : (rd_T76 l p).f2.f1 = (lAt (l.map trL) p).2.2.2 := by rw [trL_rd]; rfl
def confM (n : Int) (ls : List L4) : List Int := if simpleOk n ls = true then (negM n (linksE ls)).map (fun k => rd (linksI 0 ls) k) else []
theorem confM_len (n : Int) (ls : List L4) : (confM n ls).length ≤ 8 := by
  unfold confM
  split
  · rw [List.length_map]; exact negM_len _ _
  · simp
theorem sfLoop_len (es : List E3) (n : Nat) : ∀ (d : Nat) (L : LS), GoodL n L → (sfLoop es d L).1.length ≤ n
  | 0, L, _ => by simp [sfLoop]
  | d + 1, L, h => by
    have h' := good_round (es := es) h
    simp only [sfLoop]
    split
    · show (finL _ _).length ≤ n
      rw [finL_len _ _ (by rw [h'.1, h'.2.2]), h'.1]
      exact Nat.le_refl _
    · exact sfLoop_len es n d _ h'
theorem sfM_len (n : Int) (es : List E3) (s : Int) : (sfM n es s).1.length ≤ 8 := by
  unfold sfM
  split
  · rename_i h
    have h1 := sfLoop_len es n.toNat n.toNat (sfInit n.toNat s.toNat) (good_init _ _)
    have := (graphOk_iff h.1).2.1
    omega
  · simp
theorem mono_step {es : List E3} {s : FS} {i v : Nat} (h : s.k v = true) : (fstep es i s).o v ≤ s.o v := by
  unfold fstep
  split
  · rename_i c
    by_cases e : v = To es i
    · subst e
      unfold improves at c
      simp only [h, Bool.and_eq_true, Bool.not_true, Bool.false_or, decide_eq_true_eq] at c
      simp only [upd_same]; omega
    · simp only [upd_ne _ _ e]; omega
  · omega
theorem mono_rnd {es : List E3} {v : Nat} : ∀ (d i : Nat) (s : FS), s.k v = true → (frnd es i d s).o v ≤ s.o v
  | 0, _, s, _ => Int.le_refl _
  | d + 1, i, s, h => Int.le_trans (mono_rnd d (i + 1) _ (known_step h)) (mono_step h)
theorem mono_rounds {es : List E3} {v : Nat} : ∀ (r : Nat) (s : FS), s.k v = true → (frounds es r s).o v ≤ s.o v
  | 0, s, _ => Int.le_refl _
  | r + 1, s, h => Int.le_trans (mono_rounds r _ (known_rnd es.length 0 _ h)) (mono_rnd es.length 0 { s with ch := -1 } h)
theorem sf_true (es : List E3) : ∀ (d : Nat) (L : LS), (sfLoop es d L).2 = true → ∃ r, r < d ∧ (lrounds es (r + 1) L).ch < 0 ∧ (sfLoop es d L).1 = finL (lrounds es (r + 1) L).o (lrounds es (r + 1) L).k
  | 0, L, h => by simp [sfLoop] at h
  | d + 1, L, h => by
    simp only [sfLoop] at h ⊢
    by_cases c : (lround es L).ch < 0
    · exact ⟨0, by omega, c, by rw [if_pos c]; rfl⟩
    · rw [if_neg c] at h ⊢
      obtain ⟨r, h1, h2, h3⟩ := sf_true es d _ h
      exact ⟨r + 1, by omega, h2, h3⟩
theorem sf_false (es : List E3) : ∀ (d : Nat) (L : LS), ¬ (sfLoop es d L).2 = true → ∀ r, r < d → 0 ≤ (lrounds es (r + 1) L).ch
  | 0, L, h => by intro r hr; omega
  | d + 1, L, h => by
    simp only [sfLoop] at h
    by_cases c : (lround es L).ch < 0
    · rw [if_pos c] at h; exact absurd rfl h
    · rw [if_neg c] at h
      intro r hr
      cases r with
      | zero => show 0 ≤ (lround es L).ch; omega
      | succ r => exact sf_false es d _ h r (by omega)
theorem sumP_walk {n : Nat} {es : List E3} (N : Neg n es) : ∀ m, Walk es (parN es (negS n es) m (negC n es)) (negC n es) (sumP es (negS n es) (negC n es) m)
  | 0 => Walk.nil _
  | m + 1 => by
    obtain ⟨a, b, _⟩ := neg_lastC N m
    have w := sumP_walk N m
    rw [← b] at w
    exact Walk.cons (by omega) w
theorem neg_walk {n : Nat} {es : List E3} (N : Neg n es) : ∃ c w, c < n ∧ Walk es c c w ∧ w < 0 := by
  obtain ⟨m, _, _, h1, _, h2⟩ := N.back
  have w := sumP_walk N m
  rw [h1] at w
  exact ⟨negC n es, _, (neg_lastC N 0).2.2, w, h2⟩
/-- No edge is too short for the numbers of the last round: no walk back is negative. -/
theorem no_walk {n : Nat} {es : List E3} (hv : ValidE n es) (h : (negS n es).ch < 0) {c : Nat} {w : Int} (hc : c < n) (hw : Walk es c c w) : 0 ≤ w := by
  obtain ⟨k, rfl⟩ : ∃ k, n = k + 1 := ⟨n - 1, by omega⟩
  have hk : ∀ s : FS, s.k c = true → (frounds es (k + 1) s).ch < 0 → 0 ≤ w := by
    intro s hs hq
    rw [frounds_succ] at hq
    exact no_neg (fround_quiet es _ hq).2 hw (known_rounds k s hs)
  rw [neg_fs hv] at h
  refine hk _ ?_ h
  show rb (List.replicate (k + 1) true) (c : Int) = true
  unfold rb rdOf
  simp [List.getD_eq_getElem?_getD, hc]
/-- What a told row of distances is: a state of numbers in which every edge holds. -/
structure Dist (n : Nat) (es : List E3) (s : Nat) (row : List Int) (F : FS) : Prop where
  len : row.length = n
  at_ : ∀ v, v < n → rd row (v : Int) = if F.k v = true then (if F.o v > 1000000 then 1000000 else F.o v) else 1000000
  holds_ : ∀ j, j < es.length → holds es F j
  sound : ∀ v, F.k v = true → ∃ a, Walk es s v a ∧ F.o v = a
  src : F.k s = true ∧ F.o s = 0
theorem fin_init (n s : Nat) (h : s < n) : (fsOf (sfInit n s)).k s = true ∧ (fsOf (sfInit n s)).o s = 0 ∧ ∀ u, (fsOf (sfInit n s)).k u = true → u = s := by
  refine ⟨?_, ?_, fun u hu => ?_⟩
  · show rb ((List.replicate n false).set s true) (s : Int) = true
    unfold rb rdOf; simp [List.getD_eq_getElem?_getD, h]
  · show rd (List.replicate n 0) (s : Int) = 0
    unfold rd; simp [List.getD_eq_getElem?_getD, h]
  · have hu : rb ((List.replicate n false).set s true) (u : Int) = true := hu
    by_cases e : u = s
    · exact e
    · exfalso
      unfold rb rdOf at hu
      simp only [Int.toNat_natCast, List.getD_eq_getElem?_getD] at hu
      rw [List.getElem?_set_ne (by omega)] at hu
      rw [List.getElem?_replicate] at hu
      split at hu <;> simp at hu
theorem sf_dist {n : Nat} {es : List E3} (hv : ValidE n es) {s : Nat} (hs : s < n) (h : (sfLoop es n (sfInit n s)).2 = true) : ∃ F, Dist n es s (sfLoop es n (sfInit n s)).1 F ∧ ∃ r, r < n ∧ F = fsOf (lrounds es (r + 1) (sfInit n s)) := by
  obtain ⟨r, hr, hq, e⟩ := sf_true es n _ h
  have hg := good_rounds (es := es) (r + 1) _ (good_init n s)
  have hf := fs_rounds hv (r + 1) _ (good_init n s)
  obtain ⟨i1, i2, i3⟩ := fin_init n s hs
  have hq' : (frounds es (r + 1) (fsOf (sfInit n s))).ch < 0 := by rw [← hf]; exact hq
  have hq2 := hq'
  rw [frounds_succ] at hq2
  obtain ⟨q1, q2⟩ := fround_quiet es _ hq2
  have hh : ∀ j, j < es.length → holds es (frounds es (r + 1) (fsOf (sfInit n s))) j := by
    intro j hj
    rw [frounds_succ, q1]
    exact q2 j hj
  have snd : Sound es (fsOf (sfInit n s)) (frounds es (r + 1) (fsOf (sfInit n s))) := sound_rounds (r + 1) _ (fun v hv => ⟨v, 0, hv, Walk.nil v, by omega⟩)
  have snd' : ∀ v, (frounds es (r + 1) (fsOf (sfInit n s))).k v = true → ∃ a, Walk es s v a ∧ (frounds es (r + 1) (fsOf (sfInit n s))).o v = a := by
    intro v hk
    obtain ⟨u, a, h1, h2, h3⟩ := snd v hk
    obtain rfl := i3 u h1
    rw [i2, Int.zero_add] at h3
    exact ⟨a, h2, h3⟩
  have ks := known_rounds (es := es) (r + 1) _ i1
  refine ⟨frounds es (r + 1) (fsOf (sfInit n s)), ⟨?_, ?_, hh, snd', ks, ?_⟩, r, hr, hf.symm⟩
  · rw [e, finL_len _ _ (by rw [hg.1, hg.2.2]), hg.1]
  · intro v hvn
    rw [e, finL_get _ _ v (by rw [hg.1, hg.2.2]) (by rw [hg.1]; exact hvn), ← hf]
    rfl
  · obtain ⟨a, h1, h2⟩ := snd' s ks
    have h3 := no_neg hh h1 ks
    have h4 := mono_rounds (es := es) (r + 1) _ i1
    omega
theorem sf_ok {n : Nat} {es : List E3} (hv : ValidE n es) (hq : (negS n es).ch < 0) {s : Nat} (hs : s < n) : (sfLoop es n (sfInit n s)).2 = true := by
  refine Classical.byContradiction fun h => ?_
  have h1 := sf_false es n _ h (n - 1) (by omega)
  rw [show n - 1 + 1 = n by omega] at h1
  have h2 : 0 ≤ (frounds es n (fsOf (sfInit n s))).ch := by rw [← fs_rounds hv n _ (good_init n s)]; exact h1
  have hI := neg_of_change n (by omega) (valid_nodes hv) _ h2
  obtain ⟨v, w, _, h3, h4⟩ := hI
  have hvn : v < n := by
    cases h3 with
    | nil => omega
    | cons hi _ => exact (valid_nodes hv _ hi).1
  have := no_walk hv hq hvn h3
  omega
theorem sf_bad {n : Nat} {es : List E3} (hv : ValidE n es) (hq : 0 ≤ (negS n es).ch) : ∃ c, c < n ∧ ¬ (sfLoop es n (sfInit n c)).2 = true := by
  obtain ⟨c, w, hc, h1, h2⟩ := neg_walk (neg_of hv hq)
  refine ⟨c, hc, fun h => ?_⟩
  obtain ⟨F, D, _⟩ := sf_dist hv hc h
  have := no_neg D.holds_ h1 D.src.1
  omega
theorem eAt_app {es fs : List E3} {i : Nat} (h : i < es.length) : eAt (es ++ fs) (i : Int) = eAt es (i : Int) := by
  unfold eAt
  simp only [Int.toNat_natCast, List.getD_eq_getElem?_getD]
  rw [List.getElem?_append_left h]
theorem Fr_app {es fs : List E3} {i : Nat} (h : i < es.length) : Fr (es ++ fs) i = Fr es i := by unfold Fr; rw [eAt_app h]
theorem To_app {es fs : List E3} {i : Nat} (h : i < es.length) : To (es ++ fs) i = To es i := by unfold To; rw [eAt_app h]
theorem Wt_app {es fs : List E3} {i : Nat} (h : i < es.length) : Wt (es ++ fs) i = Wt es i := by unfold Wt; rw [eAt_app h]
theorem walk_more {es : List E3} {u v : Nat} {a : Int} (h : Walk es u v a) (fs : List E3) : Walk (es ++ fs) u v a := by
  induction h with
  | nil v => exact Walk.nil v
  | cons hi _ ih =>
    rw [← To_app (fs := fs) hi] at ih
    have := Walk.cons (es := es ++ fs) (by rw [List.length_append]; omega) ih
    rwa [Fr_app hi, Wt_app hi] at this
theorem valid_app {n : Nat} {es fs : List E3} (h : ValidE n (es ++ fs)) : ValidE n es := fun i hi => by
  have := h i (by rw [List.length_append]; omega)
  rwa [eAt_app hi] at this
/-- A cycle that has no new edge is a cycle of the old graph. -/
theorem old_cycle {n : Nat} {es fs : List E3} (hv : ValidE n (es ++ fs)) (hq : (negS n es).ch < 0) (h : 0 ≤ (negS n (es ++ fs)).ch) : ∃ k, k ∈ negT n (es ++ fs) ∧ (es.length : Int) ≤ k := by
  have N := neg_of hv h
  obtain ⟨m, hm, h1, _, h2, e⟩ := negT_eq N
  refine Classical.byContradiction fun hno => ?_
  have hall : ∀ j, j < m + 1 → (negS n (es ++ fs)).l (parN (es ++ fs) (negS n (es ++ fs)) j (negC n (es ++ fs))) < es.length := fun j hj => by
    rcases Int.lt_or_le ((negS n (es ++ fs)).l (parN (es ++ fs) (negS n (es ++ fs)) j (negC n (es ++ fs)))) es.length with h3 | h3
    · exact h3
    · exact absurd ⟨_, by rw [e, List.mem_map]; exact ⟨j, List.mem_range.2 hj, rfl⟩, h3⟩ hno
  have hw : ∀ j, j ≤ m + 1 → Walk es (parN (es ++ fs) (negS n (es ++ fs)) j (negC n (es ++ fs))) (negC n (es ++ fs)) (sumP (es ++ fs) (negS n (es ++ fs)) (negC n (es ++ fs)) j) := by
    intro j
    induction j with
    | zero => intro _; exact Walk.nil _
    | succ j ih =>
      intro hj
      obtain ⟨a, b, _⟩ := neg_lastC N j
      have hlt := hall j (by omega)
      have w := ih (by omega)
      have hi : ((negS n (es ++ fs)).l (parN (es ++ fs) (negS n (es ++ fs)) j (negC n (es ++ fs)))).toNat < es.length := by omega
      rw [← b, To_app hi] at w
      have := Walk.cons hi w
      rw [← Fr_app (fs := fs) hi, ← Wt_app (fs := fs) hi] at this
      exact this
  have w := hw (m + 1) (Nat.le_refl _)
  rw [h1] at w
  have := no_walk (valid_app hv) hq (neg_lastC N 0).2.2 w
  omega
theorem linksE_app : ∀ (ls ms : List L4), linksE (ls ++ ms) = linksE ls ++ linksE ms
  | [], ms => rfl
  | l :: ls, ms => by simp only [List.cons_append, linksE, linksE_app ls ms, List.append_assoc]
theorem linksI_app : ∀ (ls ms : List L4) (i : Nat), linksI i (ls ++ ms) = linksI i ls ++ linksI (i + ls.length) ms
  | [], ms, i => rfl
  | l :: ls, ms, i => by
    simp only [List.cons_append, linksI, linksI_app ls ms, List.append_assoc, List.length_cons]
    rw [show i + 1 + ls.length = i + (ls.length + 1) by omega]
theorem linkI_val {i : Nat} {l : L4} {x : Int} (h : x ∈ linkI i l) : x = i := by
  unfold linkI at h
  rw [List.mem_append] at h
  rcases h with h | h
  · split at h
    · simp at h
    · simpa using h
  · split at h
    · simp at h
    · simpa using h
/-- The conflict that a new link makes holds this link. -/
theorem conf_new {n : Int} {ls : List L4} {l : L4} (hs : simpleOk n (ls ++ [l]) = true) (h0 : negM n (linksE ls) = []) (h1 : negM n (linksE (ls ++ [l])) ≠ []) : (ls.length : Int) ∈ confM n (ls ++ [l]) := by
  have hg := linksE_ok hs
  have c : graphOk n (linksE (ls ++ [l])) = true ∧ 0 ≤ (negS n.toNat (linksE (ls ++ [l]))).ch := Classical.byContradiction fun c => h1 (negM_nil.2 c)
  have e : linksE (ls ++ [l]) = linksE ls ++ linkE l := by rw [linksE_app]; simp [linksE]
  have hs' : simpleOk n ls = true := by
    unfold simpleOk at hs ⊢
    rw [Bool.and_eq_true, decide_eq_true_eq, List.all_append, Bool.and_eq_true] at hs
    rw [Bool.and_eq_true, decide_eq_true_eq]
    have := hs.1
    rw [List.length_append] at this
    exact ⟨⟨this.1, this.2.1, by omega⟩, hs.2.1⟩
  have hq : (negS n.toNat (linksE ls)).ch < 0 := by
    have := negM_nil.1 h0
    rcases Int.lt_or_le (negS n.toNat (linksE ls)).ch 0 with h | h
    · exact h
    · exact absurd ⟨linksE_ok hs', h⟩ this
  have hv := valid_of hg
  have c2 := c.2
  rw [e] at hv c2
  obtain ⟨k, hk, hk2⟩ := old_cycle hv hq c2
  rw [← e] at hk
  have hm : k ∈ negM n (linksE (ls ++ [l])) := by
    unfold negM; rw [if_pos c, List.mem_reverse]; exact hk
  have hin := negM_in hm
  have hlen : (linksI 0 (ls ++ [l])).length = (linksE (ls ++ [l])).length := linksI_len _ _
  have hl0 : (linksI 0 ls).length = (linksE ls).length := linksI_len _ _
  unfold confM
  rw [if_pos hs, List.mem_map]
  refine ⟨k, hm, ?_⟩
  have e2 : linksI 0 (ls ++ [l]) = linksI 0 ls ++ linkI ls.length l := by rw [linksI_app, Nat.zero_add]; simp [linksI]
  obtain ⟨m, rfl⟩ : ∃ m : Nat, k = (m : Int) := ⟨k.toNat, by omega⟩
  have hmlt : m < (linksI 0 (ls ++ [l])).length := by omega
  rw [rd_at hmlt]
  apply linkI_val (i := ls.length) (l := l)
  have e3 : (linksI 0 (ls ++ [l]))[m] = (linkI ls.length l)[m - (linksI 0 ls).length]'(by rw [e2, List.length_append] at hmlt; omega) := by
    simp only [e2]
    rw [List.getElem_append_right (by omega)]
  rw [e3]
  exact List.getElem_mem _
def consM (n : Int) (ls : List L4) : Bool := if simpleOk n ls = true then (negM n (linksE ls)).isEmpty else false
def lkEs (e : S76) : List S70 := (if e.f2.f1 = 1000000 then [] else [⟨e.f0, e.f1, e.f2.f1⟩]) ++ (if e.f2.f0 = -1000000 then [] else [⟨e.f1, e.f0, -e.f2.f0⟩])
def lkS : List S76 → List S70
  | [] => []
  | e :: t => lkEs e ++ lkS t
theorem lkEs_tr (e : S76) : (lkEs e).map tr = linkE (trL e) := by
  unfold lkEs linkE trL tr
  by_cases h1 : e.f2.f1 = 1000000 <;> by_cases h2 : e.f2.f0 = -1000000 <;> simp [h1, h2]
theorem lkS_tr : ∀ l : List S76, (lkS l).map tr = linksE (l.map trL)
  | [] => rfl
  | e :: t => by simp only [lkS, List.map_append, lkEs_tr, lkS_tr t, List.map_cons, linksE]
theorem lkEs_len (e : S76) : (lkEs e).length ≤ 2 := by
  rw [← List.length_map (f := tr), lkEs_tr]; exact linkE_len _
theorem lkS_len (l : List S76) : (lkS l).length ≤ 2 * l.length := by
  rw [← List.length_map (f := tr), lkS_tr]
  have := linksE_len (l.map trL)
  rw [List.length_map] at this; exact this
theorem lkS_drop {l : List S76} {i : Nat} (h : i < l.length) : lkS (l.drop i) = lkEs (rd_T76 l (i : Int)) ++ lkS (l.drop (i + 1)) := by
  rw [List.drop_eq_getElem_cons h]
  have : rd_T76 l (i : Int) = l[i] := by unfold rd_T76; simp [List.getD_eq_getElem?_getD, h]
  rw [this]; rfl
theorem lkI_drop {l : List S76} {i : Nat} (h : i < l.length) : linksI i ((l.map trL).drop i) = linkI i (trL (rd_T76 l (i : Int))) ++ linksI (i + 1) ((l.map trL).drop (i + 1)) := by
  rw [List.drop_eq_getElem_cons (by rw [List.length_map]; exact h)]
  have : rd_T76 l (i : Int) = l[i] := by unfold rd_T76; simp [List.getD_eq_getElem?_getD, h]
  rw [this, List.getElem_map]; rfl
theorem rdL_mem {l : List S76} {i : Nat} (h : i < l.length) : rd_T76 l (i : Int) ∈ l := by
  have : rd_T76 l (i : Int) = l[i] := by unfold rd_T76; simp [List.getD_eq_getElem?_getD, h]
  rw [this]; exact List.getElem_mem _
theorem lo_of {n : Int} {l : List S76} (h : simpleOk n (l.map trL) = true) : l.length ≤ 40 ∧ ∀ e ∈ l, -1000000 ≤ e.f2.f0 ∧ e.f2.f0 ≤ 1000000 := by
  obtain ⟨_, _, h3, h4⟩ := simpleOk_iff h
  refine ⟨by simpa using h3, fun e he => ?_⟩
  have := (okB_iff).1 (h4 (trL e) (List.mem_map_of_mem he)).2
  exact ⟨this.1, Int.le_trans this.2.1 this.2.2.1⟩
theorem lkEs_w (e : S76) (h : -1000000 ≤ e.f2.f0 ∧ e.f2.f0 ≤ 1000000) : wrap64 (-e.f2.f0) = -e.f2.f0 := w64 (by omega) (by omega)
def gOf (n : Int) (l : List S76) : Int × List S70 := if simpleOk n (l.map trL) = true then (n, lkS l) else (0, [])
theorem gOf_len (n : Int) (l : List S76) : (gOf n l).2.length ≤ 80 := by
  unfold gOf
  split
  · rename_i h
    have := (lo_of h).1
    have := lkS_len l
    simp only; omega
  · simp
def clampB (x : Int) : Int := if x < -1000000 then -1000000 else if x > 1000000 then 1000000 else x
def closeL (n : Int) (es : List E3) : Nat → Nat → List Int → Int × List Int × Bool
  | 0, _, o => (n, o, true)
  | d + 1, i, o => if (sfM n es (i : Int)).2 = true then closeL n es d (i + 1) (o ++ (sfM n es (i : Int)).1.map clampB) else (0, [], false)
theorem closeL_len (n : Int) (es : List E3) : ∀ (d i : Nat) (o : List Int), o.length ≤ 8 * i → (closeL n es d i o).2.1.length ≤ 8 * (i + d)
  | 0, i, o, h => by simpa [closeL] using h
  | d + 1, i, o, h => by
    unfold closeL
    have hs := sfM_len n es (i : Int)
    split
    · have := closeL_len n es d (i + 1) (o ++ (sfM n es (i : Int)).1.map clampB) (by simp only [List.length_append, List.length_map]; omega)
      omega
    · simp
def closeM (n : Int) (es : List E3) : Int × List Int × Bool := if graphOk n es = true then closeL n es n.toNat 0 [] else (0, [], false)
theorem closeM_len (n : Int) (es : List E3) : (closeM n es).2.1.length ≤ 64 := by
  unfold closeM
  split
  · rename_i h
    have h8 := (graphOk_iff h).2.1
    have := closeL_len n es n.toNat 0 [] (by simp)
    omega
  · simp
theorem sfM_at {n : Int} {es : List E3} (hg : graphOk n es = true) {i : Nat} (hi : (i : Int) < n) : sfM n es (i : Int) = sfLoop es n.toNat (sfInit n.toNat i) := by
  unfold sfM
  rw [if_pos ⟨hg, by omega, hi⟩]; rfl
def rowsC (n : Int) (es : List E3) : Nat → Nat → List Int
  | 0, _ => []
  | d + 1, i => (sfM n es (i : Int)).1.map clampB ++ rowsC n es d (i + 1)
theorem closeL_ok (n : Int) (es : List E3) : ∀ (d i : Nat) (o : List Int), (∀ j, i ≤ j → j < i + d → (sfM n es (j : Int)).2 = true) → closeL n es d i o = (n, o ++ rowsC n es d i, true)
  | 0, i, o, _ => by simp [closeL, rowsC]
  | d + 1, i, o, h => by
    rw [closeL, if_pos (h i (by omega) (by omega)), closeL_ok n es d (i + 1) _ (fun j h1 h2 => h j (by omega) (by omega)), rowsC, List.append_assoc]
theorem closeL_bad (n : Int) (es : List E3) : ∀ (d i : Nat) (o : List Int), (∃ j, i ≤ j ∧ j < i + d ∧ ¬ (sfM n es (j : Int)).2 = true) → closeL n es d i o = (0, [], false)
  | 0, i, o, h => by obtain ⟨j, h1, h2, _⟩ := h; omega
  | d + 1, i, o, h => by
    by_cases c : (sfM n es (i : Int)).2 = true
    · rw [closeL, if_pos c]
      obtain ⟨j, h1, h2, h3⟩ := h
      exact closeL_bad n es d (i + 1) _ ⟨j, by
        rcases Nat.lt_or_ge i j with h4 | h4
        · exact h4
        · have : i = j := by omega
          subst this; exact absurd c h3, by omega, h3⟩
    · rw [closeL, if_neg c]
theorem close_ok {n : Int} {es : List E3} (hg : graphOk n es = true) (h : negM n es = []) : closeM n es = (n, rowsC n es n.toNat 0, true) ∧ ∀ i : Nat, (i : Int) < n → (sfM n es (i : Int)).2 = true := by
  have hv := valid_of hg
  have hq : (negS n.toNat es).ch < 0 := by
    have := negM_nil.1 h
    rcases Int.lt_or_le (negS n.toNat es).ch 0 with h1 | h1
    · exact h1
    · exact absurd ⟨hg, h1⟩ this
  have ha : ∀ i : Nat, (i : Int) < n → (sfM n es (i : Int)).2 = true := fun i hi => by
    rw [sfM_at hg hi]; exact sf_ok hv hq (by omega)
  refine ⟨?_, ha⟩
  unfold closeM
  rw [if_pos hg, closeL_ok n es n.toNat 0 [] (fun j _ hj => ha j (by omega)), List.nil_append]
theorem close_bad {n : Int} {es : List E3} (h : negM n es ≠ []) : closeM n es = (0, [], false) := by
  have c : graphOk n es = true ∧ 0 ≤ (negS n.toNat es).ch := Classical.byContradiction fun c => h (negM_nil.2 c)
  obtain ⟨i, hi, h1⟩ := sf_bad (valid_of c.1) c.2
  unfold closeM
  rw [if_pos c.1]
  have h0 := (graphOk_iff c.1).1
  exact closeL_bad n es n.toNat 0 [] ⟨i, by omega, by omega, by rw [sfM_at c.1 (by omega)]; exact h1⟩
def windowB (s : Int) (l : List Int) (i k : Int) : Int × Int × Bool :=
  if tableOk s l = true ∧ (0 ≤ i ∧ i < s) ∧ (0 ≤ k ∧ k < s) then (if okB (-cellT s l k.toNat i.toNat) (cellT s l i.toNat k.toNat) = true then (-cellT s l k.toNat i.toNat, cellT s l i.toNat k.toNat, true) else (0, 0, false)) else (0, 0, false)
theorem cell_range {s : Int} {l : List Int} (h : tableOk s l = true) {i k : Nat} (hi : (i : Int) < s) (hk : (k : Int) < s) : -1000000 ≤ cellT s l i k ∧ cellT s l i k ≤ 1000000 := by
  obtain ⟨h1, h2, _, _⟩ := cell_in h hi hk
  unfold tableOk at h
  rw [Bool.and_eq_true] at h
  have := (allF0 _ _).1 h.2 ((i : Int) * s + k).toNat (by omega)
  simp only [cellOk, decide_eq_true_eq] at this
  unfold cellT
  rw [Int.toNat_of_nonneg h1] at this
  exact ⟨this.1, this.2.1⟩
def closG (n : Int) (l : List S76) : Int × List Int × Bool := closeM (gOf n l).1 ((gOf n l).2.map tr)
def windM (n : Int) (l : List S76) (i : Int) : Int × Int × Bool := if consM n (l.map trL) = true then windowB (closG n l).1 (closG n l).2.1 0 i else (0, 0, false)
theorem consM_ok {n : Int} {l : List S76} (h : consM n (l.map trL) = true) : simpleOk n (l.map trL) = true ∧ closG n l = (n, rowsC n (linksE (l.map trL)) n.toNat 0, true) := by
  unfold consM at h
  split at h
  · rename_i hs
    refine ⟨hs, ?_⟩
    unfold closG gOf
    rw [if_pos hs, lkS_tr]
    exact (close_ok (linksE_ok hs) (List.isEmpty_iff.1 h)).1
  · simp at h
theorem consM_no {n : Int} {l : List S76} (h : ¬ consM n (l.map trL) = true) (hs : simpleOk n (l.map trL) = true) : closG n l = (0, [], false) := by
  unfold consM at h
  rw [if_pos hs] at h
  unfold closG gOf
  rw [if_pos hs, lkS_tr]
  exact close_bad (fun e => h (by rw [e]; rfl))
theorem closG_len (n : Int) (l : List S76) : (closG n l).2.1.length ≤ 64 := closeM_len _ _
def closedOk (s : Int) (l : List Int) (i j k : Nat) : Bool := decide (cellT s l i k ≤ addB (cellT s l i j) (cellT s l j k))
def closedT (s : Int) (l : List Int) : Bool := tableOk s l && allF (fun i => allF (fun j => allF (closedOk s l i j) 0 s.toNat) 0 s.toNat) 0 s.toNat
def cellOf (s : Int) (l : List Int) (i k : Int) : Int := if tableOk s l = true ∧ (0 ≤ i ∧ i < s) ∧ (0 ≤ k ∧ k < s) then cellT s l i.toNat k.toNat else 0
theorem rd_app {a b : List Int} (x : Nat) : rd (a ++ b) (x : Int) = if x < a.length then rd a x else rd b ((x - a.length : Nat) : Int) := by
  unfold rd
  simp only [Int.toNat_natCast, List.getD_eq_getElem?_getD]
  split
  · rename_i h; rw [List.getElem?_append_left h]
  · rename_i h; rw [List.getElem?_append_right (by omega)]
theorem rd_map (f : Int → Int) {a : List Int} (x : Nat) (h : x < a.length) : rd (a.map f) (x : Int) = f (rd a x) := by
  rw [rd_at (by simpa using h), rd_at h, List.getElem_map]
theorem rowsC_len {n : Int} {es : List E3} (m : Nat) : ∀ (d i : Nat), (∀ j, i ≤ j → j < i + d → (sfM n es (j : Int)).1.length = m) → (rowsC n es d i).length = d * m
  | 0, i, _ => by simp [rowsC]
  | d + 1, i, h => by
    rw [rowsC, List.length_append, List.length_map, h i (by omega) (by omega), rowsC_len m d (i + 1) (fun j h1 h2 => h j (by omega) (by omega)), Nat.add_mul, Nat.one_mul]; omega
theorem rowsC_at {n : Int} {es : List E3} (m : Nat) : ∀ (d i : Nat), (∀ j, i ≤ j → j < i + d → (sfM n es (j : Int)).1.length = m) → ∀ a k, a < d → k < m → rd (rowsC n es d i) ((a * m + k : Nat) : Int) = clampB (rd (sfM n es ((i + a : Nat) : Int)).1 (k : Int))
  | 0, i, _, a, k, ha, _ => by omega
  | d + 1, i, h, a, k, ha, hk => by
    rw [rowsC, rd_app, List.length_map, h i (by omega) (by omega)]
    cases a with
    | zero => 
      rw [if_pos (by omega), Nat.zero_mul, Nat.zero_add, rd_map _ _ (by rw [h i (by omega) (by omega)]; exact hk)]; rfl
    | succ a =>
      have e : (a + 1) * m + k = m + (a * m + k) := by rw [Nat.add_mul, Nat.one_mul]; omega
      rw [e, if_neg (by omega), Nat.add_sub_cancel_left, rowsC_at m d (i + 1) (fun j h1 h2 => h j (by omega) (by omega)) a k (by omega) hk, show i + 1 + a = i + (a + 1) by omega]
/-- The table of distances: each cell is the distance of a walk, or a million where none is. -/
structure Tab (n : Nat) (es : List E3) (cells : List Int) : Prop where
  len : cells.length = n * n
  row : ∀ i, i < n → ∃ F row, (∀ k, k < n → rd cells ((i * n + k : Nat) : Int) = clampB (rd row k)) ∧ Dist n es i row F ∧ sfM (n : Int) es (i : Int) = (row, true) ∧ ∃ r, r < n ∧ F = fsOf (lrounds es (r + 1) (sfInit n i))
theorem tab_of {n : Int} {es : List E3} (hg : graphOk n es = true) (h : negM n es = []) : closeM n es = (n, rowsC n es n.toNat 0, true) ∧ Tab n.toNat es (rowsC n es n.toNat 0) := by
  obtain ⟨h1, h2⟩ := close_ok hg h
  have hv := valid_of hg
  have h0 := (graphOk_iff hg).1
  have hD : ∀ i : Nat, i < n.toNat → ∃ F, Dist n.toNat es i (sfM n es (i : Int)).1 F ∧ ∃ r, r < n.toNat ∧ F = fsOf (lrounds es (r + 1) (sfInit n.toNat i)) := fun i hi => by
    have := h2 i (by omega)
    rw [sfM_at hg (by omega)] at this ⊢
    exact sf_dist hv hi this
  have hl : ∀ j, 0 ≤ j → j < 0 + n.toNat → (sfM n es (j : Int)).1.length = n.toNat := fun j _ hj => by
    obtain ⟨F, D, _⟩ := hD j (by omega)
    exact D.len
  refine ⟨h1, rowsC_len n.toNat n.toNat 0 hl, fun i hi => ?_⟩
  obtain ⟨F, D, hr⟩ := hD i hi
  refine ⟨F, _, fun k hk => ?_, D, ?_, hr⟩
  · rw [rowsC_at n.toNat n.toNat 0 hl i k hi hk, Nat.zero_add]
  · rw [Int.toNat_of_nonneg h0]
    exact Prod.ext rfl (h2 i (by omega))
theorem clampB_in (x : Int) : -1000000 ≤ clampB x ∧ clampB x ≤ 1000000 := by
  unfold clampB
  repeat' split
  all_goals omega
theorem tab_cell {n : Nat} {es : List E3} {cells : List Int} (T : Tab n es cells) {i k : Nat} (hi : i < n) (hk : k < n) : cellT (n : Int) cells i k = rd cells ((i * n + k : Nat) : Int) := by
  unfold cellT
  congr 1
theorem tab_ok {n : Nat} {es : List E3} {cells : List Int} (h8 : n ≤ 8) (T : Tab n es cells) : tableOk (n : Int) cells = true := by
  unfold tableOk
  rw [Bool.and_eq_true, decide_eq_true_eq, allF0]
  refine ⟨⟨by omega, by omega, by rw [T.len]; simp⟩, fun x hx => ?_⟩
  rw [T.len] at hx
  have hn : 0 < n := by
    rcases Nat.eq_zero_or_pos n with e | e
    · subst e; simp at hx
    · exact e
  have hq : x / n < n := Nat.div_lt_of_lt_mul hx
  have hr : x % n < n := Nat.mod_lt _ hn
  have e := Nat.div_add_mod x n
  rw [Nat.mul_comm] at e
  obtain ⟨F, row, h1, D, _⟩ := T.row _ hq
  have h2 := h1 _ hr
  rw [e] at h2
  unfold cellOk
  rw [decide_eq_true_eq, h2]
  refine ⟨(clampB_in _).1, (clampB_in _).2, fun hd => ?_⟩
  have hd' : x / n = x % n := by omega
  rw [D.at_ _ hr, ← hd', if_pos D.src.1, D.src.2]
  decide
theorem tab_edge {n : Nat} {es : List E3} {cells : List Int} (hv : ValidE n es) (T : Tab n es cells) {j : Nat} (hj : j < es.length) : cellT (n : Int) cells (Fr es j) (To es j) ≤ Wt es j := by
  obtain ⟨hf, ht⟩ := valid_nodes hv j hj
  rw [tab_cell T hf ht]
  obtain ⟨F, row, h1, D, _⟩ := T.row _ hf
  obtain ⟨k1, k2⟩ := D.holds_ j hj D.src.1
  rw [h1 _ ht, D.at_ _ ht, if_pos k1]
  rw [D.src.2] at k2
  have hw := (hv j hj).2.2
  unfold Wt at k2 ⊢
  unfold clampB
  repeat' split
  all_goals omega
/-- Weights of at most a hundred: no distance comes near a million. -/
def SmallW (es : List E3) : Prop := ∀ i : Nat, i < es.length → -100 ≤ (eAt es i).2.2 ∧ (eAt es i).2.2 ≤ 100
theorem smallW_step {n : Nat} {es : List E3} {L : LS} {i : Nat} {B : Int} (hv : ValidE n es) (hw : SmallW es) (hi : i < es.length) (h : GoodL n L) (hs : SmallL B L) : SmallL (B + 100) (lstep es i L) := by
  obtain ⟨⟨f0, f1⟩, _, _⟩ := hv i hi
  have hm := hs _ (rd_mem f0 (by rw [h.1]; exact f1))
  have hw' := hw i hi
  unfold lstep
  split
  · intro x hx
    rcases List.mem_or_eq_of_mem_set hx with h1 | h1
    · have := hs x h1; omega
    · omega
  · intro x hx
    have := hs x hx; omega
theorem smallW_rnd {n : Nat} {es : List E3} (hv : ValidE n es) (hw : SmallW es) : ∀ (d i : Nat) (L : LS) (B : Int), i + d ≤ es.length → GoodL n L → SmallL B L → SmallL (B + 100 * d) (lrnd es i d L)
  | 0, _, _, B, _, _, h => by simpa [lrnd] using h
  | d + 1, i, L, B, hd, h, hs => by
    have := smallW_rnd hv hw d (i + 1) (lstep es i L) (B + 100) (by omega) (good_step i h) (smallW_step hv hw (by omega) h hs)
    rw [show B + 100 * ((d + 1 : Nat) : Int) = B + 100 + 100 * (d : Int) by omega]
    exact this
theorem smallW_rounds {n : Nat} {es : List E3} (hv : ValidE n es) (hw : SmallW es) (he : es.length ≤ 80) : ∀ (r : Nat) (L : LS) (B : Int), GoodL n L → SmallL B L → SmallL (B + 8000 * r) (lrounds es r L)
  | 0, L, B, _, h => by simpa [lrounds] using h
  | r + 1, L, B, hg, hs => by
    have h1 := smallW_rnd hv hw es.length 0 { L with ch := -1 } B (by omega) hg hs
    have h2 : SmallL (B + 8000) (lround es L) := by
      intro x hx
      have := h1 x hx
      omega
    have := smallW_rounds hv hw he r _ _ (good_round hg) h2
    rw [show B + 8000 * ((r + 1 : Nat) : Int) = B + 8000 + 8000 * (r : Int) by omega]
    exact this
theorem dist_small {n : Nat} {es : List E3} (hv : ValidE n es) (hw : SmallW es) (he : es.length ≤ 80) (h8 : n ≤ 8) {s r v : Nat} (hr : r < n) (hvn : v < n) : -64000 ≤ (fsOf (lrounds es (r + 1) (sfInit n s))).o v ∧ (fsOf (lrounds es (r + 1) (sfInit n s))).o v ≤ 64000 := by
  have hg := good_rounds (es := es) (r + 1) _ (good_init n s)
  have hs := smallW_rounds hv hw he (r + 1) _ 0 (good_init n s) (small_init n s)
  have := hs _ (rd_mem (l := (lrounds es (r + 1) (sfInit n s)).o) (i := (v : Int)) (by omega) (by rw [hg.1]; omega))
  show -64000 ≤ rd _ (v : Int) ∧ rd _ (v : Int) ≤ 64000
  omega
theorem tab_val {n : Nat} {es : List E3} {cells : List Int} (hv : ValidE n es) (hw : SmallW es) (he : es.length ≤ 80) (h8 : n ≤ 8) (T : Tab n es cells) {i : Nat} (hi : i < n) : ∃ F : FS, (∀ j, j < es.length → holds es F j) ∧ (∀ v, F.k v = true → ∃ a, Walk es i v a ∧ F.o v = a) ∧ F.k i = true ∧ F.o i = 0 ∧ ∀ k, k < n → (cellT (n : Int) cells i k = if F.k k = true then F.o k else 1000000) ∧ -64000 ≤ F.o k ∧ F.o k ≤ 64000 := by
  obtain ⟨F, row, h1, D, _, r, hr, e⟩ := T.row i hi
  refine ⟨F, D.holds_, D.sound, D.src.1, D.src.2, fun k hk => ?_⟩
  have hb := dist_small hv hw he h8 (s := i) hr hk
  rw [← e] at hb
  refine ⟨?_, hb⟩
  rw [tab_cell T hi hk, h1 k hk, D.at_ k hk]
  unfold clampB
  repeat' split
  all_goals first | rfl | omega | simp_all
theorem tab_closed {n : Nat} {es : List E3} {cells : List Int} (hv : ValidE n es) (hw : SmallW es) (he : es.length ≤ 80) (h8 : n ≤ 8) (T : Tab n es cells) : closedT (n : Int) cells = true := by
  unfold closedT
  rw [Bool.and_eq_true, allF0]
  refine ⟨tab_ok h8 T, fun i hi => ?_⟩
  rw [allF0]
  intro j hj
  rw [allF0]
  intro k hk
  rw [Int.toNat_natCast] at hi hj hk
  unfold closedOk
  rw [decide_eq_true_eq]
  obtain ⟨F, f1, f2, f3, f4, f5⟩ := tab_val hv hw he h8 T hi
  obtain ⟨G, g1, g2, g3, g4, g5⟩ := tab_val hv hw he h8 T hj
  obtain ⟨a1, a2, a3⟩ := f5 k hk
  obtain ⟨b1, b2, b3⟩ := f5 j hj
  obtain ⟨c1, c2, c3⟩ := g5 k hk
  rw [a1, b1, c1]
  have hX : (if F.k k = true then F.o k else 1000000) ≤ 1000000 := by split <;> omega
  cases hF : F.k j with
  | false => 
    simp only [Bool.false_eq_true, if_false]
    generalize (if F.k k = true then F.o k else 1000000) = X at hX ⊢
    unfold addB
    rw [if_pos (by omega)]
    omega
  | true =>
    cases hG : G.k k with
    | false =>
      simp only [Bool.false_eq_true, if_false, if_true]
      generalize (if F.k k = true then F.o k else 1000000) = X at hX ⊢
      unfold addB
      rw [if_neg (by omega), if_pos (by omega)]
      omega
    | true =>
      obtain ⟨w, hwk, ew⟩ := g2 k hG
      obtain ⟨k1, k2⟩ := walk_low f1 hwk hF
      rw [k1]
      simp only [if_true]
      unfold addB
      repeat' split
      all_goals omega
theorem windM_ok {n : Int} {l : List S76} {i : Int} (h : (windM n l i).2.2 = true) : okB (windM n l i).1 (windM n l i).2.1 = true := by
  unfold windM windowB at h ⊢
  by_cases c : consM n (l.map trL) = true
  · rw [if_pos c] at h ⊢
    split at h
    · rename_i c1
      rw [if_pos c1]
      split at h
      · rename_i c2
        rw [if_pos c2]; exact c2
      · simp at h
    · simp at h
  · rw [if_neg c] at h
    simp at h
def tmL (p : Int → Int → Int) (n : Int) (l : List S76) : Nat → Nat → Option (List Int)
  | 0, _ => some []
  | d + 1, i => if (windM n l i).2.2 = true ∧ (-1000000 < p (windM n l i).1 (windM n l i).2.1 ∧ p (windM n l i).1 (windM n l i).2.1 < 1000000) then (tmL p n l d (i + 1)).map (fun ys => p (windM n l i).1 (windM n l i).2.1 :: ys) else none
def tmR (x : List Int) : Option (List Int) → List Int × Bool
  | some ys => (x ++ ys, true)
  | none => ([], false)
theorem tmR_cons (x : List Int) (q : Int) (o : Option (List Int)) : tmR (x ++ [q]) o = tmR x (o.map (fun ys => q :: ys)) := by cases o <;> simp [tmR]
def timesM (p : Int → Int → Int) (n : Int) (l : List S76) : List Int × Bool := if consM n (l.map trL) = true then tmR [] (tmL p n l n.toNat 0) else ([], false)
theorem tmL_len (p : Int → Int → Int) (n : Int) (l : List S76) : ∀ (d i : Nat) (ys : List Int), tmL p n l d i = some ys → ys.length = d
  | 0, i, ys, h => by simp only [tmL, Option.some.injEq] at h; rw [← h]; rfl
  | d + 1, i, ys, h => by
    simp only [tmL] at h
    split at h
    · obtain ⟨zs, hz, e⟩ := Option.map_eq_some_iff.1 h
      rw [← e, List.length_cons, tmL_len p n l d (i + 1) zs hz]
    · simp at h
theorem consM_n {n : Int} {l : List S76} (h : consM n (l.map trL) = true) : 1 ≤ n ∧ n ≤ 8 := by
  have hs := (consM_ok h).1
  unfold simpleOk at hs
  simp only [Bool.and_eq_true, decide_eq_true_eq] at hs
  omega
theorem timesM_len (p : Int → Int → Int) (n : Int) (l : List S76) : (timesM p n l).1.length ≤ 8 := by
  unfold timesM
  by_cases c : consM n (l.map trL) = true
  · rw [if_pos c]
    have := consM_n c
    cases h : tmL p n l n.toNat 0 with
    | none => simp [tmR]
    | some ys =>
      have := tmL_len p n l _ _ ys h
      simp only [tmR, List.nil_append]; omega
  · rw [if_neg c]; simp
theorem linksE_mem {x : E3} : ∀ {ls : List L4}, x ∈ linksE ls ↔ ∃ e ∈ ls, x ∈ linkE e
  | [] => by simp [linksE]
  | l :: ls => by simp only [linksE, List.mem_append, linksE_mem (ls := ls), List.mem_cons, exists_eq_or_imp]
theorem edge_idx {es : List E3} {x : E3} (h : x ∈ es) : ∃ j, j < es.length ∧ Fr es j = x.1.toNat ∧ To es j = x.2.1.toNat ∧ Wt es j = x.2.2 := by
  obtain ⟨j, hj, e⟩ := List.mem_iff_getElem.1 h
  have : eAt es (j : Int) = x := by unfold eAt; simp [List.getD_eq_getElem?_getD, hj, e]
  exact ⟨j, hj, by unfold Fr; rw [this], by unfold To; rw [this], by unfold Wt; rw [this]⟩
/-- What the drawn networks are: good links with small bounds, and a link from an earlier event to each. -/
def lkFine (n : Int) (e : S76) : Prop := linkOk n (trL e) = true ∧ (e.f2.f0 = -1000000 ∨ (-100 ≤ e.f2.f0 ∧ e.f2.f0 ≤ 100)) ∧ (e.f2.f1 = 1000000 ∨ (-100 ≤ e.f2.f1 ∧ e.f2.f1 ≤ 100))
def lkTree (l : List S76) (i : Int) : Prop := ∃ e ∈ l, e.f1 = i ∧ (0 ≤ e.f0 ∧ e.f0 < i) ∧ (-100 ≤ e.f2.f0 ∧ e.f2.f0 ≤ 100) ∧ (-100 ≤ e.f2.f1 ∧ e.f2.f1 ≤ 100)
structure Net (n : Int) (l : List S76) : Prop where
  hn : 2 ≤ n ∧ n ≤ 5
  len : l.length ≤ 40
  fine : ∀ e ∈ l, lkFine n e
  tree : ∀ i, 1 ≤ i → i < n → lkTree l i
theorem mkFine {n a b lo hi : Int} (ha : 0 ≤ a ∧ a < n) (hb : 0 ≤ b ∧ b < n) (h : okB lo hi = true) (h1 : lo = -1000000 ∨ (-100 ≤ lo ∧ lo ≤ 100)) (h2 : hi = 1000000 ∨ (-100 ≤ hi ∧ hi ≤ 100)) : lkFine n ⟨a, b, ⟨lo, hi⟩⟩ := by
  unfold lkFine linkOk trL
  rw [Bool.and_eq_true, decide_eq_true_eq]
  exact ⟨⟨⟨ha, hb⟩, h⟩, h1, h2⟩
theorem spanF (s : List Int) (i h : Int) (hs : s.length ≤ 1048576) (h0 : 0 ≤ i) : ∃ lo hi i' h', spec_l02Draw.f s i h = some (lo, hi, i', h') ∧ okB lo hi = true ∧ 0 ≤ i' ∧ (lo = -1000000 ∨ (-100 ≤ lo ∧ lo ≤ 100)) ∧ (hi = 1000000 ∨ (-100 ≤ hi ∧ hi ≤ 100)) := by
  obtain ⟨a, i1, h1, e1, a0, a1, p1⟩ := belowM s i h hs h0 21 (by omega) (by omega)
  obtain ⟨b, i2, h2, e2, b0, b1, p2⟩ := belowM s i1 h1 hs p1 8 (by omega) (by omega)
  obtain ⟨c, i3, h3, e3, c0, c1, p3⟩ := belowM s i2 h2 hs p2 8 (by omega) (by omega)
  unfold spec_l02Draw.f spec_l02Bounded.f
  rw [e1]
  simp only [Option.bind_some]
  rw [e2]
  simp only [Option.bind_some]
  rw [e3]
  simp only [Option.bind_some]
  rw [w64 (i := a - 10) (by omega) (by omega), w64 (i := a - 10 + b) (by omega) (by omega)]
  by_cases k0 : c = 0
  · rw [if_pos k0]; exact ⟨_, _, _, _, rfl, okB_iff.2 ⟨by omega, by omega, by omega, by omega, by omega⟩, p3, by omega, by omega⟩
  · rw [if_neg k0]
    by_cases k1 : c = 1
    · rw [if_pos k1]; exact ⟨_, _, _, _, rfl, okB_iff.2 ⟨by omega, by omega, by omega, by omega, by omega⟩, p3, by omega, by omega⟩
    · rw [if_neg k1]
      by_cases k2 : c = 2
      · rw [if_pos k2]; exact ⟨_, _, _, _, rfl, okB_iff.2 ⟨by omega, by omega, by omega, by omega, by omega⟩, p3, by omega, by omega⟩
      · rw [if_neg k2]; exact ⟨_, _, _, _, rfl, okB_iff.2 ⟨by omega, by omega, by omega, by omega, by omega⟩, p3, by omega, by omega⟩
theorem netS1 (s : List Int) (hs : s.length ≤ 1048576) (n : Int) (hn : 2 ≤ n ∧ n ≤ 5) : ∀ (d : Nat) (i h : Int) (l : List S76), 0 ≤ i → l.length + d ≤ 40 → (∀ e ∈ l, lkFine n e) → ∃ l' i' h', Ev (fun k => spec_l05Draw.l1 k (d : Int) s i h n l) (n, l', i', h') ∧ l'.length ≤ 40 ∧ (∀ e ∈ l', lkFine n e) ∧ (∀ e ∈ l, e ∈ l')
  | 0, i, h, l, h0, hl, he => ⟨l, i, h, suc (f := fun _ => some (n, l, i, h)) (fun k => by rw [spec_l05Draw.l1, if_neg (by omega)]) now, by omega, he, fun _ h => h⟩
  | d + 1, i, h, l, h0, hl, he => by
    obtain ⟨a, i1, h1, e1, a0, a1, p1⟩ := belowM s i h hs h0 n (by omega) (by omega)
    obtain ⟨b, i2, h2, e2, b0, b1, p2⟩ := belowM s i1 h1 hs p1 n (by omega) (by omega)
    obtain ⟨lo, hi, i3, h3, e3, hok, p3, s1, s2⟩ := spanF s i2 h2 hs p2
    obtain ⟨l', i', h', e, x, y, z⟩ := netS1 s hs n hn d i3 h3 (l ++ [(⟨a, b, ⟨lo, hi⟩⟩ : S76)]) p3 (by simp only [List.length_append, List.length_cons, List.length_nil]; omega) (fun z hz => by
      rcases List.mem_append.1 hz with hz | hz
      · exact he z hz
      · rw [List.mem_singleton.1 hz]; exact mkFine ⟨a0, a1⟩ ⟨b0, b1⟩ hok s1 s2)
    refine ⟨l', i', h', suc (fun k => ?_) e, x, y, fun w hw => z w (List.mem_append_left _ hw)⟩
    rw [spec_l05Draw.l1, if_pos (by omega), e1]
    simp only [Option.bind_some]
    rw [e2]
    simp only [Option.bind_some]
    rw [e3]
    simp only [Option.bind_some]
    rw [if_pos (by omega), w64 (i := ((d + 1 : Nat) : Int) - 1) (by omega) (by omega), show ((d + 1 : Nat) : Int) - 1 = (d : Int) by omega]
theorem netS0 (s : List Int) (hs : s.length ≤ 1048576) (n : Int) (hn : 2 ≤ n ∧ n ≤ 5) : ∀ (d : Nat) (j i h : Int) (l : List S76), 1 ≤ j → j + d = n → 0 ≤ i → l.length + d ≤ 30 → (∀ e ∈ l, lkFine n e) → (∀ m, 1 ≤ m → m < j → lkTree l m) → ∃ l' i' h', Ev (fun k => spec_l05Draw.l0 k j s i h n l) (n, l', i', h') ∧ Net n l'
  | 0, j, i, h, l, hj, hjd, h0, hl, he, ht => by
    obtain ⟨c, i1, h1, e1, c0, c1, p1⟩ := belowM s i h hs h0 4 (by omega) (by omega)
    obtain ⟨l', i', h', e, x, y, z⟩ := netS1 s hs n hn c.toNat i1 h1 l p1 (by omega) he
    rw [Int.toNat_of_nonneg c0] at e
    refine ⟨l', i', h', suc (fun k => ?_) e, hn, x, y, fun m m1 m2 => ?_⟩
    · rw [spec_l05Draw.l0, if_neg (by omega), e1]; rfl
    · obtain ⟨w, hw, r⟩ := ht m m1 (by omega)
      exact ⟨w, z w hw, r⟩
  | d + 1, j, i, h, l, hj, hjd, h0, hl, he, ht => by
    obtain ⟨a, i1, h1, e1, a0, a1, p1⟩ := belowM s i h hs h0 5 (by omega) (by omega)
    obtain ⟨b, i2, h2, e2, b0, b1, p2⟩ := belowM s i1 h1 hs p1 j (by omega) (by omega)
    obtain ⟨c, i3, h3, e3, c0, c1, p3⟩ := belowM s i2 h2 hs p2 6 (by omega) (by omega)
    have hw : wrap64 (a + c) = a + c := w64 (by omega) (by omega)
    obtain ⟨l', i', h', e, x⟩ := netS0 s hs n hn d (j + 1) i3 h3 (l ++ [(⟨b, j, ⟨a, wrap64 (a + c)⟩⟩ : S76)]) (by omega) (by omega) p3 (by simp only [List.length_append, List.length_cons, List.length_nil]; omega) (fun z hz => by
      rcases List.mem_append.1 hz with hz | hz
      · exact he z hz
      · rw [List.mem_singleton.1 hz, hw]; exact mkFine ⟨b0, by omega⟩ ⟨by omega, by omega⟩ (okB_iff.2 ⟨by omega, by omega, by omega, by omega, by omega⟩) (by omega) (by omega)) (fun m m1 m2 => by
      by_cases em : m = j
      · exact ⟨_, List.mem_append_right _ (List.mem_singleton.2 rfl), em.symm, ⟨b0, by simp only []; omega⟩, by simp only []; omega, by simp only [hw]; omega⟩
      · obtain ⟨w, hw', r⟩ := ht m m1 (by omega)
        exact ⟨w, List.mem_append_left _ hw', r⟩)
    refine ⟨l', i', h', suc (fun k => ?_) e, x⟩
    rw [spec_l05Draw.l0, if_pos (by omega), e1]
    simp only [Option.bind_some]
    rw [e2]
    simp only [Option.bind_some]
    rw [e3]
    simp only [Option.bind_some]
    rw [if_pos (by omega), w64 (i := j + 1) (by omega) (by omega)]
theorem makeNet (s : List Int) (hs : s.length ≤ 1048576) : ∃ n l, Ev (fun k => spec_MakeSimple.f k s) (n, l) ∧ Net n l := by
  obtain ⟨h, e⟩ := newM s hs
  obtain ⟨a, i1, h1, e1, a0, a1, p1⟩ := belowM s 0 h hs (by omega) 4 (by omega) (by omega)
  obtain ⟨l', i', h', e2, x⟩ := netS0 s hs (2 + a) ⟨by omega, by omega⟩ (1 + a).toNat 1 i1 h1 [] (by omega) (by omega) p1 (by simp only [List.length_nil]; omega) (fun z hz => by simp at hz) (fun m m1 m2 => by omega)
  refine ⟨2 + a, l', ?_, x⟩
  unfold spec_MakeSimple.f
  refine bev e (bev (a := (2 + a, l', i', h')) ?_ now)
  unfold spec_l05Draw.f
  refine bnd e1 ?_
  rw [w64 (by omega) (by omega)]
  exact e2
theorem net_simple {n : Int} {l : List S76} (N : Net n l) : simpleOk n (l.map trL) = true := by
  unfold simpleOk
  rw [Bool.and_eq_true, decide_eq_true_eq, List.all_eq_true]
  have := N.hn
  refine ⟨⟨by omega, by omega, by rw [List.length_map]; exact N.len⟩, fun x hx => ?_⟩
  obtain ⟨y, hy, rfl⟩ := List.mem_map.1 hx
  exact (N.fine y hy).1
theorem net_small {n : Int} {l : List S76} (N : Net n l) : SmallW (linksE (l.map trL)) := by
  intro i hi
  have hm := eAt_mem (es := linksE (l.map trL)) (j := (i : Int)) (by omega) (by omega)
  obtain ⟨e, he, hx⟩ := linksE_mem.1 hm
  obtain ⟨y, hy, rfl⟩ := List.mem_map.1 he
  obtain ⟨_, f1, f2⟩ := N.fine y hy
  generalize eAt (linksE (l.map trL)) (i : Int) = x at hx ⊢
  unfold linkE trL at hx
  simp only [List.mem_append] at hx
  rcases hx with hx | hx
  · split at hx
    · simp at hx
    · rename_i c
      rw [List.mem_singleton.1 hx]
      simp only
      omega
  · split at hx
    · simp at hx
    · rename_i c
      rw [List.mem_singleton.1 hx]
      simp only
      omega
theorem up_edge {l : List S76} {e : S76} (he : e ∈ l) (h : e.f2.f1 ≠ 1000000) : (e.f0, e.f1, e.f2.f1) ∈ linksE (l.map trL) := by
  refine linksE_mem.2 ⟨trL e, List.mem_map_of_mem he, ?_⟩
  unfold linkE trL
  simp only [if_neg h, List.mem_append]
  exact Or.inl (List.mem_singleton.2 rfl)
theorem down_edge {l : List S76} {e : S76} (he : e ∈ l) (h : e.f2.f0 ≠ -1000000) : (e.f1, e.f0, -e.f2.f0) ∈ linksE (l.map trL) := by
  refine linksE_mem.2 ⟨trL e, List.mem_map_of_mem he, ?_⟩
  unfold linkE trL
  simp only [if_neg h, List.mem_append]
  exact Or.inr (List.mem_singleton.2 rfl)
/-- A vector of times with every edge kept. -/
def Pot (l : List S76) (q : Nat → Int) : Prop := ∀ x ∈ linksE (l.map trL), q x.2.1.toNat ≤ q x.1.toNat + x.2.2
theorem net_win {n : Int} {l : List S76} (N : Net n l) (h : consM n (l.map trL) = true) : ∃ lo hi : Nat → Int, (∀ i : Nat, (i : Int) < n → windM n l (i : Int) = (lo i, hi i, true) ∧ (-64000 ≤ lo i ∧ lo i ≤ 64000) ∧ (-64000 ≤ hi i ∧ hi i ≤ 64000)) ∧ lo 0 = 0 ∧ hi 0 = 0 ∧ Pot l lo ∧ Pot l hi ∧ ∀ q : Nat → Int, q 0 = 0 → Pot l q → ∀ i : Nat, (i : Int) < n → lo i ≤ q i ∧ q i ≤ hi i := by
  obtain ⟨hs, hc⟩ := consM_ok h
  have hg := linksE_ok hs
  have hneg : negM n (linksE (l.map trL)) = [] := by
    unfold consM at h
    rw [if_pos hs] at h
    exact List.isEmpty_iff.1 h
  have T := (tab_of hg hneg).2
  have hv := valid_of hg
  have hw := net_small N
  have he := (graphOk_iff hg).2.2.1
  have htr := N.tree
  have hup := fun (e : S76) (h1 : e ∈ l) => up_edge h1
  have hdn := fun (e : S76) (h1 : e ∈ l) => down_edge h1
  have hn5 := N.hn
  obtain ⟨m, rfl⟩ : ∃ m : Nat, n = (m : Int) := ⟨n.toNat, by omega⟩
  rw [Int.toNat_natCast] at T hv hc
  have hwin : ∀ i : Nat, windM (m : Int) l (i : Int) = windowB (m : Int) (rowsC (m : Int) (linksE (l.map trL)) m 0) 0 (i : Int) := fun i => by
    unfold windM
    rw [if_pos h, hc]
  unfold Pot
  generalize rowsC (m : Int) (linksE (l.map trL)) m 0 = cells at T hwin
  generalize linksE (l.map trL) = es at *
  have h8 : m ≤ 8 := by omega
  have V := fun i (hi : i < m) => tab_val hv hw he h8 T hi
  have htok := tab_ok h8 T
  obtain ⟨F0, f1, f2, f3, f4, f5⟩ := V 0 (by omega)
  have K0 : ∀ i, i < m → F0.k i = true := by
    intro i
    induction i using Nat.strongRecOn with
    | ind i ih =>
      intro hi
      by_cases e0 : i = 0
      · subst e0; exact f3
      · obtain ⟨e, he1, e2, e3, e4, e5⟩ := htr i (by omega) (by omega)
        obtain ⟨j, hj, a, b, c⟩ := edge_idx (hup e he1 (by omega))
        have := (f1 j hj (by rw [a]; exact ih _ (by simp only; omega) (by simp only; omega))).1
        rw [b] at this
        simpa [e2] using this
  have KB : ∀ (G : FS), (∀ j, j < es.length → holds es G j) → ∀ i, i < m → G.k i = true → G.k 0 = true := by
    intro G g1 i
    induction i using Nat.strongRecOn with
    | ind i ih =>
      intro hi hk
      by_cases e0 : i = 0
      · subst e0; exact hk
      · obtain ⟨e, he1, e2, e3, e4, e5⟩ := htr i (by omega) (by omega)
        obtain ⟨j, hj, a, b, c⟩ := edge_idx (hdn e he1 (by omega))
        have := (g1 j hj (by rw [a]; simpa [e2] using hk)).1
        rw [b] at this
        exact ih _ (by simp only; omega) (by simp only; omega) this
  have C0 : ∀ i, i < m → cellT (m : Int) cells 0 i = F0.o i ∧ -64000 ≤ F0.o i ∧ F0.o i ≤ 64000 := fun i hi => by
    obtain ⟨x1, x2⟩ := f5 i hi
    rw [if_pos (K0 i hi)] at x1
    exact ⟨x1, x2⟩
  -- the way back
  have CB : ∀ i, i < m → -64000 ≤ cellT (m : Int) cells i 0 ∧ cellT (m : Int) cells i 0 ≤ 64000 ∧ Walk es i 0 (cellT (m : Int) cells i 0) ∧ ∃ G : FS, (∀ j, j < es.length → holds es G j) ∧ G.k i = true ∧ G.o i = 0 ∧ G.o 0 = cellT (m : Int) cells i 0 := fun i hi => by
    obtain ⟨G, g1, g2, g3, g4, g5⟩ := V i hi
    have hk := KB G g1 i hi g3
    obtain ⟨x1, x2⟩ := g5 0 (by omega)
    rw [if_pos hk] at x1
    obtain ⟨a, wk, ea⟩ := g2 0 hk
    rw [x1]
    refine ⟨x2.1, x2.2, ?_, G, g1, g3, g4, rfl⟩
    rw [ea]; exact wk
  refine ⟨fun i => -cellT (m : Int) cells i 0, fun i => cellT (m : Int) cells 0 i, fun i hi => ?_, ?_, ?_, fun x hx => ?_, fun x hx => ?_, fun q q0 hq i hi => ?_⟩
  · obtain ⟨x1, x2, x3⟩ := C0 i (by omega)
    obtain ⟨y1, y2, y3, _⟩ := CB i (by omega)
    dsimp only
    refine ⟨?_, by omega, by omega⟩
    rw [hwin]
    unfold windowB
    rw [if_pos ⟨htok, ⟨by omega, by omega⟩, by omega, hi⟩]
    have h2 := (walk_low f1 y3 (K0 i (by omega))).2
    rw [Int.toNat_natCast, show (0 : Int).toNat = 0 from rfl, if_pos (okB_iff.2 ⟨by omega, by omega, by omega, by omega, by omega⟩)]
  · have := (C0 0 (by omega)).1
    simp only [this]; omega
  · have := (C0 0 (by omega)).1
    simp only [this]; omega
  · obtain ⟨j, hj, a, b, c⟩ := edge_idx hx
    obtain ⟨u1, u2⟩ := valid_nodes hv j hj
    obtain ⟨_, _, _, G, g1, g3, g4, g5⟩ := CB (Fr es j) u1
    obtain ⟨_, _, wk, _⟩ := CB (To es j) u2
    obtain ⟨k1, k2⟩ := g1 j hj g3
    have := (walk_low g1 wk k1).2
    dsimp only
    rw [← a, ← b, ← c]
    omega
  · obtain ⟨j, hj, a, b, c⟩ := edge_idx hx
    obtain ⟨u1, u2⟩ := valid_nodes hv j hj
    have k2 := (f1 j hj (K0 _ u1)).2
    have x1 := (C0 _ u1).1
    have x2 := (C0 _ u2).1
    dsimp only
    rw [← a, ← b, ← c]
    omega
  · have hh : ∀ j, j < es.length → holds es ⟨q, fun _ => 0, fun _ => true, 0⟩ j := fun j hj _ =>
      ⟨rfl, hq _ (eAt_mem (es := es) (j := (j : Int)) (by omega) (by omega))⟩
    obtain ⟨x1, _⟩ := C0 i (by omega)
    obtain ⟨a, wk, ea⟩ := f2 i (K0 i (by omega))
    have h1 := (walk_low hh wk rfl).2
    obtain ⟨_, _, wb, _⟩ := CB i (by omega)
    have h2 := (walk_low hh wb rfl).2
    simp only at h1 h2
    refine ⟨?_, ?_⟩ <;> simp only <;> omega
def timeT (x : Int) : Bool := decide (-1000000 ≤ x ∧ x ≤ 1000000)
def timesOk (n : Int) (ls : List L4) (t : List Int) : Bool := simpleOk n ls && (decide ((t.length : Int) = n) && t.all timeT)
theorem badTime_eq (x : Int) : badTime x = !timeT x := by
  unfold badTime timeT
  rw [← decide_not]
  exact decide_eq_decide.mpr (by omega)
theorem timesOk_len {n : Int} {ls : List L4} {t : List Int} (h : timesOk n ls t = true) : (t.length : Int) = n ∧ simpleOk n ls = true := by
  unfold timesOk at h
  simp only [Bool.and_eq_true, decide_eq_true_eq] at h
  exact ⟨h.2.1, h.1⟩
def brk (n : Int) (l : List S76) (t : List Int) : Int := if timesOk n (l.map trL) t = true then Lib.idxBy (fun _ y => brokenB t y) l default else -1
theorem badL (n : Int) (e : S76) : badLink n e = !(linkOk n (trL e)) := by
  unfold badLink sNodeB linkOk trL
  rw [show qokB e.f2.f0 e.f2.f1 = okB e.f2.f0 e.f2.f1 from rfl]
  by_cases h1 : 0 ≤ e.f0 ∧ e.f0 < n <;> by_cases h2 : 0 ≤ e.f1 ∧ e.f1 < n <;> cases okB e.f2.f0 e.f2.f1 <;> simp [h1, h2]
theorem iSimpleOk (n : Int) (l : List S76) : impl_SimpleOk.f n l = some (simpleOk n (l.map trL)) := by
  unfold impl_SimpleOk.f simpleOk
  have e : (!(l.any (badLink n))) = (l.map trL).all (linkOk n) := by
    rw [List.all_map, List.all_eq_not_any_not]
    congr 2
    funext x
    simp [badL]
  congr 1
  by_cases h1 : n < 1
  · rw [if_pos h1, decide_eq_false (by omega), Bool.false_and]
  · rw [if_neg h1]
    by_cases h2 : n > 8
    · rw [if_pos h2, decide_eq_false (by omega), Bool.false_and]
    · rw [if_neg h2]
      by_cases h3 : (l.length : Int) > 40
      · rw [if_pos h3, decide_eq_false (by simp only [List.length_map]; omega), Bool.false_and]
      · rw [if_neg h3, decide_eq_true (by simp only [List.length_map]; omega), Bool.true_and, e]
theorem iTimes (n : Int) (l : List S76) (t : List Int) : impl_areTimes.f n l t = some (timesOk n (l.map trL) t) := by
  unfold impl_areTimes.f timesOk
  rw [iSimpleOk]
  simp only [Option.bind_some]
  by_cases h : simpleOk n (l.map trL) = true
  · rw [if_pos h, h, Bool.true_and]
    by_cases c : (t.length : Int) = n
    · rw [if_pos c, decide_eq_true c, Bool.true_and, List.all_eq_not_any_not]
      congr 3
      funext x
      exact badTime_eq x
    · rw [if_neg c, decide_eq_false c, Bool.false_and]
  · rw [if_neg h]
    rw [Bool.not_eq_true] at h
    rw [h, Bool.false_and]
theorem iBroken (n : Int) (l : List S76) (t : List Int) : impl_BrokenLink.f n l t = some (brk n l t) := by
  unfold impl_BrokenLink.f brk
  rw [iTimes]
  simp only [Option.bind_some]
  by_cases h : timesOk n (l.map trL) t = true
  · rw [if_pos h, if_pos h]
  · rw [if_neg h, if_neg h]
def sched (n : Int) (l : List S76) (t : List Int) : Bool := timesOk n (l.map trL) t && (decide (rd t 0 = 0) && decide (brk n l t < 0))
theorem iSched (n : Int) (l : List S76) (t : List Int) : impl_IsSchedule.f n l t = some (sched n l t) := by
  unfold impl_IsSchedule.f sched
  rw [iTimes]
  simp only [Option.bind_some]
  by_cases h : timesOk n (l.map trL) t = true
  · have h1 := (simpleOk_iff (timesOk_len h).2).1
    have h2 := (timesOk_len h).1
    rw [if_pos h, h, Bool.true_and, if_pos (by omega)]
    by_cases d : rd t 0 = 0
    · rw [if_pos d, iBroken, decide_eq_true d, Bool.true_and]; rfl
    · rw [if_neg d, decide_eq_false d, Bool.false_and]
  · rw [if_neg h]
    rw [Bool.not_eq_true] at h
    rw [h, Bool.false_and]
theorem brk_cases {n : Int} {l : List S76} {t : List Int} : brk n l t = -1 ∨ 0 ≤ brk n l t := by
  unfold brk
  split
  · by_cases h : ∃ e ∈ l, brokenB t e = true
    · right
      have := Lib.idxBy_nonneg_iff (fun (_ : S76) y => brokenB t y) l default
      obtain ⟨e, he, hb⟩ := h
      rw [List.any_eq_true.2 ⟨e, he, hb⟩, decide_eq_true_eq] at this
      exact this
    · left
      have := Lib.idxBy_miss (fun (_ : S76) y => brokenB t y) l l.length default (fun j hj => by
        rw [getElem!_pos l j hj]
        cases hb : brokenB t l[j] with
        | false => rfl
        | true => exact absurd ⟨_, List.getElem_mem _, hb⟩ h)
      rwa [List.take_length] at this
  · exact Or.inl rfl
theorem brk_neg {n : Int} {l : List S76} {t : List Int} (ht : timesOk n (l.map trL) t = true) : brk n l t < 0 ↔ ∀ e ∈ l, brokenB t e = false := by
  unfold brk
  rw [if_pos ht]
  have := Lib.idxBy_nonneg_iff (fun (_ : S76) y => brokenB t y) l default
  constructor
  · intro h e he
    rw [decide_eq_false (by omega)] at this
    cases hb : brokenB t e with
    | false => rfl
    | true => rw [List.any_eq_true.2 ⟨e, he, hb⟩] at this; simp at this
  · intro h
    have h2 : l.any (fun y => brokenB t y) = false := List.any_eq_false.2 (fun e he => by rw [h e he]; simp)
    rw [h2, decide_eq_false_iff_not] at this
    omega
theorem iok (a b : Int) : impl_IntervalOk.f a b = some (okB a b) := by
  unfold impl_IntervalOk.f okB
  repeat' split
  all_goals (congr 1; first | (symm; rw [decide_eq_false_iff_not]; omega) | (rw [Bool.eq_iff_iff]; simp only [bne_iff_ne, ne_eq, decide_eq_true_eq]; omega))
theorem contB_iff {lo hi x : Int} (h : okB lo hi = true) : (!containsB lo hi x) = false ↔ ((lo = -1000000 ∨ lo ≤ x) ∧ (hi = 1000000 ∨ x ≤ hi)) := by
  unfold containsB impl_Contains.f
  rw [iok, h]
  simp only [Option.bind_some, if_pos]
  by_cases h1 : lo = -1000000
  · rw [if_pos h1]
    by_cases h2 : hi = 1000000
    · rw [if_pos h2]; simp [h1, h2]
    · rw [if_neg h2]; simp [h1, h2]
  · rw [if_neg h1]
    by_cases h3 : x ≥ lo
    · rw [if_pos h3]
      by_cases h2 : hi = 1000000
      · rw [if_pos h2]; simp [h2]; omega
      · rw [if_neg h2]; simp [h1, h2]; omega
    · rw [if_neg h3]; simp; omega
theorem contB_f {lo hi x : Int} (h : okB lo hi = true) (h1 : lo ≤ x) (h2 : x ≤ hi) : impl_Contains.f lo hi x = some true := by
  rw [containsB_f]
  have := (contB_iff (x := x) h).2 ⟨Or.inr h1, Or.inr h2⟩
  rw [Bool.not_eq_false'] at this
  rw [this]
theorem pot_broken {n : Int} {l : List S76} (N : Net n l) {t : List Int} (ht : (t.length : Int) = n) (hb : ∀ i : Nat, -64000 ≤ rd t (i : Int) ∧ rd t (i : Int) ≤ 64000) : (∀ e ∈ l, brokenB t e = false) ↔ Pot l (fun i => rd t (i : Int)) := by
  have key : ∀ e ∈ l, (brokenB t e = false ↔ ((e.f2.f0 = -1000000 ∨ e.f2.f0 ≤ rd t e.f1 - rd t e.f0) ∧ (e.f2.f1 = 1000000 ∨ rd t e.f1 - rd t e.f0 ≤ e.f2.f1))) := by
    intro e he
    obtain ⟨h1, h2, h3⟩ := N.fine e he
    unfold linkOk trL at h1
    rw [Bool.and_eq_true, decide_eq_true_eq] at h1
    have b0 := hb e.f0.toNat
    have b1 := hb e.f1.toNat
    rw [Int.toNat_of_nonneg (by have := h1.1.1.1; simpa using this)] at b0
    rw [Int.toNat_of_nonneg (by have := h1.1.2.1; simpa using this)] at b1
    have hok := okB_iff.1 h1.2
    simp only at hok
    unfold brokenB
    rw [w64 (by omega) (by omega)]
    exact contB_iff h1.2
  constructor
  · intro h x hx
    obtain ⟨y, hy, hx⟩ := linksE_mem.1 hx
    obtain ⟨e, he, rfl⟩ := List.mem_map.1 hy
    have h1 := (N.fine e he).1
    unfold linkOk at h1
    rw [Bool.and_eq_true, decide_eq_true_eq] at h1
    obtain ⟨⟨⟨p0, _⟩, ⟨p1, _⟩⟩, _⟩ := h1
    simp only [trL] at p0 p1
    obtain ⟨k1, k2⟩ := (key e he).1 (h e he)
    unfold linkE trL at hx
    simp only [List.mem_append] at hx
    rcases hx with hx | hx
    · split at hx
      · simp at hx
      · rename_i c
        rw [List.mem_singleton.1 hx]
        simp only [Int.toNat_of_nonneg p0, Int.toNat_of_nonneg p1]
        omega
    · split at hx
      · simp at hx
      · rename_i c
        rw [List.mem_singleton.1 hx]
        simp only [Int.toNat_of_nonneg p0, Int.toNat_of_nonneg p1]
        omega
  · intro h e he
    have h1 := (N.fine e he).1
    unfold linkOk at h1
    rw [Bool.and_eq_true, decide_eq_true_eq] at h1
    obtain ⟨⟨⟨p0, _⟩, ⟨p1, _⟩⟩, _⟩ := h1
    simp only [trL] at p0 p1
    refine (key e he).2 ⟨?_, ?_⟩
    · by_cases c : e.f2.f0 = -1000000
      · exact Or.inl c
      · have := h _ (down_edge he c)
        simp only [Int.toNat_of_nonneg p0, Int.toNat_of_nonneg p1] at this
        right; omega
    · by_cases c : e.f2.f1 = 1000000
      · exact Or.inl c
      · have := h _ (up_edge he c)
        simp only [Int.toNat_of_nonneg p0, Int.toNat_of_nonneg p1] at this
        right; omega
theorem net_times {n : Int} {l : List S76} (N : Net n l) {t : List Int} (ht : (t.length : Int) = n) (hb : ∀ i : Nat, -64000 ≤ rd t (i : Int) ∧ rd t (i : Int) ≤ 64000) : timesOk n (l.map trL) t = true := by
  unfold timesOk
  rw [net_simple N, decide_eq_true ht, Bool.true_and, Bool.true_and, List.all_eq_true]
  intro x hx
  obtain ⟨j, hj, e⟩ := List.mem_iff_getElem.1 hx
  have := hb j
  rw [rd_at hj, e] at this
  unfold timeT
  exact decide_eq_true (by omega)
theorem net_sched {n : Int} {l : List S76} (N : Net n l) {t : List Int} (ht : (t.length : Int) = n) (h0 : rd t 0 = 0) (hb : ∀ i : Nat, -64000 ≤ rd t (i : Int) ∧ rd t (i : Int) ≤ 64000) : sched n l t = true ↔ Pot l (fun i => rd t (i : Int)) := by
  have hT := net_times N ht hb
  rw [← pot_broken N ht hb, ← brk_neg hT]
  unfold sched
  rw [hT, decide_eq_true h0, Bool.true_and, Bool.true_and, decide_eq_true_eq]
/-- A told list of bounds. -/
theorem tmL_val (p : Int → Int → Int) (n : Int) (l : List S76) (lo hi : Nat → Int) (h : ∀ i : Nat, (i : Int) < n → windM n l (i : Int) = (lo i, hi i, true) ∧ -1000000 < p (lo i) (hi i) ∧ p (lo i) (hi i) < 1000000) : ∀ (d i : Nat), (i : Int) + d = n → tmL p n l d i = some ((List.range' i d).map (fun j => p (lo j) (hi j)))
  | 0, i, _ => rfl
  | d + 1, i, hd => by
    obtain ⟨h1, h2⟩ := h i (by omega)
    simp only [tmL, h1]
    rw [if_pos ⟨trivial, h2⟩, tmL_val p n l lo hi h d (i + 1) (by omega)]
    rfl
theorem rd_range (f : Nat → Int) (m : Nat) {j : Nat} (hj : j < m) : rd ((List.range' 0 m).map f) (j : Int) = f j := by
  rw [rd_at (by simpa using hj)]
  simp
theorem rd_range0 (f : Nat → Int) (m : Nat) {j : Nat} (hj : m ≤ j) : rd ((List.range' 0 m).map f) (j : Int) = 0 := by
  unfold rd
  simp [List.getD_eq_getElem?_getD, hj]
theorem mtSkip (s : List Int) (hs : s.length ≤ 1048576) : ∀ (m : Nat) (i h : Int), 0 ≤ i → ∃ i' h', mnSkip s m i h = some (i', h') ∧ 0 ≤ i'
  | 0, i, h, h0 => ⟨i, h, rfl, h0⟩
  | m + 1, i, h, h0 => by
    obtain ⟨b, i1, h1, e, _, _, p⟩ := byteM s i h hs h0
    obtain ⟨i', h', e2, p2⟩ := mtSkip s hs m i1 h1 p
    exact ⟨i', h', by rw [mnSkip, e]; exact e2, p2⟩
theorem mtL_ev (s : List Int) (hs : s.length ≤ 1048576) (n : Int) : ∀ (d : Nat) (x : List Int) (i h : Int), 0 ≤ i → (x.length : Int) + d = n → x.length + d ≤ 8 → (∀ y ∈ x, 0 ≤ y ∧ y ≤ 5) → ∃ t, Ev (fun k => mtL s n k x i h) t ∧ (t.length : Int) = n ∧ (∀ y ∈ t, 0 ≤ y ∧ y ≤ 5) ∧ ∃ z, t = x ++ z
  | 0, x, i, h, h0, hd, h8, hx => ⟨x, suc (f := fun _ => some x) (fun k => by rw [mtL, if_neg (by omega)]) now, by omega, hx, [], by simp⟩
  | d + 1, x, i, h, h0, hd, h8, hx => by
    obtain ⟨b, i1, h1, e, b0, b1, p⟩ := belowM s i h hs h0 6 (by omega) (by omega)
    obtain ⟨t, e2, l2, y2, z, ez⟩ := mtL_ev s hs n d (x ++ [b]) i1 h1 p (by simp only [List.length_append, List.length_cons, List.length_nil]; omega) (by simp only [List.length_append, List.length_cons, List.length_nil]; omega) (fun y hy => by
      rcases List.mem_append.1 hy with hy | hy
      · exact hx y hy
      · rw [List.mem_singleton.1 hy]; omega)
    refine ⟨t, suc (fun k => ?_) e2, l2, y2, b :: z, by rw [ez]; simp⟩
    rw [mtL, if_pos (by omega), e]
    simp only [Option.bind_some]
    rw [if_pos (by omega)]
theorem makeT (s : List Int) (hs : s.length ≤ 1048576) (n : Int) (hn : 2 ≤ n ∧ n ≤ 5) : ∃ t, Ev (fun k => spec_MakeTimes.f k s 40 n) t ∧ (t.length : Int) = n ∧ rd t 0 = 0 ∧ ∀ i : Nat, -64000 ≤ rd t (i : Int) ∧ rd t (i : Int) ≤ 64000 := by
  obtain ⟨h, e⟩ := newM s hs
  obtain ⟨i1, h1, e1, p1⟩ := mtSkip s hs 40 0 h (by omega)
  obtain ⟨t, e2, l2, y2, z, ez⟩ := mtL_ev s hs n (n - 1).toNat [0] i1 h1 p1 (by simp only [List.length_cons, List.length_nil]; omega) (by simp only [List.length_cons, List.length_nil]; omega) (fun y hy => by rw [List.mem_singleton.1 hy]; omega)
  refine ⟨t, ?_, l2, by rw [ez]; rfl, fun i => ?_⟩
  · unfold spec_MakeTimes.f
    refine ifp (by omega) (bev e ?_)
    exact bnd (a := (i1, h1)) e1 e2
  · by_cases c : i < t.length
    · rw [rd_at c]
      have := y2 _ (List.getElem_mem c)
      omega
    · unfold rd
      simp only [Int.toNat_natCast, List.getD_eq_getElem?_getD]
      rw [List.getElem?_eq_none (by omega)]
      simp
theorem iGr_l (l : List S76) (hl : l.length ≤ 40) (hb : ∀ e ∈ l, -1000000 ≤ e.f2.f0 ∧ e.f2.f0 ≤ 1000000) (n : Int) : ∀ (d i : Nat) (x : List S70) (y : List Int), i + d = l.length → x.length ≤ 2 * i → y.length ≤ 2 * i → Ev (fun k => impl_graphOf.l0 k y l (l.length : Int) (i : Int) n x) (n, x ++ lkS (l.drop i), y ++ linksI i ((l.map trL).drop i))
  | 0, i, x, y, hd, hx, hy => by
    have e1 : l.drop i = [] := List.drop_eq_nil_of_le (by omega)
    have e2 : (l.map trL).drop i = [] := List.drop_eq_nil_of_le (by simp; omega)
    rw [e1, e2]
    refine suc (f := fun _ => some (n, x, y)) (fun k => by rw [impl_graphOf.l0, if_neg (by omega)]) (eqr now ?_)
    simp [lkS, linksI]
  | d + 1, i, x, y, hd, hx, hy => by
    have hi : i < l.length := by omega
    have hw := lkEs_w _ (hb _ (rdL_mem hi))
    have ih := iGr_l l hl hb n d (i + 1) (x ++ lkEs (rd_T76 l (i : Int))) (y ++ linkI i (trL (rd_T76 l (i : Int)))) (by omega)
      (by have := lkEs_len (rd_T76 l (i : Int)); simp only [List.length_append]; omega)
      (by have := linkE_len (trL (rd_T76 l (i : Int))); simp only [List.length_append, linkI_len]; omega)
    rw [lkS_drop hi, lkI_drop hi, ← List.append_assoc, ← List.append_assoc]
    refine suc (fun k => ?_) ih
    rw [impl_graphOf.l0, if_pos (by omega), if_pos (by omega), if_pos (by omega), up1 (by omega) (by omega), show (i : Int) + 1 = ((i + 1 : Nat) : Int) from rfl, hw]
    unfold lkEs linkI trL
    by_cases h1 : (rd_T76 l (i : Int)).f2.f1 = 1000000 <;> by_cases h2 : (rd_T76 l (i : Int)).f2.f0 = -1000000
    · simp only [h1, h2, if_true, List.append_nil]
    · simp only [h1, h2, if_true, if_false, List.nil_append]
      rw [if_pos (by omega), if_pos (by omega)]
    · simp only [h1, h2, if_true, if_false, List.append_nil, Option.bind_some]
      rw [if_pos (by omega), if_pos (by omega)]
    · simp only [h1, h2, if_false, Option.bind_some]
      rw [if_pos (by omega), if_pos (by omega), if_pos (by simp only [List.length_append, List.length_cons, List.length_nil]; omega), if_pos (by simp only [List.length_append, List.length_cons, List.length_nil]; omega)]
      simp only [List.append_assoc]

theorem iGr {n : Int} (l : List S76) (h : simpleOk n (l.map trL) = true) : Ev (fun k => impl_graphOf.f k n l) (n, lkS l, linksI 0 (l.map trL)) := by
  unfold impl_graphOf.f
  exact iGr_l l (lo_of h).1 (lo_of h).2 n l.length 0 [] [] (by omega) (by simp) (by simp)
theorem iGraphOf (n : Int) (l : List S76) : Ev (fun k => impl_GraphOf.f k n l) (gOf n l) := by
  unfold impl_GraphOf.f gOf
  refine bnd (iSimpleOk n l) ?_
  by_cases h : simpleOk n (l.map trL) = true
  · rw [if_pos h]; exact ifp h (bev (iGr l h) now)
  · rw [if_neg h]; exact ifn h now
theorem badE (n : Int) (e : S70) : badEdge n e = !(edgeOk n (tr e)) := by
  unfold badEdge gNodeB gWeightB edgeOk tr
  rw [Bool.eq_iff_iff]
  simp only [Bool.or_eq_true, Bool.not_eq_true', decide_eq_false_iff_not]
  by_cases h1 : 0 ≤ e.f0 ∧ e.f0 < n <;> by_cases h2 : 0 ≤ e.f1 ∧ e.f1 < n <;> by_cases h3 : -1000000 < e.f2 ∧ e.f2 < 1000000 <;> simp [h1, h2, h3]
theorem iGraphOk (n : Int) (l : List S70) : impl_GraphOk.f n l = some (graphOk n (l.map tr)) := by
  unfold impl_GraphOk.f graphOk
  have e : (!(l.any (badEdge n))) = (l.map tr).all (edgeOk n) := by
    rw [List.all_map, List.all_eq_not_any_not]
    congr 2
    funext x
    simp [badE]
  congr 1
  by_cases h1 : n < 0
  · rw [if_pos h1, decide_eq_false (by omega), Bool.false_and]
  · rw [if_neg h1]
    by_cases h2 : n > 8
    · rw [if_pos h2, decide_eq_false (by omega), Bool.false_and]
    · rw [if_neg h2]
      by_cases h3 : (l.length : Int) > 80
      · rw [if_pos h3, decide_eq_false (by simp only [List.length_map]; omega), Bool.false_and]
      · rw [if_neg h3, decide_eq_true (by simp only [List.length_map]; omega), Bool.true_and, e]
theorem isNode (n x : Int) : impl_isNode.f n x = some (decide (0 ≤ x ∧ x < n)) := by
  unfold impl_isNode.f
  by_cases h : x ≥ 0
  · rw [if_pos h]; congr 1; rw [Bool.eq_iff_iff]; simp only [decide_eq_true_eq]; omega
  · rw [if_neg h]; congr 1; symm; rw [decide_eq_false_iff_not]; omega
theorem rd_mid (a b : List Int) (x : Int) : rd (a ++ x :: b) (a.length : Int) = x := by unfold rd; simp [List.getD_eq_getElem?_getD]
theorem rb_mid (a b : List Bool) (x : Bool) {n : Nat} (h : a.length = n) : rdOf false (a ++ x :: b) (n : Int) = x := by subst h; unfold rdOf; simp [List.getD_eq_getElem?_getD]
theorem set_mid (a b : List Int) (x y : Int) : (a ++ x :: b).set (a.length : Int).toNat y = a ++ y :: b := by simp
theorem iFin : ∀ (ob : List Int) (kb : List Bool) (a : List Int) (ka : List Bool), ka.length = a.length → ob.length = kb.length → a.length + ob.length ≤ 1000 → Ev (fun k => impl_ShortestFrom.l2 k (a ++ ob) (ka ++ kb) ((a.length + ob.length : Nat) : Int) (a.length : Int)) (a ++ finL ob kb, true)
  | [], [], a, ka, hk, ho, hn => by
    simp only [finL]
    exact suc (f := fun _ => some (a ++ [], true)) (fun k => by rw [impl_ShortestFrom.l2, if_neg (by simp)]) now
  | x :: ob, b :: kb, a, ka, hk, ho, hn => by
    simp only [List.length_cons] at ho hn
    have ih := iFin ob kb (a ++ [if b = true then (if x > 1000000 then 1000000 else x) else 1000000]) (ka ++ [b]) (by simp [hk]) (by omega) (by simp only [List.length_append, List.length_cons, List.length_nil]; omega)
    refine eqr (suc (f := fun k => impl_ShortestFrom.l2 k (a ++ [if b = true then (if x > 1000000 then 1000000 else x) else 1000000] ++ ob) (ka ++ [b] ++ kb) (((a ++ [if b = true then (if x > 1000000 then 1000000 else x) else (1000000 : Int)]).length + ob.length : Nat) : Int) ((a ++ [if b = true then (if x > 1000000 then 1000000 else x) else (1000000 : Int)]).length : Int)) (fun k => ?_) ih) (by simp [finL])
    have hlen : (a.length : Int) < ((ka ++ b :: kb).length : Int) := by simp only [List.length_append, List.length_cons]; omega
    have hlen2 : (a.length : Int) < ((a ++ x :: ob).length : Int) := by simp only [List.length_append, List.length_cons]; omega
    rw [impl_ShortestFrom.l2, if_pos (by simp only [List.length_cons]; omega), if_pos (by omega), if_pos hlen, rb_mid ka kb b hk, rd_mid, set_mid, set_mid, w64 (i := (a.length : Int) + 1) (by omega) (by omega)]
    have e1 : (((a ++ [if b = true then (if x > 1000000 then 1000000 else x) else (1000000 : Int)]).length : Nat) : Int) = (a.length : Int) + 1 := by simp
    have e2 : (((a ++ [if b = true then (if x > 1000000 then 1000000 else x) else (1000000 : Int)]).length + ob.length : Nat) : Int) = ((a.length + (x :: ob).length : Nat) : Int) := by simp only [List.length_append, List.length_cons, List.length_nil]; omega
    rw [e1, e2]
    cases b with
    | true =>
      rw [if_pos rfl, if_pos hlen2]
      unfold mn
      by_cases hx : 1000000 < x
      · rw [if_pos hx]; simp [hx]
      · rw [if_neg hx]; simp [hx]
    | false =>
      rw [if_neg (by simp), if_pos hlen2]
      simp only [Option.bind_some]
      rw [rd_mid, set_mid]
      unfold mn
      simp
  | [], b :: kb, a, ka, hk, ho, hn => by simp at ho
  | x :: ob, [], a, ka, hk, ho, hn => by simp at ho
theorem iRound_l (n : Nat) (l : List S70) (hl : l.length ≤ 80) (hv : ValidE n (l.map tr)) (r : Int) (R : List Int × Bool) : ∀ (d i : Nat) (L : LS) (B : Int), i + d = l.length → GoodL n L → SmallL B L → B + 1000000 * d ≤ 1000000000000 → 0 ≤ B →
    Ev (fun k => if decide (0 ≤ (lrnd (l.map tr) i d L).ch) = true then (if r = (n : Int) then some (([] : List Int), false) else impl_ShortestFrom.l0 k (lrnd (l.map tr) i d L).o (lrnd (l.map tr) i d L).k (wrap64 (r + 1)) (n : Int) l) else impl_ShortestFrom.l2 k (lrnd (l.map tr) i d L).o (lrnd (l.map tr) i d L).k ((lrnd (l.map tr) i d L).o.length : Int) 0) R →
    Ev (fun k => impl_ShortestFrom.l1 k L.o L.k r (decide (0 ≤ L.ch)) l (l.length : Int) (i : Int) (n : Int) l) R
  | 0, i, L, B, hd, hg, hs, hB, h0, h => suc (fun k => by rw [impl_ShortestFrom.l1, if_neg (by omega)]; rfl) h
  | d + 1, i, L, B, hd, hg, hs, hB, h0, h => by
    have ih := iRound_l n l hl hv r R d (i + 1) (lstep (l.map tr) i L) (B + 1000000) (by omega) (good_step i hg) (small_step hv (by simp only [List.length_map]; omega) hg hs) (by omega) (by omega) h
    have hu : ∀ k, impl_ShortestFrom.l1 (k + 1) L.o L.k r (decide (0 ≤ L.ch)) l (l.length : Int) (i : Int) (n : Int) l = impl_ShortestFrom.l1 k (lstep (l.map tr) i L).o (lstep (l.map tr) i L).k r (decide (0 ≤ (lstep (l.map tr) i L).ch)) l (l.length : Int) ((i + 1 : Nat) : Int) (n : Int) l := by

      intro k
      obtain ⟨⟨f0, f1⟩, ⟨t0, t1⟩, w0, w1⟩ := hv i (by simp only [List.length_map]; omega)
      obtain ⟨h1, h2, h3⟩ := hg
      have hb := hs _ (rd_mem (l := L.o) f0 (by omega))
      rw [impl_ShortestFrom.l1, if_pos (by omega), if_pos (by omega), if_pos (by omega)]
      simp only [tr0, tr1, tr2]
      rw [up1 (by omega) (by omega), w64 (i := rd L.o _ + _) (by omega) (by omega), if_pos f0, if_pos (by omega), if_pos (by omega)]
      unfold lstep better rb
      by_cases k1 : rdOf false L.k (eAt (l.map tr) i).1 = true
      · rw [if_pos k1, if_pos t0, if_pos (by omega)]
        by_cases k2 : rdOf false L.k (eAt (l.map tr) i).2.1 = true
        · rw [if_pos k2, if_pos (by omega)]
          by_cases c : rd L.o (eAt (l.map tr) i).1 + (eAt (l.map tr) i).2.2 < rd L.o (eAt (l.map tr) i).2.1
          · rw [if_pos c]
            simp only [k1, k2, c, decide_true, Bool.not_true, Bool.false_or, Bool.and_self, if_true]
            rw [show decide (0 ≤ (i : Int)) = true from decide_eq_true (by omega)]; rfl
          · rw [if_neg c]
            simp only [k1, k2, c, decide_false, Bool.not_true, Bool.or_self, Bool.and_false, Bool.false_eq_true, if_false]
            rfl
        · rw [if_neg k2, if_pos (by omega)]
          rw [Bool.not_eq_true] at k2
          simp only [k1, k2, Bool.not_false, Bool.true_or, Bool.and_self, if_true]
          rw [show decide (0 ≤ (i : Int)) = true from decide_eq_true (by omega)]; rfl
      · rw [if_neg k1]
        rw [Bool.not_eq_true] at k1
        simp only [k1, Bool.false_and, Bool.false_eq_true, if_false]
        rfl

    exact suc hu ih
theorem iSf_l (n : Nat) (hn : n ≤ 8) (l : List S70) (hl : l.length ≤ 80) (hv : ValidE n (l.map tr)) : ∀ (d i : Nat) (L : LS) (B : Int), i + d = n → GoodL n L → SmallL B L → B + 80000000 * (d + 1) ≤ 1000000000 → 0 ≤ B →
    Ev (fun k => impl_ShortestFrom.l0 k L.o L.k (i : Int) (n : Int) l) (sfLoop (l.map tr) (d + 1) L) := by
  intro d
  induction d with
  | zero =>
    intro i L B hd hg hs hB h0
    have hg' := good_round (es := l.map tr) hg
    refine suc (f := fun k => impl_ShortestFrom.l1 k L.o L.k (i : Int) false l (l.length : Int) ((0 : Nat) : Int) (n : Int) l) (fun k => by rw [impl_ShortestFrom.l0]; rfl) ?_
    refine iRound_l n l hl hv (i : Int) _ l.length 0 { L with ch := -1 } B (by omega) hg hs (by omega) h0 ?_
    show Ev (fun k => if decide (0 ≤ (lrnd (l.map tr) 0 l.length { L with ch := -1 }).ch) = true then _ else _) _
    have e : lrnd (l.map tr) 0 l.length { L with ch := -1 } = lround (l.map tr) L := by unfold lround; rw [List.length_map]
    rw [e]
    simp only [sfLoop]
    by_cases hq : (lround (l.map tr) L).ch < 0
    · refine ifn (by simpa using hq) ?_
      rw [if_pos hq]
      have := iFin (lround (l.map tr) L).o (lround (l.map tr) L).k [] [] rfl (by rw [hg'.1, hg'.2.2]) (by simp only [List.length_nil]; rw [hg'.1]; omega)
      simp only [List.nil_append, List.length_nil, Nat.zero_add] at this
      exact this
    · rw [if_neg hq]
      exact ifp (by simpa using hq) (ifp (by omega) now)
  | succ d ih =>
    intro i L B hd hg hs hB h0
    have hg' := good_round (es := l.map tr) hg
    have hs' := small_round hv (by simpa using hl) hg hs
    have ih' := ih (i + 1) (lround (l.map tr) L) (B + 80000000) (by omega) hg' hs' (by omega) (by omega)
    refine suc (f := fun k => impl_ShortestFrom.l1 k L.o L.k (i : Int) false l (l.length : Int) ((0 : Nat) : Int) (n : Int) l) (fun k => by rw [impl_ShortestFrom.l0]; rfl) ?_
    refine iRound_l n l hl hv (i : Int) _ l.length 0 { L with ch := -1 } B (by omega) hg hs (by omega) h0 ?_
    show Ev (fun k => if decide (0 ≤ (lrnd (l.map tr) 0 l.length { L with ch := -1 }).ch) = true then _ else _) _
    have e : lrnd (l.map tr) 0 l.length { L with ch := -1 } = lround (l.map tr) L := by unfold lround; rw [List.length_map]
    rw [e]
    show Ev _ (if (lround (l.map tr) L).ch < 0 then _ else sfLoop (l.map tr) (d + 1) (lround (l.map tr) L))
    by_cases hq : (lround (l.map tr) L).ch < 0
    · refine ifn (by simpa using hq) ?_
      rw [if_pos hq]
      have := iFin (lround (l.map tr) L).o (lround (l.map tr) L).k [] [] rfl (by rw [hg'.1, hg'.2.2]) (by simp only [List.length_nil]; rw [hg'.1]; omega)
      simp only [List.nil_append, List.length_nil, Nat.zero_add] at this
      exact this
    · rw [if_neg hq]
      refine ifp (by simpa using hq) (ifn (by omega) ?_)
      rw [up1 (by omega) (by omega)]
      exact ih'
theorem iSf (n : Int) (l : List S70) (s : Int) : Ev (fun k => impl_ShortestFrom.f k n l s) (sfM n (l.map tr) s) := by
  have hf : Ev (fun k => impl_ShortestFrom.j0 k s true n l) ([], false) := suc (f := fun _ => some ([], false)) (fun k => by rw [impl_ShortestFrom.j0, if_pos rfl]) now
  unfold impl_ShortestFrom.f sfM
  refine bnd (iGraphOk n l) ?_
  by_cases hg : graphOk n (l.map tr) = true
  · obtain ⟨h0, h8, hl, _⟩ := graphOk_iff hg
    refine ifp hg (bnd (isNode n s) ?_)
    by_cases hs : 0 ≤ s ∧ s < n
    · rw [show decide (0 ≤ s ∧ s < n) = true from decide_eq_true hs]
      refine eqr ?_ (if_pos ⟨hg, hs⟩).symm
      have hv := valid_of hg
      have h := iSf_l n.toNat (by omega) l (by simpa using hl) hv n.toNat 0 (sfInit n.toNat s.toNat) 0 (by omega) (good_init _ _) (small_init _ _) (by omega) (by omega)
      rw [Int.toNat_of_nonneg h0, sf_once hg hs] at h
      refine suc (fun k => ?_) h
      rw [impl_ShortestFrom.j0, if_neg (by simp), if_pos h0, if_pos (by omega), if_pos (by omega)]
      simp only [Option.bind_some]
      rw [if_pos hs.1, if_pos (by simp only [List.length_replicate]; omega)]
      rfl
    · rw [show decide (0 ≤ s ∧ s < n) = false from decide_eq_false hs]
      exact eqr hf (if_neg (fun h => hs h.2)).symm
  · exact eqr (ifn hg hf) (if_neg (fun h => hg h.1)).symm
theorem iClamp (x : Int) : impl_ClampBound.f x = some (clampB x) := by
  unfold impl_ClampBound.f clampB mx mn
  congr 1
  repeat' split
  all_goals omega

theorem iCl_in (n : Int) (l : List S70) (i : Nat) (hi8 : i ≤ 8) (r : List Int) (hr : r.length ≤ 8) (R : Int × List Int × Bool) : ∀ (d j : Nat) (o : List Int), j + d = r.length → o.length + d ≤ 100000 →
    Ev (fun k => impl_CloseGraph.l0 k ((i + 1 : Nat) : Int) n l n (o ++ (r.drop j).map clampB)) R → Ev (fun k => impl_CloseGraph.l1 k (i : Int) r (r.length : Int) (j : Int) n l n o) R
  | 0, j, o, hd, ho, h => by
    rw [List.drop_eq_nil_of_le (by omega), List.map_nil, List.append_nil] at h
    exact suc (f := fun k => impl_CloseGraph.l0 k ((i + 1 : Nat) : Int) n l n o) (fun k => by rw [impl_CloseGraph.l1, if_neg (by omega), up1 (by omega) (by omega)]; rfl) h
  | d + 1, j, o, hd, ho, h => by
    have hj : j < r.length := by omega
    have e : rd r (j : Int) = r[j] := by unfold rd; simp [List.getD_eq_getElem?_getD, hj]
    rw [List.drop_eq_getElem_cons hj, List.map_cons, ← e] at h
    refine suc (f := fun k => impl_CloseGraph.l1 k (i : Int) r (r.length : Int) ((j + 1 : Nat) : Int) n l n (o ++ [clampB (rd r (j : Int))])) (fun k => ?_) (iCl_in n l i hi8 r hr R d (j + 1) _ (by omega) (by simp only [List.length_append, List.length_cons, List.length_nil]; omega) (by rw [List.append_assoc]; exact h))
    rw [impl_CloseGraph.l1, if_pos (by omega), if_pos (by omega), if_pos (by omega), iClamp, up1 (by omega) (by omega)]
    simp only [Option.bind_some]
    rw [if_pos (by omega)]; rfl
theorem iCl (n : Nat) (hn : n ≤ 8) (l : List S70) : ∀ (d i : Nat) (o : List Int), i + d = n → o.length ≤ 8 * i → Ev (fun k => impl_CloseGraph.l0 k (i : Int) (n : Int) l (n : Int) o) (closeL n (l.map tr) d i o)
  | 0, i, o, hd, ho => by
    simp only [closeL]
    exact suc (f := fun _ => some ((n : Int), o, true)) (fun k => by rw [impl_CloseGraph.l0, if_neg (by omega)]) now
  | d + 1, i, o, hd, ho => by
    simp only [closeL]
    have hs := sfM_len n (l.map tr) (i : Int)
    refine suc (fun k => by rw [impl_CloseGraph.l0, if_pos (by omega)]) ?_
    refine bev (iSf n l (i : Int)) ?_
    by_cases h : (sfM n (l.map tr) (i : Int)).2 = true
    · rw [if_pos h]
      refine ifp h (iCl_in n l i (by omega) _ hs _ (sfM n (l.map tr) (i : Int)).1.length 0 o (by omega) (by omega) ?_)
      rw [List.drop_zero]
      exact iCl n hn l d (i + 1) _ (by omega) (by simp only [List.length_append, List.length_map]; omega)
    · rw [if_neg h]
      exact ifn h now
theorem iClose (n : Int) (l : List S70) : Ev (fun k => impl_CloseGraph.f k n l) (closeM n (l.map tr)) := by
  unfold impl_CloseGraph.f closeM
  refine bnd (iGraphOk n l) ?_
  by_cases h : graphOk n (l.map tr) = true
  · rw [if_pos h]
    have h8 := (graphOk_iff h).2.1
    have h0 := (graphOk_iff h).1
    obtain ⟨m, rfl⟩ : ∃ m : Nat, n = (m : Int) := ⟨n.toNat, by omega⟩
    exact ifp h (iCl m (by omega) l m 0 [] (by omega) (by simp))
  · rw [if_neg h]; exact ifn h now
theorem iTableOk_l (s : Int) (l : List Int) (h0 : 0 ≤ s) (h8 : s ≤ 8) (hl : (l.length : Int) = s * s) : ∀ (d i : Nat), i + d = l.length → Ev (fun k => impl_TableOk.l0 k l (l.length : Int) (i : Int) s l) (allF (cellOk s l) i d)
  | 0, i, hd => suc (f := fun _ => some true) (fun k => by rw [impl_TableOk.l0, if_neg (by omega)]) now
  | d + 1, i, hd => by
    have hs : 0 < s := by
      rcases Int.lt_or_eq_of_le h0 with h | h
      · exact h
      · rw [← h] at hl; omega
    have h64 : s * s ≤ 8 * 8 := Int.mul_le_mul h8 h8 h0 (by omega)
    have hq : wrap64 (Int.tdiv (i : Int) s) = (i : Int) / s := by
      rw [Int.tdiv_eq_ediv_of_nonneg (by omega)]
      have h1 : (i : Int) / s < s := Int.ediv_lt_of_lt_mul hs (by omega)
      have h2 : 0 ≤ (i : Int) / s := Int.ediv_nonneg (by omega) h0
      exact w64 (by omega) (by omega)
    have hr : Int.tmod (i : Int) s = (i : Int) % s := Int.tmod_eq_emod_of_nonneg (by omega)
    have ih := iTableOk_l s l h0 h8 hl d (i + 1) (by omega)
    simp only [allF]
    by_cases hc : cellOk s l i = true
    · have hc' := hc
      simp only [cellOk, decide_eq_true_eq] at hc'
      obtain ⟨c1, c2, c3⟩ := hc'
      rw [hc, Bool.true_and]
      refine suc (f := fun k => impl_TableOk.l0 k l (l.length : Int) ((i + 1 : Nat) : Int) s l) (fun k => ?_) ih
      rw [impl_TableOk.l0, if_pos (by omega), if_pos (by omega), if_pos (by omega), if_neg (by omega), if_neg (by omega), if_neg (by omega), hq, hr, up1 (by omega) (by omega)]
      by_cases e : (i : Int) / s = (i : Int) % s
      · rw [if_pos e, if_pos (c3 e)]; rfl
      · rw [if_neg e]; rfl
    · rw [Bool.not_eq_true] at hc
      have hc' := hc
      simp only [cellOk, decide_eq_false_iff_not] at hc'
      rw [hc, Bool.false_and]
      refine suc (f := fun _ => some false) (fun k => ?_) now
      rw [impl_TableOk.l0, if_pos (by omega), if_pos (by omega), if_pos (by omega)]
      by_cases c1 : rd l i < -1000000
      · rw [if_pos c1]
      · rw [if_neg c1]
        by_cases c2 : rd l i > 1000000
        · rw [if_pos c2]
        · rw [if_neg c2, if_neg (by omega), hq, hr]
          by_cases e : (i : Int) / s = (i : Int) % s
          · rw [if_pos e]
            by_cases c3 : rd l i = 0
            · exact absurd ⟨by omega, by omega, fun _ => c3⟩ hc'
            · rw [if_neg c3]
          · exact absurd ⟨by omega, by omega, fun h => absurd h e⟩ hc'
theorem iTableOk (s : Int) (l : List Int) (hn : l.length ≤ 4194304) : Ev (fun k => impl_TableOk.f k s l) (tableOk s l) := by
  have ww : 0 ≤ s → s ≤ 8 → wrap64 (s * s) = s * s := fun h0 h8 => by
    have : s * s ≤ 8 * 8 := Int.mul_le_mul h8 h8 h0 (by omega)
    exact w64 (by have := Int.mul_nonneg h0 h0; omega) (by omega)
  unfold impl_TableOk.f tableOk
  by_cases h0 : s < 0
  · rw [decide_eq_false (by omega), Bool.false_and]
    exact ifp h0 (suc (f := fun _ => some false) (fun k => by rw [impl_TableOk.j0, if_pos rfl]) now)
  · refine ifn h0 ?_
    by_cases h8 : s > 8
    · rw [decide_eq_false (by omega), Bool.false_and]
      exact ifp h8 (suc (f := fun _ => some false) (fun k => by rw [impl_TableOk.j0, if_pos rfl]) now)
    · refine ifn h8 ?_
      rw [ww (by omega) (by omega)]
      by_cases hl : (l.length : Int) = s * s
      · rw [decide_eq_true ⟨by omega, by omega, hl⟩, Bool.true_and]
        refine suc (f := fun k => impl_TableOk.l0 k l (l.length : Int) ((0 : Nat) : Int) s l) (fun k => ?_) (iTableOk_l s l (by omega) (by omega) hl l.length 0 (by omega))
        rw [impl_TableOk.j0, if_neg (by simp [hl])]; rfl
      · rw [decide_eq_false (by omega), Bool.false_and]
        exact suc (f := fun _ => some false) (fun k => by rw [impl_TableOk.j0, if_pos (by simp [hl])]) now
theorem icell {s : Int} {l : List Int} (h : tableOk s l = true) {i k : Nat} (hi : (i : Int) < s) (hk : (k : Int) < s) : impl_Table_cell.f s l (i : Int) (k : Int) = some (cellT s l i k) := by
  obtain ⟨h1, h2, h3, h4⟩ := cell_in h hi hk
  have h8 : s ≤ 8 := by unfold tableOk at h; simp only [Bool.and_eq_true, decide_eq_true_eq] at h; exact h.1.2.1
  unfold impl_Table_cell.f
  rw [w64 (i := (i : Int) * s) (by omega) (by omega), w64 (by omega) (by omega), if_pos h1, if_pos h2]
  rfl
theorem checked (a b : Int) : impl_checked.f a b true = some (if okB a b = true then (a, b, true) else (0, 0, false)) := by
  unfold impl_checked.f
  rw [if_pos rfl, iok]
  simp only [Option.bind_some]
  split <;> rfl
theorem iWindow (s : Int) (l : List Int) (i k : Int) (hn : l.length ≤ 4194304) : Ev (fun n => impl_WindowBetween.f n s l i k) (windowB s l i k) := by
  have hf : Ev (fun n => impl_WindowBetween.j0 n i k true s l) (0, 0, false) := suc (f := fun _ => some (0, 0, false)) (fun n => by rw [impl_WindowBetween.j0, if_pos rfl]) now
  unfold impl_WindowBetween.f windowB
  refine bev (iTableOk s l hn) ?_
  by_cases h : tableOk s l = true
  · rw [h]
    refine ifp rfl (bnd (isNode s i) ?_)
    by_cases hi : 0 ≤ i ∧ i < s
    · refine ifp (decide_eq_true hi) (bnd (isNode s k) ?_)
      by_cases hk : 0 ≤ k ∧ k < s
      · refine eqr ?_ (if_pos ⟨rfl, hi, hk⟩).symm
        rw [decide_eq_true hk]
        have h1 := icell h (i := i.toNat) (k := k.toNat) (by omega) (by omega)
        have h2 := icell h (i := k.toNat) (k := i.toNat) (by omega) (by omega)
        have r2 := cell_range h (i := k.toNat) (k := i.toNat) (by omega) (by omega)
        rw [Int.toNat_of_nonneg hi.1, Int.toNat_of_nonneg hk.1] at h1 h2
        refine suc (f := fun _ => some (if okB (-cellT s l k.toNat i.toNat) (cellT s l i.toNat k.toNat) = true then (-cellT s l k.toNat i.toNat, cellT s l i.toNat k.toNat, true) else (0, 0, false))) (fun n => ?_) now
        rw [impl_WindowBetween.j0, if_neg (by simp), h1, h2]
        simp only [Option.bind_some]
        rw [w64 (by omega) (by omega), checked]
        rfl
      · rw [decide_eq_false hk]
        exact eqr hf (if_neg (fun x => hk x.2.2)).symm
    · exact eqr (ifn (by simpa using hi) hf) (if_neg (fun x => hi x.2.1)).symm
  · exact eqr (ifn h hf) (if_neg (fun x => h x.1)).symm
theorem iWind (n : Int) (l : List S76) (i : Int) : Ev (fun k => impl_WindowOf.f k n l i) (windM n l i) := by
  unfold impl_WindowOf.f windM
  have hl := closG_len n l
  have hC := iClose (gOf n l).1 (gOf n l).2
  change Ev _ (closG n l) at hC
  refine bev (iGraphOf n l) (bev hC ?_)
  by_cases c : consM n (l.map trL) = true
  · obtain ⟨hs, e⟩ := consM_ok c
    rw [if_pos c]
    exact ifp (by rw [e]) (bnd (iSimpleOk n l) (ifp hs (bev (iWindow _ _ 0 i (by omega)) now)))
  · rw [if_neg c]
    by_cases hs : simpleOk n (l.map trL) = true
    · exact ifn (by rw [consM_no c hs]; simp) now
    · by_cases h2 : (closG n l).2.2 = true
      · exact ifp h2 (bnd (iSimpleOk n l) (ifn hs now))
      · exact ifn h2 now
theorem rev_l : ∀ (n : Nat) (mid p q : List Int), mid.length = n → p.length = q.length → p.length + q.length + mid.length ≤ 1000000 → Ev (fun k => slices_Reverse_int_int.l0 k (p ++ (mid ++ q)) (p.length : Int) ((p.length : Int) + mid.length - 1)) (p ++ (mid.reverse ++ q)) := by
  intro n
  induction n using Nat.strongRecOn with
  | _ n ih =>
    intro mid p q hn hp hb
    cases mid with
    | nil => exact suc (f := fun _ => some (p ++ ([] ++ q))) (fun k => by rw [slices_Reverse_int_int.l0, if_neg (by simp only [List.length_nil]; omega)]) now
    | cons a t =>
      rcases List.eq_nil_or_concat t with h | ⟨m, b, h⟩
      · subst h
        exact suc (f := fun _ => some (p ++ ([a] ++ q))) (fun k => by rw [slices_Reverse_int_int.l0, if_neg (by simp only [List.length_cons, List.length_nil]; omega)]) now
      · rw [List.concat_eq_append] at h
        subst h
        simp only [List.length_cons, List.length_append, List.length_nil] at hn hb
        have e1 : p ++ (a :: (m ++ [b]) ++ q) = p ++ a :: (m ++ b :: q) := by simp
        have e2 : p ++ a :: (m ++ b :: q) = (p ++ a :: m) ++ b :: q := by simp
        have hlen : ((p ++ a :: (m ++ b :: q)).length : Int) = (p.length : Int) + (m.length + 2) + q.length := by simp only [List.length_append, List.length_cons]; omega
        have r1 : rd (p ++ a :: (m ++ b :: q)) (p.length : Int) = a := rd_mid _ _ _
        have el : (p.length : Int) + ((a :: (m ++ [b])).length : Int) - 1 = ((p ++ a :: m).length : Int) := by simp only [List.length_append, List.length_cons, List.length_nil]; omega
        have r2 : rd (p ++ a :: (m ++ b :: q)) ((p ++ a :: m).length : Int) = b := by rw [e2]; exact rd_mid _ _ _
        have r3 : ((p ++ a :: (m ++ b :: q)).set (p.length : Int).toNat b).set ((p ++ a :: m).length : Int).toNat a = (p ++ [b]) ++ (m ++ (a :: q)) := by
          rw [set_mid]
          have e3 : p ++ b :: (m ++ b :: q) = (p ++ b :: m) ++ b :: q := by simp
          have e4 : (p ++ a :: m).length = (p ++ b :: m).length := by simp
          rw [e3, e4, set_mid]; simp
        have ih' := ih m.length (by omega) m (p ++ [b]) (a :: q) rfl (by simp [hp]) (by simp only [List.length_append, List.length_cons, List.length_nil]; omega)
        rw [e1, el]
        refine eqr (suc (fun k => ?_) ih') (by simp)
        have hl2 : ((p ++ a :: m).length : Int) = p.length + (m.length + 1) := by simp only [List.length_append, List.length_cons]; omega
        rw [slices_Reverse_int_int.l0, if_pos (by omega), if_pos (by omega), if_pos (by omega), if_pos (by omega), if_pos (by omega), r1, r2, r3, hl2, w64 (i := (p.length : Int) + 1) (by omega) (by omega), w64 (by omega) (by omega)]
        have h5 : ((p ++ [b]).length : Int) = (p.length : Int) + 1 := by simp
        rw [h5]
        congr 1
        omega
theorem revM (l : List Int) (h : l.length ≤ 1000) : Ev (fun k => slices_Reverse_int_int.f k l) l.reverse := by
  unfold slices_Reverse_int_int.f
  have := rev_l l.length l [] [] rfl rfl (by simp only [List.length_nil]; omega)
  simp only [List.nil_append, List.append_nil, List.length_nil] at this
  rw [w64 (by omega) (by omega)]
  refine Ev.congr (fun k => ?_) this
  congr 1
  omega
/-- What both programs know of the last round's parents. -/
theorem neg_edge {n : Nat} {es : List E3} (hv : ValidE n es) {k : Int} (hk : 0 ≤ k ∧ k < es.length) : (eAt es k).1 = ((Fr es k.toNat : Nat) : Int) ∧ (eAt es k).2.1 = ((To es k.toNat : Nat) : Int) := by
  have h := hv k.toNat (by omega)
  have e : eAt es k = eAt es ((k.toNat : Nat) : Int) := rfl
  unfold Fr To
  rw [e]
  omega
theorem neg_par {n : Nat} {es : List E3} (hv : ValidE n es) {s : FS} {a : Nat} (hk : 0 ≤ s.l a ∧ s.l a < es.length) : (eAt es (s.l a)).1 = ((par es s a : Nat) : Int) := (neg_edge hv hk).1
theorem all_step {n : Nat} {es : List E3} {L : LS} (i : Nat) (h : L.k = List.replicate n true) : (lstep es i L).k = List.replicate n true := by
  unfold lstep
  split
  · show L.k.set _ true = _
    rw [h]; simp
  · exact h
theorem all_rnd {n : Nat} {es : List E3} : ∀ (d i : Nat) (L : LS), L.k = List.replicate n true → (lrnd es i d L).k = List.replicate n true
  | 0, _, _, h => h
  | d + 1, i, L, h => all_rnd d (i + 1) _ (all_step i h)
theorem all_round {n : Nat} {es : List E3} {L : LS} (h : L.k = List.replicate n true) : (lround es L).k = List.replicate n true := all_rnd _ _ _ h
def trl (s : FS) (es : List E3) (c : Nat) (i : Nat) : List Int := (List.range i).map fun j => s.l (parN es s j c)
theorem trl_succ (s : FS) (es : List E3) (c i : Nat) : trl s es c (i + 1) = trl s es c i ++ [s.l (parN es s i c)] := by unfold trl; rw [List.range_succ, List.map_append]; rfl
theorem trl_len (s : FS) (es : List E3) (c i : Nat) : (trl s es c i).length = i := by unfold trl; simp
theorem iNr_l (n : Nat) (l : List S70) (hl : l.length ≤ 80) (hv : ValidE n (l.map tr)) (r : Int) (R : List Int) : ∀ (d i : Nat) (L : LS) (B : Int), i + d = l.length → GoodL n L → L.k = List.replicate n true → SmallL B L → B + 1000000 * d ≤ 1000000000000 → 0 ≤ B →
    Ev (fun k => impl_NegativeCycle.l0 k (lrnd (l.map tr) i d L).o (lrnd (l.map tr) i d L).l (lrnd (l.map tr) i d L).ch (wrap64 (r + 1)) (n : Int) l) R →
    Ev (fun k => impl_NegativeCycle.l1 k L.o L.l L.ch r l (l.length : Int) (i : Int) (n : Int) l) R
  | 0, i, L, B, hd, hg, ha, hs, hB, h0, h => suc (fun k => by rw [impl_NegativeCycle.l1, if_neg (by omega)]; rfl) h
  | d + 1, i, L, B, hd, hg, ha, hs, hB, h0, h => by
    have ih := iNr_l n l hl hv r R d (i + 1) (lstep (l.map tr) i L) (B + 1000000) (by omega) (good_step i hg) (all_step i ha) (small_step hv (by simp only [List.length_map]; omega) hg hs) (by omega) (by omega) h
    refine suc (fun k => ?_) ih
    obtain ⟨⟨f0, f1⟩, ⟨t0, t1⟩, w0, w1⟩ := hv i (by simp only [List.length_map]; omega)
    obtain ⟨h1, h2, h3⟩ := hg
    have hb := hs _ (rd_mem (l := L.o) f0 (by omega))
    have kk : ∀ v : Int, 0 ≤ v → v < n → rb L.k v = true := fun v v0 v1 => by
      rw [ha]; unfold rb rdOf
      rw [List.getD_eq_getElem?_getD, List.getElem?_replicate, if_pos (by omega)]; rfl
    rw [impl_NegativeCycle.l1, if_pos (by omega), if_pos (by omega), if_pos (by omega)]
    simp only [tr0, tr1, tr2]
    rw [up1 (by omega) (by omega), w64 (i := rd L.o _ + _) (by omega) (by omega), if_pos f0, if_pos (by omega), if_pos t0, if_pos (by omega)]
    unfold lstep better
    rw [kk _ f0 f1, kk _ t0 t1]
    by_cases c : rd L.o (eAt (l.map tr) i).1 + (eAt (l.map tr) i).2.2 < rd L.o (eAt (l.map tr) i).2.1
    · rw [if_pos c, if_pos (by omega)]
      simp only [c, decide_true, Bool.not_true, Bool.false_or, Bool.and_self, if_true]
      rfl
    · rw [if_neg c]
      simp only [c, decide_false, Bool.not_true, Bool.or_self, Bool.and_false, Bool.false_eq_true, if_false]
      rfl
theorem iNr (n : Nat) (hn : n ≤ 8) (l : List S70) (hl : l.length ≤ 80) (hv : ValidE n (l.map tr)) (R : List Int) : ∀ (d i : Nat) (L : LS) (B : Int), i + d = n → GoodL n L → L.k = List.replicate n true → SmallL B L → B + 80000000 * d ≤ 1000000000 → 0 ≤ B →
    Ev (fun k => impl_NegativeCycle.l0 k (lrounds (l.map tr) d L).o (lrounds (l.map tr) d L).l (lrounds (l.map tr) d L).ch (n : Int) (n : Int) l) R →
    Ev (fun k => impl_NegativeCycle.l0 k L.o L.l L.ch (i : Int) (n : Int) l) R
  | 0, i, L, B, hd, hg, ha, hs, hB, h0, h => by
    obtain rfl : i = n := by omega
    exact h
  | d + 1, i, L, B, hd, hg, ha, hs, hB, h0, h => by
    have hg' := good_round (es := l.map tr) hg
    have hs' := small_round hv (by simpa using hl) hg hs
    have ih := iNr n hn l hl hv R d (i + 1) (lround (l.map tr) L) (B + 80000000) (by omega) hg' (all_round ha) hs' (by omega) (by omega) h
    refine suc (f := fun k => impl_NegativeCycle.l1 k L.o L.l (-1) (i : Int) l (l.length : Int) ((0 : Nat) : Int) (n : Int) l) (fun k => by rw [impl_NegativeCycle.l0, if_pos (by omega)]; rfl) ?_
    refine iNr_l n l hl hv (i : Int) R l.length 0 { L with ch := -1 } B (by omega) hg ha hs (by omega) h0 ?_
    have e : lrnd (l.map tr) 0 l.length { L with ch := -1 } = lround (l.map tr) L := by unfold lround; rw [List.length_map]
    rw [e, up1 (by omega) (by omega)]
    exact ih
theorem iN3 (n : Nat) (hn : n ≤ 8) (l : List S70) (hv : ValidE n (l.map tr)) (N : Neg n (l.map tr)) (m : Nat) (hm : m < n) (hb : parN (l.map tr) (negS n (l.map tr)) (m + 1) (negC n (l.map tr)) = negC n (l.map tr)) (hno : ∀ i, i < m → parN (l.map tr) (negS n (l.map tr)) (i + 1) (negC n (l.map tr)) ≠ negC n (l.map tr)) : ∀ (d i : Nat), i + d = m + 1 →
    Ev (fun k => impl_NegativeCycle.l3 k (lrounds (l.map tr) n (negInit n)).l (negC n (l.map tr) : Int) (trl (negS n (l.map tr)) (l.map tr) (negC n (l.map tr)) i) (parN (l.map tr) (negS n (l.map tr)) i (negC n (l.map tr)) : Int) (n : Int) l) (trl (negS n (l.map tr)) (l.map tr) (negC n (l.map tr)) (m + 1)).reverse
  | 0, i, hd => by
    obtain rfl : i = m + 1 := by omega
    have hr := revM (trl (negS n (l.map tr)) (l.map tr) (negC n (l.map tr)) (m + 1)) (by rw [trl_len]; omega)
    refine suc (fun k => ?_) (bev hr now)
    rw [impl_NegativeCycle.l3, if_neg (by rw [trl_len]; omega), if_pos (by rw [hb])]
  | d + 1, i, hd => by
    have ih := iN3 n hn l hv N m hm hb hno d (i + 1) (by omega)
    obtain ⟨a, b, c⟩ := neg_lastC N i
    have hg := good_rounds (es := l.map tr) n _ (good_neg n)
    have e1 : rd (lrounds (l.map tr) n (negInit n)).l (parN (l.map tr) (negS n (l.map tr)) i (negC n (l.map tr)) : Int) = (negS n (l.map tr)).l (parN (l.map tr) (negS n (l.map tr)) i (negC n (l.map tr))) := rfl
    have e2 := neg_par hv a
    have hlm : ((l.map tr).length : Int) = l.length := by simp
    rw [hlm] at a
    refine suc (fun k => ?_) ih
    rw [impl_NegativeCycle.l3, e1, trl_len, trl_succ]
    have e3 : ((parN (l.map tr) (negS n (l.map tr)) (i + 1) (negC n (l.map tr)) : Nat) : Int) = (rd_T70 l ((negS n (l.map tr)).l (parN (l.map tr) (negS n (l.map tr)) i (negC n (l.map tr))))).f0 := by
      rw [tr0, e2]; rfl
    rw [← e3]
    by_cases h0 : i = 0
    · subst h0
      rw [if_pos (by omega), if_pos (by omega), if_pos (by rw [hg.2.1]; omega), if_pos (by omega), if_pos a.1, if_pos a.2]
    · have hne := hno (i - 1) (by omega)
      rw [show i - 1 + 1 = i by omega] at hne
      rw [if_neg (by omega), if_neg (by omega), if_pos (by omega), if_pos (by rw [hg.2.1]; omega), if_pos (by omega), if_pos a.1, if_pos a.2]
theorem iN2 (n : Nat) (hn : n ≤ 8) (l : List S70) (hv : ValidE n (l.map tr)) (N : Neg n (l.map tr)) (R : List Int) (h : Ev (fun k => impl_NegativeCycle.l3 k (lrounds (l.map tr) n (negInit n)).l (negC n (l.map tr) : Int) [] (negC n (l.map tr) : Int) (n : Int) l) R) : ∀ (d i : Nat), i + d = n →
    Ev (fun k => impl_NegativeCycle.l2 k (lrounds (l.map tr) n (negInit n)).l (parN (l.map tr) (negS n (l.map tr)) i (negV n (l.map tr)) : Int) (i : Int) (n : Int) l) R
  | 0, i, hd => by
    obtain rfl : i = n := by omega
    exact suc (fun k => by rw [impl_NegativeCycle.l2, if_neg (by omega)]; rfl) h
  | d + 1, i, hd => by
    have ih := iN2 n hn l hv N R h d (i + 1) (by omega)
    have a := N.last i
    have c := N.inn i
    have hg := good_rounds (es := l.map tr) n _ (good_neg n)
    have e1 : rd (lrounds (l.map tr) n (negInit n)).l (parN (l.map tr) (negS n (l.map tr)) i (negV n (l.map tr)) : Int) = (negS n (l.map tr)).l (parN (l.map tr) (negS n (l.map tr)) i (negV n (l.map tr))) := rfl
    have e2 := neg_par hv a
    have hlm : ((l.map tr).length : Int) = l.length := by simp
    rw [hlm] at a
    refine suc (fun k => ?_) ih
    have e3 : ((parN (l.map tr) (negS n (l.map tr)) (i + 1) (negV n (l.map tr)) : Nat) : Int) = (rd_T70 l ((negS n (l.map tr)).l (parN (l.map tr) (negS n (l.map tr)) i (negV n (l.map tr))))).f0 := by
      rw [tr0, e2]; rfl
    rw [impl_NegativeCycle.l2, e1, ← e3, if_pos (by omega), if_pos (by omega), if_pos (by rw [hg.2.1]; omega), if_pos a.1, if_pos a.2, up1 (by omega) (by omega)]; rfl
theorem iNeg (n : Int) (l : List S70) : Ev (fun k => impl_NegativeCycle.f k n l) (negM n (l.map tr)) := by
  unfold impl_NegativeCycle.f negM
  refine bnd (iGraphOk n l) ?_
  by_cases hg : graphOk n (l.map tr) = true
  · obtain ⟨h0, h8, hl, _⟩ := graphOk_iff hg
    have hl : l.length ≤ 80 := by simpa using hl
    have hv := valid_of hg
    refine ifp hg (ifp h0 (ifp (by omega) ?_))
    obtain ⟨m, rfl⟩ : ∃ m : Nat, n = (m : Int) := ⟨n.toNat, by omega⟩
    rw [Int.toNat_natCast] at hv ⊢
    have hrep : slices_Repeat_int_int.f [(-1)] (m : Int) = some (List.replicate m (-1)) := by
      unfold slices_Repeat_int_int.f
      rw [if_pos ⟨rfl, by omega, by omega⟩]; rfl
    refine bnd hrep ?_
    refine iNr m (by omega) l hl hv _ m 0 (negInit m) 0 (by omega) (good_neg m) rfl (small_neg m) (by omega) (by omega) ?_
    have ech : (lrounds (l.map tr) m (negInit m)).ch = (negS m (l.map tr)).ch := rfl
    by_cases hq : 0 ≤ (negS m (l.map tr)).ch
    · have N := neg_of hv hq
      obtain ⟨q, hq1, hq2, hq3, _, hq4⟩ := negT_eq N
      have h3 := iN3 m (by omega) l hv N q hq1 hq2 hq3 (q + 1) 0 (by omega)
      have h2 := iN2 m (by omega) l hv N _ h3 m 0 (by omega)
      rw [if_pos ⟨hg, hq⟩, hq4]
      refine suc (fun k => ?_) h2
      have hc := N.ch
      rw [List.length_map] at hc
      rw [impl_NegativeCycle.l0, if_neg (by omega), ech, if_neg (by omega), if_pos hq, if_pos (by omega), tr1]
      have e : (eAt (l.map tr) (negS m (l.map tr)).ch).2.1 = ((negV m (l.map tr) : Nat) : Int) := (neg_edge hv ⟨hq, by rw [List.length_map]; omega⟩).2
      rw [e]; rfl
    · refine eqr (suc (f := fun _ => some ([] : List Int)) (fun k => ?_) now) (if_neg (fun h => hq h.2)).symm
      rw [impl_NegativeCycle.l0, if_neg (by omega), ech, if_pos (by omega)]
  · exact eqr (ifn hg now) (if_neg (fun h => hg h.1)).symm
theorem iCons (n : Int) (l : List S76) : Ev (fun k => impl_IsConsistent.f k n l) (consM n (l.map trL)) := by
  unfold impl_IsConsistent.f consM
  refine bnd (iSimpleOk n l) ?_
  by_cases h : simpleOk n (l.map trL) = true
  · rw [if_pos h]
    have hN := iNeg n (lkS l)
    rw [lkS_tr] at hN
    have hG := iGraphOf n l
    unfold gOf at hG
    rw [if_pos h] at hG
    exact ifp h (bev hG (bev hN now))
  · rw [if_neg h]; exact ifn h now
theorem iBnd_l (p : Int → Int → Int) (n : Int) (l : List S76) (h8 : n ≤ 8) : ∀ (d i : Nat) (x : List Int), (i : Int) + d = n → x.length = i → Ev (fun k => bndL p k x i n l) (tmR x (tmL p n l d i))
  | 0, i, x, hd, hx => eqr (suc (f := fun _ => some (x, true)) (fun k => by rw [bndL, if_neg (by omega)]) now) (by simp [tmL, tmR])
  | d + 1, i, x, hd, hx => by
    have ih := fun q => iBnd_l p n l h8 d (i + 1) (x ++ [q]) (by omega) (by simp [hx])
    have hW := iWind n l i
    simp only [tmL]
    generalize windM n l i = t at hW ⊢
    refine suc (f := fun k => (impl_WindowOf.f k n l i).bind fun t => (if t.2.2 = true then (if gWeightB (p t.1 t.2.1) = true then (if x.length < 17592186044416 then (bndL p k (x ++ [p t.1 t.2.1]) ((i + 1 : Nat) : Int) n l) else none) else some ([], false)) else some ([], false))) (fun k => ?_) (bev hW ?_)
    · rw [bndL, if_pos (by omega), up1 (by omega) (by omega)]; rfl
    · by_cases c : t.2.2 = true
      · refine ifp c ?_
        by_cases q : -1000000 < p t.1 t.2.1 ∧ p t.1 t.2.1 < 1000000
        · rw [if_pos ⟨c, q⟩, ← tmR_cons]
          exact ifp (decide_eq_true q) (ifp (by omega) (ih _))
        · rw [if_neg (fun h => q h.2)]
          exact ifn (by unfold gWeightB; rw [decide_eq_false q]; simp) now
      · rw [if_neg (fun h => c h.1)]
        exact ifn c now
theorem iBnd (p : Int → Int → Int) (n : Int) (l : List S76) : Ev (fun k => bndF p k n l) (timesM p n l) := by
  unfold bndF timesM
  refine bev (iCons n l) ?_
  by_cases c : consM n (l.map trL) = true
  · rw [if_pos c]
    have := consM_n c
    exact ifp c (iBnd_l p n l (by omega) n.toNat 0 [] (by omega) rfl)
  · rw [if_neg c]; exact ifn c now
theorem iEarliestTimes (n : Int) (l : List S76) : Ev (fun k => impl_EarliestTimes.f k n l) (timesM (fun x y => x) n l) := iBnd _ n l
theorem iLatestTimes (n : Int) (l : List S76) : Ev (fun k => impl_LatestTimes.f k n l) (timesM (fun x y => y) n l) := iBnd _ n l
theorem iCf_l (idx c : List Int) (hc : c.length ≤ 8) (hin : ∀ x ∈ c, 0 ≤ x ∧ x < idx.length) : ∀ (d i : Nat) (out : List Int), i + d = c.length → out.length ≤ i → Ev (fun k => impl_ConflictOf.l0 k idx out c (c.length : Int) (i : Int)) (out ++ (c.drop i).map (fun k => rd idx k))
  | 0, i, out, hd, ho => by
    rw [List.drop_eq_nil_of_le (by omega), List.map_nil, List.append_nil]
    exact suc (f := fun _ => some out) (fun k => by rw [impl_ConflictOf.l0, if_neg (by omega)]) now
  | d + 1, i, out, hd, ho => by
    have hi : i < c.length := by omega
    have e : rd c (i : Int) = c[i] := rd_at hi
    have hm := hin c[i] (List.getElem_mem _)
    have ih := iCf_l idx c hc hin d (i + 1) (out ++ [rd idx c[i]]) (by omega) (by simp only [List.length_append, List.length_cons, List.length_nil]; omega)
    rw [List.drop_eq_getElem_cons hi, List.map_cons]
    refine eqr (suc (fun k => ?_) ih) (by simp)
    rw [impl_ConflictOf.l0, if_pos (by omega), if_pos (by omega), if_pos (by omega), e, if_pos hm.1, if_pos hm.2, if_pos (by omega), up1 (by omega) (by omega)]; rfl

theorem iConf (n : Int) (l : List S76) : Ev (fun k => impl_ConflictOf.f k n l) (confM n (l.map trL)) := by
  unfold impl_ConflictOf.f confM
  refine bnd (iSimpleOk n l) ?_
  by_cases h : simpleOk n (l.map trL) = true
  · rw [if_pos h]
    have hN := iNeg n (lkS l)
    rw [lkS_tr] at hN
    have hc := iCf_l (linksI 0 (l.map trL)) (negM n (linksE (l.map trL))) (negM_len _ _) (fun x hx => by
      have := negM_in hx
      rw [linksI_len]; exact this) (negM n (linksE (l.map trL))).length 0 [] (by omega) (by simp)
    rw [List.drop_zero, List.nil_append] at hc
    exact ifp h (bev (iGr l h) (bev hN hc))
  · rw [if_neg h]; exact ifn h now
theorem pot_congr {n : Int} {l : List S76} (N : Net n l) {f g : Nat → Int} (h : ∀ i : Nat, (i : Int) < n → f i = g i) (hp : Pot l f) : Pot l g := by
  intro x hx
  obtain ⟨⟨a0, a1⟩, ⟨b0, b1⟩, _⟩ := (graphOk_iff (linksE_ok (net_simple N))).2.2.2 x hx
  rw [← h x.2.1.toNat (by omega), ← h x.1.toNat (by omega)]
  exact hp x hx
theorem sch_l (n : Int) (g : List S76) (a b t : List Int) (lo hi : Nat → Int) (hw : ∀ i : Nat, (i : Int) < n → windM n g (i : Int) = (lo i, hi i, true)) (h8 : n ≤ 8) (ht : (t.length : Int) = n) (ha : (a.length : Int) = n) (hb : (b.length : Int) = n)
    (hra : ∀ i : Nat, (i : Int) < n → rd a (i : Int) = lo i) (hrb : ∀ i : Nat, (i : Int) < n → rd b (i : Int) = hi i) (hin : ∀ i : Nat, (i : Int) < n → lo i ≤ rd t (i : Int) ∧ rd t (i : Int) ≤ hi i) (hk : brk n g t = -1) :
    ∀ (d i : Nat), i + d = t.length → Ev (fun k => laws_FnSchedules.l0 k a b t t (t.length : Int) (i : Int) n g) true
  | 0, i, hd => suc (f := fun k => (impl_BrokenLink.f n g t).bind fun t382 => some (t382 == (-1))) (fun k => by rw [laws_FnSchedules.l0, if_neg (by omega)]) (bnd (iBroken n g t) (eqr now (by rw [hk]; rfl)))
  | d + 1, i, hd => by
    have ih := sch_l n g a b t lo hi hw h8 ht ha hb hra hrb hin hk d (i + 1) (by omega)
    have hi1 : (i : Int) < n := by omega
    have hW := iWind n g i
    have hok := windM_ok (n := n) (l := g) (i := (i : Int)) (by rw [hw i hi1])
    rw [hw i hi1] at hW hok
    obtain ⟨x1, x2⟩ := hin i hi1
    have hC := contB_f (x := rd t (i : Int)) hok x1 x2
    have y1 := hra i hi1
    have y2 := hrb i hi1
    refine suc (f := fun k => (impl_WindowOf.f k n g i).bind fun bt384 => (if bt384.2.2 = true then ((impl_Contains.f bt384.1 bt384.2.1 (rd t (i : Int))).bind fun t388 => (if t388 = true then (if (i : Int) < (a.length : Int) then (if (rd t (i : Int)) < (rd a (i : Int)) then (some false) else (if (i : Int) < (b.length : Int) then (if (rd t (i : Int)) > (rd b (i : Int)) then (some false) else (laws_FnSchedules.l0 k a b t t (t.length : Int) ((i + 1 : Nat) : Int) n g)) else (none))) else (none)) else (some false))) else (some false))) (fun k => ?_) (bev hW (ifp rfl (bnd hC (ifp rfl (ifp (by omega) (ifn (by omega) (ifp (by omega) (ifn (by omega) ih))))))))
    rw [laws_FnSchedules.l0, if_pos (by omega), if_pos (by omega), if_pos (by omega), up1 (by omega) (by omega)]; rfl

theorem FnSchedules : laws_FnSchedules.Pure := by
  intro l hl _
  refine Ev.rounds ?_
  unfold laws_FnSchedules.f
  by_cases hx : (l.length : Int) > 1048576
  · exact ifp hx now
  refine ifn hx ?_
  obtain ⟨n, g, hm, N⟩ := makeNet l (by omega)
  have hn := N.hn
  have hs := net_simple N
  refine bev hm (bev (iCons n g) ?_)
  have iE := iEarliestTimes n g
  have iL := iLatestTimes n g
  have iC := iConf n g
  by_cases c : consM n (g.map trL) = true
  · refine ifp c ?_
    obtain ⟨lo, hi, hw, lo0, hi0, pl, ph, hq⟩ := net_win N c
    have hcf : confM n (g.map trL) = [] := by
      unfold consM at c
      rw [if_pos hs] at c
      unfold confM
      rw [if_pos hs, List.isEmpty_iff.1 c]; rfl
    rw [hcf] at iC
    obtain ⟨t, ht, t1, t2, t3⟩ := makeT l (by omega) n hn
    obtain ⟨m, rfl⟩ : ∃ m : Nat, n = (m : Int) := ⟨n.toNat, by omega⟩
    have val : ∀ (p : Int → Int → Int) (f : Nat → Int), (∀ i, p (lo i) (hi i) = f i) → (∀ i : Nat, (i : Int) < m → -64000 ≤ f i ∧ f i ≤ 64000) → timesM p m g = ((List.range' 0 m).map f, true) := by
      intro p f hp hf
      unfold timesM
      rw [if_pos c, Int.toNat_natCast, tmL_val p m g lo hi (fun i hi1 => ⟨(hw i hi1).1, by rw [hp]; have := hf i hi1; omega, by rw [hp]; have := hf i hi1; omega⟩) m 0 (by omega)]
      simp only [tmR, hp, List.nil_append]
    rw [val _ lo (fun _ => rfl) (fun i h => (hw i h).2.1)] at iE
    rw [val _ hi (fun _ => rfl) (fun i h => (hw i h).2.2)] at iL
    have bnds : ∀ f : Nat → Int, (∀ i : Nat, (i : Int) < m → -64000 ≤ f i ∧ f i ≤ 64000) → ∀ i : Nat, -64000 ≤ rd ((List.range' 0 m).map f) (i : Int) ∧ rd ((List.range' 0 m).map f) (i : Int) ≤ 64000 := by
      intro f hf i
      by_cases h : i < m
      · rw [rd_range f m h]; exact hf i (by omega)
      · rw [rd_range0 f m (by omega)]; omega
    have sch : ∀ f : Nat → Int, f 0 = 0 → (∀ i : Nat, (i : Int) < m → -64000 ≤ f i ∧ f i ≤ 64000) → Pot g f → sched m g ((List.range' 0 m).map f) = true := fun f f0 hf hp =>
      (net_sched N (by simp) ((rd_range f m (j := 0) (by omega)).trans f0) (bnds f hf)).2 (pot_congr N (fun i hi1 => (rd_range f m (by omega)).symm) hp)
    have s1 := sch lo lo0 (fun i h => (hw i h).2.1) pl
    have s2 := sch hi hi0 (fun i h => (hw i h).2.2) ph
    have l1 : (((List.range' 0 m).map lo).length : Int) = m := by simp
    have l2 : (((List.range' 0 m).map hi).length : Int) = m := by simp
    refine bev iE (bev iL (ifp rfl (ifp rfl (ifp l1 (ifp l2 (bnd (iSched _ g _) (ifp s1 (bnd (iSched _ g _) (ifp s2 (bev iC ?_))))))))))
    refine suc (fun k => by rw [laws_FnSchedules.j0, if_neg (by simp)]) (bev ht (bnd (iSched _ g t) ?_))
    have hT := net_times N t1 t3
    by_cases s : sched m g t = true
    · have hp := (net_sched N t1 t2 t3).1 s
      have hin := hq (fun i => rd t (i : Int)) t2 hp
      have hk : brk m g t = -1 := by
        have h1 := (brk_neg hT).2 ((pot_broken N t1 t3).2 hp)
        have h2 := brk_cases (n := (m : Int)) (l := g) (t := t)
        omega
      refine ifp s ?_
      exact sch_l m g _ _ t lo hi (fun i h => (hw i h).1) (by omega) t1 l1 l2 (fun i h => rd_range lo m (by omega)) (fun i h => rd_range hi m (by omega)) hin hk t.length 0 (by omega)
    · refine ifn s (bnd (iBroken _ g t) (eqr now ?_))
      have h1 : ¬ brk m g t < 0 := fun h => s ((net_sched N t1 t2 t3).2 ((pot_broken N t1 t3).1 ((brk_neg hT).1 h)))
      exact decide_eq_true (show brk (m : Int) g t ≥ 0 by omega)
  · refine ifn c ?_
    have hne : 0 < (confM n (g.map trL)).length := by
      unfold consM at c
      rw [if_pos hs] at c
      unfold confM
      rw [if_pos hs, List.length_map]
      exact List.length_pos_iff.2 (fun e => c (by rw [e]; rfl))
    have ea : timesM (fun x y => x) n g = ([], false) := by unfold timesM; rw [if_neg c]
    rw [ea] at iE
    refine bev iC (bev iE (ifp (by omega) (ifn (by simp) (bnd (iSimpleOk n g) ?_))))
    rw [hs]; exact now

end Go.Proofs.Ytbbblnmngjhadaa.Own
