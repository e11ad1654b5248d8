/- Negative cycles: what the parents of the rounds come to. Plain lemmas over functions and lists; no program. -/
import Derived.Test.YtbbblnmngjhadaaBf
namespace Go.Proofs.YtbbblnmngjhadaaT
open Go.RowKit Go.Proofs.YtbbblnmngjhadaaW.PrintWords
set_option linter.unusedVariables false

/-! ### parents that turn back -/
theorem parN_all {es : List E3} {s : FS} {v n a b : Nat} (hab : a < b) (hb : b ≤ n) (e : parN es s a v = parN es s b v) (j : Nat) : ∃ i, i < n ∧ parN es s j v = parN es s i v := by
  induction j using Nat.strongRecOn with
  | _ j ih =>
    by_cases h : j < b
    · exact ⟨j, by omega, rfl⟩
    · obtain ⟨i, hi, e2⟩ := ih (a + (j - b)) (by omega)
      refine ⟨i, hi, ?_⟩
      rw [← e2, parN_add, e, ← parN_add, show b + (j - b) = j by omega]
theorem least {P : Nat → Prop} : ∀ (m : Nat), 0 < m → P m → ∃ k, 0 < k ∧ k ≤ m ∧ P k ∧ ∀ i, 0 < i → i < k → ¬ P i := by
  intro m
  induction m using Nat.strongRecOn with
  | _ m ih =>
    intro h0 hp
    by_cases h : ∃ i, 0 < i ∧ i < m ∧ P i
    · obtain ⟨i, h1, h2, h3⟩ := h
      obtain ⟨k, k1, k2, k3, k4⟩ := ih i h2 h1 h3
      exact ⟨k, k1, by omega, k3, k4⟩
    · exact ⟨m, h0, Nat.le_refl _, hp, fun i h1 h2 h3 => h ⟨i, h1, h2, h3⟩⟩
/-- The cycle's edges from c backwards, at most d of them. -/
def ftrail (es : List E3) (s : FS) (c : Nat) : Nat → Nat → List Int
  | 0, _ => []
  | d + 1, a => s.l a :: (if par es s a = c then [] else ftrail es s c d (par es s a))
theorem ftrail_eq (es : List E3) (s : FS) (c : Nat) : ∀ (d m a : Nat), m < d → parN es s (m + 1) a = c → (∀ i, i < m → parN es s (i + 1) a ≠ c) → ftrail es s c d a = (List.range (m + 1)).map fun i => s.l (parN es s i a)
  | 0, m, a, h, _, _ => by omega
  | d + 1, 0, a, _, h1, _ => by
    have e : par es s a = c := h1
    simp [ftrail, e, parN]
  | d + 1, m + 1, a, h, h1, h2 => by
    have e : par es s a ≠ c := h2 0 (by omega)
    have hs : ∀ i, parN es s i (par es s a) = parN es s (i + 1) a := fun i => by
      rw [show i + 1 = 1 + i by omega, parN_add]; rfl
    rw [ftrail, if_neg e, ftrail_eq es s c d m (par es s a) (by omega) (by rw [hs]; exact h1) (fun i hi => by rw [hs]; exact h2 (i + 1) (by omega)), List.range_succ_eq_map (n := m + 1), List.map_cons, List.map_map]
    congr 1
    apply List.map_congr_left
    intro i _
    simp only [Function.comp_apply, hs]
/-- What a change in the last of n rounds leaves. -/
structure Cyc (es : List E3) (s : FS) (T : Nat → Nat) (n v : Nat) : Prop where
  pos : ∀ j, 0 < T (parN es s j v)
  inn : ∀ j, parN es s j v < n
  back : ∃ m, 0 < m ∧ m ≤ n ∧ parN es s m (parN es s n v) = parN es s n v ∧ ∀ i, 0 < i → i < m → parN es s i (parN es s n v) ≠ parN es s n v
theorem cyc_of {es : List E3} {s : FS} {T x : Nat → Nat} {t n : Nat} (hn : 0 < n) (hv : ∀ i, i < es.length → Fr es i < n ∧ To es i < n) (I : Inv es s T x t (n - 1) es.length) {v : Nat} (hlt : v < n) (h : (n - 1) * es.length + 1 ≤ T v) : Cyc es s T n v := by
  obtain ⟨pos, inn, a, b, hab, hb, e⟩ := cycle_of hn hv I hlt h
  refine ⟨fun j => ?_, fun j => ?_, ?_⟩
  · obtain ⟨i, hi, e2⟩ := parN_all hab hb e j
    rw [e2]; exact pos i hi
  · obtain ⟨i, hi, e2⟩ := parN_all hab hb e j
    rw [e2]; exact inn i (by omega)
  · have e3 : parN es s (b - a) (parN es s n v) = parN es s n v := by
      rw [← parN_add, show n + (b - a) = b + (n - a) by omega, parN_add, ← e, ← parN_add, show a + (n - a) = n by omega]
    obtain ⟨k, k1, k2, k3, k4⟩ := least (P := fun m => parN es s m (parN es s n v) = parN es s n v) (b - a) (by omega) e3
    exact ⟨k, k1, by omega, k3, k4⟩
/-- An edge behind each parent. -/
theorem last_edge {es : List E3} {s : FS} {T x : Nat → Nat} {t r j : Nat} (I : Inv es s T x t r j) {v : Nat} (h : 0 < T v) : 0 ≤ s.l v ∧ s.l v < es.length ∧ To es (s.l v).toNat = v ∧ par es s v = Fr es (s.l v).toNat := by
  obtain ⟨_, i, hi, hl, ht, _⟩ := I.P _ h
  rw [hl]
  refine ⟨by omega, by omega, ?_, ?_⟩
  · rw [show ((i : Int)).toNat = i from rfl]; exact ht
  · unfold par; rw [hl]
/-- The weights along m parents. -/
def sumP (es : List E3) (s : FS) (v : Nat) : Nat → Int
  | 0 => 0
  | m + 1 => Wt es (s.l (parN es s m v)).toNat + sumP es s v m
theorem sumP_low {es : List E3} {s : FS} {T x : Nat → Nat} {t r j : Nat} (I : Inv es s T x t r j) (v : Nat) (hp : ∀ i, 0 < T (parN es s i v)) : ∀ m, s.o (parN es s m v) + sumP es s v m ≤ s.o v ∧ (0 < m → s.o (parN es s m v) + sumP es s v m = s.o v → T (parN es s m v) < T v)
  | 0 => ⟨by simp [parN, sumP], fun h => by omega⟩
  | m + 1 => by
    obtain ⟨h2, h3⟩ := sumP_low I v hp m
    obtain ⟨_, i, hi, hl, ht, hk, h4, h5, h6⟩ := I.P _ (hp m)
    have e : parN es s (m + 1) v = Fr es i := by show par es s (parN es s m v) = _; unfold par; rw [hl]; simp
    have e2 : sumP es s v (m + 1) = Wt es i + sumP es s v m := by rw [sumP, hl]; rfl
    rw [e, e2]
    refine ⟨by omega, fun _ heq => ?_⟩
    have h7 := h5 (by omega)
    by_cases hm : 0 < m
    · have := h3 hm (by omega); omega
    · have : m = 0 := by omega
      subst this
      exact h7
theorem sumP_neg {es : List E3} {s : FS} {T x : Nat → Nat} {t r j : Nat} (I : Inv es s T x t r j) {v m : Nat} (hp : ∀ i, 0 < T (parN es s i v)) (hm : 0 < m) (hb : parN es s m v = v) : sumP es s v m < 0 := by
  obtain ⟨h1, h2⟩ := sumP_low I v hp m
  rw [hb] at h1 h2
  rcases Int.lt_or_le (sumP es s v m) 0 with h | h
  · exact h
  · have := h2 hm (by omega); omega

/-! ### the cycle that is told -/
def negInit (n : Nat) : LS := ⟨List.replicate n 0, List.replicate n (-1), List.replicate n true, -1⟩
theorem good_neg (n : Nat) : GoodL n (negInit n) := ⟨by simp [negInit], by simp [negInit], by simp [negInit]⟩
theorem small_neg (n : Nat) : SmallL 0 (negInit n) := by
  intro x hx
  have : x = 0 := (List.mem_replicate.1 hx).2
  omega
def negS (n : Nat) (es : List E3) : FS := fsOf (lrounds es n (negInit n))
def negV (n : Nat) (es : List E3) : Nat := To es (negS n es).ch.toNat
def negC (n : Nat) (es : List E3) : Nat := parN es (negS n es) n (negV n es)
def negT (n : Nat) (es : List E3) : List Int := ftrail es (negS n es) (negC n es) n (negC n es)
def negM (n : Int) (es : List E3) : List Int := if graphOk n es = true ∧ 0 ≤ (negS n.toNat es).ch then (negT n.toNat es).reverse else []
theorem neg_fs {n : Nat} {es : List E3} (hv : ValidE n es) : negS n es = frounds es n (fsOf (negInit n)) := fs_rounds hv n _ (good_neg n)
theorem ch_zero {n : Nat} {es : List E3} (h : 0 ≤ (negS n es).ch) : 0 < n := by
  rcases Nat.eq_zero_or_pos n with e | e
  · subst e; unfold negS at h; simp [lrounds, negInit, fsOf] at h
  · exact e
/-- All that the program's walks and the laws need of a change in the last round. -/
structure Neg (n : Nat) (es : List E3) : Prop where
  n0 : 0 < n
  ch : (negS n es).ch.toNat < es.length
  last : ∀ j, 0 ≤ (negS n es).l (parN es (negS n es) j (negV n es)) ∧ (negS n es).l (parN es (negS n es) j (negV n es)) < es.length
  toE : ∀ j, To es ((negS n es).l (parN es (negS n es) j (negV n es))).toNat = parN es (negS n es) j (negV n es)
  inn : ∀ j, parN es (negS n es) j (negV n es) < n
  back : ∃ m, 0 < m ∧ m ≤ n ∧ parN es (negS n es) m (negC n es) = negC n es ∧ (∀ i, 0 < i → i < m → parN es (negS n es) i (negC n es) ≠ negC n es) ∧ sumP es (negS n es) (negC n es) m < 0
theorem neg_of {n : Nat} {es : List E3} (hv : ValidE n es) (h : 0 ≤ (negS n es).ch) : Neg n es := by
  have hn := ch_zero h
  have hv' := valid_nodes hv
  obtain ⟨T, x, t, I⟩ := inv_rounds (es := es) (fsOf (negInit n)) (n - 1)
  rw [show n - 1 + 1 = n by omega, ← neg_fs hv] at I
  obtain ⟨c, hc, hcl, hT⟩ := I.C h
  have hV : negV n es = To es c := by unfold negV; rw [hc]; rfl
  have C := cyc_of hn hv' I (hv' c hcl).2 hT
  rw [← hV] at C
  have hl := fun j => last_edge I (C.pos j)
  obtain ⟨m, m0, m1, m2, m3⟩ := C.back
  refine ⟨hn, by rw [hc]; exact hcl, fun j => ⟨(hl j).1, (hl j).2.1⟩, fun j => (hl j).2.2.1, C.inn, m, m0, m1, m2, m3, ?_⟩
  refine sumP_neg I (fun i => ?_) m0 m2
  show 0 < T (parN es (negS n es) i (parN es (negS n es) n (negV n es)))
  rw [← parN_add]
  exact C.pos _
theorem neg_lastC {n : Nat} {es : List E3} (N : Neg n es) (j : Nat) : (0 ≤ (negS n es).l (parN es (negS n es) j (negC n es)) ∧ (negS n es).l (parN es (negS n es) j (negC n es)) < es.length) ∧ To es ((negS n es).l (parN es (negS n es) j (negC n es))).toNat = parN es (negS n es) j (negC n es) ∧ parN es (negS n es) j (negC n es) < n := by
  have e : parN es (negS n es) j (negC n es) = parN es (negS n es) (n + j) (negV n es) := by rw [parN_add]; rfl
  rw [e]
  exact ⟨N.last _, N.toE _, N.inn _⟩
theorem negT_eq {n : Nat} {es : List E3} (N : Neg n es) : ∃ m, m < n ∧ parN es (negS n es) (m + 1) (negC n es) = negC n es ∧ (∀ i, i < m → parN es (negS n es) (i + 1) (negC n es) ≠ negC n es) ∧ sumP es (negS n es) (negC n es) (m + 1) < 0 ∧ negT n es = (List.range (m + 1)).map fun i => (negS n es).l (parN es (negS n es) i (negC n es)) := by
  obtain ⟨m, m0, m1, m2, m3, m4⟩ := N.back
  obtain ⟨k, rfl⟩ : ∃ k, m = k + 1 := ⟨m - 1, by omega⟩
  exact ⟨k, by omega, m2, fun i hi => m3 (i + 1) (by omega) (by omega), m4, ftrail_eq es _ _ n k _ (by omega) m2 (fun i hi => m3 (i + 1) (by omega) (by omega))⟩
theorem negM_len (n : Int) (es : List E3) : (negM n es).length ≤ 8 := by
  unfold negM
  split
  · rename_i h
    obtain ⟨h0, h8, _⟩ := graphOk_iff h.1
    obtain ⟨m, hm, _, _, _, e⟩ := negT_eq (neg_of (valid_of h.1) h.2)
    rw [List.length_reverse, e, List.length_map, List.length_range]; omega
  · simp
theorem negM_in {n : Int} {es : List E3} {k : Int} (h : k ∈ negM n es) : 0 ≤ k ∧ k < es.length := by
  unfold negM at h
  split at h
  · rename_i c
    have N := neg_of (valid_of c.1) c.2
    obtain ⟨m, hm, _, _, _, e⟩ := negT_eq N
    rw [List.mem_reverse, e, List.mem_map] at h
    obtain ⟨i, _, rfl⟩ := h
    exact (neg_lastC N i).1
  · simp at h
theorem negM_nil {n : Int} {es : List E3} : negM n es = [] ↔ ¬ (graphOk n es = true ∧ 0 ≤ (negS n.toNat es).ch) := by
  unfold negM
  split
  · rename_i c
    obtain ⟨m, hm, _, _, _, e⟩ := negT_eq (neg_of (valid_of c.1) c.2)
    rw [e]
    constructor
    · intro h
      have := congrArg List.length h
      simp at this
    · intro h; exact absurd c h
  · rename_i c; exact ⟨fun _ => c, fun _ => rfl⟩
end Go.Proofs.YtbbblnmngjhadaaT
