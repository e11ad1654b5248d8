/- Shortest distances by rounds of relaxation: what the rounds come to. Plain lemmas over functions; no program. -/
import Derived.Test.YtbbblnmngjhadaaThy
namespace Go.Proofs.YtbbblnmngjhadaaT
open Go.RowKit Go.Proofs.YtbbblnmngjhadaaW.PrintWords
set_option linter.unusedVariables false

/-! ### one relaxation step -/
structure FS where
  o : Nat → Int
  l : Nat → Int
  k : Nat → Bool
  ch : Int
def upd {α : Type} (f : Nat → α) (i : Nat) (v : α) : Nat → α := fun j => if j = i then v else f j
theorem upd_same {α : Type} (f : Nat → α) (i : Nat) (v : α) : upd f i v i = v := by simp [upd]
theorem upd_ne {α : Type} (f : Nat → α) {i j : Nat} (v : α) (h : j ≠ i) : upd f i v j = f j := by simp [upd, h]
def Fr (es : List E3) (i : Nat) : Nat := (eAt es i).1.toNat
def To (es : List E3) (i : Nat) : Nat := (eAt es i).2.1.toNat
def Wt (es : List E3) (i : Nat) : Int := (eAt es i).2.2
def improves (es : List E3) (i : Nat) (s : FS) : Bool := s.k (Fr es i) && (!s.k (To es i) || decide (s.o (Fr es i) + Wt es i < s.o (To es i)))
def fstep (es : List E3) (i : Nat) (s : FS) : FS :=
  if improves es i s = true then ⟨upd s.o (To es i) (s.o (Fr es i) + Wt es i), upd s.l (To es i) i, upd s.k (To es i) true, i⟩ else s
def frnd (es : List E3) : Nat → Nat → FS → FS
  | _, 0, s => s
  | i, d + 1, s => frnd es (i + 1) d (fstep es i s)
def fround (es : List E3) (s : FS) : FS := frnd es 0 es.length { s with ch := -1 }
def frounds (es : List E3) : Nat → FS → FS
  | 0, s => s
  | r + 1, s => frounds es r (fround es s)
theorem frounds_succ (es : List E3) : ∀ (r : Nat) (s : FS), frounds es (r + 1) s = fround es (frounds es r s)
  | 0, s => rfl
  | r + 1, s => by
    show frounds es (r + 1) (fround es s) = _
    rw [frounds_succ es r (fround es s)]; rfl
/-- An edge that holds. -/
def holds (es : List E3) (s : FS) (i : Nat) : Prop := s.k (Fr es i) = true → s.k (To es i) = true ∧ s.o (To es i) ≤ s.o (Fr es i) + Wt es i
theorem holds_iff (es : List E3) (s : FS) (i : Nat) : improves es i s = false ↔ holds es s i := by
  unfold improves holds
  cases s.k (Fr es i) <;> cases s.k (To es i) <;> simp

/-! ### a round that changes nothing -/
theorem frnd_ch (es : List E3) : ∀ (d i : Nat) (s : FS), 0 ≤ s.ch → 0 ≤ (frnd es i d s).ch
  | 0, _, s, h => h
  | d + 1, i, s, h => by
    apply frnd_ch es d (i + 1)
    unfold fstep
    split
    · simp
    · exact h
theorem frnd_quiet (es : List E3) : ∀ (d i : Nat) (s : FS), (frnd es i d s).ch < 0 → frnd es i d s = s ∧ ∀ j, i ≤ j → j < i + d → holds es s j
  | 0, _, s, _ => ⟨rfl, fun j h1 h2 => by omega⟩
  | d + 1, i, s, h => by
    simp only [frnd] at h ⊢
    have hq : improves es i s = false := by
      cases e : improves es i s with
      | false => rfl
      | true =>
        exfalso
        have : 0 ≤ (frnd es (i + 1) d (fstep es i s)).ch := frnd_ch es d (i + 1) _ (by unfold fstep; rw [if_pos e]; simp)
        omega
    have hs : fstep es i s = s := by unfold fstep; rw [if_neg (by simp [hq])]
    rw [hs] at h ⊢
    obtain ⟨h1, h2⟩ := frnd_quiet es d (i + 1) s h
    refine ⟨h1, fun j h3 h4 => ?_⟩
    by_cases e : j = i
    · subst e; exact (holds_iff _ _ _).1 hq
    · exact h2 j (by omega) (by omega)
theorem fround_quiet (es : List E3) (s : FS) (h : (fround es s).ch < 0) : fround es s = { s with ch := -1 } ∧ ∀ j, j < es.length → holds es s j := by
  obtain ⟨h1, h2⟩ := frnd_quiet es es.length 0 _ h
  exact ⟨h1, fun j hj => h2 j (Nat.zero_le _) (by omega)⟩
theorem frnd_loud (es : List E3) : ∀ (d i : Nat) (s : FS) (j : Nat), i ≤ j → j < i + d → ¬ holds es s j → s.ch < 0 → 0 ≤ (frnd es i d s).ch := by
  intro d i s j h1 h2 h3 _
  rcases Int.lt_or_le (frnd es i d s).ch 0 with h | h
  · exact absurd ((frnd_quiet es d i s h).2 j h1 h2) h3
  · exact h

/-! ### walks -/
inductive Walk (es : List E3) : Nat → Nat → Int → Prop
  | nil (v : Nat) : Walk es v v 0
  | cons {i v : Nat} {w : Int} (hi : i < es.length) (h : Walk es (To es i) v w) : Walk es (Fr es i) v (Wt es i + w)
theorem Walk.trans {es : List E3} {u v x : Nat} {a b : Int} (h : Walk es u v a) (k : Walk es v x b) : Walk es u x (a + b) := by
  induction h with
  | nil v => rw [Int.zero_add]; exact k
  | cons hi _ ih => rw [Int.add_assoc]; exact Walk.cons hi (ih k)
theorem Walk.edge {es : List E3} {i : Nat} (hi : i < es.length) : Walk es (Fr es i) (To es i) (Wt es i) := by
  have := Walk.cons hi (Walk.nil (es := es) (To es i))
  rwa [Int.add_zero] at this
theorem walk_low {es : List E3} {s : FS} (hf : ∀ j, j < es.length → holds es s j) {u v : Nat} {w : Int} (h : Walk es u v w) : s.k u = true → s.k v = true ∧ s.o v ≤ s.o u + w := by
  induction h with
  | nil v => intro h; exact ⟨h, by omega⟩
  | cons hi _ ih =>
    intro hk
    obtain ⟨h1, h2⟩ := hf _ hi hk
    obtain ⟨h3, h4⟩ := ih h1
    exact ⟨h3, by omega⟩
theorem no_neg {es : List E3} {s : FS} (hf : ∀ j, j < es.length → holds es s j) {v : Nat} {w : Int} (h : Walk es v v w) (hk : s.k v = true) : 0 ≤ w := by
  have := (walk_low hf h hk).2
  omega
/-- Every number is the weight of a walk from where it began. -/
def Sound (es : List E3) (s0 s : FS) : Prop := ∀ v, s.k v = true → ∃ u a, s0.k u = true ∧ Walk es u v a ∧ s.o v = s0.o u + a
theorem sound_step {es : List E3} {s0 s : FS} {i : Nat} (hi : i < es.length) (h : Sound es s0 s) : Sound es s0 (fstep es i s) := by
  unfold fstep
  split
  · rename_i hc
    intro v hv
    by_cases e : v = To es i
    · subst e
      have hk : s.k (Fr es i) = true := by unfold improves at hc; simp only [Bool.and_eq_true] at hc; exact hc.1
      obtain ⟨u, a, h1, h2, h3⟩ := h _ hk
      refine ⟨u, a + Wt es i, h1, h2.trans (Walk.edge hi), ?_⟩
      simp only [upd_same]; omega
    · simp only [upd_ne _ _ e] at hv ⊢
      exact h v hv
  · exact h
theorem sound_rnd {es : List E3} {s0 : FS} : ∀ (d i : Nat) (s : FS), i + d ≤ es.length → Sound es s0 s → Sound es s0 (frnd es i d s)
  | 0, _, s, _, h => h
  | d + 1, i, s, hl, h => sound_rnd d (i + 1) _ (by omega) (sound_step (by omega) h)
theorem sound_rounds {es : List E3} {s0 : FS} : ∀ (r : Nat) (s : FS), Sound es s0 s → Sound es s0 (frounds es r s)
  | 0, s, h => h
  | r + 1, s, h => sound_rounds r _ (sound_rnd es.length 0 _ (by omega) (by intro v hv; exact h v hv))
/-- What is known stays known. -/
theorem known_step {es : List E3} {s : FS} {i v : Nat} (h : s.k v = true) : (fstep es i s).k v = true := by
  unfold fstep
  split
  · simp only [upd]; split
    · rfl
    · exact h
  · exact h
theorem known_rnd {es : List E3} {v : Nat} : ∀ (d i : Nat) (s : FS), s.k v = true → (frnd es i d s).k v = true
  | 0, _, s, h => h
  | d + 1, i, s, h => known_rnd d (i + 1) _ (known_step h)
theorem known_rounds {es : List E3} {v : Nat} : ∀ (r : Nat) (s : FS), s.k v = true → (frounds es r s).k v = true
  | 0, s, h => h
  | r + 1, s, h => known_rounds r _ (known_rnd es.length 0 _ h)

/-! ### times: when a node changed last, when an edge was looked at last -/
structure Inv (es : List E3) (s : FS) (T x : Nat → Nat) (t r j : Nat) : Prop where
  tj : t = r * es.length + j
  xle : ∀ i, x i ≤ t
  xge : ∀ i, i < es.length → j ≤ i → r * es.length + i + 1 ≤ x i + es.length
  xdone : ∀ i, i < j → r * es.length + i + 1 ≤ x i
  tle : ∀ v, T v ≤ t
  J : ∀ i, i < es.length → T (Fr es i) < x i → holds es s i
  P : ∀ v, 0 < T v → s.k v = true ∧ ∃ i, i < es.length ∧ s.l v = i ∧ To es i = v ∧ s.k (Fr es i) = true ∧ s.o (Fr es i) + Wt es i ≤ s.o v ∧ (s.o (Fr es i) + Wt es i = s.o v → T (Fr es i) < T v) ∧ T v ≤ T (Fr es i) + es.length
  C : 0 ≤ s.ch → ∃ c : Nat, s.ch = c ∧ c < es.length ∧ r * es.length + 1 ≤ T (To es c)
theorem inv_step {es : List E3} {s : FS} {T x : Nat → Nat} {t r j : Nat} (I : Inv es s T x t r j) (hj : j < es.length) :
    ∃ T' x', Inv es (fstep es j s) T' x' (t + 1) r (j + 1) := by
  obtain ⟨tj, xle, xge, xdone, tle, J, P, C⟩ := I
  have hX : t + 1 ≤ x j + es.length := by have := xge j hj (Nat.le_refl _); omega
  cases hc : improves es j s with
  | false =>
    have hs : fstep es j s = s := by unfold fstep; rw [if_neg (by simp [hc])]
    have hh := (holds_iff es s j).1 hc
    refine ⟨T, upd x j (t + 1), ?_⟩
    rw [hs]
    refine ⟨by omega, fun i => ?_, fun i h1 h2 => ?_, fun i h1 => ?_, fun v => ?_, fun i h1 h2 => ?_, P, C⟩
    · simp only [upd]; split
      · omega
      · have := xle i; omega
    · rw [upd_ne _ _ (by omega)]; exact xge i h1 (by omega)
    · by_cases e : i = j
      · subst e; rw [upd_same]; omega
      · rw [upd_ne _ _ e]; exact xdone i (by omega)
    · have := tle v; omega
    · by_cases e : i = j
      · subst e; exact hh
      · rw [upd_ne _ _ e] at h2; exact J i h1 h2
  | true =>
    have hs : fstep es j s = ⟨upd s.o (To es j) (s.o (Fr es j) + Wt es j), upd s.l (To es j) j, upd s.k (To es j) true, j⟩ := by unfold fstep; rw [if_pos hc]
    have hc' := hc
    unfold improves at hc'
    simp only [Bool.and_eq_true, Bool.or_eq_true, Bool.not_eq_true', decide_eq_true_eq] at hc'
    obtain ⟨hk, himp⟩ := hc'
    have hT : x j ≤ T (Fr es j) := by
      rcases Nat.lt_or_ge (T (Fr es j)) (x j) with h | h
      · have := (holds_iff es s j).2 (J j hj h)
        rw [this] at hc; cases hc
      · exact h
    refine ⟨upd T (To es j) (t + 1), upd x j (t + 1), ?_⟩
    rw [hs]
    refine ⟨by omega, fun i => ?_, fun i h1 h2 => ?_, fun i h1 => ?_, fun v => ?_, fun i h1 h2 => ?_, fun v hv => ?_, fun _ => ?_⟩
    · simp only [upd]; split
      · omega
      · have := xle i; omega
    · rw [upd_ne _ _ (by omega)]; exact xge i h1 (by omega)
    · by_cases e : i = j
      · subst e; rw [upd_same]; omega
      · rw [upd_ne _ _ e]; exact xdone i (by omega)
    · simp only [upd]; split
      · omega
      · have := tle v; omega
    · -- J
      by_cases eF : Fr es i = To es j
      · exfalso
        rw [eF, upd_same] at h2
        by_cases e : i = j
        · subst e; rw [upd_same] at h2; omega
        · rw [upd_ne _ _ e] at h2; have := xle i; omega
      · rw [upd_ne _ _ eF] at h2
        intro hkF
        simp only [upd_ne _ _ eF] at hkF ⊢
        by_cases e : i = j
        · subst e
          simp only [upd_same]
          exact ⟨trivial, by omega⟩
        · rw [upd_ne _ _ e] at h2
          obtain ⟨h3, h4⟩ := J i h1 h2 hkF
          by_cases eT : To es i = To es j
          · rw [eT]
            simp only [upd_same]
            rw [eT] at h3 h4
            refine ⟨trivial, ?_⟩
            rcases himp with h | h
            · rw [h] at h3; cases h3
            · omega
          · simp only [upd_ne _ _ eT]
            exact ⟨h3, h4⟩
    · -- P
      by_cases ev : v = To es j
      · subst ev
        refine ⟨by simp only [upd_same], j, hj, by simp only [upd_same], rfl, ?_, ?_, ?_, ?_⟩
        · simp only [upd]; split
          · rfl
          · exact hk
        · simp only [upd_same]
          by_cases e : Fr es j = To es j
          · have hW : Wt es j < 0 := by
              rcases himp with h | h
              · rw [e, h] at hk; cases hk
              · rw [e] at h; omega
            simp only [e, upd_same]; omega
          · simp only [upd_ne _ _ e]; omega
        · simp only [upd_same]
          by_cases e : Fr es j = To es j
          · have hW : Wt es j < 0 := by
              rcases himp with h | h
              · rw [e, h] at hk; cases hk
              · rw [e] at h; omega
            simp only [e, upd_same]; omega
          · intro _
            rw [upd_ne _ _ e]
            have := tle (Fr es j); omega
        · rw [upd_same]
          by_cases e : Fr es j = To es j
          · rw [e, upd_same]; omega
          · rw [upd_ne _ _ e]; omega
      · rw [upd_ne _ _ ev] at hv
        obtain ⟨h1, i, h2, h3, h4, h5, h6, h7, h8⟩ := P v hv
        refine ⟨by simp only [upd_ne _ _ ev]; exact h1, i, h2, by simp only [upd_ne _ _ ev]; exact h3, h4, ?_, ?_, ?_, ?_⟩
        · simp only [upd]; split
          · rfl
          · exact h5
        · simp only [upd_ne _ _ ev]
          by_cases e : Fr es i = To es j
          · have : s.o (Fr es j) + Wt es j < s.o (To es j) := by
              rcases himp with h | h
              · rw [← e, h5] at h; cases h
              · exact h
            simp only [e, upd_same]; rw [e] at h6; omega
          · simp only [upd_ne _ _ e]; exact h6
        · simp only [upd_ne _ _ ev]
          by_cases e : Fr es i = To es j
          · have : s.o (Fr es j) + Wt es j < s.o (To es j) := by
              rcases himp with h | h
              · rw [← e, h5] at h; cases h
              · exact h
            simp only [e, upd_same]; rw [e] at h6
            intro h; omega
          · simp only [upd_ne _ _ e]; exact h7
        · rw [upd_ne _ _ ev]
          by_cases e : Fr es i = To es j
          · rw [e, upd_same]; have := tle v; omega
          · rw [upd_ne _ _ e]; exact h8
    · exact ⟨j, rfl, hj, by rw [upd_same]; omega⟩
theorem inv_rnd {es : List E3} {r : Nat} : ∀ (d j : Nat) (s : FS) (T x : Nat → Nat) (t : Nat), j + d = es.length → Inv es s T x t r j → ∃ T' x' t', Inv es (frnd es j d s) T' x' t' r es.length
  | 0, j, s, T, x, t, hd, I => by
    have : j = es.length := by omega
    subst this
    exact ⟨T, x, t, I⟩
  | d + 1, j, s, T, x, t, hd, I => by
    obtain ⟨T', x', I'⟩ := inv_step I (by omega)
    exact inv_rnd d (j + 1) _ T' x' _ (by omega) I'
theorem inv_next {es : List E3} {s : FS} {T x : Nat → Nat} {t r : Nat} (I : Inv es s T x t r es.length) : Inv es { s with ch := -1 } T x t (r + 1) 0 := by
  obtain ⟨tj, xle, xge, xdone, tle, J, P, C⟩ := I
  have e : (r + 1) * es.length = r * es.length + es.length := by rw [Nat.add_mul, Nat.one_mul]
  exact ⟨by omega, xle, fun i h1 _ => by have := xdone i h1; omega, fun i h => by omega, tle, J, P, fun h => by simp at h⟩
theorem inv_init (es : List E3) (s : FS) : Inv es { s with ch := -1 } (fun _ => 0) (fun _ => 0) 0 0 0 :=
  ⟨by simp, fun _ => Nat.le_refl _, fun i h _ => by simp; omega, fun i h => by omega, fun _ => Nat.le_refl _, fun i _ h => by simp at h, fun v h => by simp at h, fun h => by simp at h⟩
theorem inv_rounds {es : List E3} (s : FS) : ∀ r, ∃ T x t, Inv es (frounds es (r + 1) s) T x t r es.length
  | 0 => by
    obtain ⟨T, x, t, I⟩ := inv_rnd (es := es) es.length 0 _ _ _ _ (by omega) (inv_init es s)
    exact ⟨T, x, t, I⟩
  | r + 1 => by
    obtain ⟨T, x, t, I⟩ := inv_rounds s r
    obtain ⟨T', x', t', I'⟩ := inv_rnd (es := es) es.length 0 _ _ _ _ (by omega) (inv_next I)
    rw [frounds_succ]
    exact ⟨T', x', t', I'⟩

/-! ### parents -/
def par (es : List E3) (s : FS) (v : Nat) : Nat := Fr es (s.l v).toNat
def parN (es : List E3) (s : FS) : Nat → Nat → Nat
  | 0, v => v
  | m + 1, v => par es s (parN es s m v)
theorem parN_add (es : List E3) (s : FS) (v : Nat) (a : Nat) : ∀ b, parN es s (a + b) v = parN es s b (parN es s a v)
  | 0 => rfl
  | b + 1 => by
    show par es s (parN es s (a + b) v) = _
    rw [parN_add es s v a b]; rfl
/-- Along parents that have changed: a walk back, no heavier than the difference; if just as heavy, then to an elder one. -/
theorem par_walk {es : List E3} {s : FS} {T x : Nat → Nat} {t r j : Nat} (I : Inv es s T x t r j) (v : Nat) : ∀ m, (∀ i, i < m → 0 < T (parN es s i v)) →
    ∃ w, Walk es (parN es s m v) v w ∧ s.o (parN es s m v) + w ≤ s.o v ∧ (0 < m → s.o (parN es s m v) + w = s.o v → T (parN es s m v) < T v)
  | 0, _ => ⟨0, Walk.nil v, by simp [parN], fun h => by omega⟩
  | m + 1, h => by
    obtain ⟨w, h1, h2, h3⟩ := par_walk I v m (fun i hi => h i (by omega))
    obtain ⟨_, i, hi, hl, ht, hk, h4, h5, h6⟩ := I.P _ (h m (by omega))
    have e : parN es s (m + 1) v = Fr es i := by show par es s (parN es s m v) = _; unfold par; rw [hl]; simp
    rw [e]
    rw [← ht] at h1
    refine ⟨Wt es i + w, Walk.cons hi h1, by omega, fun _ heq => ?_⟩
    have h7 := h5 (by omega)
    by_cases hm : 0 < m
    · have := h3 hm (by omega); omega
    · have : m = 0 := by omega
      subst this
      exact h7
theorem pigeon : ∀ (n : Nat) (f : Nat → Nat), (∀ i, i ≤ n → f i < n) → ∃ a b, a < b ∧ b ≤ n ∧ f a = f b
  | 0, f, h => absurd (h 0 (Nat.le_refl _)) (by omega)
  | n + 1, f, h => by
    by_cases hx : ∃ a, a ≤ n ∧ f a = f (n + 1)
    · obtain ⟨a, h1, h2⟩ := hx
      exact ⟨a, n + 1, by omega, Nat.le_refl _, h2⟩
    · have hne : ∀ a, a ≤ n → f a ≠ f (n + 1) := fun a ha e => hx ⟨a, ha, e⟩
      let g : Nat → Nat := fun i => if f i = n then f (n + 1) else f i
      obtain ⟨a, b, h1, h2, h3⟩ := pigeon n g (fun i hi => by
        have h4 := h i (by omega)
        have h5 := h (n + 1) (Nat.le_refl _)
        have h6 := hne i hi
        show (if f i = n then f (n + 1) else f i) < n
        split <;> omega)
      refine ⟨a, b, h1, by omega, ?_⟩
      have ha := hne a (by omega)
      have hb := hne b h2
      show f a = f b
      have : (if f a = n then f (n + 1) else f a) = (if f b = n then f (n + 1) else f b) := h3
      split at this <;> split at this <;> omega
/-- What a change in the last of n rounds leaves: parents all the way, and among them a cycle of negative weight. -/
theorem cycle_of {es : List E3} {s : FS} {T x : Nat → Nat} {t n : Nat} (hn : 0 < n) (hv : ∀ i, i < es.length → Fr es i < n ∧ To es i < n) (I : Inv es s T x t (n - 1) es.length) {v : Nat} (hlt : v < n) (h : (n - 1) * es.length + 1 ≤ T v) :
    (∀ j, j < n → 0 < T (parN es s j v)) ∧ (∀ j, j ≤ n → parN es s j v < n) ∧ ∃ a b, a < b ∧ b ≤ n ∧ parN es s a v = parN es s b v := by
  have key : ∀ j, j < n → (n - 1 - j) * es.length + 1 ≤ T (parN es s j v) := by
    intro j
    induction j with
    | zero => intro _; simpa [parN] using h
    | succ j ih =>
      intro hj
      have h1 := ih (by omega)
      obtain ⟨_, i, hi, hl, ht, hk, h4, h5, h6⟩ := I.P _ (show 0 < T (parN es s j v) by omega)
      have e : parN es s (j + 1) v = Fr es i := by show par es s (parN es s j v) = _; unfold par; rw [hl]; simp
      rw [e]
      have e2 : (n - 1 - j) * es.length = (n - 1 - (j + 1)) * es.length + es.length := by
        rw [show n - 1 - j = (n - 1 - (j + 1)) + 1 by omega, Nat.add_mul, Nat.one_mul]
      omega
  have pos : ∀ j, j < n → 0 < T (parN es s j v) := fun j hj => by have := key j hj; omega
  have inn : ∀ j, j ≤ n → parN es s j v < n := by
    intro j hj
    cases j with
    | zero => exact hlt
    | succ j =>
      obtain ⟨_, i, hi, hl, _⟩ := I.P _ (pos j (by omega))
      have e : parN es s (j + 1) v = Fr es i := by show par es s (parN es s j v) = _; unfold par; rw [hl]; simp
      rw [e]; exact (hv i hi).1
  exact ⟨pos, inn, pigeon n (fun j => parN es s j v) inn⟩
theorem closed_neg {es : List E3} {s : FS} {T x : Nat → Nat} {t r j : Nat} (I : Inv es s T x t r j) {c m : Nat} (hm : 0 < m) (hc : parN es s m c = c) (hp : ∀ i, i < m → 0 < T (parN es s i c)) : ∃ w, Walk es c c w ∧ w < 0 := by
  obtain ⟨w, h1, h2, h3⟩ := par_walk I c m hp
  rw [hc] at h1 h2 h3
  refine ⟨w, h1, ?_⟩
  rcases Int.lt_or_le w 0 with h | h
  · exact h
  · have := h3 hm (by omega); omega
/-- If round n still changed something, round n + 1 does, too: there is a closed walk of negative weight among what is known. -/
theorem neg_of_change {es : List E3} (n : Nat) (hn : 0 < n) (hv : ∀ i, i < es.length → Fr es i < n ∧ To es i < n) (s0 : FS) (h : 0 ≤ (frounds es n s0).ch) :
    ∃ v w, (frounds es n s0).k v = true ∧ Walk es v v w ∧ w < 0 := by
  obtain ⟨T, x, t, I⟩ := inv_rounds (es := es) s0 (n - 1)
  rw [show n - 1 + 1 = n by omega] at I
  obtain ⟨c, hc, hcl, hT⟩ := I.C h
  obtain ⟨pos, inn, a, b, hab, hb, e⟩ := cycle_of hn hv I (hv c hcl).2 hT
  have hp : ∀ i, i < b - a → 0 < T (parN es (frounds es n s0) i (parN es (frounds es n s0) a (To es c))) := fun i hi => by
    rw [← parN_add]; exact pos _ (by omega)
  obtain ⟨w, hw, hneg⟩ := closed_neg I (c := parN es (frounds es n s0) a (To es c)) (m := b - a) (by omega) (by rw [← parN_add, show a + (b - a) = b by omega, e]) hp
  exact ⟨_, w, (I.P _ (pos a (by omega))).1, hw, hneg⟩
theorem change_again {es : List E3} (n : Nat) (hn : 0 < n) (hv : ∀ i, i < es.length → Fr es i < n ∧ To es i < n) (s0 : FS) (h : 0 ≤ (frounds es n s0).ch) : 0 ≤ (frounds es (n + 1) s0).ch := by
  obtain ⟨v, w, hk, hw, hneg⟩ := neg_of_change n hn hv s0 h
  rcases Int.lt_or_le (frounds es (n + 1) s0).ch 0 with h1 | h1
  · rw [frounds_succ] at h1
    have := no_neg (fround_quiet es _ h1).2 hw hk
    omega
  · exact h1

/-! ### the same over lists -/
structure LS where
  o : List Int
  l : List Int
  k : List Bool
  ch : Int
def rb (k : List Bool) (i : Int) : Bool := rdOf false k i
theorem rd_set {l : List Int} {i : Nat} (h : i < l.length) (x : Int) : (fun v : Nat => rd (l.set i x) v) = upd (fun v : Nat => rd l v) i x := by
  funext v
  unfold rd upd
  simp only [Int.toNat_natCast, List.getD_eq_getElem?_getD]
  by_cases e : v = i
  · subst e; simp [h]
  · rw [List.getElem?_set_ne (by omega), if_neg e]
theorem rb_set {l : List Bool} {i : Nat} (h : i < l.length) (x : Bool) : (fun v : Nat => rb (l.set i x) v) = upd (fun v : Nat => rb l v) i x := by
  funext v
  unfold rb rdOf upd
  simp only [Int.toNat_natCast, List.getD_eq_getElem?_getD]
  by_cases e : v = i
  · subst e; simp [h]
  · rw [List.getElem?_set_ne (by omega), if_neg e]
def fsOf (L : LS) : FS := ⟨fun v => rd L.o v, fun v => rd L.l v, fun v => rb L.k v, L.ch⟩
def GoodL (n : Nat) (L : LS) : Prop := L.o.length = n ∧ L.l.length = n ∧ L.k.length = n
def better (es : List E3) (i : Nat) (L : LS) : Bool := rb L.k (eAt es i).1 && (!rb L.k (eAt es i).2.1 || decide (rd L.o (eAt es i).1 + (eAt es i).2.2 < rd L.o (eAt es i).2.1))
def lstep (es : List E3) (i : Nat) (L : LS) : LS :=
  if better es i L = true then ⟨L.o.set (eAt es i).2.1.toNat (rd L.o (eAt es i).1 + (eAt es i).2.2), L.l.set (eAt es i).2.1.toNat i, L.k.set (eAt es i).2.1.toNat true, i⟩ else L
def lrnd (es : List E3) : Nat → Nat → LS → LS
  | _, 0, L => L
  | i, d + 1, L => lrnd es (i + 1) d (lstep es i L)
def lround (es : List E3) (L : LS) : LS := lrnd es 0 es.length { L with ch := -1 }
def lrounds (es : List E3) : Nat → LS → LS
  | 0, L => L
  | r + 1, L => lrounds es r (lround es L)
/-- The edges are edges of n nodes, their weights are small. -/
def ValidE (n : Nat) (es : List E3) : Prop := ∀ i : Nat, i < es.length → (0 ≤ (eAt es i).1 ∧ (eAt es i).1 < n) ∧ (0 ≤ (eAt es i).2.1 ∧ (eAt es i).2.1 < n) ∧ (-1000000 < (eAt es i).2.2 ∧ (eAt es i).2.2 < 1000000)
theorem valid_of {n : Int} {es : List E3} (h : graphOk n es = true) : ValidE n.toNat es := by
  obtain ⟨h0, _, _, h4⟩ := graphOk_iff h
  intro i hi
  have := h4 _ (eAt_mem (es := es) (j := (i : Int)) (by omega) (by omega))
  omega
theorem valid_nodes {n : Nat} {es : List E3} (h : ValidE n es) : ∀ i, i < es.length → Fr es i < n ∧ To es i < n := by
  intro i hi
  have := h i hi
  unfold Fr To
  omega
theorem good_step {n : Nat} {es : List E3} {L : LS} (i : Nat) (h : GoodL n L) : GoodL n (lstep es i L) := by
  unfold lstep
  split
  · obtain ⟨h1, h2, h3⟩ := h
    exact ⟨by simpa using h1, by simpa using h2, by simpa using h3⟩
  · exact h
theorem good_rnd {n : Nat} {es : List E3} : ∀ (d i : Nat) (L : LS), GoodL n L → GoodL n (lrnd es i d L)
  | 0, _, _, h => h
  | d + 1, i, L, h => good_rnd d (i + 1) _ (good_step i h)
theorem good_round {n : Nat} {es : List E3} {L : LS} (h : GoodL n L) : GoodL n (lround es L) := good_rnd _ _ _ h
theorem good_rounds {n : Nat} {es : List E3} : ∀ (r : Nat) (L : LS), GoodL n L → GoodL n (lrounds es r L)
  | 0, _, h => h
  | r + 1, L, h => good_rounds r _ (good_round h)
theorem fs_step {n : Nat} {es : List E3} {L : LS} {i : Nat} (hv : ValidE n es) (hi : i < es.length) (h : GoodL n L) : fsOf (lstep es i L) = fstep es i (fsOf L) := by
  obtain ⟨⟨f0, f1⟩, ⟨t0, t1⟩, _⟩ := hv i hi
  obtain ⟨h1, h2, h3⟩ := h
  have ef : ((Fr es i : Nat) : Int) = (eAt es i).1 := by unfold Fr; omega
  have et : ((To es i : Nat) : Int) = (eAt es i).2.1 := by unfold To; omega
  have eb : improves es i (fsOf L) = better es i L := by
    unfold improves better
    simp only [fsOf, ef, et, Wt]
  unfold lstep fstep
  rw [eb]
  split
  · unfold fsOf
    simp only [FS.mk.injEq]
    refine ⟨?_, ?_, ?_, trivial⟩
    · rw [rd_set (l := L.o) (i := (eAt es i).2.1.toNat) (by omega)]; simp only [ef, Wt]; rfl
    · rw [rd_set (l := L.l) (i := (eAt es i).2.1.toNat) (by omega)]; rfl
    · rw [rb_set (l := L.k) (i := (eAt es i).2.1.toNat) (by omega)]; rfl
  · rfl
theorem fs_rnd {n : Nat} {es : List E3} (hv : ValidE n es) : ∀ (d i : Nat) (L : LS), i + d ≤ es.length → GoodL n L → fsOf (lrnd es i d L) = frnd es i d (fsOf L)
  | 0, _, _, _, _ => rfl
  | d + 1, i, L, hd, h => by
    simp only [lrnd, frnd]
    rw [fs_rnd hv d (i + 1) _ (by omega) (good_step i h), fs_step hv (by omega) h]
theorem fs_round {n : Nat} {es : List E3} {L : LS} (hv : ValidE n es) (h : GoodL n L) : fsOf (lround es L) = fround es (fsOf L) := by
  unfold lround fround
  have h' : GoodL n { L with ch := -1 } := h
  rw [fs_rnd hv es.length 0 _ (by omega) h']
  rfl
theorem fs_rounds {n : Nat} {es : List E3} (hv : ValidE n es) : ∀ (r : Nat) (L : LS), GoodL n L → fsOf (lrounds es r L) = frounds es r (fsOf L)
  | 0, _, _ => rfl
  | r + 1, L, h => by
    simp only [lrounds, frounds]
    rw [fs_rounds hv r _ (good_round h), fs_round hv h]
/-- No number grows past so many steps of a million. -/
def SmallL (B : Int) (L : LS) : Prop := ∀ x ∈ L.o, -B ≤ x ∧ x ≤ B
theorem rd_mem {l : List Int} {i : Int} (h0 : 0 ≤ i) (h1 : i < l.length) : rd l i ∈ l := by
  unfold rd
  rw [List.getD_eq_getElem?_getD, List.getElem?_eq_getElem (by omega)]
  exact List.getElem_mem _
theorem small_step {n : Nat} {es : List E3} {L : LS} {i : Nat} {B : Int} (hv : ValidE n es) (hi : i < es.length) (h : GoodL n L) (hs : SmallL B L) : SmallL (B + 1000000) (lstep es i L) := by
  obtain ⟨⟨f0, f1⟩, _, w0, w1⟩ := hv i hi
  have hm := hs _ (rd_mem f0 (by rw [h.1]; exact f1))
  unfold lstep
  split
  · intro x hx
    rcases List.mem_or_eq_of_mem_set hx with h1 | h1
    · have := hs x h1; omega
    · omega
  · intro x hx
    have := hs x hx; omega
theorem small_rnd {n : Nat} {es : List E3} (hv : ValidE n es) : ∀ (d i : Nat) (L : LS) (B : Int), i + d ≤ es.length → GoodL n L → SmallL B L → SmallL (B + 1000000 * d) (lrnd es i d L)
  | 0, _, _, B, _, _, h => by simpa [lrnd] using h
  | d + 1, i, L, B, hd, h, hs => by
    have := small_rnd hv d (i + 1) (lstep es i L) (B + 1000000) (by omega) (good_step i h) (small_step hv (by omega) h hs)
    rw [show B + 1000000 * ((d + 1 : Nat) : Int) = B + 1000000 + 1000000 * (d : Int) by omega]
    exact this
theorem small_round {n : Nat} {es : List E3} {L : LS} {B : Int} (hv : ValidE n es) (he : es.length ≤ 80) (h : GoodL n L) (hs : SmallL B L) : SmallL (B + 80000000) (lround es L) := by
  have := small_rnd hv es.length 0 { L with ch := -1 } B (by omega) h hs
  intro x hx
  have h1 := this x hx
  omega
/-- The numbers as they are told: a million where nothing is known, and never more. -/
def finL : List Int → List Bool → List Int
  | x :: o, b :: k => (if b = true then (if x > 1000000 then 1000000 else x) else 1000000) :: finL o k
  | _, _ => []
theorem finL_len : ∀ (o : List Int) (k : List Bool), o.length = k.length → (finL o k).length = o.length
  | [], [], _ => rfl
  | x :: o, b :: k, h => by simp only [finL, List.length_cons]; rw [finL_len o k (by simpa using h)]
  | [], b :: k, h => by simp at h
  | x :: o, [], h => by simp at h
theorem finL_get : ∀ (o : List Int) (k : List Bool) (v : Nat), o.length = k.length → v < o.length → rd (finL o k) v = if rb k v = true then (if rd o v > 1000000 then 1000000 else rd o v) else 1000000
  | x :: o, b :: k, 0, _, _ => rfl
  | x :: o, b :: k, v + 1, h, hv => by
    have ih := finL_get o k v (by simpa using h) (by simpa using hv)
    unfold rd rb rdOf at ih ⊢
    simp only [finL, Int.toNat_natCast, List.getD_cons_succ] at ih ⊢
    exact ih
  | [], _, v, _, hv => by simp at hv
  | x :: o, [], v, h, _ => by simp at h
def sfLoop (es : List E3) : Nat → LS → List Int × Bool
  | 0, _ => ([], false)
  | d + 1, L => if (lround es L).ch < 0 then (finL (lround es L).o (lround es L).k, true) else sfLoop es d (lround es L)
def sfInit (n s : Nat) : LS := ⟨List.replicate n 0, List.replicate n 0, (List.replicate n false).set s true, -1⟩
def sfM (n : Int) (es : List E3) (s : Int) : List Int × Bool := if graphOk n es = true ∧ (0 ≤ s ∧ s < n) then sfLoop es n.toNat (sfInit n.toNat s.toNat) else ([], false)
theorem good_init (n s : Nat) : GoodL n (sfInit n s) := ⟨by simp [sfInit], by simp [sfInit], by simp [sfInit]⟩
theorem small_init (n s : Nat) : SmallL 0 (sfInit n s) := by
  intro x hx
  have : x = 0 := (List.mem_replicate.1 hx).2
  omega
theorem sf_more (es : List E3) : ∀ (d : Nat) (L : LS), ((∀ m, m < d → 0 ≤ (lrounds es (m + 1) L).ch) → 0 ≤ (lrounds es (d + 1) L).ch) → sfLoop es (d + 1) L = sfLoop es d L
  | 0, L, h => by
    have h1 : 0 ≤ (lround es L).ch := h (fun m hm => by omega)
    simp only [sfLoop]
    rw [if_neg (by omega)]
  | d + 1, L, h => by
    show (if (lround es L).ch < 0 then _ else sfLoop es (d + 1) (lround es L)) = (if (lround es L).ch < 0 then _ else sfLoop es d (lround es L))
    by_cases hq : (lround es L).ch < 0
    · rw [if_pos hq, if_pos hq]
    · rw [if_neg hq, if_neg hq]
      refine sf_more es d (lround es L) (fun hm => ?_)
      refine h (fun m hm' => ?_)
      cases m with
      | zero => show 0 ≤ (lround es L).ch; omega
      | succ m => exact hm m (by omega)
theorem sf_once {n : Int} {es : List E3} {s : Int} (hg : graphOk n es = true) (hs : 0 ≤ s ∧ s < n) : sfLoop es (n.toNat + 1) (sfInit n.toNat s.toNat) = sfLoop es n.toNat (sfInit n.toNat s.toNat) := by
  apply sf_more
  intro h
  have hv := valid_of hg
  have hgd := good_init n.toNat s.toNat
  have e1 : (fsOf (lrounds es n.toNat (sfInit n.toNat s.toNat))).ch = (lrounds es n.toNat (sfInit n.toNat s.toNat)).ch := rfl
  have e2 : (fsOf (lrounds es (n.toNat + 1) (sfInit n.toNat s.toNat))).ch = (lrounds es (n.toNat + 1) (sfInit n.toNat s.toNat)).ch := rfl
  rw [← e2, fs_rounds hv _ _ hgd]
  apply change_again n.toNat (by omega) (valid_nodes hv)
  rw [← fs_rounds hv _ _ hgd, e1]
  have := h (n.toNat - 1) (by omega)
  rwa [show n.toNat - 1 + 1 = n.toNat by omega] at this
end Go.Proofs.YtbbblnmngjhadaaT
