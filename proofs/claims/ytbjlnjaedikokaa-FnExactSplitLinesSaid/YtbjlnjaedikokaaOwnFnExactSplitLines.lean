/- The law FnExactSplitLines answers true for every text. No condition. -/
import Derived.Test.YtbjlnjaedikokaaQFnExactSplitLinesx2
import Derived.Test.YtbjlnjaedikokaaThy
namespace Go.Proofs.Ytbjlnjaedikokaa.Own
open Go.RowKit Go.Proofs.Ytbjlnjaedikokaa.QFnExactSplitLines Go.Proofs.YtbjlnjaedikokaaW.PrintWords Go.Proofs.YtbjlnjaedikokaaW.PrintLast Go.Proofs.YtbjlnjaedikokaaW.PrintMore Go.Proofs.YtbjlnjaedikokaaT Go.Proofs.YtbjlnjaedikokaaT
set_option linter.unusedVariables false
set_option linter.unusedSimpArgs false

theorem idx_nonneg (c : UInt8) : ∀ l : List UInt8, 0 ≤ Lib.indexByte l c ↔ c ∈ l
  | [] => by simp [Lib.indexByte]
  | b :: l => by
    have ih := idx_nonneg c l
    have hg := Lib.indexByte_ge l c
    unfold Lib.indexByte
    by_cases h : b = c
    · subst h; simp
    · have h1 : (b == c) = false := beq_eq_false_iff_ne.mpr h
      rw [h1]
      by_cases h2 : Lib.indexByte l c = -1
      · rw [h2] at ih ⊢
        have : c ∉ l := fun x => absurd (ih.mpr x) (by omega)
        simp [this, Ne.symm h]
      · have h3 : (Lib.indexByte l c == -1) = false := beq_eq_false_iff_ne.mpr h2
        rw [h3]
        have : c ∈ l := ih.mp (by omega)
        simp only [Bool.false_eq_true, if_false, List.mem_cons, this, or_true, iff_true]
        omega
theorem bt_nat (s : ByteArray) (i : Nat) (h : i < s.data.toList.length) : bt s (i : Int) = ((s.data.toList[i]).toNat : Int) := by
  have h' : (i : Int).toNat < s.size := by simpa using h
  unfold bt
  rw [dif_pos h']
  rfl
theorem size_list (s : ByteArray) : s.data.toList.length = s.size := by rw [Array.length_toList]; rfl
def hitB (x b : ByteArray) (i : Nat) : Bool := decide (0 ≤ idxByte b (bt x (i : Int)))
def hitF (x b : ByteArray) (i : Nat) : Nat → Nat → Bool
  | _, 0 => false
  | j, d + 1 => decide (bt x (i : Int) = bt b (j : Int)) || hitF x b i (j + 1) d
theorem hitF_mem (x b : ByteArray) (i : Nat) (hi : i < x.data.toList.length) : ∀ (d j : Nat), j + d = b.data.toList.length → (hitF x b i j d = true ↔ x.data.toList[i] ∈ b.data.toList.drop j)
  | 0, j, h => by rw [List.drop_eq_nil_of_le (by omega)]; simp [hitF]
  | d + 1, j, h => by
    have hj : j < b.data.toList.length := by omega
    rw [List.drop_eq_getElem_cons hj]
    simp only [hitF, Bool.or_eq_true, decide_eq_true_eq, hitF_mem x b i hi d (j + 1) (by omega), List.mem_cons]
    rw [bt_nat x i hi, bt_nat b j hj]
    constructor
    · rintro (h | h)
      · exact Or.inl (UInt8.toNat_inj.mp (by omega))
      · exact Or.inr h
    · rintro (h | h)
      · exact Or.inl (by rw [h])
      · exact Or.inr h
theorem hit_eq (x b : ByteArray) (i : Nat) (hi : i < x.size) : hitF x b i 0 b.size = hitB x b i := by
  have hx : i < x.data.toList.length := by rw [size_list]; exact hi
  rw [Bool.eq_iff_iff, hitF_mem x b i hx b.size 0 (by rw [size_list]; omega), List.drop_zero]
  unfold hitB idxByte
  rw [decide_eq_true_eq, bt_nat x i hx, idx_nonneg]
  simp
def splitL (x b : ByteArray) : Nat → Nat → Nat → List ByteArray → List ByteArray
  | 0, _, f, o => o ++ [x.extract f x.size]
  | d + 1, i, f, o => if hitB x b i = true then splitL x b d (i + 1) (i + 1) (o ++ [x.extract f i]) else splitL x b d (i + 1) f o
theorem splitL_len (x b : ByteArray) : ∀ (d i f : Nat) (o : List ByteArray), 1 ≤ (splitL x b d i f o).length ∧ (splitL x b d i f o).length ≤ o.length + d + 1
  | 0, i, f, o => by simp [splitL]
  | d + 1, i, f, o => by
    unfold splitL
    split
    · have := splitL_len x b d (i + 1) (i + 1) (o ++ [x.extract f i])
      simp only [List.length_append, List.length_cons, List.length_nil] at this
      omega
    · have := splitL_len x b d (i + 1) f o
      omega
def splitM (x b : ByteArray) : List ByteArray := splitL x b x.size 0 0 []
theorem iSplit_l (x b : ByteArray) (hx : x.size ≤ 1048576) : ∀ (d i f : Nat) (o : List ByteArray), i + d = x.size → f ≤ i → o.length ≤ i → Ev (fun k => impl_SplitAny.l0 k x b o (f : Int) (i : Int)) (splitL x b d i f o)
  | 0, i, f, o, hd, hf, ho => by
    simp only [splitL]
    exact suc (f := fun _ => some (o ++ [x.extract f x.size])) (fun k => by rw [impl_SplitAny.l0, if_neg (by omega), if_pos (by omega), if_pos (by omega), if_pos (by omega)]; rfl) now
  | d + 1, i, f, o, hd, hf, ho => by
    simp only [splitL]
    by_cases h : hitB x b i = true
    · rw [if_pos h]
      have h' : idxByte b (bt x (i : Int)) ≥ 0 := of_decide_eq_true h
      refine suc (f := fun k => impl_SplitAny.l0 k x b (o ++ [x.extract f i]) ((i + 1 : Nat) : Int) ((i + 1 : Nat) : Int)) (fun k => ?_) (iSplit_l x b hx d (i + 1) (i + 1) _ (by omega) (by omega) (by simp only [List.length_append, List.length_cons, List.length_nil]; omega))
      rw [impl_SplitAny.l0, if_pos (by omega), if_pos (by omega)]
      unfold strings_IndexByte.f
      simp only [Option.bind_some]
      rw [if_pos h', if_pos (by omega), if_pos (by omega), if_pos (by omega), if_pos (by omega), up1 (by omega) (by omega)]; rfl
    · rw [if_neg h]
      have h' : ¬ idxByte b (bt x (i : Int)) ≥ 0 := fun y => h (decide_eq_true y)
      refine suc (f := fun k => impl_SplitAny.l0 k x b o (f : Int) ((i + 1 : Nat) : Int)) (fun k => ?_) (iSplit_l x b hx d (i + 1) f _ (by omega) (by omega) (by omega))
      rw [impl_SplitAny.l0, if_pos (by omega), if_pos (by omega)]
      unfold strings_IndexByte.f
      simp only [Option.bind_some]
      rw [if_neg h', up1 (by omega) (by omega)]; rfl
theorem sSplit_in (x b : ByteArray) (hx : x.size ≤ 1048576) (hb : b.size ≤ 1048576) (i f : Nat) (hi : i < x.size) (hf : f ≤ i) (o : List ByteArray) (ho : o.length ≤ i) (R : List ByteArray) : ∀ (d j : Nat), j + d = b.size →
    (hitF x b i j d = true → Ev (fun k => spec_SplitAny.l0 k x b (o ++ [x.extract f i]) ((i + 1 : Nat) : Int) ((i + 1 : Nat) : Int)) R) → (hitF x b i j d = false → Ev (fun k => spec_SplitAny.l0 k x b o (f : Int) ((i + 1 : Nat) : Int)) R) → Ev (fun k => spec_SplitAny.l1 k x b o (f : Int) (i : Int) (j : Int)) R
  | 0, j, hd, _, h2 => by
    exact suc (fun k => by rw [spec_SplitAny.l1, if_neg (by omega), up1 (by omega) (by omega)]; rfl) (h2 rfl)
  | d + 1, j, hd, h1, h2 => by
    by_cases c : bt x (i : Int) = bt b (j : Int)
    · refine suc (fun k => ?_) (h1 (by simp only [hitF]; rw [decide_eq_true c, Bool.true_or]))
      rw [spec_SplitAny.l1, if_pos (by omega), if_pos (by omega), if_pos (by omega), if_pos (by omega), if_pos c, if_pos (by omega), if_pos (by omega), if_pos (by omega), if_pos (by omega), up1 (by omega) (by omega)]; rfl
    · have e : hitF x b i j (d + 1) = hitF x b i (j + 1) d := by simp only [hitF]; rw [decide_eq_false c, Bool.false_or]
      rw [e] at h1 h2
      refine suc (fun k => ?_) (sSplit_in x b hx hb i f hi hf o ho R d (j + 1) (by omega) h1 h2)
      rw [spec_SplitAny.l1, if_pos (by omega), if_pos (by omega), if_pos (by omega), if_pos (by omega), if_neg c, up1 (by omega) (by omega)]; rfl
theorem sSplit_l (x b : ByteArray) (hx : x.size ≤ 1048576) (hb : b.size ≤ 1048576) : ∀ (d i f : Nat) (o : List ByteArray), i + d = x.size → f ≤ i → o.length ≤ i → Ev (fun k => spec_SplitAny.l0 k x b o (f : Int) (i : Int)) (splitL x b d i f o)
  | 0, i, f, o, hd, hf, ho => by
    simp only [splitL]
    exact suc (f := fun _ => some (o ++ [x.extract f x.size])) (fun k => by rw [spec_SplitAny.l0, if_neg (by omega), if_pos (by omega), if_pos (by omega), if_pos (by omega)]; rfl) now
  | d + 1, i, f, o, hd, hf, ho => by
    simp only [splitL]
    have hi : i < x.size := by omega
    refine suc (fun k => by rw [spec_SplitAny.l0, if_pos (by omega)]; rfl) (sSplit_in x b hx hb i f hi hf o ho _ b.size 0 (by omega) (fun h => ?_) (fun h => ?_))
    · rw [hit_eq x b i hi] at h
      rw [if_pos h]
      exact sSplit_l x b hx hb d (i + 1) (i + 1) _ (by omega) (by omega) (by simp only [List.length_append, List.length_cons, List.length_nil]; omega)
    · rw [hit_eq x b i hi] at h
      rw [if_neg (by rw [h]; simp)]
      exact sSplit_l x b hx hb d (i + 1) f _ (by omega) (by omega) (by omega)
theorem iSplit (x b : ByteArray) (hx : x.size ≤ 1048576) : Ev (fun k => impl_SplitAny.f k x b) (splitM x b) := iSplit_l x b hx x.size 0 0 [] (by omega) (by omega) (by simp)
theorem sSplit (x b : ByteArray) (hx : x.size ≤ 1048576) (hb : b.size ≤ 1048576) : Ev (fun k => spec_SplitAny.f k x b) (splitM x b) := sSplit_l x b hx hb x.size 0 0 [] (by omega) (by omega) (by simp)
def linesM (x : ByteArray) : List ByteArray := if (rdOf ByteArray.empty (splitM x ⟨#[10]⟩) (((splitM x ⟨#[10]⟩).length : Int) - 1)).toList = ([] : List UInt8) then (splitM x ⟨#[10]⟩).take ((((splitM x ⟨#[10]⟩).length : Int) - 1)).toNat else splitM x ⟨#[10]⟩
theorem linesM_len (x : ByteArray) : (linesM x).length ≤ x.size + 1 := by
  have := splitL_len x ⟨#[10]⟩ x.size 0 0 []
  unfold linesM
  split
  · rw [List.length_take]; unfold splitM; simp only [List.length_nil] at this; omega
  · unfold splitM; simp only [List.length_nil] at this; omega
theorem iLines (x : ByteArray) (hx : x.size ≤ 1048576) : Ev (fun k => impl_SplitLines.f k x) (linesM x) := by
  unfold impl_SplitLines.f linesM
  have h := splitL_len x ⟨#[10]⟩ x.size 0 0 []
  simp only [List.length_nil] at h
  refine bev (iSplit x _ hx) ?_
  have h1 : 1 ≤ (splitM x ⟨#[10]⟩).length := h.1
  have h2 : (splitM x ⟨#[10]⟩).length ≤ 0 + x.size + 1 := h.2
  rw [w64 (i := ((splitM x ⟨#[10]⟩).length : Int) - 1) (by omega) (by omega)]
  refine ifp (by omega) (ifp (by omega) ?_)
  by_cases c : (rdOf ByteArray.empty (splitM x ⟨#[10]⟩) (((splitM x ⟨#[10]⟩).length : Int) - 1)).toList = ([] : List UInt8)
  · exact eqr (ifp c (ifp (by omega) now)) (if_pos c).symm
  · exact eqr (ifn c now) (if_neg c).symm
theorem sLines (x : ByteArray) (hx : x.size ≤ 1048576) : Ev (fun k => spec_SplitLines.f k x) (linesM x) := by
  unfold spec_SplitLines.f linesM
  have h := splitL_len x ⟨#[10]⟩ x.size 0 0 []
  simp only [List.length_nil] at h
  refine bev (sSplit x _ hx (by show (1 : Nat) ≤ 1048576; omega)) ?_
  have h1 : 1 ≤ (splitM x ⟨#[10]⟩).length := h.1
  have h2 : (splitM x ⟨#[10]⟩).length ≤ 0 + x.size + 1 := h.2
  rw [w64 (i := ((splitM x ⟨#[10]⟩).length : Int) - 1) (by omega) (by omega)]
  refine ifp (by omega) (ifp (by omega) ?_)
  by_cases c : (rdOf ByteArray.empty (splitM x ⟨#[10]⟩) (((splitM x ⟨#[10]⟩).length : Int) - 1)).toList = ([] : List UInt8)
  · exact eqr (ifp c (ifp (by omega) now)) (if_pos c).symm
  · exact eqr (ifn c now) (if_neg c).symm
theorem eqStringS_l (x : List ByteArray) (hn : x.length ≤ 4194304) : ∀ (d i : Nat), i + d = x.length → Ev (fun k => laws_eqStringS.l0 k x x (i : Int)) true
  | 0, i, hd => suc (f := fun _ => some true) (fun k => by rw [laws_eqStringS.l0, if_neg (by omega)]) now
  | d + 1, i, hd => by
    refine suc (f := fun k => laws_eqStringS.l0 k x x ((i + 1 : Nat) : Int)) (fun k => ?_) (eqStringS_l x hn d (i + 1) (by omega))
    rw [laws_eqStringS.l0, if_pos (by omega), if_pos (by omega), if_pos (by omega), if_pos rfl, up1 (by omega) (by omega)]; rfl
theorem eqStringS (x : List ByteArray) (hn : x.length ≤ 4194304) : Ev (fun k => laws_eqStringS.f k x x) true := by
  unfold laws_eqStringS.f
  exact ifp rfl (eqStringS_l x hn x.length 0 (by omega))
theorem one_size (d : Int) : (strOfNums [d]).size = 1 := by simp [strOfNums, ByteArray.size]
theorem markText_l : ∀ (n : Nat) (m : Int) (x : ByteArray), m ≤ n → 0 ≤ m → (x.size : Int) + m ≤ 1099511627776 → ∃ t, Ev (fun k => laws_markText.l0 k m x) t
  | 0, m, x, hn, h0, hs => ⟨_, suc (f := fun _ => some ((⟨#[109]⟩ : ByteArray) ++ x)) (fun k => by rw [laws_markText.l0, if_neg (by omega), if_pos (by omega)]) now⟩
  | n + 1, m, x, hn, h0, hs => by
    by_cases h : m > 0
    · have hd : 0 ≤ Int.tdiv m 10 ∧ Int.tdiv m 10 ≤ m - 1 := by rw [Int.tdiv_eq_ediv_of_nonneg h0]; omega
      have hz : (strOfNums [(wrap64 (48 + (Int.tmod m 10))) % 256] ++ x).size = 1 + x.size := by rw [ByteArray.size_append, one_size]
      obtain ⟨t, ht⟩ := markText_l n (Int.tdiv m 10) (strOfNums [(wrap64 (48 + (Int.tmod m 10))) % 256] ++ x) (by omega) hd.1 (by rw [hz]; omega)
      refine ⟨t, suc (fun k => ?_) ht⟩
      rw [laws_markText.l0, if_pos h]
      simp only [Option.bind_some]
      rw [if_pos (by rw [one_size]; omega), w64 (i := Int.tdiv m 10) (by omega) (by omega)]
    · exact ⟨_, suc (f := fun _ => some ((⟨#[109]⟩ : ByteArray) ++ x)) (fun k => by rw [laws_markText.l0, if_neg h, if_pos (by omega)]) now⟩
theorem markText : ∃ T : Int → ByteArray, ∀ m, 0 ≤ m → m ≤ 1073741824 → Ev (fun k => laws_markText.f k m) (T m) := by
  refine ⟨fun m => Classical.epsilon (fun t => Ev (fun k => laws_markText.f k m) t), fun m h0 hm => ?_⟩
  have hex : ∃ t, Ev (fun k => laws_markText.f k m) t := by
    unfold laws_markText.f
    by_cases h : m ≤ 0
    · exact ⟨_, ifp h now⟩
    · obtain ⟨t, ht⟩ := markText_l m.toNat m (⟨#[]⟩ : ByteArray) (by omega) h0 (by show ((0 : Nat) : Int) + m ≤ _; omega)
      exact ⟨t, ifn h ht⟩
  exact Classical.epsilon_spec hex
def markS (T : Int → ByteArray) (m : Int) : List ByteArray → List ByteArray
  | [] => []
  | _ :: t => T m :: markS T (m + 1) t
theorem rdS_mid (a b : List ByteArray) (x : ByteArray) : rdOf ByteArray.empty (a ++ x :: b) (a.length : Int) = x := by unfold rdOf; simp [List.getD_eq_getElem?_getD]
theorem setS_mid (a b : List ByteArray) (x y : ByteArray) : (a ++ x :: b).set (a.length : Int).toNat y = a ++ y :: b := by simp
theorem markStringS_l {T : Int → ByteArray} (hT : ∀ m, 0 ≤ m → m ≤ 1073741824 → Ev (fun k => laws_markText.f k m) (T m)) : ∀ (b a : List ByteArray) (m : Int), 0 ≤ m → m + b.length ≤ 1073741824 → a.length + b.length ≤ 1073741824 → Ev (fun k => laws_markStringS.l0 k (a ++ b) m (a.length : Int)) (m + b.length, a ++ markS T m b)
  | [], a, m, h0, hm, hn => by
    refine eqr (suc (f := fun _ => some (m, a ++ ([] : List ByteArray))) (fun k => by rw [laws_markStringS.l0, if_neg (by simp)]) now) ?_
    simp [markS]
  | x :: b, a, m, h0, hm, hn => by
    simp only [List.length_cons] at hm hn
    have ih := markStringS_l hT b (a ++ [T m]) (m + 1) (by omega) (by omega) (by simp only [List.length_append, List.length_cons, List.length_nil]; omega)
    refine eqr (r := (m + 1 + b.length, a ++ [T m] ++ markS T (m + 1) b)) (suc (f := fun k => (laws_markText.f k m).bind fun t => (if 0 ≤ (a.length : Int) then laws_markStringS.l0 k ((a ++ x :: b).set (a.length : Int).toNat t) (wrap64 (m + 1)) (wrap64 ((a.length : Int) + 1)) else none)) (fun k => by rw [laws_markStringS.l0, if_pos (by simp only [List.length_append, List.length_cons]; omega)]) (bev (hT m h0 (by omega)) (ifp (by omega) ?_))) ?_
    · rw [setS_mid, w64 (i := m + 1) (by omega) (by omega), w64 (i := (a.length : Int) + 1) (by omega) (by omega)]
      simpa using ih
    · simp only [markS, List.length_cons, List.append_assoc, List.singleton_append, Prod.mk.injEq]
      exact ⟨by omega, trivial⟩
theorem heldStringS_l {T : Int → ByteArray} (hT : ∀ m, 0 ≤ m → m ≤ 1073741824 → Ev (fun k => laws_markText.f k m) (T m)) : ∀ (b a : List ByteArray) (m : Int), 0 ≤ m → m + b.length ≤ 1073741824 → a.length + b.length ≤ 1073741824 → Ev (fun k => laws_heldStringS.l0 k (a ++ markS T m b) m (a.length : Int)) (m + b.length)
  | [], a, m, h0, hm, hn => by
    refine eqr (suc (f := fun _ => some m) (fun k => by rw [laws_heldStringS.l0, if_neg (by simp [markS])]) now) ?_
    simp
  | x :: b, a, m, h0, hm, hn => by
    simp only [List.length_cons] at hm hn
    have ih := heldStringS_l hT b (a ++ [T m]) (m + 1) (by omega) (by omega) (by simp only [List.length_append, List.length_cons, List.length_nil]; omega)
    refine eqr (r := m + 1 + b.length) (suc (f := fun k => (laws_markText.f k m).bind fun t => (if (rdOf ByteArray.empty (a ++ markS T m (x :: b)) (a.length : Int)).toList = t.toList then laws_heldStringS.l0 k (a ++ markS T m (x :: b)) (wrap64 (m + 1)) (wrap64 ((a.length : Int) + 1)) else some (-1))) (fun k => by rw [laws_heldStringS.l0, if_pos (by simp only [markS, List.length_append, List.length_cons]; omega), if_pos (by omega)]) (bev (hT m h0 (by omega)) (ifp ?_ ?_))) ?_
    · simp only [markS, rdS_mid]
    · rw [w64 (i := m + 1) (by omega) (by omega), w64 (i := (a.length : Int) + 1) (by omega) (by omega)]
      simpa [markS] using ih
    · simp only [List.length_cons]; omega
theorem markStringS {T : Int → ByteArray} (hT : ∀ m, 0 ≤ m → m ≤ 1073741824 → Ev (fun k => laws_markText.f k m) (T m)) (x : List ByteArray) (hn : x.length ≤ 4194304) : Ev (fun k => laws_markStringS.f k x 1) (1 + x.length, markS T 1 x) := by
  unfold laws_markStringS.f
  exact markStringS_l hT x [] 1 (by omega) (by omega) (by simp only [List.length_nil]; omega)
theorem heldStringS {T : Int → ByteArray} (hT : ∀ m, 0 ≤ m → m ≤ 1073741824 → Ev (fun k => laws_markText.f k m) (T m)) (x : List ByteArray) (hn : x.length ≤ 4194304) : Ev (fun k => laws_heldStringS.f k (markS T 1 x) 1) (1 + x.length) := by
  unfold laws_heldStringS.f
  exact heldStringS_l hT x [] 1 (by omega) (by omega) (by simp only [List.length_nil]; omega)

theorem FnExactSplitLines : laws_FnExactSplitLines.Pure := by
  intro x hx
  refine Ev.rounds ?_
  unfold laws_FnExactSplitLines.f
  by_cases h1 : (x.size : Int) > 1048576
  · exact ifp h1 now
  refine ifn h1 ?_
  have hq := linesM_len x
  have hi := iLines x (by omega)
  have hs := sLines x (by omega)
  generalize linesM x = r at hq hi hs
  obtain ⟨T, hT⟩ := markText
  have he := eqStringS r (by omega)
  have hm := markStringS hT r (by omega)
  have hh := heldStringS hT r (by omega)
  refine bev hs (bev hi (bev he (ifp rfl (bev hm (bev hh (ifn (by omega) (ifp rfl (bev hi (bev he (ifp rfl (bev hh (ifn (by omega) (ifp rfl now)))))))))))))

end Go.Proofs.Ytbjlnjaedikokaa.Own
