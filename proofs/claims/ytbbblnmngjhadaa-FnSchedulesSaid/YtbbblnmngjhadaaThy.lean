/- Plain lemmas: what holds from some number of rounds on, loops over numbers and lists, bounds. No conditions. -/
import Derived.Test.YtbbblnmngjhadaaWWords
namespace Go.Proofs.YtbbblnmngjhadaaT
open Go.RowKit Go.Proofs.YtbbblnmngjhadaaW.PrintWords
set_option linter.unusedVariables false

/-! ### rounds -/
section
variable {α β : Type}
theorem ifp {c : Prop} [Decidable c] {A B : Nat → Option α} {r : α} (hc : c) (h : Ev A r) : Ev (fun k => if c then A k else B k) r := by simpa only [if_pos hc] using h
theorem ifn {c : Prop} [Decidable c] {A B : Nat → Option α} {r : α} (hc : ¬ c) (h : Ev B r) : Ev (fun k => if c then A k else B k) r := by simpa only [if_neg hc] using h
theorem bnd {o : Option α} {f : Nat → α → Option β} {a : α} {r : β} (ho : o = some a) (h : Ev (fun k => f k a) r) : Ev (fun k => o.bind (f k)) r := by subst ho; exact h
theorem bev {g : Nat → Option α} {f : Nat → α → Option β} {a : α} {r : β} (ho : Ev g a) (h : Ev (fun k => f k a) r) : Ev (fun k => (g k).bind (f k)) r := Ev.bind ho h
theorem suc {g f : Nat → Option α} {r : α} (h : ∀ k, g (k + 1) = f k) (k : Ev f r) : Ev g r := Ev.step h k
theorem eqr {g : Nat → Option α} {r r' : α} (h : Ev g r) (e : r = r') : Ev g r' := e ▸ h
theorem now {r : α} : Ev (fun _ => some r) r := Ev.now r
theorem const {o : Option α} {r : α} (h : o = some r) : Ev (fun _ => o) r := h ▸ Ev.now r
end

/-! ### whole numbers -/
theorem up1 {i : Int} (h0 : -1 ≤ i) (h : i ≤ 140737488355328) : wrap64 (i + 1) = i + 1 := by unfold wrap64; omega
theorem w64 {i : Int} (h0 : -9223372036854775808 ≤ i) (h : i ≤ 9223372036854775807) : wrap64 i = i := by unfold wrap64; omega
theorem rd_at {l : List Int} {i : Nat} (h : i < l.length) : rd l (i : Int) = l[i] := by
  unfold rd; simp [List.getD_eq_getElem?_getD, h]
theorem cast1 (i : Nat) : ((i : Int) + 1) = ((i + 1 : Nat) : Int) := by omega

/-! ### tests for all numbers from i on, d of them -/
def allF (p : Nat → Bool) : Nat → Nat → Bool
  | _, 0 => true
  | i, d + 1 => p i && allF p (i + 1) d
theorem allF_iff (p : Nat → Bool) : ∀ (d i : Nat), allF p i d = true ↔ ∀ j, i ≤ j → j < i + d → p j = true
  | 0, i => by simp only [allF, true_iff]; intro j h1 h2; omega
  | d + 1, i => by
    simp only [allF, Bool.and_eq_true, allF_iff p d (i + 1)]
    constructor
    · rintro ⟨h, k⟩ j h1 h2
      by_cases e : j = i
      · subst e; exact h
      · exact k j (by omega) (by omega)
    · intro h
      exact ⟨h i (by omega) (by omega), fun j h1 h2 => h j (by omega) (by omega)⟩
theorem allF0 (p : Nat → Bool) (n : Nat) : allF p 0 n = true ↔ ∀ j, j < n → p j = true := by
  rw [allF_iff]
  constructor
  · intro h j hj; exact h j (Nat.zero_le _) (by omega)
  · intro h j _ hj; exact h j (by omega)

/-! ### bounds -/
def addB (a b : Int) : Int := if a ≥ 1000000 then 1000000 else if b ≥ 1000000 then 1000000 else if a ≤ -1000000 then -1000000 else if b ≤ -1000000 then -1000000 else if a + b < -1000000 then -1000000 else if a + b > 1000000 then 1000000 else a + b
theorem addB_range (a b : Int) : -1000000 ≤ addB a b ∧ addB a b ≤ 1000000 := by unfold addB; repeat' split
                                                                                all_goals omega
def okB (a b : Int) : Bool := decide (-1000000 ≤ a ∧ a ≤ b ∧ b ≤ 1000000 ∧ a ≠ 1000000 ∧ b ≠ -1000000)

/-! ### tables -/
def cellT (s : Int) (l : List Int) (i k : Nat) : Int := rd l ((i : Int) * s + k)
def cellOk (s : Int) (l : List Int) (i : Nat) : Bool := decide (-1000000 ≤ rd l i ∧ rd l i ≤ 1000000 ∧ ((i : Int) / s = (i : Int) % s → rd l i = 0))
def tableOk (s : Int) (l : List Int) : Bool := decide (0 ≤ s ∧ s ≤ 8 ∧ (l.length : Int) = s * s) && allF (cellOk s l) 0 l.length
theorem diag (s i : Int) (hs : 0 < s) (h0 : 0 ≤ i) (hi : i < s * s) : i / s = i % s ↔ i % (s + 1) = 0 := by
  have h1 := Int.emod_add_mul_ediv i s
  have h2 := Int.emod_nonneg i (show s ≠ 0 by omega)
  have h3 := Int.emod_lt_of_pos i hs
  have h4 : i / s < s := Int.ediv_lt_of_lt_mul hs hi
  have h5 := Int.ediv_nonneg h0 (show 0 ≤ s by omega)
  generalize i / s = q at *
  generalize i % s = r at *
  constructor
  · intro e
    subst e
    have : i = (s + 1) * q := by rw [Int.add_mul]; omega
    rw [this]; exact Int.mul_emod_right _ _
  · intro e
    have h6 := Int.emod_add_mul_ediv i (s + 1)
    rw [e] at h6
    generalize i / (s + 1) = p at *
    have h7 : (s + 1) * (p - q) = r - q := by rw [Int.mul_sub, Int.add_mul s 1 q, Int.one_mul]; omega
    have h8 : p = q := by
      rcases Int.lt_trichotomy p q with h | h | h
      · exfalso
        have : (s + 1) * (p - q) ≤ (s + 1) * (-1) := Int.mul_le_mul_of_nonneg_left (by omega) (by omega)
        omega
      · exact h
      · exfalso
        have : (s + 1) * 1 ≤ (s + 1) * (p - q) := Int.mul_le_mul_of_nonneg_left (by omega) (by omega)
        omega
    rw [h8] at h7
    simp at h7
    omega
theorem cell_in {s : Int} {l : List Int} (h : tableOk s l = true) {i k : Nat} (hi : (i : Int) < s) (hk : (k : Int) < s) : 0 ≤ (i : Int) * s + k ∧ (i : Int) * s + k < l.length ∧ (i : Int) * s ≤ 56 ∧ 0 ≤ (i : Int) * s := by
  unfold tableOk at h
  simp only [Bool.and_eq_true, decide_eq_true_eq] at h
  obtain ⟨⟨h1, h2, h3⟩, _⟩ := h
  have h4 : (i : Int) * s ≤ (s - 1) * s := Int.mul_le_mul_of_nonneg_right (by omega) h1
  have h5 : 0 ≤ (i : Int) * s := Int.mul_nonneg (by omega) h1
  rw [Int.sub_mul, Int.one_mul, ← h3] at h4
  have h6 : s * s ≤ 8 * s := Int.mul_le_mul_of_nonneg_right h2 h1
  have h7 : (i : Int) * s ≤ 7 * s := Int.mul_le_mul_of_nonneg_right (by omega) h1
  refine ⟨by omega, by omega, by omega, h5⟩

/-! ### graphs: an edge is (from, to, weight) -/
theorem allF_list {α : Type} (d : α) (q : α → Bool) : ∀ (l : List α) (p : List α), allF (fun j => q ((p ++ l).getD j d)) p.length l.length = l.all q
  | [], p => rfl
  | x :: l, p => by
    have ih := allF_list d q l (p ++ [x])
    simp only [List.append_assoc, List.singleton_append, List.length_append, List.length_cons, List.length_nil, Nat.zero_add] at ih
    simp only [List.length_cons, allF, List.all_cons, ih]
    congr 1
    simp [List.getD_eq_getElem?_getD]
theorem allF_all {α : Type} (d : α) (q : α → Bool) (l : List α) : allF (fun j => q (l.getD j d)) 0 l.length = l.all q := by
  have := allF_list d q l []
  simpa using this
abbrev E3 := Int × Int × Int
def edgeOk (n : Int) (e : E3) : Bool := decide ((0 ≤ e.1 ∧ e.1 < n) ∧ (0 ≤ e.2.1 ∧ e.2.1 < n) ∧ (-1000000 < e.2.2 ∧ e.2.2 < 1000000))
def graphOk (n : Int) (es : List E3) : Bool := decide (0 ≤ n ∧ n ≤ 8 ∧ es.length ≤ 80) && es.all (edgeOk n)
def eAt (es : List E3) (j : Int) : E3 := es.getD j.toNat (0, 0, 0)
theorem graphOk_iff {n : Int} {es : List E3} (h : graphOk n es = true) : 0 ≤ n ∧ n ≤ 8 ∧ es.length ≤ 80 ∧ ∀ e ∈ es, (0 ≤ e.1 ∧ e.1 < n) ∧ (0 ≤ e.2.1 ∧ e.2.1 < n) ∧ (-1000000 < e.2.2 ∧ e.2.2 < 1000000) := by
  unfold graphOk at h
  simp only [Bool.and_eq_true, decide_eq_true_eq, List.all_eq_true] at h
  obtain ⟨⟨h1, h2, h3⟩, h4⟩ := h
  refine ⟨h1, h2, h3, fun e he => ?_⟩
  have := h4 e he
  simpa only [edgeOk, decide_eq_true_eq] using this
theorem eAt_mem {es : List E3} {j : Int} (h0 : 0 ≤ j) (h1 : j < es.length) : eAt es j ∈ es := by
  unfold eAt
  rw [List.getD_eq_getElem?_getD, List.getElem?_eq_getElem (by omega)]
  exact List.getElem_mem _
def pathW (es : List E3) : Int → List Int → Int
  | s, [] => s
  | s, p :: ps => pathW es (if 0 ≤ p ∧ p < es.length then wrap64 (s + (eAt es p).2.2) else s) ps
def prevI (n i : Nat) : Int := ((i : Int) + n - 1) % n
def cycAt (es : List E3) (c : List Int) (i : Nat) : Bool :=
  decide ((0 ≤ rd c i ∧ rd c i < es.length) ∧ (0 ≤ rd c (prevI c.length i) ∧ rd c (prevI c.length i) < es.length) ∧ (eAt es (rd c (prevI c.length i))).2.1 = (eAt es (rd c i)).1)
def cycL (es : List E3) (c : List Int) : Int → Nat → Nat → Bool
  | s, _, 0 => decide (s < 0)
  | s, i, d + 1 => cycAt es c i && cycL es c (wrap64 (s + (eAt es (rd c i)).2.2)) (i + 1) d
def isNegCyc (n : Int) (es : List E3) (c : List Int) : Bool := graphOk n es && (decide (c.length ≠ 0) && cycL es c 0 0 c.length)

/-! ### networks: a link is (from, to, low, high) -/
abbrev L4 := Int × Int × Int × Int
def lAt (ls : List L4) (j : Int) : L4 := ls.getD j.toNat (0, 0, 0, 0)
def linkOk (n : Int) (l : L4) : Bool := decide ((0 ≤ l.1 ∧ l.1 < n) ∧ (0 ≤ l.2.1 ∧ l.2.1 < n)) && okB l.2.2.1 l.2.2.2
def simpleOk (n : Int) (ls : List L4) : Bool := decide (1 ≤ n ∧ n ≤ 8 ∧ ls.length ≤ 40) && ls.all (linkOk n)
theorem okB_iff {a b : Int} : okB a b = true ↔ -1000000 ≤ a ∧ a ≤ b ∧ b ≤ 1000000 ∧ a ≠ 1000000 ∧ b ≠ -1000000 := by unfold okB; exact decide_eq_true_iff
theorem simpleOk_iff {n : Int} {ls : List L4} (h : simpleOk n ls = true) : 1 ≤ n ∧ n ≤ 8 ∧ ls.length ≤ 40 ∧ ∀ l ∈ ls, ((0 ≤ l.1 ∧ l.1 < n) ∧ (0 ≤ l.2.1 ∧ l.2.1 < n)) ∧ okB l.2.2.1 l.2.2.2 = true := by
  unfold simpleOk at h
  simp only [Bool.and_eq_true, decide_eq_true_eq, List.all_eq_true] at h
  obtain ⟨⟨h1, h2, h3⟩, h4⟩ := h
  refine ⟨h1, h2, h3, fun l hl => ?_⟩
  have := h4 l hl
  simpa only [linkOk, Bool.and_eq_true, decide_eq_true_eq] using this
theorem lAt_mem {ls : List L4} {j : Int} (h0 : 0 ≤ j) (h1 : j < ls.length) : lAt ls j ∈ ls := by
  unfold lAt
  rw [List.getD_eq_getElem?_getD, List.getElem?_eq_getElem (by omega)]
  exact List.getElem_mem _
def linkE (l : L4) : List E3 := (if l.2.2.2 = 1000000 then [] else [(l.1, l.2.1, l.2.2.2)]) ++ (if l.2.2.1 = -1000000 then [] else [(l.2.1, l.1, -l.2.2.1)])
def linkI (i : Nat) (l : L4) : List Int := (if l.2.2.2 = 1000000 then [] else [(i : Int)]) ++ (if l.2.2.1 = -1000000 then [] else [(i : Int)])
def linksE : List L4 → List E3
  | [] => []
  | l :: ls => linkE l ++ linksE ls
def linksI : Nat → List L4 → List Int
  | _, [] => []
  | i, l :: ls => linkI i l ++ linksI (i + 1) ls
theorem linkE_len (l : L4) : (linkE l).length ≤ 2 := by
  unfold linkE
  repeat' split
  all_goals simp
theorem linkI_len (i : Nat) (l : L4) : (linkI i l).length = (linkE l).length := by
  unfold linkI linkE
  repeat' split
  all_goals simp
theorem linksE_len : ∀ ls : List L4, (linksE ls).length ≤ 2 * ls.length
  | [] => by simp [linksE]
  | l :: ls => by
    have := linkE_len l
    have := linksE_len ls
    simp only [linksE, List.length_append, List.length_cons]; omega
theorem linksI_len : ∀ (ls : List L4) (i : Nat), (linksI i ls).length = (linksE ls).length
  | [], i => by simp [linksI, linksE]
  | l :: ls, i => by simp only [linksI, linksE, List.length_append, linkI_len, linksI_len ls]
theorem linksE_ok {n : Int} {ls : List L4} (h : simpleOk n ls = true) : graphOk n (linksE ls) = true := by
  obtain ⟨h1, h2, h3, h4⟩ := simpleOk_iff h
  unfold graphOk
  have hl := linksE_len ls
  rw [Bool.and_eq_true, List.all_eq_true]
  refine ⟨decide_eq_true ⟨by omega, h2, by omega⟩, ?_⟩
  clear hl h3 h
  intro e he
  induction ls with
  | nil => simp [linksE] at he
  | cons l ls ih =>
    simp only [linksE, List.mem_append] at he
    rcases he with he | he
    · obtain ⟨⟨⟨a1, a2⟩, b1, b2⟩, c⟩ := h4 l (by simp)
      rw [okB_iff] at c
      unfold linkE at he
      unfold edgeOk
      rw [decide_eq_true_eq]
      rw [List.mem_append] at he
      rcases he with he | he
      · split at he
        · simp at he
        · simp only [List.mem_singleton] at he
          subst he
          exact ⟨⟨a1, a2⟩, ⟨b1, b2⟩, by simp only []; omega, by simp only []; omega⟩
      · split at he
        · simp at he
        · simp only [List.mem_singleton] at he
          subst he
          exact ⟨⟨b1, b2⟩, ⟨a1, a2⟩, by simp only []; omega, by simp only []; omega⟩
    · exact ih (fun l' hl' => h4 l' (by simp [hl'])) he
def graphOfN (n : Int) (ls : List L4) : Int := if simpleOk n ls = true then n else 0
def graphOfE (n : Int) (ls : List L4) : List E3 := if simpleOk n ls = true then linksE ls else []
end Go.Proofs.YtbbblnmngjhadaaT
