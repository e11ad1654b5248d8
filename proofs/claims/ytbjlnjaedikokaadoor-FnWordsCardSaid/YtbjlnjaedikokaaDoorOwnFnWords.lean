/- The law FnWords answers true for every code. No condition. -/
import Derived.Test.YtbjlnjaedikokaaDoorQFnWordsx2
import Derived.Test.YtbjlnjaedikokaaDoorThy
namespace Go.Proofs.YtbjlnjaedikokaaDoor.Own
open Go.RowKit Go.Proofs.YtbjlnjaedikokaaDoor.QFnWords Go.Proofs.YtbjlnjaedikokaaDoorW.PrintWords Go.Proofs.YtbjlnjaedikokaaDoorW.PrintLast Go.Proofs.YtbjlnjaedikokaaDoorW.PrintMore Go.Proofs.YtbjlnjaedikokaaDoorT Go.Proofs.YtbjlnjaedikokaaDoorT Go.Proofs.YtbjlnjaedikokaaDoorT Go.Proofs.YtbjlnjaedikokaaDoorT
set_option linter.unusedVariables false
set_option linter.unusedSimpArgs false

theorem idx_nonneg (c : UInt8) : ∀ l : List UInt8, 0 ≤ Lib.indexByte l c ↔ c ∈ l
  | [] => by simp [Lib.indexByte]
  | b :: l => by
    have ih := idx_nonneg c l
    have hg := Lib.indexByte_ge l c
    unfold Lib.indexByte
    by_cases h : b = c
    · subst h; simp
    · have h1 : (b == c) = false := beq_eq_false_iff_ne.mpr h
      rw [h1]
      by_cases h2 : Lib.indexByte l c = -1
      · rw [h2] at ih ⊢
        have : c ∉ l := fun x => absurd (ih.mpr x) (by omega)
        simp [this, Ne.symm h]
      · have h3 : (Lib.indexByte l c == -1) = false := beq_eq_false_iff_ne.mpr h2
        rw [h3]
        have : c ∈ l := ih.mp (by omega)
        simp only [Bool.false_eq_true, if_false, List.mem_cons, this, or_true, iff_true]
        omega
theorem bt_nat (s : ByteArray) (i : Nat) (h : i < s.data.toList.length) : bt s (i : Int) = ((s.data.toList[i]).toNat : Int) := by
  have h' : (i : Int).toNat < s.size := by simpa using h
  unfold bt
  rw [dif_pos h']
  rfl
theorem size_list (s : ByteArray) : s.data.toList.length = s.size := by rw [Array.length_toList]; rfl
def hitB (x b : ByteArray) (i : Nat) : Bool := decide (0 ≤ idxByte b (bt x (i : Int)))
def hitF (x b : ByteArray) (i : Nat) : Nat → Nat → Bool
  | _, 0 => false
  | j, d + 1 => decide (bt x (i : Int) = bt b (j : Int)) || hitF x b i (j + 1) d
theorem hitF_mem (x b : ByteArray) (i : Nat) (hi : i < x.data.toList.length) : ∀ (d j : Nat), j + d = b.data.toList.length → (hitF x b i j d = true ↔ x.data.toList[i] ∈ b.data.toList.drop j)
  | 0, j, h => by rw [List.drop_eq_nil_of_le (by omega)]; simp [hitF]
  | d + 1, j, h => by
    have hj : j < b.data.toList.length := by omega
    rw [List.drop_eq_getElem_cons hj]
    simp only [hitF, Bool.or_eq_true, decide_eq_true_eq, hitF_mem x b i hi d (j + 1) (by omega), List.mem_cons]
    rw [bt_nat x i hi, bt_nat b j hj]
    constructor
    · rintro (h | h)
      · exact Or.inl (UInt8.toNat_inj.mp (by omega))
      · exact Or.inr h
    · rintro (h | h)
      · exact Or.inl (by rw [h])
      · exact Or.inr h
theorem hit_eq (x b : ByteArray) (i : Nat) (hi : i < x.size) : hitF x b i 0 b.size = hitB x b i := by
  have hx : i < x.data.toList.length := by rw [size_list]; exact hi
  rw [Bool.eq_iff_iff, hitF_mem x b i hx b.size 0 (by rw [size_list]; omega), List.drop_zero]
  unfold hitB idxByte
  rw [decide_eq_true_eq, bt_nat x i hx, idx_nonneg]
  simp
def splitL (x b : ByteArray) : Nat → Nat → Nat → List ByteArray → List ByteArray
  | 0, _, f, o => o ++ [x.extract f x.size]
  | d + 1, i, f, o => if hitB x b i = true then splitL x b d (i + 1) (i + 1) (o ++ [x.extract f i]) else splitL x b d (i + 1) f o
theorem splitL_len (x b : ByteArray) : ∀ (d i f : Nat) (o : List ByteArray), 1 ≤ (splitL x b d i f o).length ∧ (splitL x b d i f o).length ≤ o.length + d + 1
  | 0, i, f, o => by simp [splitL]
  | d + 1, i, f, o => by
    unfold splitL
    split
    · have := splitL_len x b d (i + 1) (i + 1) (o ++ [x.extract f i])
      simp only [List.length_append, List.length_cons, List.length_nil] at this
      omega
    · have := splitL_len x b d (i + 1) f o
      omega
def splitM (x b : ByteArray) : List ByteArray := splitL x b x.size 0 0 []
theorem iSplit_l (x b : ByteArray) (hx : x.size ≤ 1048576) : ∀ (d i f : Nat) (o : List ByteArray), i + d = x.size → f ≤ i → o.length ≤ i → Ev (fun k => impl_SplitAny.l0 k x b o (f : Int) (i : Int)) (splitL x b d i f o)
  | 0, i, f, o, hd, hf, ho => by
    simp only [splitL]
    exact suc (f := fun _ => some (o ++ [x.extract f x.size])) (fun k => by rw [impl_SplitAny.l0, if_neg (by omega), if_pos (by omega), if_pos (by omega), if_pos (by omega)]; rfl) now
  | d + 1, i, f, o, hd, hf, ho => by
    simp only [splitL]
    by_cases h : hitB x b i = true
    · rw [if_pos h]
      have h' : idxByte b (bt x (i : Int)) ≥ 0 := of_decide_eq_true h
      refine suc (f := fun k => impl_SplitAny.l0 k x b (o ++ [x.extract f i]) ((i + 1 : Nat) : Int) ((i + 1 : Nat) : Int)) (fun k => ?_) (iSplit_l x b hx d (i + 1) (i + 1) _ (by omega) (by omega) (by simp only [List.length_append, List.length_cons, List.length_nil]; omega))
      rw [impl_SplitAny.l0, if_pos (by omega), if_pos (by omega)]
      unfold strings_IndexByte.f
      simp only [Option.bind_some]
      rw [if_pos h', if_pos (by omega), if_pos (by omega), if_pos (by omega), if_pos (by omega), up1 (by omega) (by omega)]; rfl
    · rw [if_neg h]
      have h' : ¬ idxByte b (bt x (i : Int)) ≥ 0 := fun y => h (decide_eq_true y)
      refine suc (f := fun k => impl_SplitAny.l0 k x b o (f : Int) ((i + 1 : Nat) : Int)) (fun k => ?_) (iSplit_l x b hx d (i + 1) f _ (by omega) (by omega) (by omega))
      rw [impl_SplitAny.l0, if_pos (by omega), if_pos (by omega)]
      unfold strings_IndexByte.f
      simp only [Option.bind_some]
      rw [if_neg h', up1 (by omega) (by omega)]; rfl
theorem iSplit (x b : ByteArray) (hx : x.size ≤ 1048576) : Ev (fun k => impl_SplitAny.f k x b) (splitM x b) := iSplit_l x b hx x.size 0 0 [] (by omega) (by omega) (by simp)
theorem szl (l : List UInt8) : (⟨l.toArray⟩ : ByteArray).size = l.length := by simp [ByteArray.size]
theorem bapp (a b : List UInt8) : (⟨a.toArray⟩ : ByteArray) ++ ⟨b.toArray⟩ = ⟨(a ++ b).toArray⟩ := by apply ByteArray.ext; simp
theorem digit (d : Nat) (h : d < 10) : strOfNums [(wrap64 (48 + (d : Int))) % 256] = ⟨[UInt8.ofNat (48 + d)].toArray⟩ := by
  rw [w64 (by omega) (by omega)]
  have e : ((48 + (d : Int)) % 256).toNat = 48 + d := by omega
  simp [strOfNums, e]
theorem dd_small {u : Nat} (h : u < 10) : Lib.decDigits u = [UInt8.ofNat (48 + u)] := Lib.decDigits_one h
theorem dd_big {u : Nat} (h : ¬ u < 10) : Lib.decDigits u = Lib.decDigits (u / 10) ++ [UInt8.ofNat (48 + u % 10)] := by rw [Lib.decDigits, dif_neg h]
theorem dd_pos (u : Nat) : 1 ≤ (Lib.decDigits u).length := by
  by_cases h : u < 10
  · rw [dd_small h]; simp
  · rw [dd_big h]; simp
theorem dd_len {u : Nat} (h : u ≤ 9223372036854775808) : (Lib.decDigits u).length ≤ 21 := by
  by_cases h1 : u = 0
  · subst h1; rw [dd_small (by omega)]; simp
  · have := Lib.itoa_length_le (-(u : Int)) (by omega) (by omega)
    rw [Lib.itoa_neg u (by omega), List.length_cons] at this
    omega
theorem iFmt (n : Int) (h0 : -9223372036854775808 ≤ n) (h1 : n ≤ 9223372036854775807) : impl_FormatInt.f n = some ⟨(Lib.itoa n).toArray⟩ := if_pos ⟨h0, h1⟩
theorem i64_range {n : Int} (h : (Lit.int .i64 n).wf = true) : -9223372036854775808 ≤ n ∧ n ≤ 9223372036854775807 := by
  unfold Lit.wf at h
  rw [Bool.and_eq_true, decide_eq_true_eq, decide_eq_true_eq] at h
  exact h
theorem szd (s : ByteArray) : s.data.toList.length = s.size := by rw [Array.length_toList]; rfl
theorem bt_list (s : ByteArray) (i : Nat) (h : i < s.data.toList.length) : bt s (i : Int) = ((s.data.toList[i]).toNat : Int) := by
  have h2 : (i : Int).toNat < s.size := by rw [← szd]; simpa using h
  unfold bt
  rw [dif_pos h2]
  rfl
def isD (c : UInt8) : Bool := decide (48 ≤ c.toNat ∧ c.toNat ≤ 57)
theorem isD_iff {c : UInt8} : isD c = true ↔ 48 ≤ c.toNat ∧ c.toNat ≤ 57 := by unfold isD; rw [decide_eq_true_eq]
theorem chr_nat {d : Nat} (h : d < 10) : (UInt8.ofNat (48 + d)).toNat = 48 + d := by rw [UInt8.toNat_ofNat']; omega
theorem dd_all (u : Nat) : (Lib.decDigits u).all isD = true := by
  induction u using Nat.strongRecOn with
  | _ u ih =>
    by_cases h : u < 10
    · rw [dd_small h, List.all_cons, List.all_nil, Bool.and_true, isD_iff, chr_nat h]; omega
    · rw [dd_big h, List.all_append, ih (u / 10) (by omega), Bool.true_and, List.all_cons, List.all_nil, Bool.and_true, isD_iff, chr_nat (by omega)]; omega
theorem dd_pow (u : Nat) : ∀ k, u < 10 ^ (k + 1) → (Lib.decDigits u).length ≤ k + 1 := by
  induction u using Nat.strongRecOn with
  | _ u ih =>
    intro k hk
    by_cases h : u < 10
    · rw [dd_small h]; simp
    · cases k with
      | zero => simp at hk; omega
      | succ k =>
        rw [dd_big h, List.length_append]
        have := ih (u / 10) (by omega) k (by rw [Nat.pow_succ] at hk; omega)
        simp only [List.length_cons, List.length_nil]
        omega
theorem dd19 {u : Nat} (h : u ≤ 9223372036854775808) : (Lib.decDigits u).length ≤ 19 := dd_pow u 18 (by omega)
def valD : Nat → List UInt8 → Option Nat
  | a, [] => some a
  | a, c :: r => if a * 10 + (c.toNat - 48) ≤ 9223372036854775808 then valD (a * 10 + (c.toNat - 48)) r else none
theorem valD_c (a : Nat) (c : UInt8) (r : List UInt8) : valD a (c :: r) = if a * 10 + (c.toNat - 48) ≤ 9223372036854775808 then valD (a * 10 + (c.toNat - 48)) r else none := by rw [valD]
theorem valD_app : ∀ (l : List UInt8) (a b : Nat) (m : List UInt8), valD a l = some b → valD a (l ++ m) = valD b m
  | [], a, b, m, h => by rw [Option.some.inj h]; rfl
  | c :: l, a, b, m, h => by
    rw [List.cons_append]
    rw [valD_c] at h ⊢
    split at h
    · rename_i q; rw [if_pos q]; exact valD_app l _ b m h
    · cases h
theorem valD_dd (u : Nat) : u ≤ 9223372036854775808 → valD 0 (Lib.decDigits u) = some u := by
  induction u using Nat.strongRecOn with
  | _ u ih =>
    intro hu
    by_cases h : u < 10
    · rw [dd_small h]; unfold valD; rw [chr_nat h, if_pos (by omega)]; unfold valD; congr 1; omega
    · rw [dd_big h, valD_app _ _ _ _ (ih (u / 10) (by omega) (by omega))]; unfold valD; rw [chr_nat (by omega), if_pos (by omega)]; unfold valD; congr 1; omega
theorem pu_c (a : Nat) (c : UInt8) (r : List UInt8) : Lib.parseUint10 a (c :: r) = if 48 ≤ c.toNat ∧ c.toNat ≤ 57 then (if 1844674407370955162 ≤ a then Lib.parseUint10 1844674407370955162 [57] else if 18446744073709551616 ≤ a * 10 + (c.toNat - 48) then Lib.parseUint10 1844674407370955162 [57] else Lib.parseUint10 (a * 10 + (c.toNat - 48)) r) else Lib.parseUint10 0 [0] := by
  have e1 : Lib.parseUint10 1844674407370955162 [57] = .range := rfl
  have e2 : ∀ z, z = Lib.parseUint10 0 [0] → z = Lib.parseUint10 0 [0] := fun _ h => h
  rw [e1]
  conv => lhs; rw [Lib.parseUint10]
  rfl
theorem pu_app : ∀ (l : List UInt8) (a b : Nat) (m : List UInt8), Lib.parseUint10 a l = .ok b → Lib.parseUint10 a (l ++ m) = Lib.parseUint10 b m
  | [], a, b, m, h => by rw [Lib.parseUint10] at h; injection h with h; rw [h]; rfl
  | c :: l, a, b, m, h => by
    rw [List.cons_append]
    rw [pu_c] at h ⊢
    by_cases q1 : 48 ≤ c.toNat ∧ c.toNat ≤ 57
    · rw [if_pos q1] at h ⊢
      by_cases q2 : 1844674407370955162 ≤ a
      · rw [if_pos q2] at h; cases h
      · rw [if_neg q2] at h ⊢
        by_cases q3 : 18446744073709551616 ≤ a * 10 + (c.toNat - 48)
        · rw [if_pos q3] at h; cases h
        · rw [if_neg q3] at h ⊢; exact pu_app l _ b m h
    · rw [if_neg q1] at h; cases h
theorem pu_dd (u : Nat) : u ≤ 9223372036854775808 → Lib.parseUint10 0 (Lib.decDigits u) = .ok u := by
  induction u using Nat.strongRecOn with
  | _ u ih =>
    intro hu
    by_cases h : u < 10
    · rw [dd_small h]; unfold Lib.parseUint10; rw [chr_nat h, if_pos (by omega), if_neg (by omega), if_neg (by omega)]; unfold Lib.parseUint10; congr 1; omega
    · rw [dd_big h, pu_app _ _ _ _ (ih (u / 10) (by omega) (by omega))]; unfold Lib.parseUint10; rw [chr_nat (by omega), if_pos (by omega), if_neg (by omega), if_neg (by omega)]; unfold Lib.parseUint10; congr 1; omega
theorem dd_cons (u : Nat) : ∃ c r, Lib.decDigits u = c :: r ∧ 48 ≤ c.toNat ∧ c.toNat ≤ 57 := by
  have hp := dd_pos u
  have ha := dd_all u
  cases h : Lib.decDigits u with
  | nil => rw [h] at hp; simp at hp
  | cons c r =>
    rw [h, List.all_cons, Bool.and_eq_true, isD_iff] at ha
    exact ⟨c, r, rfl, ha.1⟩
theorem atoi_itoa {v : Int} (h0 : -9223372036854775808 ≤ v) (h1 : v ≤ 9223372036854775807) : atoiO (Lib.itoa v) = some v := by
  unfold atoiO
  by_cases hn : v < 0
  · obtain ⟨u, rfl⟩ : ∃ u : Nat, v = -(u : Int) := ⟨v.natAbs, by omega⟩
    rw [Lib.itoa_neg u (by omega)]
    have hm : Lib.parseMag (Lib.decDigits u) = .ok u := by
      obtain ⟨c, r, e, _⟩ := dd_cons u
      unfold Lib.parseMag
      rw [if_neg (by rw [e]; simp)]
      exact pu_dd u (by omega)
    have e : Lib.atoiAll (45 :: Lib.decDigits u) = .ok (-(u : Int)) := by
      simp only [Lib.atoiAll]
      rw [if_pos (show UInt8.toNat 45 = 43 ∨ UInt8.toNat 45 = 45 from Or.inr rfl), hm]
      simp only
      rw [if_neg (show ¬ (¬ UInt8.toNat 45 = 45 ∧ 9223372036854775808 ≤ u) from fun z => z.1 rfl), if_neg (show ¬ (UInt8.toNat 45 = 45 ∧ 9223372036854775808 < u) from fun z => by omega), if_pos (show UInt8.toNat 45 = 45 from rfl)]
    rw [e]
  · obtain ⟨u, rfl⟩ : ∃ u : Nat, v = (u : Int) := ⟨v.toNat, by omega⟩
    rw [Lib.itoa_nonneg]
    obtain ⟨c, r, e, hc⟩ := dd_cons u
    have hm : Lib.parseMag (c :: r) = .ok u := by
      unfold Lib.parseMag
      rw [if_neg (by simp), ← e]
      exact pu_dd u (by omega)
    have e2 : Lib.atoiAll (c :: r) = .ok (u : Int) := by
      simp only [Lib.atoiAll]
      rw [if_neg (show ¬ (c.toNat = 43 ∨ c.toNat = 45) by omega), hm]
      simp only
      rw [if_neg (show ¬ (¬ c.toNat = 45 ∧ 9223372036854775808 ≤ u) by omega), if_neg (show ¬ (c.toNat = 45 ∧ 9223372036854775808 < u) by omega), if_neg (show ¬ c.toNat = 45 by omega)]
    rw [e, e2]
theorem parM_of {s : ByteArray} {v : Int} (h0 : -9223372036854775808 ≤ v) (h1 : v ≤ 9223372036854775807) (h : Lib.itoa v = s.data.toList) : parM s = (v, true) := by
  unfold parM
  rw [← h, atoi_itoa h0 h1]
  simp only
  rw [if_pos trivial]
theorem parM_or (s : ByteArray) : parM s = (0, false) ∨ ∃ v, -9223372036854775808 ≤ v ∧ v ≤ 9223372036854775807 ∧ Lib.itoa v = s.data.toList ∧ parM s = (v, true) := by
  unfold parM
  rcases hA : atoiO s.data.toList with _ | v
  · exact Or.inl rfl
  · have hr := atoi_range hA
    by_cases h : Lib.itoa v = s.data.toList
    · exact Or.inr ⟨v, hr.1, hr.2, h, by simp only; rw [if_pos h]⟩
    · exact Or.inl (by simp only; rw [if_neg h])
def cutJ (c : UInt8) (o : List ByteArray) : List UInt8 := (o.map fun y => y.data.toList ++ [c]).flatten
theorem join_last (c : UInt8) (y : ByteArray) : ∀ o : List ByteArray, Lib.join ((o ++ [y]).map (·.data.toList)) [c] = cutJ c o ++ y.data.toList
  | [] => by rw [List.nil_append, List.map_cons, List.map_nil, Lib.join_one]; rfl
  | a :: o => by
    have ih := join_last c y o
    cases o with
    | nil =>
      simp only [List.cons_append, List.nil_append, List.map_cons, List.map_nil]
      rw [Lib.join_cons]
      simp [Lib.joinTail, cutJ]
    | cons b o =>
      simp only [List.cons_append, List.map_cons] at ih ⊢
      rw [Lib.join_cons] at ih ⊢
      unfold Lib.joinTail at ih ⊢
      unfold cutJ at ih ⊢
      simp only [List.map_cons, List.flatten_cons, List.cons_append, List.nil_append, List.append_assoc, List.cons.injEq, List.append_cancel_left_eq] at ih ⊢
      rw [ih]
      exact ⟨trivial, rfl⟩
theorem ext_l (x : ByteArray) (a b : Nat) : (x.extract a b).data.toList = (x.data.toList.drop a).take (b - a) := Lib.extract_data x a b
theorem split_join (x : ByteArray) (c : UInt8) : ∀ (d i f : Nat) (o : List ByteArray), i + d = x.size → f ≤ i → cutJ c o = x.data.toList.take f → Lib.join ((splitL x ⟨#[c]⟩ d i f o).map (·.data.toList)) [c] = x.data.toList
  | 0, i, f, o, hd, hf, ho => by
    unfold splitL
    have hd2 : (x.extract f x.size).data.toList = x.data.toList.drop f := by
      rw [ext_l]; exact List.take_of_length_le (by rw [List.length_drop, szd]; exact Nat.le_refl _)
    rw [join_last, ho, hd2, List.take_append_drop]
  | d + 1, i, f, o, hd, hf, ho => by
    have hi : i < x.data.toList.length := by rw [szd]; omega
    unfold splitL
    by_cases h : hitB x ⟨#[c]⟩ i = true
    · rw [if_pos h]
      refine split_join x c d (i + 1) (i + 1) _ (by omega) (Nat.le_refl _) ?_
      have hc : x.data.toList[i] = c := by
        rw [← hit_eq x ⟨#[c]⟩ i (by omega)] at h
        have := (hitF_mem x ⟨#[c]⟩ i hi _ 0 (by rw [szd]; omega)).1 h
        simpa using this
      have e : cutJ c (o ++ [x.extract f i]) = cutJ c o ++ ((x.extract f i).data.toList ++ [c]) := by unfold cutJ; simp
      rw [e, ho, ext_l, List.take_add_one, List.getElem?_eq_getElem hi, hc, ← List.append_assoc]
      congr 1
      have e2 : x.data.toList.take i = x.data.toList.take (f + (i - f)) := by rw [show f + (i - f) = i by omega]
      rw [e2, List.take_add]
    · rw [if_neg h]
      exact split_join x c d (i + 1) f o (by omega) (by omega) ho
theorem iJoinSplit (x : ByteArray) (c : UInt8) (hx : x.size ≤ 1048576) : impl_Join.f (splitM x ⟨#[c]⟩) ⟨#[c]⟩ = some x := by
  have hl := (splitL_len x ⟨#[c]⟩ x.size 0 0 []).2
  simp only [List.length_nil] at hl
  have hj : joinB (splitM x ⟨#[c]⟩) ⟨#[c]⟩ = x.data.toList := split_join x c x.size 0 0 [] (by omega) (by omega) rfl
  unfold impl_Join.f strings_Join.f
  rw [hj, if_pos ⟨by unfold splitM; omega, by rw [szd]; omega⟩]
  simp only [Option.bind_some]
theorem and255 (n : Int) : Go.bits .and .i64 n 255 = n % 256 := by
  have h : (BitVec.ofInt 64 255).toNat = 2 ^ 8 - 1 := by decide
  have key : (BitVec.ofInt 64 n &&& BitVec.ofInt 64 255).toNat = (n % ((2 ^ 64 : Nat) : Int)).toNat % 2 ^ 8 := by
    rw [BitVec.toNat_and, BitVec.toNat_ofInt, h, Nat.and_two_pow_sub_one_eq_mod]
  show IntKind.i64.wrap ((BitVec.ofInt 64 n &&& BitVec.ofInt 64 255).toNat : Nat) = n % 256
  rw [key, IntKind.wrap_i64]
  omega
theorem byteM (s : List Int) (i h : Int) (hs : s.length ≤ 1048576) (h0 : 0 ≤ i) : ∃ b i' h', spec_l01Byte.f s i h = some (b, i', h') ∧ 0 ≤ b ∧ b < 256 ∧ 0 ≤ i' := by
  unfold spec_l01Byte.f
  by_cases c : i < (s.length : Int)
  · rw [if_pos c, if_pos h0, and255]
    refine ⟨_, _, _, rfl, ?_, ?_, ?_⟩
    · omega
    · omega
    · rw [w64 (by omega) (by omega)]; omega
  · rw [if_neg c, and255]
    exact ⟨_, _, _, rfl, by omega, by omega, h0⟩
theorem belowM (s : List Int) (i h : Int) (hs : s.length ≤ 1048576) (h0 : 0 ≤ i) (n : Int) (hn : 0 < n) (hn2 : n ≤ 256) : ∃ b i' h', spec_l01Below.f s i h n = some (b, i', h') ∧ 0 ≤ b ∧ b < n ∧ 0 ≤ i' := by
  obtain ⟨b, i', h', e, b0, b1, i0⟩ := byteM s i h hs h0
  unfold spec_l01Below.f
  rw [if_neg (by omega), if_pos hn2, e]
  simp only [Option.bind_some]
  rw [if_neg (by omega)]
  refine ⟨_, _, _, rfl, ?_, ?_, i0⟩
  · rw [Int.tmod_eq_emod_of_nonneg b0]; exact Int.emod_nonneg _ (by omega)
  · rw [Int.tmod_eq_emod_of_nonneg b0]; exact Int.emod_lt_of_pos _ hn
theorem newM_l (s : List Int) (hs : s.length ≤ 1048576) : ∀ (d : Nat) (i : Nat) (h : Int), i + d = s.length → ∃ h', Ev (fun k => spec_l01New.l0 k s h (i : Int)) (s, 0, h')
  | 0, i, h, hd => ⟨h, suc (f := fun _ => some (s, 0, h)) (fun k => by rw [spec_l01New.l0, if_neg (by omega)]) now⟩
  | d + 1, i, h, hd => by
    by_cases c : (i : Int) < 4000
    · obtain ⟨h', e⟩ := newM_l s hs d (i + 1) (Go.bits .and .i64 (wrap64 ((wrap64 ((wrap64 (h * 71)) + (wrap64 (rd s (i : Int))))) + 7)) 1073741823) (by omega)
      refine ⟨h', suc (fun k => ?_) e⟩
      rw [spec_l01New.l0, if_pos (by omega), if_pos c, if_pos (by omega), up1 (by omega) (by omega)]; rfl
    · exact ⟨h, suc (f := fun _ => some (s, 0, h)) (fun k => by rw [spec_l01New.l0, if_pos (by omega), if_neg c]) now⟩
theorem newM (s : List Int) (hs : s.length ≤ 1048576) : ∃ h', Ev (fun k => spec_l01New.f k s) (s, 0, h') := by
  unfold spec_l01New.f
  exact newM_l s hs s.length 0 _ (by omega)
def TXT : List ByteArray := [⟨#[97]⟩, ⟨#[98, 99]⟩, ⟨#[32]⟩, ⟨#[44]⟩, ⟨#[120, 49]⟩]
theorem strM (s : List Int) (i h : Int) (hs : s.length ≤ 1048576) (h0 : 0 ≤ i) : ∃ y i' h', spec_l01Str.f s i h TXT = some (y, i', h') ∧ y.size ≤ 2 ∧ 0 ≤ i' := by
  obtain ⟨b, i', h', e, b0, b1, i0⟩ := belowM s i h hs h0 5 (by omega) (by omega)
  unfold spec_l01Str.f
  rw [show ((TXT.length : Nat) : Int) = 5 from rfl, e]
  simp only [Option.bind_some]
  rw [if_pos b0, if_pos b1]
  refine ⟨_, _, _, rfl, ?_, i0⟩
  have : b = 0 ∨ b = 1 ∨ b = 2 ∨ b = 3 ∨ b = 4 := by omega
  rcases this with rfl | rfl | rfl | rfl | rfl <;> decide
theorem textM_l (s : List Int) (hs : s.length ≤ 1048576) : ∀ (n : Nat) (m : Int) (x : ByteArray) (i h : Int), m ≤ n → x.size + 2 * n ≤ 100 → 0 ≤ i → ∃ t, Ev (fun k => spec_MakeText.l0 k x m s i h) t ∧ t.size ≤ 100
  | 0, m, x, i, h, hn, hx, h0 => ⟨x, suc (f := fun _ => some x) (fun k => by rw [spec_MakeText.l0, if_neg (by omega)]) now, by omega⟩
  | n + 1, m, x, i, h, hn, hx, h0 => by
    by_cases c : m > 0
    · obtain ⟨y, i', h', e, hy, i0⟩ := strM s i h hs h0
      obtain ⟨t, ht, hz⟩ := textM_l s hs n (m - 1) (x ++ y) i' h' (by omega) (by rw [ByteArray.size_append]; omega) i0
      refine ⟨t, suc (fun k => ?_) ht, hz⟩
      have e2 : wrap64 (m - 1) = m - 1 := w64 (by omega) (by omega)
      rw [spec_MakeText.l0, if_pos c, e2]
      show (spec_l01Str.f s i h TXT).bind _ = _
      rw [e]
      simp only [Option.bind_some]
      rw [if_pos (by omega)]
    · exact ⟨x, suc (f := fun _ => some x) (fun k => by rw [spec_MakeText.l0, if_neg c]) now, by omega⟩
theorem textM (s : List Int) (hs : s.length ≤ 1048576) : ∃ t, Ev (fun k => spec_MakeText.f k s) t ∧ t.size ≤ 100 := by
  obtain ⟨h', e⟩ := newM s hs
  obtain ⟨b, i', h2, e2, b0, b1, i0⟩ := belowM s 0 h' hs (by omega) 8 (by omega) (by omega)
  obtain ⟨t, ht, hz⟩ := textM_l s hs 8 b ⟨#[]⟩ i' h2 (by omega) (by decide) i0
  refine ⟨t, ?_, hz⟩
  unfold spec_MakeText.f
  exact bev e (bnd e2 ht)
theorem skipM (s : List Int) (hs : s.length ≤ 1048576) : ∀ (n : Nat) (i h : Int), 0 ≤ i → ∃ i' h', mnSkip s n i h = some (i', h') ∧ 0 ≤ i'
  | 0, i, h, h0 => ⟨i, h, rfl, h0⟩
  | n + 1, i, h, h0 => by
    obtain ⟨b, i1, h1, e, _, _, p⟩ := byteM s i h hs h0
    obtain ⟨i', h', e2, q⟩ := skipM s hs n i1 h1 p
    refine ⟨i', h', ?_, q⟩
    rw [mnSkip, e]; exact e2
theorem makeNum (s : List Int) (hs : s.length ≤ 1048576) (a : Int) (h0 : 0 ≤ a) (h1 : a ≤ 1000) : ∃ r, Ev (fun k => spec_MakeNum.f k s a) r ∧ 0 ≤ r ∧ r ≤ 65535 := by
  obtain ⟨h, e⟩ := newM s hs
  obtain ⟨i1, h1', e1, p1⟩ := skipM s hs a.toNat 0 h (by omega)
  obtain ⟨x, i2, h2, e2, x0, x1, p2⟩ := byteM s i1 h1' hs p1
  obtain ⟨y, i3, h3, e3, y0, y1, p3⟩ := byteM s i2 h2 hs p2
  refine ⟨wrap64 ((wrap64 (x * 256)) + y), ?_, ?_⟩
  · unfold spec_MakeNum.f
    exact ifp ⟨h0, h1⟩ (bev e (bnd e1 (bnd e2 (bnd e3 now))))
  · rw [w64 (i := x * 256) (by omega) (by omega), w64 (by omega) (by omega)]; omega
def linesM (x : ByteArray) : List ByteArray := if (rdOf ByteArray.empty (splitM x ⟨#[10]⟩) (((splitM x ⟨#[10]⟩).length : Int) - 1)).toList = ([] : List UInt8) then (splitM x ⟨#[10]⟩).take ((((splitM x ⟨#[10]⟩).length : Int) - 1)).toNat else splitM x ⟨#[10]⟩
theorem linesM_len (x : ByteArray) : (linesM x).length ≤ x.size + 1 := by
  have := splitL_len x ⟨#[10]⟩ x.size 0 0 []
  unfold linesM
  split
  · rw [List.length_take]; unfold splitM; simp only [List.length_nil] at this; omega
  · unfold splitM; simp only [List.length_nil] at this; omega
theorem iLines (x : ByteArray) (hx : x.size ≤ 1048576) : Ev (fun k => impl_SplitLines.f k x) (linesM x) := by
  unfold impl_SplitLines.f linesM
  have h := splitL_len x ⟨#[10]⟩ x.size 0 0 []
  simp only [List.length_nil] at h
  refine bev (iSplit x _ hx) ?_
  have h1 : 1 ≤ (splitM x ⟨#[10]⟩).length := h.1
  have h2 : (splitM x ⟨#[10]⟩).length ≤ 0 + x.size + 1 := h.2
  rw [w64 (i := ((splitM x ⟨#[10]⟩).length : Int) - 1) (by omega) (by omega)]
  refine ifp (by omega) (ifp (by omega) ?_)
  by_cases c : (rdOf ByteArray.empty (splitM x ⟨#[10]⟩) (((splitM x ⟨#[10]⟩).length : Int) - 1)).toList = ([] : List UInt8)
  · exact eqr (ifp c (ifp (by omega) now)) (if_pos c).symm
  · exact eqr (ifn c now) (if_neg c).symm
theorem nameX : Ev (fun k => impl_IsName.f k ⟨#[120, 49]⟩) true := by
  unfold impl_IsName.f
  refine suc (f := fun k => impl_IsName.l0 k ⟨#[120, 49]⟩ 1) (fun k => by rw [impl_IsName.l0, if_pos (by decide +kernel), if_pos (by decide +kernel), if_pos (by decide +kernel), if_pos (by decide +kernel), if_pos (by decide +kernel), show wrap64 ((0 : Int) + 1) = 1 by decide +kernel]) (suc (f := fun k => impl_IsName.l0 k ⟨#[120, 49]⟩ 2) (fun k => by rw [impl_IsName.l0, if_pos (by decide +kernel), if_pos (by decide +kernel), if_neg (by decide +kernel), if_pos (by decide +kernel), if_pos (by decide +kernel), if_neg (by decide +kernel), show wrap64 ((1 : Int) + 1) = 2 by decide +kernel]) (suc (f := fun _ => some true) (fun k => by rw [impl_IsName.l0, if_neg (by decide +kernel), if_pos (by decide +kernel), show decide ((((⟨#[120, 49]⟩ : ByteArray).size : Nat) : Int) ≤ 8) = true by decide +kernel]) now))
theorem digX : Ev (fun k => impl_IsDigits.f k ⟨#[48]⟩) true := by
  unfold impl_IsDigits.f
  refine suc (f := fun k => impl_IsDigits.l0 k ⟨#[48]⟩ 1) (fun k => by rw [impl_IsDigits.l0, if_pos (by decide +kernel), if_pos (by decide +kernel), if_neg (by decide +kernel), if_neg (by decide +kernel), show wrap64 ((0 : Int) + 1) = 1 by decide +kernel]) (suc (f := fun _ => some ((⟨#[48]⟩ : ByteArray).toList != ([] : List UInt8))) (fun k => by rw [impl_IsDigits.l0, if_neg (by decide +kernel)]) ?_)
  rw [Lib.toList_data]
  exact now
theorem linesX : (linesM ⟨#[97, 10, 98, 10]⟩).length = 2 := by
  have e : splitM ⟨#[97, 10, 98, 10]⟩ ⟨#[10]⟩ = [⟨#[97]⟩, ⟨#[98]⟩, ⟨#[]⟩] := by decide +kernel
  unfold linesM
  rw [e, if_pos (by rw [Lib.toList_data]; rfl)]
  rfl

theorem FnWords : laws_FnWords.Pure := by
  intro l hl _
  refine Ev.rounds ?_
  unfold laws_FnWords.f
  by_cases hx : (l.length : Int) > 1048576
  · exact ifp hx now
  refine ifn hx ?_
  obtain ⟨a, ha, a0, a1⟩ := makeNum l (by omega) 1 (by omega) (by omega)
  obtain ⟨t, ht, ts⟩ := textM l (by omega)
  have e : wrap64 (a - 30000) = a - 30000 := w64 (by omega) (by omega)
  refine bev ha ?_
  rw [e]
  generalize hn : a - 30000 = n
  have n0 : -9223372036854775808 ≤ n := by omega
  have n1 : n ≤ 9223372036854775807 := by omega
  have hp : parM ⟨(Lib.itoa n).toArray⟩ = (n, true) := parM_of n0 n1 (by simp)
  have hz : (⟨(Lib.itoa n).toArray⟩ : ByteArray).size ≤ 281474976710656 := by
    rw [szl]; have := Lib.itoa_length_le n n0 n1; omega
  refine bnd (iFmt n n0 n1) (bnd (a := (n, true)) ((if_pos hz).trans (congrArg some hp)) (bev ht (ifp rfl (ifp rfl (bev (iSplit t _ (by omega)) (bnd (iJoinSplit t 32 (by omega)) (ifp rfl (bev nameX (ifp rfl (bev (iLines _ (by decide)) (ifp ?_ (bev digX now)))))))))))) 
  rw [linesX]; rfl

end Go.Proofs.YtbjlnjaedikokaaDoor.Own
