/- The law FnIntervals answers true for every code. No condition. -/
import Derived.Test.YtbjlnjaedikokaaDoorQFnIntervalsx7
import Derived.Test.YtbjlnjaedikokaaDoorThy
namespace Go.Proofs.YtbjlnjaedikokaaDoor.Own
open Go.RowKit Go.Proofs.YtbjlnjaedikokaaDoor.QFnIntervals Go.Proofs.YtbjlnjaedikokaaDoorW.PrintWords Go.Proofs.YtbjlnjaedikokaaDoorW.PrintLast Go.Proofs.YtbjlnjaedikokaaDoorW.PrintMore Go.Proofs.YtbjlnjaedikokaaDoorT Go.Proofs.YtbjlnjaedikokaaDoorT Go.Proofs.YtbjlnjaedikokaaDoorT Go.Proofs.YtbjlnjaedikokaaDoorT
set_option linter.unusedVariables false
set_option linter.unusedSimpArgs false

theorem szl (l : List UInt8) : (⟨l.toArray⟩ : ByteArray).size = l.length := by simp [ByteArray.size]
theorem bapp (a b : List UInt8) : (⟨a.toArray⟩ : ByteArray) ++ ⟨b.toArray⟩ = ⟨(a ++ b).toArray⟩ := by apply ByteArray.ext; simp
theorem digit (d : Nat) (h : d < 10) : strOfNums [(wrap64 (48 + (d : Int))) % 256] = ⟨[UInt8.ofNat (48 + d)].toArray⟩ := by
  rw [w64 (by omega) (by omega)]
  have e : ((48 + (d : Int)) % 256).toNat = 48 + d := by omega
  simp [strOfNums, e]
theorem dd_small {u : Nat} (h : u < 10) : Lib.decDigits u = [UInt8.ofNat (48 + u)] := Lib.decDigits_one h
theorem dd_big {u : Nat} (h : ¬ u < 10) : Lib.decDigits u = Lib.decDigits (u / 10) ++ [UInt8.ofNat (48 + u % 10)] := by rw [Lib.decDigits, dif_neg h]
theorem dd_pos (u : Nat) : 1 ≤ (Lib.decDigits u).length := by
  by_cases h : u < 10
  · rw [dd_small h]; simp
  · rw [dd_big h]; simp
theorem dd_len {u : Nat} (h : u ≤ 9223372036854775808) : (Lib.decDigits u).length ≤ 21 := by
  by_cases h1 : u = 0
  · subst h1; rw [dd_small (by omega)]; simp
  · have := Lib.itoa_length_le (-(u : Int)) (by omega) (by omega)
    rw [Lib.itoa_neg u (by omega), List.length_cons] at this
    omega
theorem iFmt (n : Int) (h0 : -9223372036854775808 ≤ n) (h1 : n ≤ 9223372036854775807) : impl_FormatInt.f n = some ⟨(Lib.itoa n).toArray⟩ := if_pos ⟨h0, h1⟩
theorem i64_range {n : Int} (h : (Lit.int .i64 n).wf = true) : -9223372036854775808 ≤ n ∧ n ≤ 9223372036854775807 := by
  unfold Lit.wf at h
  rw [Bool.and_eq_true, decide_eq_true_eq, decide_eq_true_eq] at h
  exact h
def ivB (a b : Int) : Bool := decide (-1000000 ≤ a ∧ a ≤ b ∧ b ≤ 1000000 ∧ a ≠ 1000000 ∧ b ≠ -1000000)
theorem iIv (a b : Int) : impl_IntervalOk.f a b = some (ivB a b) := by
  unfold impl_IntervalOk.f ivB
  repeat' split
  all_goals (congr 1; first | (symm; rw [decide_eq_false_iff_not]; omega) | (rw [Bool.eq_iff_iff]; simp only [bne_iff_ne, ne_eq, decide_eq_true_eq]; omega))
def txtB (n : Int) : ByteArray := if n = 1000000 then ⟨#[105, 110, 102]⟩ else if n = -1000000 then ⟨#[45, 105, 110, 102]⟩ else ⟨(Lib.itoa n).toArray⟩
theorem txt_sz {n : Int} (h0 : -9223372036854775808 ≤ n) (h1 : n ≤ 9223372036854775807) : (txtB n).size ≤ 21 := by
  unfold txtB
  split
  · decide
  · split
    · decide
    · rw [szl]; exact Lib.itoa_length_le n h0 h1
theorem iTxt {n : Int} (h0 : -9223372036854775808 ≤ n) (h1 : n ≤ 9223372036854775807) : impl_boundText.f n = some (txtB n) := by
  unfold impl_boundText.f txtB
  rw [iFmt n h0 h1]
  simp only [Option.bind_some]
  split
  · rfl
  · split <;> rfl
def dots : ByteArray := ⟨#[46, 46]⟩
def fivM (a b : Int) : ByteArray := if ivB a b = true then (txtB a ++ dots) ++ txtB b else ⟨#[]⟩
theorem iFiv {a b : Int} (a0 : -9223372036854775808 ≤ a) (a1 : a ≤ 9223372036854775807) (b0 : -9223372036854775808 ≤ b) (b1 : b ≤ 9223372036854775807) : impl_FormatInterval.f a b = some (fivM a b) := by
  unfold impl_FormatInterval.f fivM
  rw [iIv, iTxt a0 a1, iTxt b0 b1]
  simp only [Option.bind_some]
  have sa := txt_sz a0 a1
  have sb := txt_sz b0 b1
  have e : (⟨#[46, 46]⟩ : ByteArray).size = 2 := rfl
  by_cases h : ivB a b = true
  · rw [if_pos h, if_pos h, if_pos (by omega), if_pos (by rw [ByteArray.size_append, e]; omega)]; rfl
  · rw [if_neg h, if_neg h]
theorem szd (s : ByteArray) : s.data.toList.length = s.size := by rw [Array.length_toList]; rfl
theorem bt_list (s : ByteArray) (i : Nat) (h : i < s.data.toList.length) : bt s (i : Int) = ((s.data.toList[i]).toNat : Int) := by
  have h2 : (i : Int).toNat < s.size := by rw [← szd]; simpa using h
  unfold bt
  rw [dif_pos h2]
  rfl
def isD (c : UInt8) : Bool := decide (48 ≤ c.toNat ∧ c.toNat ≤ 57)
theorem isD_iff {c : UInt8} : isD c = true ↔ 48 ≤ c.toNat ∧ c.toNat ≤ 57 := by unfold isD; rw [decide_eq_true_eq]
theorem chr_nat {d : Nat} (h : d < 10) : (UInt8.ofNat (48 + d)).toNat = 48 + d := by rw [UInt8.toNat_ofNat']; omega
theorem dd_all (u : Nat) : (Lib.decDigits u).all isD = true := by
  induction u using Nat.strongRecOn with
  | _ u ih =>
    by_cases h : u < 10
    · rw [dd_small h, List.all_cons, List.all_nil, Bool.and_true, isD_iff, chr_nat h]; omega
    · rw [dd_big h, List.all_append, ih (u / 10) (by omega), Bool.true_and, List.all_cons, List.all_nil, Bool.and_true, isD_iff, chr_nat (by omega)]; omega
theorem dd_pow (u : Nat) : ∀ k, u < 10 ^ (k + 1) → (Lib.decDigits u).length ≤ k + 1 := by
  induction u using Nat.strongRecOn with
  | _ u ih =>
    intro k hk
    by_cases h : u < 10
    · rw [dd_small h]; simp
    · cases k with
      | zero => simp at hk; omega
      | succ k =>
        rw [dd_big h, List.length_append]
        have := ih (u / 10) (by omega) k (by rw [Nat.pow_succ] at hk; omega)
        simp only [List.length_cons, List.length_nil]
        omega
theorem dd19 {u : Nat} (h : u ≤ 9223372036854775808) : (Lib.decDigits u).length ≤ 19 := dd_pow u 18 (by omega)
def valD : Nat → List UInt8 → Option Nat
  | a, [] => some a
  | a, c :: r => if a * 10 + (c.toNat - 48) ≤ 9223372036854775808 then valD (a * 10 + (c.toNat - 48)) r else none
theorem valD_c (a : Nat) (c : UInt8) (r : List UInt8) : valD a (c :: r) = if a * 10 + (c.toNat - 48) ≤ 9223372036854775808 then valD (a * 10 + (c.toNat - 48)) r else none := by rw [valD]
theorem valD_app : ∀ (l : List UInt8) (a b : Nat) (m : List UInt8), valD a l = some b → valD a (l ++ m) = valD b m
  | [], a, b, m, h => by rw [Option.some.inj h]; rfl
  | c :: l, a, b, m, h => by
    rw [List.cons_append]
    rw [valD_c] at h ⊢
    split at h
    · rename_i q; rw [if_pos q]; exact valD_app l _ b m h
    · cases h
theorem valD_dd (u : Nat) : u ≤ 9223372036854775808 → valD 0 (Lib.decDigits u) = some u := by
  induction u using Nat.strongRecOn with
  | _ u ih =>
    intro hu
    by_cases h : u < 10
    · rw [dd_small h]; unfold valD; rw [chr_nat h, if_pos (by omega)]; unfold valD; congr 1; omega
    · rw [dd_big h, valD_app _ _ _ _ (ih (u / 10) (by omega) (by omega))]; unfold valD; rw [chr_nat (by omega), if_pos (by omega)]; unfold valD; congr 1; omega
theorem pu_c (a : Nat) (c : UInt8) (r : List UInt8) : Lib.parseUint10 a (c :: r) = if 48 ≤ c.toNat ∧ c.toNat ≤ 57 then (if 1844674407370955162 ≤ a then Lib.parseUint10 1844674407370955162 [57] else if 18446744073709551616 ≤ a * 10 + (c.toNat - 48) then Lib.parseUint10 1844674407370955162 [57] else Lib.parseUint10 (a * 10 + (c.toNat - 48)) r) else Lib.parseUint10 0 [0] := by
  have e1 : Lib.parseUint10 1844674407370955162 [57] = .range := rfl
  have e2 : ∀ z, z = Lib.parseUint10 0 [0] → z = Lib.parseUint10 0 [0] := fun _ h => h
  rw [e1]
  conv => lhs; rw [Lib.parseUint10]
  rfl
theorem pu_app : ∀ (l : List UInt8) (a b : Nat) (m : List UInt8), Lib.parseUint10 a l = .ok b → Lib.parseUint10 a (l ++ m) = Lib.parseUint10 b m
  | [], a, b, m, h => by rw [Lib.parseUint10] at h; injection h with h; rw [h]; rfl
  | c :: l, a, b, m, h => by
    rw [List.cons_append]
    rw [pu_c] at h ⊢
    by_cases q1 : 48 ≤ c.toNat ∧ c.toNat ≤ 57
    · rw [if_pos q1] at h ⊢
      by_cases q2 : 1844674407370955162 ≤ a
      · rw [if_pos q2] at h; cases h
      · rw [if_neg q2] at h ⊢
        by_cases q3 : 18446744073709551616 ≤ a * 10 + (c.toNat - 48)
        · rw [if_pos q3] at h; cases h
        · rw [if_neg q3] at h ⊢; exact pu_app l _ b m h
    · rw [if_neg q1] at h; cases h
theorem pu_dd (u : Nat) : u ≤ 9223372036854775808 → Lib.parseUint10 0 (Lib.decDigits u) = .ok u := by
  induction u using Nat.strongRecOn with
  | _ u ih =>
    intro hu
    by_cases h : u < 10
    · rw [dd_small h]; unfold Lib.parseUint10; rw [chr_nat h, if_pos (by omega), if_neg (by omega), if_neg (by omega)]; unfold Lib.parseUint10; congr 1; omega
    · rw [dd_big h, pu_app _ _ _ _ (ih (u / 10) (by omega) (by omega))]; unfold Lib.parseUint10; rw [chr_nat (by omega), if_pos (by omega), if_neg (by omega), if_neg (by omega)]; unfold Lib.parseUint10; congr 1; omega
theorem dd_cons (u : Nat) : ∃ c r, Lib.decDigits u = c :: r ∧ 48 ≤ c.toNat ∧ c.toNat ≤ 57 := by
  have hp := dd_pos u
  have ha := dd_all u
  cases h : Lib.decDigits u with
  | nil => rw [h] at hp; simp at hp
  | cons c r =>
    rw [h, List.all_cons, Bool.and_eq_true, isD_iff] at ha
    exact ⟨c, r, rfl, ha.1⟩
theorem atoi_itoa {v : Int} (h0 : -9223372036854775808 ≤ v) (h1 : v ≤ 9223372036854775807) : atoiO (Lib.itoa v) = some v := by
  unfold atoiO
  by_cases hn : v < 0
  · obtain ⟨u, rfl⟩ : ∃ u : Nat, v = -(u : Int) := ⟨v.natAbs, by omega⟩
    rw [Lib.itoa_neg u (by omega)]
    have hm : Lib.parseMag (Lib.decDigits u) = .ok u := by
      obtain ⟨c, r, e, _⟩ := dd_cons u
      unfold Lib.parseMag
      rw [if_neg (by rw [e]; simp)]
      exact pu_dd u (by omega)
    have e : Lib.atoiAll (45 :: Lib.decDigits u) = .ok (-(u : Int)) := by
      simp only [Lib.atoiAll]
      rw [if_pos (show UInt8.toNat 45 = 43 ∨ UInt8.toNat 45 = 45 from Or.inr rfl), hm]
      simp only
      rw [if_neg (show ¬ (¬ UInt8.toNat 45 = 45 ∧ 9223372036854775808 ≤ u) from fun z => z.1 rfl), if_neg (show ¬ (UInt8.toNat 45 = 45 ∧ 9223372036854775808 < u) from fun z => by omega), if_pos (show UInt8.toNat 45 = 45 from rfl)]
    rw [e]
  · obtain ⟨u, rfl⟩ : ∃ u : Nat, v = (u : Int) := ⟨v.toNat, by omega⟩
    rw [Lib.itoa_nonneg]
    obtain ⟨c, r, e, hc⟩ := dd_cons u
    have hm : Lib.parseMag (c :: r) = .ok u := by
      unfold Lib.parseMag
      rw [if_neg (by simp), ← e]
      exact pu_dd u (by omega)
    have e2 : Lib.atoiAll (c :: r) = .ok (u : Int) := by
      simp only [Lib.atoiAll]
      rw [if_neg (show ¬ (c.toNat = 43 ∨ c.toNat = 45) by omega), hm]
      simp only
      rw [if_neg (show ¬ (¬ c.toNat = 45 ∧ 9223372036854775808 ≤ u) by omega), if_neg (show ¬ (c.toNat = 45 ∧ 9223372036854775808 < u) by omega), if_neg (show ¬ c.toNat = 45 by omega)]
    rw [e, e2]
theorem parM_of {s : ByteArray} {v : Int} (h0 : -9223372036854775808 ≤ v) (h1 : v ≤ 9223372036854775807) (h : Lib.itoa v = s.data.toList) : parM s = (v, true) := by
  unfold parM
  rw [← h, atoi_itoa h0 h1]
  simp only
  rw [if_pos trivial]
theorem parM_or (s : ByteArray) : parM s = (0, false) ∨ ∃ v, -9223372036854775808 ≤ v ∧ v ≤ 9223372036854775807 ∧ Lib.itoa v = s.data.toList ∧ parM s = (v, true) := by
  unfold parM
  rcases hA : atoiO s.data.toList with _ | v
  · exact Or.inl rfl
  · have hr := atoi_range hA
    by_cases h : Lib.itoa v = s.data.toList
    · exact Or.inr ⟨v, hr.1, hr.2, h, by simp only; rw [if_pos h]⟩
    · exact Or.inl (by simp only; rw [if_neg h])
theorem bext {x y : ByteArray} (h : x.data.toList = y.data.toList) : x = y := ByteArray.ext (Array.toList_inj.1 h)
def bndP (x : ByteArray) : Int × Bool := if x.data.toList = [105, 110, 102] then (1000000, true) else if x.data.toList = [45, 105, 110, 102] then (-1000000, true) else parM x
theorem bnd_range (x : ByteArray) : -9223372036854775808 ≤ (bndP x).1 ∧ (bndP x).1 ≤ 9223372036854775807 := by
  unfold bndP
  split
  · exact ⟨by decide, by decide⟩
  · split
    · exact ⟨by decide, by decide⟩
    · rcases parM_or x with h | ⟨v, h0, h1, _, h⟩
      · rw [h]; exact ⟨by decide, by decide⟩
      · rw [h]; exact ⟨h0, h1⟩
theorem tl_lit (x : ByteArray) (l : List UInt8) : x.toList = l ↔ x.data.toList = l := by rw [Lib.toList_data]
theorem iBnd (x : ByteArray) (hx : x.size ≤ 281474976710656) : impl_bound.f x = some (bndP x).1 := by
  unfold impl_bound.f bndP
  have e : impl_ParseInt.f x = some (parM x) := if_pos hx
  rw [e]
  simp only [Option.bind_some, tl_lit]
  split
  · rfl
  · split <;> rfl
theorem cut_sz (s p : ByteArray) : (cutM s p).1.size ≤ s.size ∧ (cutM s p).2.1.size ≤ s.size := by
  unfold cutM Lib.cut
  split
  · simp only [szl, List.length_take, List.length_drop, szd]; omega
  · simp only [szl, szd, List.length_nil]; omega
def FF : Int × Int × Bool := (0, 0, false)
def pI (s : ByteArray) : Int × Int × Bool :=
  if s.data.toList = [] then FF else if fivM (bndP (cutM s dots).1).1 (bndP (cutM s dots).2.1).1 = s then ((bndP (cutM s dots).1).1, (bndP (cutM s dots).2.1).1, true) else FF
theorem tl_eq (x y : ByteArray) : x.toList = y.toList ↔ x = y := by
  rw [Lib.toList_data, Lib.toList_data]
  exact ⟨bext, fun h => by rw [h]⟩
theorem iPI (s : ByteArray) (hs : s.size ≤ 1048576) : impl_ParseInterval.f s = some (pI s) := by
  unfold impl_ParseInterval.f pI
  have e : strings_Cut.f s ⟨#[46, 46]⟩ = some (cutM s dots) := if_pos (by omega)
  have hz := cut_sz s dots
  have ra := bnd_range (cutM s dots).1
  have rb := bnd_range (cutM s dots).2.1
  rw [e]
  simp only [Option.bind_some]
  rw [iBnd _ (by omega), iBnd _ (by omega)]
  simp only [Option.bind_some]
  by_cases h : s.data.toList = []
  · rw [if_pos ((tl_lit _ _).2 h), if_pos h]; rfl
  · rw [if_neg (fun z => h ((tl_lit _ _).1 z)), if_neg h, iFiv ra.1 ra.2 rb.1 rb.2]
    simp only [Option.bind_some]
    by_cases g : fivM (bndP (cutM s dots).1).1 (bndP (cutM s dots).2.1).1 = s
    · rw [if_pos ((tl_eq _ _).2 g), if_pos g]
    · rw [if_neg (fun z => g ((tl_eq _ _).1 z)), if_neg g]; rfl
def jS (s : ByteArray) (w : List ByteArray) : Int × Int × Bool :=
  if w.length = 3 ∧ (rdOf ByteArray.empty w 1).data.toList = [] then
    (if (bndP (rdOf ByteArray.empty w 0)).2 = true ∧ (bndP (rdOf ByteArray.empty w 2)).2 = true ∧ ivB (bndP (rdOf ByteArray.empty w 0)).1 (bndP (rdOf ByteArray.empty w 2)).1 = true ∧ fivM (bndP (rdOf ByteArray.empty w 0)).1 (bndP (rdOf ByteArray.empty w 2)).1 = s
      then ((bndP (rdOf ByteArray.empty w 0)).1, (bndP (rdOf ByteArray.empty w 2)).1, true) else FF) else FF
theorem txt_data (n : Int) : (n = 1000000 ∧ (txtB n).data.toList = [105, 110, 102]) ∨ (n = -1000000 ∧ (txtB n).data.toList = [45, 105, 110, 102]) ∨ (n ≠ 1000000 ∧ n ≠ -1000000 ∧ (txtB n).data.toList = Lib.itoa n) := by
  unfold txtB
  by_cases h : n = 1000000
  · rw [if_pos h]; exact Or.inl ⟨h, rfl⟩
  · rw [if_neg h]
    by_cases g : n = -1000000
    · rw [if_pos g]; exact Or.inr (Or.inl ⟨g, rfl⟩)
    · rw [if_neg g]; exact Or.inr (Or.inr ⟨h, g, by simp⟩)
theorem itoa_all (n : Int) : ∀ c ∈ Lib.itoa n, c = 45 ∨ (48 ≤ c.toNat ∧ c.toNat ≤ 57) := by
  intro c hc
  unfold Lib.itoa at hc
  split at hc
  · rcases List.mem_cons.1 hc with h | h
    · exact Or.inl h
    · exact Or.inr (isD_iff.1 (List.all_eq_true.1 (dd_all _) c h))
  · exact Or.inr (isD_iff.1 (List.all_eq_true.1 (dd_all _) c hc))
theorem itoa_no {n : Int} {c : UInt8} (h : c.toNat = 105 ∨ c.toNat = 46) : c ∉ Lib.itoa n := by
  intro hc
  rcases itoa_all n c hc with h2 | h2
  · rw [h2] at h; revert h; decide
  · omega
theorem bnd_txt {n : Int} (h0 : -1000000 ≤ n) (h1 : n ≤ 1000000) {x : ByteArray} (hx : x.data.toList = (txtB n).data.toList) : bndP x = (n, true) := by
  unfold bndP
  rw [hx]
  rcases txt_data n with ⟨h, e⟩ | ⟨h, e⟩ | ⟨_, _, e⟩
  · rw [e, if_pos rfl, h]
  · rw [e, if_neg (by decide), if_pos rfl, h]
  · rw [e]
    have hi : (105 : UInt8) ∉ Lib.itoa n := itoa_no (Or.inl rfl)
    rw [if_neg (fun z => hi (by rw [z]; decide)), if_neg (fun z => hi (by rw [z]; decide))]
    exact parM_of (by omega) (by omega) (by rw [hx, e])
theorem txt_nodot (n : Int) : (46 : UInt8) ∉ (txtB n).data.toList := by
  rcases txt_data n with ⟨_, e⟩ | ⟨_, e⟩ | ⟨_, _, e⟩
  · rw [e]; decide
  · rw [e]; decide
  · rw [e]; exact itoa_no (Or.inr rfl)
theorem index_dots (B : List UInt8) : ∀ A : List UInt8, (46 : UInt8) ∉ A → Lib.index (A ++ 46 :: 46 :: B) [46, 46] = (A.length : Int)
  | [], _ => by simp [Lib.index]
  | a :: A, h => by
    have ih := index_dots B A (fun z => h (List.mem_cons_of_mem _ z))
    have ha : ((46 : UInt8) == a) = false := beq_eq_false_iff_ne.2 (fun z => h (by rw [z]; exact List.mem_cons_self))
    have hp : ([46, 46] : List UInt8).isPrefixOf (a :: (A ++ 46 :: 46 :: B)) = false := by simp only [List.isPrefixOf, ha, Bool.false_and]
    rw [List.cons_append, Lib.index, hp, if_neg (by simp), ih, if_neg (by simp only [beq_iff_eq]; omega), List.length_cons]
    omega
theorem fiv_data {a b : Int} (h : ivB a b = true) : (fivM a b).data.toList = (txtB a).data.toList ++ 46 :: 46 :: (txtB b).data.toList := by
  unfold fivM dots
  rw [if_pos h]
  simp [ByteArray.data_append]
theorem iv_range {a b : Int} (h : ivB a b = true) : (-1000000 ≤ a ∧ a ≤ 1000000) ∧ -1000000 ≤ b ∧ b ≤ 1000000 := by
  unfold ivB at h
  rw [decide_eq_true_eq] at h
  omega
theorem pI_of {s : ByteArray} {a b : Int} (hv : ivB a b = true) (h : fivM a b = s) : pI s = (a, b, true) := by
  have hd := fiv_data hv
  rw [h] at hd
  obtain ⟨⟨a0, a1⟩, b0, b1⟩ := iv_range hv
  have hx := index_dots (txtB b).data.toList (txtB a).data.toList (txt_nodot a)
  have hc : Lib.cut s.data.toList dots.data.toList = ((txtB a).data.toList, (txtB b).data.toList, true) := by
    unfold Lib.cut
    rw [show dots.data.toList = [46, 46] from rfl, hd, hx, if_pos (by omega)]
    simp only [Int.toNat_natCast, List.length_cons, List.length_nil, List.take_left]
    congr 2
    rw [List.drop_append, List.drop_eq_nil_of_le (by omega), List.nil_append, show (txtB a).data.toList.length + (0 + 1 + 1) - (txtB a).data.toList.length = 2 by omega]
    rfl
  have e1 : (cutM s dots).1.data.toList = (txtB a).data.toList := by unfold cutM; rw [hc]
  have e2 : (cutM s dots).2.1.data.toList = (txtB b).data.toList := by unfold cutM; rw [hc]
  unfold pI
  rw [bnd_txt a0 a1 e1, bnd_txt b0 b1 e2, if_neg (by rw [hd]; simp), if_pos h]
theorem pI_or (s : ByteArray) : pI s = FF ∨ ∃ a b, ivB a b = true ∧ fivM a b = s ∧ pI s = (a, b, true) := by
  unfold pI
  by_cases h : s.data.toList = []
  · rw [if_pos h]; exact Or.inl rfl
  · rw [if_neg h]
    split
    · rename_i g
      refine Or.inr ⟨_, _, ?_, g, rfl⟩
      by_cases q : ivB (bndP (cutM s dots).1).1 (bndP (cutM s dots).2.1).1 = true
      · exact q
      · exfalso
        unfold fivM at g
        rw [if_neg q] at g
        exact h (by rw [← g])
    · exact Or.inl rfl
theorem and255 (n : Int) : Go.bits .and .i64 n 255 = n % 256 := by
  have h : (BitVec.ofInt 64 255).toNat = 2 ^ 8 - 1 := by decide
  have key : (BitVec.ofInt 64 n &&& BitVec.ofInt 64 255).toNat = (n % ((2 ^ 64 : Nat) : Int)).toNat % 2 ^ 8 := by
    rw [BitVec.toNat_and, BitVec.toNat_ofInt, h, Nat.and_two_pow_sub_one_eq_mod]
  show IntKind.i64.wrap ((BitVec.ofInt 64 n &&& BitVec.ofInt 64 255).toNat : Nat) = n % 256
  rw [key, IntKind.wrap_i64]
  omega
theorem byteM (s : List Int) (i h : Int) (hs : s.length ≤ 1048576) (h0 : 0 ≤ i) : ∃ b i' h', spec_l01Byte.f s i h = some (b, i', h') ∧ 0 ≤ b ∧ b < 256 ∧ 0 ≤ i' := by
  unfold spec_l01Byte.f
  by_cases c : i < (s.length : Int)
  · rw [if_pos c, if_pos h0, and255]
    refine ⟨_, _, _, rfl, ?_, ?_, ?_⟩
    · omega
    · omega
    · rw [w64 (by omega) (by omega)]; omega
  · rw [if_neg c, and255]
    exact ⟨_, _, _, rfl, by omega, by omega, h0⟩
theorem belowM (s : List Int) (i h : Int) (hs : s.length ≤ 1048576) (h0 : 0 ≤ i) (n : Int) (hn : 0 < n) (hn2 : n ≤ 256) : ∃ b i' h', spec_l01Below.f s i h n = some (b, i', h') ∧ 0 ≤ b ∧ b < n ∧ 0 ≤ i' := by
  obtain ⟨b, i', h', e, b0, b1, i0⟩ := byteM s i h hs h0
  unfold spec_l01Below.f
  rw [if_neg (by omega), if_pos hn2, e]
  simp only [Option.bind_some]
  rw [if_neg (by omega)]
  refine ⟨_, _, _, rfl, ?_, ?_, i0⟩
  · rw [Int.tmod_eq_emod_of_nonneg b0]; exact Int.emod_nonneg _ (by omega)
  · rw [Int.tmod_eq_emod_of_nonneg b0]; exact Int.emod_lt_of_pos _ hn
theorem newM_l (s : List Int) (hs : s.length ≤ 1048576) : ∀ (d : Nat) (i : Nat) (h : Int), i + d = s.length → ∃ h', Ev (fun k => spec_l01New.l0 k s h (i : Int)) (s, 0, h')
  | 0, i, h, hd => ⟨h, suc (f := fun _ => some (s, 0, h)) (fun k => by rw [spec_l01New.l0, if_neg (by omega)]) now⟩
  | d + 1, i, h, hd => by
    by_cases c : (i : Int) < 4000
    · obtain ⟨h', e⟩ := newM_l s hs d (i + 1) (Go.bits .and .i64 (wrap64 ((wrap64 ((wrap64 (h * 71)) + (wrap64 (rd s (i : Int))))) + 7)) 1073741823) (by omega)
      refine ⟨h', suc (fun k => ?_) e⟩
      rw [spec_l01New.l0, if_pos (by omega), if_pos c, if_pos (by omega), up1 (by omega) (by omega)]; rfl
    · exact ⟨h, suc (f := fun _ => some (s, 0, h)) (fun k => by rw [spec_l01New.l0, if_pos (by omega), if_neg c]) now⟩
theorem newM (s : List Int) (hs : s.length ≤ 1048576) : ∃ h', Ev (fun k => spec_l01New.f k s) (s, 0, h') := by
  unfold spec_l01New.f
  exact newM_l s hs s.length 0 _ (by omega)
theorem skipM (s : List Int) (hs : s.length ≤ 1048576) : ∀ (n : Nat) (i h : Int), 0 ≤ i → ∃ i' h', mnSkip s n i h = some (i', h') ∧ 0 ≤ i'
  | 0, i, h, h0 => ⟨i, h, rfl, h0⟩
  | n + 1, i, h, h0 => by
    obtain ⟨b, i1, h1, e, _, _, p⟩ := byteM s i h hs h0
    obtain ⟨i', h', e2, q⟩ := skipM s hs n i1 h1 p
    refine ⟨i', h', ?_, q⟩
    rw [mnSkip, e]; exact e2
theorem iAddB (a b : Int) : Ev (fun k => impl_AddBounds.f k a b) (addB a b) := by
  refine suc (f := fun _ => some (addB a b)) (fun k => ?_) now
  unfold impl_AddBounds.f addB
  simp only [impl_AddBounds.j0, impl_ClampBound.f, mx, mn]
  repeat' split
  all_goals simp only [Option.bind_some, decide_eq_true_eq, Option.some.injEq, reduceCtorEq] at *
  all_goals first | omega | contradiction | (exfalso; simp_all; done) | (unfold wrap64 at *; omega)
theorem ivB_iff {a b : Int} : ivB a b = true ↔ (-1000000 ≤ a ∧ a ≤ b ∧ b ≤ 1000000 ∧ a ≠ 1000000 ∧ b ≠ -1000000) := by unfold ivB; rw [decide_eq_true_eq]
def drI (lo hi : Int) : Prop := lo ≤ hi ∧ (lo = -1000000 ∨ (-10 ≤ lo ∧ lo ≤ 10)) ∧ (hi = 1000000 ∨ (-10 ≤ hi ∧ hi ≤ 17))
theorem drawI (s : List Int) (i h : Int) (hs : s.length ≤ 1048576) (h0 : 0 ≤ i) : ∃ lo hi i' h', spec_l02Draw.f s i h = some (lo, hi, i', h') ∧ drI lo hi := by
  obtain ⟨a, i1, h1, e1, a0, a1, p1⟩ := belowM s i h hs h0 21 (by omega) (by omega)
  obtain ⟨b, i2, h2, e2, b0, b1, p2⟩ := belowM s i1 h1 hs p1 8 (by omega) (by omega)
  obtain ⟨c, i3, h3, e3, c0, c1, p3⟩ := belowM s i2 h2 hs p2 8 (by omega) (by omega)
  unfold spec_l02Draw.f spec_l02Bounded.f
  rw [e1]
  simp only [Option.bind_some]
  rw [e2]
  simp only [Option.bind_some]
  rw [e3]
  simp only [Option.bind_some]
  rw [w64 (i := a - 10) (by omega) (by omega), w64 (i := a - 10 + b) (by omega) (by omega)]
  unfold drI
  by_cases k0 : c = 0
  · rw [if_pos k0]; exact ⟨_, _, _, _, rfl, by omega, by omega, by omega⟩
  · rw [if_neg k0]
    by_cases k1 : c = 1
    · rw [if_pos k1]; exact ⟨_, _, _, _, rfl, by omega, by omega, by omega⟩
    · rw [if_neg k1]
      by_cases k2 : c = 2
      · rw [if_pos k2]; exact ⟨_, _, _, _, rfl, by omega, by omega, by omega⟩
      · rw [if_neg k2]; exact ⟨_, _, _, _, rfl, by omega, by omega, by omega⟩
theorem makeI (s : List Int) (hs : s.length ≤ 1048576) (a : Int) (h0 : 0 ≤ a) (h1 : a ≤ 1000) : ∃ lo hi, Ev (fun k => spec_MakeInterval.f k s a) (lo, hi) ∧ drI lo hi := by
  obtain ⟨h, e⟩ := newM s hs
  obtain ⟨i1, h1', e1, p1⟩ := skipM s hs a.toNat 0 h (by omega)
  obtain ⟨lo, hi, i2, h2, e2, hd⟩ := drawI s i1 h1' hs p1
  refine ⟨lo, hi, ?_, hd⟩
  unfold spec_MakeInterval.f
  exact ifp ⟨h0, h1⟩ (bev e (bnd e1 (bnd e2 now)))
def cB (a b x : Int) : Bool := decide (ivB a b = true ∧ (a = -1000000 ∨ a ≤ x) ∧ (b = 1000000 ∨ x ≤ b))
theorem cB_iff {a b x : Int} : cB a b x = true ↔ ivB a b = true ∧ (a = -1000000 ∨ a ≤ x) ∧ (b = 1000000 ∨ x ≤ b) := by unfold cB; rw [decide_eq_true_eq]
theorem iCont (a b x : Int) : impl_Contains.f a b x = some (cB a b x) := by
  unfold impl_Contains.f
  rw [iIv]
  simp only [Option.bind_some]
  by_cases h : ivB a b = true
  · rw [if_pos h]
    have e : cB a b x = decide ((a = -1000000 ∨ a ≤ x) ∧ (b = 1000000 ∨ x ≤ b)) := by unfold cB; rw [decide_eq_decide]; exact ⟨fun z => z.2, fun z => ⟨h, z⟩⟩
    rw [e]
    repeat' split
    all_goals (congr 1; rw [eq_comm]; first | (rw [decide_eq_true_eq]; omega) | (rw [decide_eq_false_iff_not]; omega) | (rw [decide_eq_decide]; omega))
  · rw [if_neg h]
    congr 1
    rw [eq_comm]
    unfold cB
    rw [decide_eq_false_iff_not]
    exact fun z => h z.1
theorem iRev {a b : Int} (h : ivB a b = true) : impl_ReverseInterval.f a b = some (-b, -a) := by
  obtain ⟨h1, h2, h3, h4, h5⟩ := ivB_iff.1 h
  unfold impl_ReverseInterval.f
  rw [iIv]
  simp only [Option.bind_some]
  rw [if_pos h, w64 (by omega) (by omega), w64 (by omega) (by omega)]
theorem iChk (a b : Int) : impl_checked.f a b true = some (if ivB a b = true then (a, b, true) else (0, 0, false)) := by
  unfold impl_checked.f
  rw [if_pos rfl, iIv]
  simp only [Option.bind_some]
  split <;> rfl
theorem iHull {a b c d : Int} (h1 : ivB a b = true) (h2 : ivB c d = true) : impl_Hull.f a b c d = some (if ivB (mn a c) (mx b d) = true then (mn a c, mx b d, true) else (0, 0, false)) := by
  unfold impl_Hull.f
  rw [iIv]
  simp only [Option.bind_some]
  rw [if_pos h1, iIv]
  simp only [Option.bind_some]
  rw [h2, iChk]
  simp only [Option.bind_some]
theorem iInt {a b c d : Int} (h1 : ivB a b = true) (h2 : ivB c d = true) : impl_Intersect.f a b c d = some (if ivB (mx a c) (mn b d) = true then (mx a c, mn b d, true) else (0, 0, false)) := by
  unfold impl_Intersect.f
  rw [iIv]
  simp only [Option.bind_some]
  rw [if_pos h1, iIv]
  simp only [Option.bind_some]
  rw [h2, iChk]
  simp only [Option.bind_some]
def loA (a c : Int) : Int := if a ≤ -1000000 then -1000000 else if c ≤ -1000000 then -1000000 else addB a c
theorem addI_t (x y : Int) (h : ivB (-1000000) y = true) : Ev (fun k => impl_AddIntervals.j1 k true x y) (-1000000, y) :=
  suc (fun k => by rw [impl_AddIntervals.j1, if_pos rfl]) (bnd (iIv _ _) (ifp h now))
theorem addI_f (x y : Int) (h : ivB x y = true) : Ev (fun k => impl_AddIntervals.j1 k false x y) (x, y) :=
  suc (fun k => by rw [impl_AddIntervals.j1, if_neg (by simp)]) (bnd (iIv _ _) (ifp h now))
theorem iAddI {a b c d : Int} (h1 : ivB a b = true) (h2 : ivB c d = true) (h : ivB (loA a c) (addB b d) = true) : Ev (fun k => impl_AddIntervals.f k a b c d) (loA a c, addB b d) := by
  unfold impl_AddIntervals.f
  refine bnd (iIv a b) (ifp h1 (bnd (iIv c d) ?_))
  rw [h2]
  refine suc (fun k => by rw [impl_AddIntervals.j0, if_neg (by simp)]) (bev (iAddB a c) (bev (iAddB b d) ?_))
  by_cases q1 : a ≤ -1000000
  · have e : loA a c = -1000000 := if_pos q1
    rw [e] at h ⊢
    exact ifp q1 (addI_t _ _ h)
  · refine ifn q1 ?_
    by_cases q2 : c ≤ -1000000
    · have e : loA a c = -1000000 := (if_neg q1).trans (if_pos q2)
      rw [e] at h ⊢
      rw [decide_eq_true q2]
      exact addI_t _ _ h
    · have e : loA a c = addB a c := (if_neg q1).trans (if_neg q2)
      rw [e] at h ⊢
      rw [decide_eq_false q2]
      exact addI_f _ _ h
theorem dr_iv {a b : Int} (h : drI a b) : ivB a b = true := by
  obtain ⟨h1, h2, h3⟩ := h
  exact ivB_iff.2 (by omega)
theorem dr_lo {a b c d : Int} (h : drI a b) (g : drI c d) : ((a = -1000000 ∨ c = -1000000) ∧ loA a c = -1000000) ∨ (a ≠ -1000000 ∧ c ≠ -1000000 ∧ loA a c = a + c) := by
  obtain ⟨h1, h2, h3⟩ := h
  obtain ⟨g1, g2, g3⟩ := g
  unfold loA addB
  repeat' split
  all_goals omega
theorem dr_hi {a b c d : Int} (h : drI a b) (g : drI c d) : ((b = 1000000 ∨ d = 1000000) ∧ addB b d = 1000000) ∨ (b ≠ 1000000 ∧ d ≠ 1000000 ∧ addB b d = b + d) := by
  obtain ⟨h1, h2, h3⟩ := h
  obtain ⟨g1, g2, g3⟩ := g
  unfold addB
  repeat' split
  all_goals omega
theorem mx_cases (a b : Int) : (mx a b = a ∧ b ≤ a) ∨ (mx a b = b ∧ a ≤ b) := by unfold mx; split <;> omega
theorem mn_cases (a b : Int) : (mn a b = a ∧ a ≤ b) ∨ (mn a b = b ∧ b ≤ a) := by unfold mn; split <;> omega
theorem loopI (both : Bool) (a b c d p q : Int) (H : ∀ x, -25 ≤ x → x ≤ 25 → (cB a b x && cB c d x) = (both && cB p q x)) : ∀ (n : Nat) (i : Int), i + n = 25 → -25 ≤ i → Ev (fun k => laws_FnIntervals.l0 k both i a b c d p q) true
  | 0, i, hn, h0 => by
    have e : addB 1000000 (-5) = 1000000 := rfl
    have hA := iAddB 1000000 (-5)
    rw [e] at hA
    have hC : impl_ClampBound.f 1000009 = some 1000000 := rfl
    refine suc (f := fun k => (impl_AddBounds.f k 1000000 (-5)).bind fun t225 => if t225 = 1000000 then ((impl_ClampBound.f 1000009).bind fun t226 => (some (t226 == 1000000))) else some false) (fun k => by rw [laws_FnIntervals.l0, if_neg (by omega)]) (bev hA ?_)
    rw [hC]
    exact ifp rfl (const (by simp))
  | n + 1, i, hn, h0 => by
    have h := H i h0 (by omega)
    refine suc (f := fun k => laws_FnIntervals.l0 k both (i + 1) a b c d p q) (fun k => ?_) (loopI both a b c d p q H n (i + 1) (by omega) (by omega))
    rw [laws_FnIntervals.l0, if_pos (by omega), iCont a b, iCont c d, iCont p q, w64 (i := i + 1) (by omega) (by omega)]
    simp only [Option.bind_some]
    generalize cB a b i = t1 at h ⊢
    generalize cB c d i = t2 at h ⊢
    generalize cB p q i = t3 at h ⊢
    cases t1 <;> cases t2 <;> cases both <;> cases t3 <;> first | (exfalso; revert h; decide) | simp
theorem interH {a b c d : Int} (h : drI a b) (g : drI c d) (r : Int × Int × Bool) (hr : r = if ivB (mx a c) (mn b d) = true then (mx a c, mn b d, true) else (0, 0, false)) (x : Int) (x0 : -25 ≤ x) (x1 : x ≤ 25) : (cB a b x && cB c d x) = (r.2.2 && cB r.1 r.2.1 x) := by
  have ha := dr_iv h
  have hc := dr_iv g
  obtain ⟨h1, h2, h3⟩ := h
  obtain ⟨g1, g2, g3⟩ := g
  have m1 := mx_cases a c
  have m2 := mn_cases b d
  rw [Bool.eq_iff_iff, Bool.and_eq_true, Bool.and_eq_true, cB_iff, cB_iff, cB_iff]
  by_cases q : ivB (mx a c) (mn b d) = true
  · rw [if_pos q] at hr
    rw [hr]
    simp only [ha, hc, q, true_and]
    omega
  · rw [if_neg q] at hr
    rw [hr]
    rw [ivB_iff] at q
    simp only [ha, hc, true_and, Bool.false_eq_true, false_and, iff_false]
    omega
theorem j0I {a b c d : Int} (h : drI a b) (g : drI c d) : Ev (fun k => laws_FnIntervals.j0 k false a b c d) true := by
  have ha := dr_iv h
  have hc := dr_iv g
  have hl := dr_lo h g
  have hh := dr_hi h g
  have h' := h
  have g' := g
  obtain ⟨h1, h2, h3⟩ := h
  obtain ⟨g1, g2, g3⟩ := g
  have hs : ivB (loA a c) (addB b d) = true := ivB_iff.2 (by omega)
  have m1 := mx_cases a (-20)
  have m2 := mx_cases c (-20)
  have m3 := mn_cases a c
  have m4 := mx_cases b d
  have hu : ivB (mn a c) (mx b d) = true := ivB_iff.2 (by omega)
  have e : wrap64 (mx a (-20) + mx c (-20)) = mx a (-20) + mx c (-20) := w64 (by omega) (by omega)
  have c1 : cB a b (mx a (-20)) = true := cB_iff.2 ⟨ha, by omega, by omega⟩
  have c2 : cB c d (mx c (-20)) = true := cB_iff.2 ⟨hc, by omega, by omega⟩
  have c3 : cB (loA a c) (addB b d) (wrap64 (mx a (-20) + mx c (-20))) = true := cB_iff.2 ⟨hs, by omega, by omega⟩
  have c4 : cB (mn a c) (mx b d) (mx a (-20)) = true := cB_iff.2 ⟨hu, by omega, by omega⟩
  have c5 : cB (mn a c) (mx b d) (mx c (-20)) = true := cB_iff.2 ⟨hu, by omega, by omega⟩
  have hH := iHull ha hc
  rw [if_pos hu] at hH
  have hI := iInt ha hc
  have hX := interH h' g' _ rfl
  generalize (if ivB (mx a c) (mn b d) = true then (mx a c, mn b d, true) else (0, 0, false)) = r at hI hX
  refine suc (fun k => by rw [laws_FnIntervals.j0, if_neg (by simp)]) (bev (iAddI ha hc hs) (bnd hH (bnd hI (bnd (iCont _ _ _) (ifp c1 (bnd (iCont _ _ _) (ifp c2 (bnd (iCont _ _ _) (ifp c3 (ifp rfl (bnd (iCont _ _ _) (ifp c4 (bnd (iCont _ _ _) ?_)))))))))))))
  dsimp only
  rw [c5]
  exact suc (f := fun k => laws_FnIntervals.l0 k r.2.2 (-25) a b c d r.1 r.2.1) (fun k => by rw [laws_FnIntervals.j1, if_neg (by simp)]) (loopI r.2.2 a b c d r.1 r.2.1 hX 50 (-25) (by omega) (by omega))

theorem FnIntervals : laws_FnIntervals.Pure := by
  intro l hl _
  refine Ev.rounds ?_
  unfold laws_FnIntervals.f
  by_cases hx : (l.length : Int) > 1048576
  · exact ifp hx now
  refine ifn hx ?_
  obtain ⟨a, b, hab, da⟩ := makeI l (by omega) 1 (by omega) (by omega)
  obtain ⟨c, d, hcd, dc⟩ := makeI l (by omega) 9 (by omega) (by omega)
  have ha := dr_iv da
  obtain ⟨r1, r2, r3, r4, r5⟩ := ivB_iff.1 ha
  have hz : (fivM a b).size ≤ 1048576 := by
    have sa := txt_sz (n := a) (by omega) (by omega)
    have sb := txt_sz (n := b) (by omega) (by omega)
    have e : dots.size = 2 := rfl
    unfold fivM
    rw [if_pos ha, ByteArray.size_append, ByteArray.size_append, e]
    omega
  have hp := iPI (fivM a b) hz
  rw [pI_of ha rfl] at hp
  have hr := iRev ha
  have hr2 : impl_ReverseInterval.f (-b) (-a) = some (a, b) := by
    rw [iRev (ivB_iff.2 (by omega)), Int.neg_neg, Int.neg_neg]
  refine bev hab (bev hcd (bnd (iFiv (by omega) (by omega) (by omega) (by omega)) (bnd hp (ifp rfl (ifn (by simp) (bnd (iIv a b) (ifp ha (bnd hr (bnd hr2 ?_)))))))))
  have q : (!(a == a) || (!(b == b))) = false := by simp
  dsimp only
  rw [q]
  exact j0I da dc

end Go.Proofs.YtbjlnjaedikokaaDoor.Own
