/- The law FnExactParseInterval answers true for every text. No condition. -/
import Derived.Test.YtbjlnjaedikokaaDoorQFnExactParseIntervalx4
import Derived.Test.YtbjlnjaedikokaaDoorThy
namespace Go.Proofs.YtbjlnjaedikokaaDoor.Own
open Go.RowKit Go.Proofs.YtbjlnjaedikokaaDoor.QFnExactParseInterval Go.Proofs.YtbjlnjaedikokaaDoorW.PrintWords Go.Proofs.YtbjlnjaedikokaaDoorW.PrintLast Go.Proofs.YtbjlnjaedikokaaDoorW.PrintMore Go.Proofs.YtbjlnjaedikokaaDoorT Go.Proofs.YtbjlnjaedikokaaDoorT Go.Proofs.YtbjlnjaedikokaaDoorT
set_option linter.unusedVariables false
set_option linter.unusedSimpArgs false

theorem szl (l : List UInt8) : (⟨l.toArray⟩ : ByteArray).size = l.length := by simp [ByteArray.size]
theorem bapp (a b : List UInt8) : (⟨a.toArray⟩ : ByteArray) ++ ⟨b.toArray⟩ = ⟨(a ++ b).toArray⟩ := by apply ByteArray.ext; simp
theorem digit (d : Nat) (h : d < 10) : strOfNums [(wrap64 (48 + (d : Int))) % 256] = ⟨[UInt8.ofNat (48 + d)].toArray⟩ := by
  rw [w64 (by omega) (by omega)]
  have e : ((48 + (d : Int)) % 256).toNat = 48 + d := by omega
  simp [strOfNums, e]
theorem dd_small {u : Nat} (h : u < 10) : Lib.decDigits u = [UInt8.ofNat (48 + u)] := Lib.decDigits_one h
theorem dd_big {u : Nat} (h : ¬ u < 10) : Lib.decDigits u = Lib.decDigits (u / 10) ++ [UInt8.ofNat (48 + u % 10)] := by rw [Lib.decDigits, dif_neg h]
theorem dd_pos (u : Nat) : 1 ≤ (Lib.decDigits u).length := by
  by_cases h : u < 10
  · rw [dd_small h]; simp
  · rw [dd_big h]; simp
theorem dd_len {u : Nat} (h : u ≤ 9223372036854775808) : (Lib.decDigits u).length ≤ 21 := by
  by_cases h1 : u = 0
  · subst h1; rw [dd_small (by omega)]; simp
  · have := Lib.itoa_length_le (-(u : Int)) (by omega) (by omega)
    rw [Lib.itoa_neg u (by omega), List.length_cons] at this
    omega
theorem sFmt_l (u : Nat) : ∀ (l : List UInt8), u ≤ 9223372036854775807 → l.length + (Lib.decDigits u).length ≤ 1000 → Ev (fun k => spec_FormatInt.l0 k (u : Int) ⟨l.toArray⟩) ⟨(Lib.decDigits u ++ l).toArray⟩ := by
  induction u using Nat.strongRecOn with
  | _ u ih =>
    intro l hu hs
    by_cases h : u < 10
    · refine suc (f := fun _ => some (⟨(Lib.decDigits u ++ l).toArray⟩ : ByteArray)) (fun k => ?_) now
      rw [spec_FormatInt.l0, if_neg (by omega)]
      simp only [Option.bind_some]
      rw [digit u h, bapp, szl, szl, dd_small h, if_pos (by simp only [List.length_cons, List.length_nil]; omega)]
    · have hd := dd_big h
      have hm : Int.tmod (u : Int) 10 = ((u % 10 : Nat) : Int) := rfl
      have hq : Int.tdiv (u : Int) 10 = ((u / 10 : Nat) : Int) := rfl
      have hn : (UInt8.ofNat (48 + u % 10) :: l).length + (Lib.decDigits (u / 10)).length ≤ 1000 := by
        rw [hd, List.length_append] at hs
        simp only [List.length_cons, List.length_nil] at hs ⊢
        omega
      refine eqr (suc (f := fun k => spec_FormatInt.l0 k ((u / 10 : Nat) : Int) ⟨(UInt8.ofNat (48 + u % 10) :: l).toArray⟩) (fun k => ?_) (ih (u / 10) (by omega) _ (by omega) hn)) (by rw [hd]; simp)
      rw [spec_FormatInt.l0, if_pos (by omega)]
      simp only [Option.bind_some]
      rw [hm, hq, digit (u % 10) (by omega), bapp, szl, szl, if_pos (by simp only [List.length_cons, List.length_nil]; omega), w64 (i := ((u / 10 : Nat) : Int)) (by omega) (by omega)]
      rfl
theorem sFmt_neg (u : Nat) : 1 ≤ u → u ≤ 9223372036854775808 → Ev (fun k => spec_FormatInt.f k (-(u : Int))) ⟨(45 :: Lib.decDigits u).toArray⟩ := by
  induction u using Nat.strongRecOn with
  | _ u ih =>
    intro h1 hu
    have hm : Int.tmod (-(u : Int)) 10 = -((u % 10 : Nat) : Int) := by rw [Int.neg_tmod]; rfl
    have hq : Int.tdiv (-(u : Int)) 10 = -((u / 10 : Nat) : Int) := by rw [Int.neg_tdiv]; rfl
    by_cases h : u < 10
    · refine suc (f := fun _ => some (⟨(45 :: Lib.decDigits u).toArray⟩ : ByteArray)) (fun k => ?_) now
      have e : (48 : Int) - -(u : Int) = 48 + (u : Int) := by omega
      rw [spec_FormatInt.f, if_pos (by omega), hq, w64 (i := -((u / 10 : Nat) : Int)) (by omega) (by omega), if_pos (by omega), e]
      simp only [Option.bind_some]
      have e2 : (⟨#[45]⟩ : ByteArray) = ⟨[(45 : UInt8)].toArray⟩ := rfl
      rw [digit u h, e2, bapp, szl, dd_small h, if_pos (by simp only [List.length_cons, List.length_nil]; omega)]
      rfl
    · have hd := dd_big h
      have hl := dd_len (u := u / 10) (by omega)
      have e : (48 : Int) - -((u % 10 : Nat) : Int) = 48 + ((u % 10 : Nat) : Int) := by omega
      refine eqr (suc (f := fun k => (spec_FormatInt.f k (-((u / 10 : Nat) : Int))).bind fun t => if t.size + (⟨[UInt8.ofNat (48 + u % 10)].toArray⟩ : ByteArray).size ≤ 9223372036854775807 then some (t ++ ⟨[UInt8.ofNat (48 + u % 10)].toArray⟩) else none) (fun k => ?_) (bev (ih (u / 10) (by omega) (by omega) (by omega)) (ifp (by rw [szl, szl]; simp only [List.length_cons, List.length_nil]; omega) now))) (by rw [hd, bapp]; rfl)
      rw [spec_FormatInt.f, if_pos (by omega), hq, w64 (i := -((u / 10 : Nat) : Int)) (by omega) (by omega), if_neg (by omega), hm, e]
      simp only [Option.bind_some]
      rw [digit (u % 10) (by omega)]
theorem sFmt (n : Int) (h0 : -9223372036854775808 ≤ n) (h1 : n ≤ 9223372036854775807) : Ev (fun k => spec_FormatInt.f k n) ⟨(Lib.itoa n).toArray⟩ := by
  by_cases hn : n < 0
  · obtain ⟨u, rfl⟩ : ∃ u : Nat, n = -(u : Int) := ⟨n.natAbs, by omega⟩
    rw [Lib.itoa_neg u (by omega)]
    exact sFmt_neg u (by omega) (by omega)
  · obtain ⟨u, rfl⟩ : ∃ u : Nat, n = (u : Int) := ⟨n.toNat, by omega⟩
    rw [Lib.itoa_nonneg]
    have hl := dd_len (u := u) (by omega)
    refine eqr (suc (f := fun k => spec_FormatInt.l0 k (u : Int) ⟨([] : List UInt8).toArray⟩) (fun k => by rw [spec_FormatInt.f, if_neg (by omega)]) (sFmt_l u [] (by omega) (by simp only [List.length_nil]; omega))) (by simp)
theorem iFmt (n : Int) (h0 : -9223372036854775808 ≤ n) (h1 : n ≤ 9223372036854775807) : impl_FormatInt.f n = some ⟨(Lib.itoa n).toArray⟩ := if_pos ⟨h0, h1⟩
theorem i64_range {n : Int} (h : (Lit.int .i64 n).wf = true) : -9223372036854775808 ≤ n ∧ n ≤ 9223372036854775807 := by
  unfold Lit.wf at h
  rw [Bool.and_eq_true, decide_eq_true_eq, decide_eq_true_eq] at h
  exact h
def ivB (a b : Int) : Bool := decide (-1000000 ≤ a ∧ a ≤ b ∧ b ≤ 1000000 ∧ a ≠ 1000000 ∧ b ≠ -1000000)
theorem iIv (a b : Int) : impl_IntervalOk.f a b = some (ivB a b) := by
  unfold impl_IntervalOk.f ivB
  repeat' split
  all_goals (congr 1; first | (symm; rw [decide_eq_false_iff_not]; omega) | (rw [Bool.eq_iff_iff]; simp only [bne_iff_ne, ne_eq, decide_eq_true_eq]; omega))
def txtB (n : Int) : ByteArray := if n = 1000000 then ⟨#[105, 110, 102]⟩ else if n = -1000000 then ⟨#[45, 105, 110, 102]⟩ else ⟨(Lib.itoa n).toArray⟩
theorem txt_sz {n : Int} (h0 : -9223372036854775808 ≤ n) (h1 : n ≤ 9223372036854775807) : (txtB n).size ≤ 21 := by
  unfold txtB
  split
  · decide
  · split
    · decide
    · rw [szl]; exact Lib.itoa_length_le n h0 h1
theorem iTxt {n : Int} (h0 : -9223372036854775808 ≤ n) (h1 : n ≤ 9223372036854775807) : impl_boundText.f n = some (txtB n) := by
  unfold impl_boundText.f txtB
  rw [iFmt n h0 h1]
  simp only [Option.bind_some]
  split
  · rfl
  · split <;> rfl
def dots : ByteArray := ⟨#[46, 46]⟩
def fivM (a b : Int) : ByteArray := if ivB a b = true then (txtB a ++ dots) ++ txtB b else ⟨#[]⟩
theorem iFiv {a b : Int} (a0 : -9223372036854775808 ≤ a) (a1 : a ≤ 9223372036854775807) (b0 : -9223372036854775808 ≤ b) (b1 : b ≤ 9223372036854775807) : impl_FormatInterval.f a b = some (fivM a b) := by
  unfold impl_FormatInterval.f fivM
  rw [iIv, iTxt a0 a1, iTxt b0 b1]
  simp only [Option.bind_some]
  have sa := txt_sz a0 a1
  have sb := txt_sz b0 b1
  have e : (⟨#[46, 46]⟩ : ByteArray).size = 2 := rfl
  by_cases h : ivB a b = true
  · rw [if_pos h, if_pos h, if_pos (by omega), if_pos (by rw [ByteArray.size_append, e]; omega)]; rfl
  · rw [if_neg h, if_neg h]
theorem sIv (a b : Int) : spec_IntervalOk.f a b = some (ivB a b) := iIv a b
theorem sTxt {n : Int} (h0 : -9223372036854775808 ≤ n) (h1 : n ≤ 9223372036854775807) : Ev (fun k => spec_l02Text.f k n) (txtB n) := by
  unfold spec_l02Text.f txtB
  by_cases h : n = 1000000
  · rw [if_pos h]; exact ifp h now
  · rw [if_neg h]
    refine ifn h ?_
    by_cases g : n = -1000000
    · rw [if_pos g]; exact ifp g now
    · rw [if_neg g]; exact ifn g (bev (sFmt n h0 h1) now)
theorem sFiv {a b : Int} (a0 : -9223372036854775808 ≤ a) (a1 : a ≤ 9223372036854775807) (b0 : -9223372036854775808 ≤ b) (b1 : b ≤ 9223372036854775807) : Ev (fun k => spec_FormatInterval.f k a b) (fivM a b) := by
  unfold spec_FormatInterval.f fivM
  have sa := txt_sz a0 a1
  have sb := txt_sz b0 b1
  have e : (⟨#[46, 46]⟩ : ByteArray).size = 2 := rfl
  refine bnd (sIv a b) ?_
  by_cases h : ivB a b = true
  · rw [if_pos h]
    exact ifp h (bev (sTxt a0 a1) (ifp (by omega) (bev (sTxt b0 b1) (ifp (by rw [ByteArray.size_append, e]; omega) now))))
  · rw [if_neg h]; exact ifn h now
theorem szd (s : ByteArray) : s.data.toList.length = s.size := by rw [Array.length_toList]; rfl
theorem bt_list (s : ByteArray) (i : Nat) (h : i < s.data.toList.length) : bt s (i : Int) = ((s.data.toList[i]).toNat : Int) := by
  have h2 : (i : Int).toNat < s.size := by rw [← szd]; simpa using h
  unfold bt
  rw [dif_pos h2]
  rfl
def isD (c : UInt8) : Bool := decide (48 ≤ c.toNat ∧ c.toNat ≤ 57)
theorem isD_iff {c : UInt8} : isD c = true ↔ 48 ≤ c.toNat ∧ c.toNat ≤ 57 := by unfold isD; rw [decide_eq_true_eq]
theorem chr_nat {d : Nat} (h : d < 10) : (UInt8.ofNat (48 + d)).toNat = 48 + d := by rw [UInt8.toNat_ofNat']; omega
theorem dd_all (u : Nat) : (Lib.decDigits u).all isD = true := by
  induction u using Nat.strongRecOn with
  | _ u ih =>
    by_cases h : u < 10
    · rw [dd_small h, List.all_cons, List.all_nil, Bool.and_true, isD_iff, chr_nat h]; omega
    · rw [dd_big h, List.all_append, ih (u / 10) (by omega), Bool.true_and, List.all_cons, List.all_nil, Bool.and_true, isD_iff, chr_nat (by omega)]; omega
theorem dd_pow (u : Nat) : ∀ k, u < 10 ^ (k + 1) → (Lib.decDigits u).length ≤ k + 1 := by
  induction u using Nat.strongRecOn with
  | _ u ih =>
    intro k hk
    by_cases h : u < 10
    · rw [dd_small h]; simp
    · cases k with
      | zero => simp at hk; omega
      | succ k =>
        rw [dd_big h, List.length_append]
        have := ih (u / 10) (by omega) k (by rw [Nat.pow_succ] at hk; omega)
        simp only [List.length_cons, List.length_nil]
        omega
theorem dd19 {u : Nat} (h : u ≤ 9223372036854775808) : (Lib.decDigits u).length ≤ 19 := dd_pow u 18 (by omega)
def valD : Nat → List UInt8 → Option Nat
  | a, [] => some a
  | a, c :: r => if a * 10 + (c.toNat - 48) ≤ 9223372036854775808 then valD (a * 10 + (c.toNat - 48)) r else none
theorem valD_c (a : Nat) (c : UInt8) (r : List UInt8) : valD a (c :: r) = if a * 10 + (c.toNat - 48) ≤ 9223372036854775808 then valD (a * 10 + (c.toNat - 48)) r else none := by rw [valD]
theorem valD_app : ∀ (l : List UInt8) (a b : Nat) (m : List UInt8), valD a l = some b → valD a (l ++ m) = valD b m
  | [], a, b, m, h => by rw [Option.some.inj h]; rfl
  | c :: l, a, b, m, h => by
    rw [List.cons_append]
    rw [valD_c] at h ⊢
    split at h
    · rename_i q; rw [if_pos q]; exact valD_app l _ b m h
    · cases h
theorem valD_dd (u : Nat) : u ≤ 9223372036854775808 → valD 0 (Lib.decDigits u) = some u := by
  induction u using Nat.strongRecOn with
  | _ u ih =>
    intro hu
    by_cases h : u < 10
    · rw [dd_small h]; unfold valD; rw [chr_nat h, if_pos (by omega)]; unfold valD; congr 1; omega
    · rw [dd_big h, valD_app _ _ _ _ (ih (u / 10) (by omega) (by omega))]; unfold valD; rw [chr_nat (by omega), if_pos (by omega)]; unfold valD; congr 1; omega
theorem pu_c (a : Nat) (c : UInt8) (r : List UInt8) : Lib.parseUint10 a (c :: r) = if 48 ≤ c.toNat ∧ c.toNat ≤ 57 then (if 1844674407370955162 ≤ a then Lib.parseUint10 1844674407370955162 [57] else if 18446744073709551616 ≤ a * 10 + (c.toNat - 48) then Lib.parseUint10 1844674407370955162 [57] else Lib.parseUint10 (a * 10 + (c.toNat - 48)) r) else Lib.parseUint10 0 [0] := by
  have e1 : Lib.parseUint10 1844674407370955162 [57] = .range := rfl
  have e2 : ∀ z, z = Lib.parseUint10 0 [0] → z = Lib.parseUint10 0 [0] := fun _ h => h
  rw [e1]
  conv => lhs; rw [Lib.parseUint10]
  rfl
theorem pu_app : ∀ (l : List UInt8) (a b : Nat) (m : List UInt8), Lib.parseUint10 a l = .ok b → Lib.parseUint10 a (l ++ m) = Lib.parseUint10 b m
  | [], a, b, m, h => by rw [Lib.parseUint10] at h; injection h with h; rw [h]; rfl
  | c :: l, a, b, m, h => by
    rw [List.cons_append]
    rw [pu_c] at h ⊢
    by_cases q1 : 48 ≤ c.toNat ∧ c.toNat ≤ 57
    · rw [if_pos q1] at h ⊢
      by_cases q2 : 1844674407370955162 ≤ a
      · rw [if_pos q2] at h; cases h
      · rw [if_neg q2] at h ⊢
        by_cases q3 : 18446744073709551616 ≤ a * 10 + (c.toNat - 48)
        · rw [if_pos q3] at h; cases h
        · rw [if_neg q3] at h ⊢; exact pu_app l _ b m h
    · rw [if_neg q1] at h; cases h
theorem pu_dd (u : Nat) : u ≤ 9223372036854775808 → Lib.parseUint10 0 (Lib.decDigits u) = .ok u := by
  induction u using Nat.strongRecOn with
  | _ u ih =>
    intro hu
    by_cases h : u < 10
    · rw [dd_small h]; unfold Lib.parseUint10; rw [chr_nat h, if_pos (by omega), if_neg (by omega), if_neg (by omega)]; unfold Lib.parseUint10; congr 1; omega
    · rw [dd_big h, pu_app _ _ _ _ (ih (u / 10) (by omega) (by omega))]; unfold Lib.parseUint10; rw [chr_nat (by omega), if_pos (by omega), if_neg (by omega), if_neg (by omega)]; unfold Lib.parseUint10; congr 1; omega
theorem dd_cons (u : Nat) : ∃ c r, Lib.decDigits u = c :: r ∧ 48 ≤ c.toNat ∧ c.toNat ≤ 57 := by
  have hp := dd_pos u
  have ha := dd_all u
  cases h : Lib.decDigits u with
  | nil => rw [h] at hp; simp at hp
  | cons c r =>
    rw [h, List.all_cons, Bool.and_eq_true, isD_iff] at ha
    exact ⟨c, r, rfl, ha.1⟩
theorem atoi_itoa {v : Int} (h0 : -9223372036854775808 ≤ v) (h1 : v ≤ 9223372036854775807) : atoiO (Lib.itoa v) = some v := by
  unfold atoiO
  by_cases hn : v < 0
  · obtain ⟨u, rfl⟩ : ∃ u : Nat, v = -(u : Int) := ⟨v.natAbs, by omega⟩
    rw [Lib.itoa_neg u (by omega)]
    have hm : Lib.parseMag (Lib.decDigits u) = .ok u := by
      obtain ⟨c, r, e, _⟩ := dd_cons u
      unfold Lib.parseMag
      rw [if_neg (by rw [e]; simp)]
      exact pu_dd u (by omega)
    have e : Lib.atoiAll (45 :: Lib.decDigits u) = .ok (-(u : Int)) := by
      simp only [Lib.atoiAll]
      rw [if_pos (show UInt8.toNat 45 = 43 ∨ UInt8.toNat 45 = 45 from Or.inr rfl), hm]
      simp only
      rw [if_neg (show ¬ (¬ UInt8.toNat 45 = 45 ∧ 9223372036854775808 ≤ u) from fun z => z.1 rfl), if_neg (show ¬ (UInt8.toNat 45 = 45 ∧ 9223372036854775808 < u) from fun z => by omega), if_pos (show UInt8.toNat 45 = 45 from rfl)]
    rw [e]
  · obtain ⟨u, rfl⟩ : ∃ u : Nat, v = (u : Int) := ⟨v.toNat, by omega⟩
    rw [Lib.itoa_nonneg]
    obtain ⟨c, r, e, hc⟩ := dd_cons u
    have hm : Lib.parseMag (c :: r) = .ok u := by
      unfold Lib.parseMag
      rw [if_neg (by simp), ← e]
      exact pu_dd u (by omega)
    have e2 : Lib.atoiAll (c :: r) = .ok (u : Int) := by
      simp only [Lib.atoiAll]
      rw [if_neg (show ¬ (c.toNat = 43 ∨ c.toNat = 45) by omega), hm]
      simp only
      rw [if_neg (show ¬ (¬ c.toNat = 45 ∧ 9223372036854775808 ≤ u) by omega), if_neg (show ¬ (c.toNat = 45 ∧ 9223372036854775808 < u) by omega), if_neg (show ¬ c.toNat = 45 by omega)]
    rw [e, e2]
theorem parM_of {s : ByteArray} {v : Int} (h0 : -9223372036854775808 ≤ v) (h1 : v ≤ 9223372036854775807) (h : Lib.itoa v = s.data.toList) : parM s = (v, true) := by
  unfold parM
  rw [← h, atoi_itoa h0 h1]
  simp only
  rw [if_pos trivial]
theorem parM_or (s : ByteArray) : parM s = (0, false) ∨ ∃ v, -9223372036854775808 ≤ v ∧ v ≤ 9223372036854775807 ∧ Lib.itoa v = s.data.toList ∧ parM s = (v, true) := by
  unfold parM
  rcases hA : atoiO s.data.toList with _ | v
  · exact Or.inl rfl
  · have hr := atoi_range hA
    by_cases h : Lib.itoa v = s.data.toList
    · exact Or.inr ⟨v, hr.1, hr.2, h, by simp only; rw [if_pos h]⟩
    · exact Or.inl (by simp only; rw [if_neg h])
def finP (s : ByteArray) (neg : Bool) (a : Nat) : Int × Bool :=
  if neg = true then (if Lib.itoa (-(a : Int)) = s.data.toList then (-(a : Int), true) else (0, false))
  else if a = 9223372036854775808 then (0, false) else if Lib.itoa (a : Int) = s.data.toList then ((a : Int), true) else (0, false)
def finR (s : ByteArray) (neg : Bool) : Option Nat → Int × Bool
  | none => (0, false)
  | some a => finP s neg a
theorem tl_iff (l : List UInt8) (s : ByteArray) : (⟨l.toArray⟩ : ByteArray).toList = s.toList ↔ l = s.data.toList := by rw [Lib.toList_data, Lib.toList_data]
theorem sDig_l (x : ByteArray) (hx : x.size ≤ 1048576) : ∀ (d i : Nat), i + d = x.size → Ev (fun k => spec_IsDigits.l0 k x (i : Int)) (if (x.data.toList.drop i).all isD = true then decide ((x.size : Int) > 0) else false)
  | 0, i, hd => by
    rw [List.drop_eq_nil_of_le (by rw [szd]; omega), List.all_nil, if_pos rfl]
    exact suc (f := fun _ => some (decide ((x.size : Int) > 0))) (fun k => by rw [spec_IsDigits.l0, if_neg (by omega)]) now
  | d + 1, i, hd => by
    have hi : i < x.data.toList.length := by rw [szd]; omega
    have hb := bt_list x i hi
    rw [List.drop_eq_getElem_cons hi, List.all_cons]
    by_cases c1 : bt x (i : Int) < 48
    · rw [if_neg (by rw [Bool.and_eq_true, isD_iff]; omega)]
      exact suc (f := fun _ => some false) (fun k => by rw [spec_IsDigits.l0, if_pos (by omega), if_pos (by omega), if_pos c1]) now
    · by_cases c2 : bt x (i : Int) > 57
      · rw [if_neg (by rw [Bool.and_eq_true, isD_iff]; omega)]
        exact suc (f := fun _ => some false) (fun k => by rw [spec_IsDigits.l0, if_pos (by omega), if_pos (by omega), if_neg c1, if_pos c2]) now
      · have e : isD x.data.toList[i] = true := isD_iff.2 (by omega)
        rw [e, Bool.true_and]
        refine suc (f := fun k => spec_IsDigits.l0 k x ((i + 1 : Nat) : Int)) (fun k => ?_) (sDig_l x hx d (i + 1) (by omega))
        rw [spec_IsDigits.l0, if_pos (by omega), if_pos (by omega), if_neg c1, if_neg c2, up1 (by omega) (by omega)]; rfl
theorem sPar_l (s t : ByteArray) (neg : Bool) (hD : t.data.toList.all isD = true) (ht : t.size ≤ 19) : ∀ (d i a : Nat), i + d = t.size → a ≤ 9223372036854775808 → Ev (fun k => spec_ParseInt.l0 k s neg t (-(a : Int)) (i : Int)) (finR s neg (valD a (t.data.toList.drop i)))
  | 0, i, a, hd, ha => by
    rw [List.drop_eq_nil_of_le (by rw [szd]; omega)]
    show Ev _ (finP s neg a)
    unfold finP
    cases neg with
    | true =>
      rw [if_pos rfl]
      refine suc (f := fun k => (spec_FormatInt.f k (-(a : Int))).bind fun t115 => if t115.toList = s.toList then some (-(a : Int), true) else some (0, false)) (fun k => by rw [spec_ParseInt.l0, if_neg (by omega), if_pos rfl]) (bev (sFmt _ (by omega) (by omega)) ?_)
      by_cases h : Lib.itoa (-(a : Int)) = s.data.toList
      · rw [if_pos h]; exact ifp ((tl_iff _ _).2 h) now
      · rw [if_neg h]; exact ifn (fun z => h ((tl_iff _ _).1 z)) now
    | false =>
      rw [if_neg (by simp)]
      by_cases hm : a = 9223372036854775808
      · rw [if_pos hm]
        exact suc (f := fun _ => some (0, false)) (fun k => by rw [spec_ParseInt.l0, if_neg (by omega), if_neg (by simp), if_pos (by omega)]) now
      · rw [if_neg hm]
        have e : wrap64 (- -(a : Int)) = (a : Int) := by rw [Int.neg_neg]; exact w64 (by omega) (by omega)
        refine suc (f := fun k => (spec_FormatInt.f k (a : Int)).bind fun t115 => if t115.toList = s.toList then some ((a : Int), true) else some (0, false)) (fun k => by rw [spec_ParseInt.l0, if_neg (by omega), if_neg (by simp), if_neg (by omega), e]) (bev (sFmt _ (by omega) (by omega)) ?_)
        by_cases h : Lib.itoa (a : Int) = s.data.toList
        · rw [if_pos h]; exact ifp ((tl_iff _ _).2 h) now
        · rw [if_neg h]; exact ifn (fun z => h ((tl_iff _ _).1 z)) now
  | d + 1, i, a, hd, ha => by
    have hi : i < t.data.toList.length := by rw [szd]; omega
    have hb := bt_list t i hi
    have hc := isD_iff.1 (List.all_eq_true.1 hD _ (List.getElem_mem hi))
    rw [List.drop_eq_getElem_cons hi]
    obtain ⟨q, hq⟩ : ∃ q : Nat, (t.data.toList[i]).toNat = 48 + q := ⟨(t.data.toList[i]).toNat - 48, by omega⟩
    have e1 : wrap64 (wrap64 (bt t (i : Int)) - 48) = (q : Int) := by
      rw [w64 (i := bt t (i : Int)) (by omega) (by omega), w64 (by omega) (by omega)]; omega
    have e2 : wrap64 (Int.tdiv (wrap64 ((-9223372036854775808) + (q : Int))) 10) = -(((9223372036854775808 - q) / 10 : Nat) : Int) := by
      rw [w64 (i := (-9223372036854775808) + (q : Int)) (by omega) (by omega), show (-9223372036854775808 : Int) + (q : Int) = -((9223372036854775808 - q : Nat) : Int) by omega, Int.neg_tdiv]
      show wrap64 (-(((9223372036854775808 - q) / 10 : Nat) : Int)) = _
      exact w64 (by omega) (by omega)
    unfold valD
    rw [hq, show 48 + q - 48 = q by omega]
    by_cases h : a * 10 + q ≤ 9223372036854775808
    · rw [if_pos h]
      refine suc (f := fun k => spec_ParseInt.l0 k s neg t (-((a * 10 + q : Nat) : Int)) ((i + 1 : Nat) : Int)) (fun k => ?_) (sPar_l s t neg hD ht d (i + 1) (a * 10 + q) (by omega) h)
      have e3 : wrap64 (wrap64 (-(a : Int) * 10) - (q : Int)) = -((a * 10 + q : Nat) : Int) := by
        rw [w64 (i := -(a : Int) * 10) (by omega) (by omega), w64 (by omega) (by omega)]; omega
      rw [spec_ParseInt.l0, if_pos (by omega), if_pos (by omega), e1, e2, if_neg (by omega), e3, up1 (by omega) (by omega)]; rfl
    · rw [if_neg h]
      exact suc (f := fun _ => some (0, false)) (fun k => by rw [spec_ParseInt.l0, if_pos (by omega), if_pos (by omega), e1, e2, if_pos (by omega)]) now
def tailP (s t : ByteArray) (neg : Bool) : Int × Bool := if t.data.toList.all isD = true ∧ 0 < t.size ∧ t.size ≤ 19 then finR s neg (valD 0 t.data.toList) else (0, false)
theorem sPar_j (s t : ByteArray) (neg : Bool) (ht : t.size ≤ 1048576) : Ev (fun k => spec_ParseInt.j1 k s neg t) (tailP s t neg) := by
  have hz := sDig_l t ht t.size 0 (by omega)
  have hD : Ev (fun k => spec_IsDigits.f k t) (if t.data.toList.all isD = true then decide ((t.size : Int) > 0) else false) := hz
  have bad : Ev (fun k => spec_ParseInt.j2 k s neg t true) (0, false) := suc (f := fun _ => some (0, false)) (fun k => by rw [spec_ParseInt.j2, if_pos rfl]) now
  refine suc (f := fun k => (spec_IsDigits.f k t).bind fun t114 => if t114 = true then spec_ParseInt.j2 k s neg t (decide ((t.size : Int) > 19)) else spec_ParseInt.j2 k s neg t true) (fun k => by rw [spec_ParseInt.j1]) (bev hD ?_)
  unfold tailP
  by_cases h1 : t.data.toList.all isD = true
  · rw [if_pos h1]
    by_cases h2 : 0 < t.size
    · refine ifp (decide_eq_true (by omega)) ?_
      by_cases h3 : t.size ≤ 19
      · rw [if_pos ⟨h1, h2, h3⟩, decide_eq_false (by omega)]
        exact suc (f := fun k => spec_ParseInt.l0 k s neg t (-((0 : Nat) : Int)) ((0 : Nat) : Int)) (fun k => by rw [spec_ParseInt.j2, if_neg (by simp)]; rfl) (sPar_l s t neg h1 h3 t.size 0 0 (by omega) (by omega))
      · rw [if_neg (fun z => h3 z.2.2), decide_eq_true (by omega)]
        exact bad
    · rw [if_neg (fun z => h2 z.2.1)]
      exact ifn (by rw [decide_eq_false (by omega)]; simp) bad
  · rw [if_neg h1, if_neg (fun z => h1 z.1)]
    exact ifn (by simp) bad
def negP (s : ByteArray) : Bool := decide (0 < s.size) && (bt s 0 == 45)
def parS (s : ByteArray) : Int × Bool := if negP s = true then tailP s (s.extract 1 s.size) true else tailP s s false
theorem ext1 (s : ByteArray) : (s.extract 1 s.size).data.toList = s.data.toList.drop 1 := by
  rw [Lib.extract_data]
  exact List.take_of_length_le (by rw [List.length_drop, szd]; exact Nat.le_refl _)
theorem sPar (s : ByteArray) (hs : s.size ≤ 1048576) : Ev (fun k => spec_ParseInt.f k s) (parS s) := by
  have hz : (s.extract 1 s.size).size ≤ 1048576 := by rw [← szd, ext1, List.length_drop, szd]; omega
  have j0 : ∀ b : Bool, (b = true → 0 < s.size) → Ev (fun k => spec_ParseInt.j0 k s b) (if b = true then tailP s (s.extract 1 s.size) true else tailP s s false) := by
    intro b hb
    cases b with
    | true =>
      rw [if_pos rfl]
      have := hb rfl
      exact suc (fun k => by rw [spec_ParseInt.j0, if_pos rfl, if_pos (by omega)]) (sPar_j s _ true hz)
    | false =>
      rw [if_neg (by simp)]
      exact suc (fun k => by rw [spec_ParseInt.j0, if_neg (by simp)]) (sPar_j s s false hs)
  unfold spec_ParseInt.f parS negP
  by_cases h : 0 < s.size
  · rw [decide_eq_true h, Bool.true_and]
    exact ifp (by omega) (ifp (by omega) (j0 _ (fun _ => h)))
  · rw [decide_eq_false h, Bool.false_and]
    exact ifn (by omega) (j0 false (fun z => by cases z))
theorem tailP_or (s t : ByteArray) (neg : Bool) : tailP s t neg = (0, false) ∨ ∃ v, -9223372036854775808 ≤ v ∧ v ≤ 9223372036854775807 ∧ Lib.itoa v = s.data.toList ∧ tailP s t neg = (v, true) := by
  unfold tailP
  split
  · rcases hv : valD 0 t.data.toList with _ | a
    · exact Or.inl rfl
    · have ha : a ≤ 9223372036854775808 := by
        have : ∀ (l : List UInt8) (b : Nat), b ≤ 9223372036854775808 → valD b l = some a → a ≤ 9223372036854775808 := by
          intro l
          induction l with
          | nil => intro b hb h; rw [← Option.some.inj h]; exact hb
          | cons c l ih =>
            intro b hb h
            unfold valD at h
            split at h
            · rename_i q; exact ih _ q h
            · cases h
        exact this _ 0 (by omega) hv
      show finP s neg a = _ ∨ _
      unfold finR finP
      simp only
      split
      · split
        · rename_i h; exact Or.inr ⟨_, by omega, by omega, h, rfl⟩
        · exact Or.inl rfl
      · split
        · exact Or.inl rfl
        · split
          · rename_i h2 h; exact Or.inr ⟨_, by omega, by omega, h, rfl⟩
          · exact Or.inl rfl
  · exact Or.inl rfl
theorem parS_of {s : ByteArray} {v : Int} (h0 : -9223372036854775808 ≤ v) (h1 : v ≤ 9223372036854775807) (h : Lib.itoa v = s.data.toList) : parS s = (v, true) := by
  unfold parS
  by_cases hn : v < 0
  · obtain ⟨u, rfl⟩ : ∃ u : Nat, v = -(u : Int) := ⟨v.natAbs, by omega⟩
    have h' := h
    rw [Lib.itoa_neg u (by omega)] at h'
    have hl : 0 < s.data.toList.length := by rw [← h']; simp
    have hb := bt_list s 0 hl
    have e0 : s.data.toList[0] = 45 := by simp only [← h']; rfl
    have hng : negP s = true := by
      unfold negP
      rw [szd] at hl
      rw [decide_eq_true hl, Bool.true_and]
      show (bt s ((0 : Nat) : Int) == 45) = true
      rw [hb, e0]; rfl
    have hx := ext1 s
    rw [← h', List.drop_one, List.tail_cons] at hx
    rw [if_pos hng]
    unfold tailP
    rw [hx, if_pos ⟨dd_all u, by rw [← szd, hx]; exact dd_pos u, by rw [← szd, hx]; exact dd19 (by omega)⟩, valD_dd u (by omega)]
    show finP s true u = _
    unfold finP
    rw [if_pos rfl, if_pos h]
  · obtain ⟨u, rfl⟩ : ∃ u : Nat, v = (u : Int) := ⟨v.toNat, by omega⟩
    have h' := h
    rw [Lib.itoa_nonneg] at h'
    obtain ⟨c, r, e, hc⟩ := dd_cons u
    have hl : 0 < s.data.toList.length := by rw [← h', e]; simp
    have hb := bt_list s 0 hl
    have e0 : s.data.toList[0] = c := by simp only [← h', e]; rfl
    have hng : ¬ negP s = true := by
      unfold negP
      rw [Bool.and_eq_true]
      intro z
      have z2 : (bt s ((0 : Nat) : Int) == 45) = true := z.2
      rw [hb, e0, beq_iff_eq] at z2
      omega
    rw [if_neg hng]
    unfold tailP
    rw [← h', if_pos ⟨dd_all u, by rw [← szd, ← h']; exact dd_pos u, by rw [← szd, ← h']; exact dd19 (by omega)⟩, valD_dd u (by omega)]
    show finP s false u = _
    unfold finP
    rw [if_neg (by simp), if_neg (by omega), if_pos h]
theorem parS_eq (s : ByteArray) : parS s = parM s := by
  have hS : parS s = (0, false) ∨ ∃ v, -9223372036854775808 ≤ v ∧ v ≤ 9223372036854775807 ∧ Lib.itoa v = s.data.toList ∧ parS s = (v, true) := by
    unfold parS
    split
    · exact tailP_or _ _ _
    · exact tailP_or _ _ _
  rcases hS with hS | ⟨v, h0, h1, h, hS⟩
  · rcases parM_or s with hM | ⟨v, h0, h1, h, hM⟩
    · rw [hS, hM]
    · rw [hM, parS_of h0 h1 h]
  · rw [hS, parM_of h0 h1 h]
def idxByte (s : ByteArray) (c : Int) : Int := Lib.indexByte s.data.toList c.toNat.toUInt8
theorem idx_nonneg (c : UInt8) : ∀ l : List UInt8, 0 ≤ Lib.indexByte l c ↔ c ∈ l
  | [] => by simp [Lib.indexByte]
  | b :: l => by
    have ih := idx_nonneg c l
    have hg := Lib.indexByte_ge l c
    unfold Lib.indexByte
    by_cases h : b = c
    · subst h; simp
    · have h1 : (b == c) = false := beq_eq_false_iff_ne.mpr h
      rw [h1]
      by_cases h2 : Lib.indexByte l c = -1
      · rw [h2] at ih ⊢
        have : c ∉ l := fun x => absurd (ih.mpr x) (by omega)
        simp [this, Ne.symm h]
      · have h3 : (Lib.indexByte l c == -1) = false := beq_eq_false_iff_ne.mpr h2
        rw [h3]
        have : c ∈ l := ih.mp (by omega)
        simp only [Bool.false_eq_true, if_false, List.mem_cons, this, or_true, iff_true]
        omega
theorem bt_nat (s : ByteArray) (i : Nat) (h : i < s.data.toList.length) : bt s (i : Int) = ((s.data.toList[i]).toNat : Int) := by
  have h' : (i : Int).toNat < s.size := by simpa using h
  unfold bt
  rw [dif_pos h']
  rfl
theorem size_list (s : ByteArray) : s.data.toList.length = s.size := by rw [Array.length_toList]; rfl
def hitB (x b : ByteArray) (i : Nat) : Bool := decide (0 ≤ idxByte b (bt x (i : Int)))
def hitF (x b : ByteArray) (i : Nat) : Nat → Nat → Bool
  | _, 0 => false
  | j, d + 1 => decide (bt x (i : Int) = bt b (j : Int)) || hitF x b i (j + 1) d
theorem hitF_mem (x b : ByteArray) (i : Nat) (hi : i < x.data.toList.length) : ∀ (d j : Nat), j + d = b.data.toList.length → (hitF x b i j d = true ↔ x.data.toList[i] ∈ b.data.toList.drop j)
  | 0, j, h => by rw [List.drop_eq_nil_of_le (by omega)]; simp [hitF]
  | d + 1, j, h => by
    have hj : j < b.data.toList.length := by omega
    rw [List.drop_eq_getElem_cons hj]
    simp only [hitF, Bool.or_eq_true, decide_eq_true_eq, hitF_mem x b i hi d (j + 1) (by omega), List.mem_cons]
    rw [bt_nat x i hi, bt_nat b j hj]
    constructor
    · rintro (h | h)
      · exact Or.inl (UInt8.toNat_inj.mp (by omega))
      · exact Or.inr h
    · rintro (h | h)
      · exact Or.inl (by rw [h])
      · exact Or.inr h
theorem hit_eq (x b : ByteArray) (i : Nat) (hi : i < x.size) : hitF x b i 0 b.size = hitB x b i := by
  have hx : i < x.data.toList.length := by rw [size_list]; exact hi
  rw [Bool.eq_iff_iff, hitF_mem x b i hx b.size 0 (by rw [size_list]; omega), List.drop_zero]
  unfold hitB idxByte
  rw [decide_eq_true_eq, bt_nat x i hx, idx_nonneg]
  simp
def splitL (x b : ByteArray) : Nat → Nat → Nat → List ByteArray → List ByteArray
  | 0, _, f, o => o ++ [x.extract f x.size]
  | d + 1, i, f, o => if hitB x b i = true then splitL x b d (i + 1) (i + 1) (o ++ [x.extract f i]) else splitL x b d (i + 1) f o
theorem splitL_len (x b : ByteArray) : ∀ (d i f : Nat) (o : List ByteArray), 1 ≤ (splitL x b d i f o).length ∧ (splitL x b d i f o).length ≤ o.length + d + 1
  | 0, i, f, o => by simp [splitL]
  | d + 1, i, f, o => by
    unfold splitL
    split
    · have := splitL_len x b d (i + 1) (i + 1) (o ++ [x.extract f i])
      simp only [List.length_append, List.length_cons, List.length_nil] at this
      omega
    · have := splitL_len x b d (i + 1) f o
      omega
def splitM (x b : ByteArray) : List ByteArray := splitL x b x.size 0 0 []
theorem sSplit_in (x b : ByteArray) (hx : x.size ≤ 1048576) (hb : b.size ≤ 1048576) (i f : Nat) (hi : i < x.size) (hf : f ≤ i) (o : List ByteArray) (ho : o.length ≤ i) (R : List ByteArray) : ∀ (d j : Nat), j + d = b.size →
    (hitF x b i j d = true → Ev (fun k => spec_SplitAny.l0 k x b (o ++ [x.extract f i]) ((i + 1 : Nat) : Int) ((i + 1 : Nat) : Int)) R) → (hitF x b i j d = false → Ev (fun k => spec_SplitAny.l0 k x b o (f : Int) ((i + 1 : Nat) : Int)) R) → Ev (fun k => spec_SplitAny.l1 k x b o (f : Int) (i : Int) (j : Int)) R
  | 0, j, hd, _, h2 => by
    exact suc (fun k => by rw [spec_SplitAny.l1, if_neg (by omega), up1 (by omega) (by omega)]; rfl) (h2 rfl)
  | d + 1, j, hd, h1, h2 => by
    by_cases c : bt x (i : Int) = bt b (j : Int)
    · refine suc (fun k => ?_) (h1 (by simp only [hitF]; rw [decide_eq_true c, Bool.true_or]))
      rw [spec_SplitAny.l1, if_pos (by omega), if_pos (by omega), if_pos (by omega), if_pos (by omega), if_pos c, if_pos (by omega), if_pos (by omega), if_pos (by omega), if_pos (by omega), up1 (by omega) (by omega)]; rfl
    · have e : hitF x b i j (d + 1) = hitF x b i (j + 1) d := by simp only [hitF]; rw [decide_eq_false c, Bool.false_or]
      rw [e] at h1 h2
      refine suc (fun k => ?_) (sSplit_in x b hx hb i f hi hf o ho R d (j + 1) (by omega) h1 h2)
      rw [spec_SplitAny.l1, if_pos (by omega), if_pos (by omega), if_pos (by omega), if_pos (by omega), if_neg c, up1 (by omega) (by omega)]; rfl
theorem sSplit_l (x b : ByteArray) (hx : x.size ≤ 1048576) (hb : b.size ≤ 1048576) : ∀ (d i f : Nat) (o : List ByteArray), i + d = x.size → f ≤ i → o.length ≤ i → Ev (fun k => spec_SplitAny.l0 k x b o (f : Int) (i : Int)) (splitL x b d i f o)
  | 0, i, f, o, hd, hf, ho => by
    simp only [splitL]
    exact suc (f := fun _ => some (o ++ [x.extract f x.size])) (fun k => by rw [spec_SplitAny.l0, if_neg (by omega), if_pos (by omega), if_pos (by omega), if_pos (by omega)]; rfl) now
  | d + 1, i, f, o, hd, hf, ho => by
    simp only [splitL]
    have hi : i < x.size := by omega
    refine suc (fun k => by rw [spec_SplitAny.l0, if_pos (by omega)]; rfl) (sSplit_in x b hx hb i f hi hf o ho _ b.size 0 (by omega) (fun h => ?_) (fun h => ?_))
    · rw [hit_eq x b i hi] at h
      rw [if_pos h]
      exact sSplit_l x b hx hb d (i + 1) (i + 1) _ (by omega) (by omega) (by simp only [List.length_append, List.length_cons, List.length_nil]; omega)
    · rw [hit_eq x b i hi] at h
      rw [if_neg (by rw [h]; simp)]
      exact sSplit_l x b hx hb d (i + 1) f _ (by omega) (by omega) (by omega)
theorem sSplit (x b : ByteArray) (hx : x.size ≤ 1048576) (hb : b.size ≤ 1048576) : Ev (fun k => spec_SplitAny.f k x b) (splitM x b) := sSplit_l x b hx hb x.size 0 0 [] (by omega) (by omega) (by simp)
theorem bext {x y : ByteArray} (h : x.data.toList = y.data.toList) : x = y := ByteArray.ext (Array.toList_inj.1 h)
def bndP (x : ByteArray) : Int × Bool := if x.data.toList = [105, 110, 102] then (1000000, true) else if x.data.toList = [45, 105, 110, 102] then (-1000000, true) else parM x
theorem bnd_range (x : ByteArray) : -9223372036854775808 ≤ (bndP x).1 ∧ (bndP x).1 ≤ 9223372036854775807 := by
  unfold bndP
  split
  · exact ⟨by decide, by decide⟩
  · split
    · exact ⟨by decide, by decide⟩
    · rcases parM_or x with h | ⟨v, h0, h1, _, h⟩
      · rw [h]; exact ⟨by decide, by decide⟩
      · rw [h]; exact ⟨h0, h1⟩
theorem tl_lit (x : ByteArray) (l : List UInt8) : x.toList = l ↔ x.data.toList = l := by rw [Lib.toList_data]
theorem iBnd (x : ByteArray) (hx : x.size ≤ 281474976710656) : impl_bound.f x = some (bndP x).1 := by
  unfold impl_bound.f bndP
  have e : impl_ParseInt.f x = some (parM x) := if_pos hx
  rw [e]
  simp only [Option.bind_some, tl_lit]
  split
  · rfl
  · split <;> rfl
theorem sBnd (x : ByteArray) (hx : x.size ≤ 1048576) : Ev (fun k => spec_l02Bound.f k x) (bndP x) := by
  unfold spec_l02Bound.f bndP
  by_cases h1 : x.data.toList = [105, 110, 102]
  · rw [if_pos h1]; exact ifp ((tl_lit _ _).2 h1) now
  · rw [if_neg h1]
    refine ifn (fun z => h1 ((tl_lit _ _).1 z)) ?_
    by_cases h2 : x.data.toList = [45, 105, 110, 102]
    · rw [if_pos h2]; exact ifp ((tl_lit _ _).2 h2) now
    · rw [if_neg h2]
      refine ifn (fun z => h2 ((tl_lit _ _).1 z)) ?_
      have e := sPar x hx
      rw [parS_eq] at e
      exact bev e now
theorem cut_sz (s p : ByteArray) : (cutM s p).1.size ≤ s.size ∧ (cutM s p).2.1.size ≤ s.size := by
  unfold cutM Lib.cut
  split
  · simp only [szl, List.length_take, List.length_drop, szd]; omega
  · simp only [szl, szd, List.length_nil]; omega
def FF : Int × Int × Bool := (0, 0, false)
def pI (s : ByteArray) : Int × Int × Bool :=
  if s.data.toList = [] then FF else if fivM (bndP (cutM s dots).1).1 (bndP (cutM s dots).2.1).1 = s then ((bndP (cutM s dots).1).1, (bndP (cutM s dots).2.1).1, true) else FF
theorem tl_eq (x y : ByteArray) : x.toList = y.toList ↔ x = y := by
  rw [Lib.toList_data, Lib.toList_data]
  exact ⟨bext, fun h => by rw [h]⟩
theorem iPI (s : ByteArray) (hs : s.size ≤ 1048576) : impl_ParseInterval.f s = some (pI s) := by
  unfold impl_ParseInterval.f pI
  have e : strings_Cut.f s ⟨#[46, 46]⟩ = some (cutM s dots) := if_pos (by omega)
  have hz := cut_sz s dots
  have ra := bnd_range (cutM s dots).1
  have rb := bnd_range (cutM s dots).2.1
  rw [e]
  simp only [Option.bind_some]
  rw [iBnd _ (by omega), iBnd _ (by omega)]
  simp only [Option.bind_some]
  by_cases h : s.data.toList = []
  · rw [if_pos ((tl_lit _ _).2 h), if_pos h]; rfl
  · rw [if_neg (fun z => h ((tl_lit _ _).1 z)), if_neg h, iFiv ra.1 ra.2 rb.1 rb.2]
    simp only [Option.bind_some]
    by_cases g : fivM (bndP (cutM s dots).1).1 (bndP (cutM s dots).2.1).1 = s
    · rw [if_pos ((tl_eq _ _).2 g), if_pos g]
    · rw [if_neg (fun z => g ((tl_eq _ _).1 z)), if_neg g]; rfl
def jS (s : ByteArray) (w : List ByteArray) : Int × Int × Bool :=
  if w.length = 3 ∧ (rdOf ByteArray.empty w 1).data.toList = [] then
    (if (bndP (rdOf ByteArray.empty w 0)).2 = true ∧ (bndP (rdOf ByteArray.empty w 2)).2 = true ∧ ivB (bndP (rdOf ByteArray.empty w 0)).1 (bndP (rdOf ByteArray.empty w 2)).1 = true ∧ fivM (bndP (rdOf ByteArray.empty w 0)).1 (bndP (rdOf ByteArray.empty w 2)).1 = s
      then ((bndP (rdOf ByteArray.empty w 0)).1, (bndP (rdOf ByteArray.empty w 2)).1, true) else FF) else FF
theorem ext_sz (x : ByteArray) (a b : Nat) : (x.extract a b).size ≤ x.size := by
  rw [← szd, Lib.extract_data, List.length_take, List.length_drop, szd]; omega
theorem splitL_sz (x b : ByteArray) : ∀ (d i f : Nat) (o : List ByteArray), (∀ y ∈ o, y.size ≤ x.size) → ∀ y ∈ splitL x b d i f o, y.size ≤ x.size
  | 0, i, f, o, ho, y, hy => by
    unfold splitL at hy
    rcases List.mem_append.1 hy with h | h
    · exact ho y h
    · rw [List.mem_singleton.1 h]; exact ext_sz _ _ _
  | d + 1, i, f, o, ho, y, hy => by
    unfold splitL at hy
    split at hy
    · refine splitL_sz x b d _ _ _ (fun z hz => ?_) y hy
      rcases List.mem_append.1 hz with h | h
      · exact ho z h
      · rw [List.mem_singleton.1 h]; exact ext_sz _ _ _
    · exact splitL_sz x b d _ _ _ ho y hy
theorem rdO_sz {w : List ByteArray} {n : Nat} (h : ∀ y ∈ w, y.size ≤ n) (i : Int) : (rdOf ByteArray.empty w i).size ≤ n := by
  unfold rdOf
  rw [List.getD_eq_getElem?_getD]
  cases e : w[i.toNat]? with
  | none => exact Nat.zero_le _
  | some y => exact h y (List.mem_of_getElem? e)
theorem sPI (s : ByteArray) (hs : s.size ≤ 1048576) : Ev (fun k => spec_ParseInterval.f k s) (jS s (splitM s ⟨#[46]⟩)) := by
  unfold spec_ParseInterval.f
  refine bev (sSplit s ⟨#[46]⟩ hs (by decide)) ?_
  have hw : ∀ y ∈ splitM s ⟨#[46]⟩, y.size ≤ 1048576 := fun y hy => Nat.le_trans (splitL_sz s _ s.size 0 0 [] (fun _ h => by cases h) y hy) hs
  generalize splitM s ⟨#[46]⟩ = w at hw ⊢
  have bad : Ev (fun k => spec_ParseInterval.j0 k s w true) FF := suc (f := fun _ => some (0, 0, false)) (fun k => by rw [spec_ParseInterval.j0, if_pos rfl]) now
  unfold jS
  by_cases h : w.length = 3
  · refine ifp (by omega) (ifp (by omega) ?_)
    by_cases g : (rdOf ByteArray.empty w 1).data.toList = []
    · rw [if_pos ⟨h, g⟩, show ((rdOf ByteArray.empty w 1).toList != ([] : List UInt8)) = false by rw [Lib.toList_data, g]; rfl]
      have ra := bnd_range (rdOf ByteArray.empty w 0)
      have rb := bnd_range (rdOf ByteArray.empty w 2)
      have ea := sBnd _ (rdO_sz hw 0)
      have eb := sBnd _ (rdO_sz hw 2)
      generalize bndP (rdOf ByteArray.empty w 0) = A at *
      generalize bndP (rdOf ByteArray.empty w 2) = B at *
      refine suc (fun k => by rw [spec_ParseInterval.j0, if_neg (by simp), if_pos (by omega)]) (bev ea ?_)
      refine ifp (by omega) (bev eb ?_)
      by_cases q1 : A.2 = true
      · refine ifp q1 ?_
        by_cases q2 : B.2 = true
        · refine ifp q2 (bnd (sIv A.1 B.1) ?_)
          by_cases q3 : ivB A.1 B.1 = true
          · refine ifp q3 (bev (sFiv ra.1 ra.2 rb.1 rb.2) ?_)
            by_cases q4 : fivM A.1 B.1 = s
            · exact eqr (ifp ((tl_eq _ _).2 q4) now) (if_pos ⟨q1, q2, q3, q4⟩).symm
            · exact eqr (ifn (fun z => q4 ((tl_eq _ _).1 z)) now) (if_neg (fun z => q4 z.2.2.2)).symm
          · exact eqr (ifn q3 now) (if_neg (fun z => q3 z.2.2.1)).symm
        · exact eqr (ifn q2 now) (if_neg (fun z => q2 z.2.1)).symm
      · exact eqr (ifn q1 now) (if_neg (fun z => q1 z.1)).symm
    · rw [if_neg (fun z => g z.2), show ((rdOf ByteArray.empty w 1).toList != ([] : List UInt8)) = true by rw [Lib.toList_data]; simp [g]]
      exact bad
  · rw [if_neg (fun z => h z.1)]
    exact ifn (by omega) bad
theorem txt_data (n : Int) : (n = 1000000 ∧ (txtB n).data.toList = [105, 110, 102]) ∨ (n = -1000000 ∧ (txtB n).data.toList = [45, 105, 110, 102]) ∨ (n ≠ 1000000 ∧ n ≠ -1000000 ∧ (txtB n).data.toList = Lib.itoa n) := by
  unfold txtB
  by_cases h : n = 1000000
  · rw [if_pos h]; exact Or.inl ⟨h, rfl⟩
  · rw [if_neg h]
    by_cases g : n = -1000000
    · rw [if_pos g]; exact Or.inr (Or.inl ⟨g, rfl⟩)
    · rw [if_neg g]; exact Or.inr (Or.inr ⟨h, g, by simp⟩)
theorem itoa_all (n : Int) : ∀ c ∈ Lib.itoa n, c = 45 ∨ (48 ≤ c.toNat ∧ c.toNat ≤ 57) := by
  intro c hc
  unfold Lib.itoa at hc
  split at hc
  · rcases List.mem_cons.1 hc with h | h
    · exact Or.inl h
    · exact Or.inr (isD_iff.1 (List.all_eq_true.1 (dd_all _) c h))
  · exact Or.inr (isD_iff.1 (List.all_eq_true.1 (dd_all _) c hc))
theorem itoa_no {n : Int} {c : UInt8} (h : c.toNat = 105 ∨ c.toNat = 46) : c ∉ Lib.itoa n := by
  intro hc
  rcases itoa_all n c hc with h2 | h2
  · rw [h2] at h; revert h; decide
  · omega
theorem bnd_txt {n : Int} (h0 : -1000000 ≤ n) (h1 : n ≤ 1000000) {x : ByteArray} (hx : x.data.toList = (txtB n).data.toList) : bndP x = (n, true) := by
  unfold bndP
  rw [hx]
  rcases txt_data n with ⟨h, e⟩ | ⟨h, e⟩ | ⟨_, _, e⟩
  · rw [e, if_pos rfl, h]
  · rw [e, if_neg (by decide), if_pos rfl, h]
  · rw [e]
    have hi : (105 : UInt8) ∉ Lib.itoa n := itoa_no (Or.inl rfl)
    rw [if_neg (fun z => hi (by rw [z]; decide)), if_neg (fun z => hi (by rw [z]; decide))]
    exact parM_of (by omega) (by omega) (by rw [hx, e])
theorem txt_nodot (n : Int) : (46 : UInt8) ∉ (txtB n).data.toList := by
  rcases txt_data n with ⟨_, e⟩ | ⟨_, e⟩ | ⟨_, _, e⟩
  · rw [e]; decide
  · rw [e]; decide
  · rw [e]; exact itoa_no (Or.inr rfl)
theorem index_dots (B : List UInt8) : ∀ A : List UInt8, (46 : UInt8) ∉ A → Lib.index (A ++ 46 :: 46 :: B) [46, 46] = (A.length : Int)
  | [], _ => by simp [Lib.index]
  | a :: A, h => by
    have ih := index_dots B A (fun z => h (List.mem_cons_of_mem _ z))
    have ha : ((46 : UInt8) == a) = false := beq_eq_false_iff_ne.2 (fun z => h (by rw [z]; exact List.mem_cons_self))
    have hp : ([46, 46] : List UInt8).isPrefixOf (a :: (A ++ 46 :: 46 :: B)) = false := by simp only [List.isPrefixOf, ha, Bool.false_and]
    rw [List.cons_append, Lib.index, hp, if_neg (by simp), ih, if_neg (by simp only [beq_iff_eq]; omega), List.length_cons]
    omega
theorem hit1 (x : ByteArray) (c : UInt8) (i : Nat) (hi : i < x.data.toList.length) : hitB x ⟨#[c]⟩ i = true ↔ x.data.toList[i] = c := by
  rw [← hit_eq x ⟨#[c]⟩ i (by rw [← szd]; exact hi), hitF_mem x ⟨#[c]⟩ i hi _ 0 (by rw [szd]; omega)]
  simp
theorem splitL_skip (x : ByteArray) (c : UInt8) : ∀ (m i d f : Nat) (o : List ByteArray), (∀ j, i ≤ j → j < i + m → x.data.toList[j]? ≠ some c) → i + m + d = x.size → splitL x ⟨#[c]⟩ (m + d) i f o = splitL x ⟨#[c]⟩ d (i + m) f o
  | 0, i, d, f, o, _, _ => by rw [Nat.zero_add, Nat.add_zero]
  | m + 1, i, d, f, o, h, hd => by
    have hi : i < x.data.toList.length := by rw [szd]; omega
    have hn : ¬ hitB x ⟨#[c]⟩ i = true := fun z => h i (Nat.le_refl _) (by omega) (by rw [List.getElem?_eq_getElem hi, (hit1 x c i hi).1 z])
    rw [show m + 1 + d = (m + d) + 1 by omega, splitL, if_neg hn, splitL_skip x c m (i + 1) d f o (fun j h1 h2 => h j (by omega) (by omega)) (by omega), show i + 1 + m = i + (m + 1) by omega]
theorem splitL_hit (x : ByteArray) (c : UInt8) (d i f : Nat) (o : List ByteArray) (h : x.data.toList[i]? = some c) : splitL x ⟨#[c]⟩ (d + 1) i f o = splitL x ⟨#[c]⟩ d (i + 1) (i + 1) (o ++ [x.extract f i]) := by
  obtain ⟨hi, e⟩ := List.getElem?_eq_some_iff.1 h
  rw [splitL, if_pos ((hit1 x c i hi).2 e)]
theorem split3 {s : ByteArray} {A B : List UInt8} (hA : (46 : UInt8) ∉ A) (hB : (46 : UInt8) ∉ B) (h : s.data.toList = A ++ 46 :: 46 :: B) : splitM s ⟨#[46]⟩ = [s.extract 0 A.length, s.extract (A.length + 1) (A.length + 1), s.extract (A.length + 2) s.size] := by
  have hz : s.size = A.length + (2 + B.length) := by rw [← szd, h, List.length_append, List.length_cons, List.length_cons]; omega
  unfold splitM
  rw [hz, splitL_skip s 46 A.length 0 (2 + B.length) 0 [] (fun j _ h2 => by
    rw [h, List.getElem?_append_left (by omega)]
    intro z
    exact hA (List.mem_of_getElem? z)) (by omega), show 2 + B.length = (B.length + 1) + 1 by omega, Nat.zero_add]
  rw [splitL_hit s 46 (B.length + 1) A.length 0 [] (by rw [h, List.getElem?_append_right (Nat.le_refl _)]; simp)]
  rw [splitL_hit s 46 B.length (A.length + 1) _ _ (by rw [h, List.getElem?_append_right (by omega)]; simp)]
  rw [show B.length = B.length + 0 by omega, splitL_skip s 46 B.length (A.length + 1 + 1) 0 _ _ (fun j h1 h2 => by
    rw [h, List.getElem?_append_right (by omega), show j - A.length = (j - A.length - 2) + 1 + 1 by omega, List.getElem?_cons_succ, List.getElem?_cons_succ]
    intro z
    exact hB (List.mem_of_getElem? z)) (by omega)]
  unfold splitL
  rw [show A.length + (B.length + 0 + 1 + 1) = s.size by omega]
  rfl
theorem fiv_data {a b : Int} (h : ivB a b = true) : (fivM a b).data.toList = (txtB a).data.toList ++ 46 :: 46 :: (txtB b).data.toList := by
  unfold fivM dots
  rw [if_pos h]
  simp [ByteArray.data_append]
theorem iv_range {a b : Int} (h : ivB a b = true) : (-1000000 ≤ a ∧ a ≤ 1000000) ∧ -1000000 ≤ b ∧ b ≤ 1000000 := by
  unfold ivB at h
  rw [decide_eq_true_eq] at h
  omega
theorem pI_of {s : ByteArray} {a b : Int} (hv : ivB a b = true) (h : fivM a b = s) : pI s = (a, b, true) := by
  have hd := fiv_data hv
  rw [h] at hd
  obtain ⟨⟨a0, a1⟩, b0, b1⟩ := iv_range hv
  have hx := index_dots (txtB b).data.toList (txtB a).data.toList (txt_nodot a)
  have hc : Lib.cut s.data.toList dots.data.toList = ((txtB a).data.toList, (txtB b).data.toList, true) := by
    unfold Lib.cut
    rw [show dots.data.toList = [46, 46] from rfl, hd, hx, if_pos (by omega)]
    simp only [Int.toNat_natCast, List.length_cons, List.length_nil, List.take_left]
    congr 2
    rw [List.drop_append, List.drop_eq_nil_of_le (by omega), List.nil_append, show (txtB a).data.toList.length + (0 + 1 + 1) - (txtB a).data.toList.length = 2 by omega]
    rfl
  have e1 : (cutM s dots).1.data.toList = (txtB a).data.toList := by unfold cutM; rw [hc]
  have e2 : (cutM s dots).2.1.data.toList = (txtB b).data.toList := by unfold cutM; rw [hc]
  unfold pI
  rw [bnd_txt a0 a1 e1, bnd_txt b0 b1 e2, if_neg (by rw [hd]; simp), if_pos h]
theorem jS_of {s : ByteArray} {a b : Int} (hv : ivB a b = true) (h : fivM a b = s) : jS s (splitM s ⟨#[46]⟩) = (a, b, true) := by
  have hd := fiv_data hv
  rw [h] at hd
  obtain ⟨⟨a0, a1⟩, b0, b1⟩ := iv_range hv
  rw [split3 (txt_nodot a) (txt_nodot b) hd]
  generalize hA : (txtB a).data.toList = A at *
  generalize hB : (txtB b).data.toList = B at *
  have z1 : (s.extract 0 A.length).data.toList = A := by rw [Lib.extract_data, hd]; simp
  have z2 : (s.extract (A.length + 1) (A.length + 1)).data.toList = [] := by rw [Lib.extract_data]; simp
  have z3 : (s.extract (A.length + 2) s.size).data.toList = B := by
    rw [Lib.extract_data, List.take_of_length_le (by rw [List.length_drop, szd]; exact Nat.le_refl _), hd, List.drop_append, List.drop_eq_nil_of_le (by omega), List.nil_append, show A.length + 2 - A.length = 2 by omega]
    rfl
  have key : ∀ x0 x1 x2 : ByteArray, x1.data.toList = [] → bndP x0 = (a, true) → bndP x2 = (b, true) → jS s [x0, x1, x2] = (a, b, true) := by
    intro x0 x1 x2 h1 h0 h2
    have r0 : rdOf ByteArray.empty [x0, x1, x2] 0 = x0 := rfl
    have r1 : rdOf ByteArray.empty [x0, x1, x2] 1 = x1 := rfl
    have r2 : rdOf ByteArray.empty [x0, x1, x2] 2 = x2 := rfl
    unfold jS
    rw [r0, r1, r2, h0, h2]
    rw [if_pos (show [x0, x1, x2].length = 3 ∧ x1.data.toList = [] from ⟨rfl, h1⟩)]
    exact if_pos ⟨rfl, rfl, hv, h⟩
  exact key _ _ _ z2 (bnd_txt a0 a1 (z1.trans hA.symm)) (bnd_txt b0 b1 (z3.trans hB.symm))
theorem pI_or (s : ByteArray) : pI s = FF ∨ ∃ a b, ivB a b = true ∧ fivM a b = s ∧ pI s = (a, b, true) := by
  unfold pI
  by_cases h : s.data.toList = []
  · rw [if_pos h]; exact Or.inl rfl
  · rw [if_neg h]
    split
    · rename_i g
      refine Or.inr ⟨_, _, ?_, g, rfl⟩
      by_cases q : ivB (bndP (cutM s dots).1).1 (bndP (cutM s dots).2.1).1 = true
      · exact q
      · exfalso
        unfold fivM at g
        rw [if_neg q] at g
        exact h (by rw [← g])
    · exact Or.inl rfl
theorem jS_or (s : ByteArray) (w : List ByteArray) : jS s w = FF ∨ ∃ a b, ivB a b = true ∧ fivM a b = s ∧ jS s w = (a, b, true) := by
  unfold jS
  split
  · split
    · rename_i g; exact Or.inr ⟨_, _, g.2.2.1, g.2.2.2, rfl⟩
    · exact Or.inl rfl
  · exact Or.inl rfl
theorem pI_eq (s : ByteArray) : jS s (splitM s ⟨#[46]⟩) = pI s := by
  rcases jS_or s (splitM s ⟨#[46]⟩) with hJ | ⟨a, b, hv, h, hJ⟩
  · rcases pI_or s with hP | ⟨a, b, hv, h, hP⟩
    · rw [hJ, hP]
    · rw [hP, jS_of hv h]
  · rw [hJ, pI_of hv h]

theorem FnExactParseInterval : laws_FnExactParseInterval.Pure := by
  intro s hs
  refine Ev.rounds ?_
  unfold laws_FnExactParseInterval.f
  by_cases hx : (s.size : Int) > 1048576
  · exact ifp hx now
  refine ifn hx ?_
  have e := sPI s (by omega)
  rw [pI_eq] at e
  refine bev e (bnd (iPI s (by omega)) ?_)
  have q : laws_eqInterval.f (pI s).1 (pI s).2.1 (pI s).1 (pI s).2.1 = some true := by
    unfold laws_eqInterval.f
    repeat' split
    all_goals first | rfl | simp_all
  exact bnd q (ifp rfl (ifn (by simp) now))

end Go.Proofs.YtbjlnjaedikokaaDoor.Own
