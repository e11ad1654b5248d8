/- The law FnExactParseInt answers true for every text. No condition. -/
import Derived.Test.YtbjlnjaedikokaaDoorQFnExactParseIntx2
import Derived.Test.YtbjlnjaedikokaaDoorThy
namespace Go.Proofs.YtbjlnjaedikokaaDoor.Own
open Go.RowKit Go.Proofs.YtbjlnjaedikokaaDoor.QFnExactParseInt Go.Proofs.YtbjlnjaedikokaaDoorW.PrintWords Go.Proofs.YtbjlnjaedikokaaDoorW.PrintLast Go.Proofs.YtbjlnjaedikokaaDoorW.PrintMore Go.Proofs.YtbjlnjaedikokaaDoorT Go.Proofs.YtbjlnjaedikokaaDoorT Go.Proofs.YtbjlnjaedikokaaDoorT Go.Proofs.YtbjlnjaedikokaaDoorT
set_option linter.unusedVariables false
set_option linter.unusedSimpArgs false

theorem szl (l : List UInt8) : (⟨l.toArray⟩ : ByteArray).size = l.length := by simp [ByteArray.size]
theorem bapp (a b : List UInt8) : (⟨a.toArray⟩ : ByteArray) ++ ⟨b.toArray⟩ = ⟨(a ++ b).toArray⟩ := by apply ByteArray.ext; simp
theorem digit (d : Nat) (h : d < 10) : strOfNums [(wrap64 (48 + (d : Int))) % 256] = ⟨[UInt8.ofNat (48 + d)].toArray⟩ := by
  rw [w64 (by omega) (by omega)]
  have e : ((48 + (d : Int)) % 256).toNat = 48 + d := by omega
  simp [strOfNums, e]
theorem dd_small {u : Nat} (h : u < 10) : Lib.decDigits u = [UInt8.ofNat (48 + u)] := Lib.decDigits_one h
theorem dd_big {u : Nat} (h : ¬ u < 10) : Lib.decDigits u = Lib.decDigits (u / 10) ++ [UInt8.ofNat (48 + u % 10)] := by rw [Lib.decDigits, dif_neg h]
theorem dd_pos (u : Nat) : 1 ≤ (Lib.decDigits u).length := by
  by_cases h : u < 10
  · rw [dd_small h]; simp
  · rw [dd_big h]; simp
theorem dd_len {u : Nat} (h : u ≤ 9223372036854775808) : (Lib.decDigits u).length ≤ 21 := by
  by_cases h1 : u = 0
  · subst h1; rw [dd_small (by omega)]; simp
  · have := Lib.itoa_length_le (-(u : Int)) (by omega) (by omega)
    rw [Lib.itoa_neg u (by omega), List.length_cons] at this
    omega
theorem sFmt_l (u : Nat) : ∀ (l : List UInt8), u ≤ 9223372036854775807 → l.length + (Lib.decDigits u).length ≤ 1000 → Ev (fun k => spec_FormatInt.l0 k (u : Int) ⟨l.toArray⟩) ⟨(Lib.decDigits u ++ l).toArray⟩ := by
  induction u using Nat.strongRecOn with
  | _ u ih =>
    intro l hu hs
    by_cases h : u < 10
    · refine suc (f := fun _ => some (⟨(Lib.decDigits u ++ l).toArray⟩ : ByteArray)) (fun k => ?_) now
      rw [spec_FormatInt.l0, if_neg (by omega)]
      simp only [Option.bind_some]
      rw [digit u h, bapp, szl, szl, dd_small h, if_pos (by simp only [List.length_cons, List.length_nil]; omega)]
    · have hd := dd_big h
      have hm : Int.tmod (u : Int) 10 = ((u % 10 : Nat) : Int) := rfl
      have hq : Int.tdiv (u : Int) 10 = ((u / 10 : Nat) : Int) := rfl
      have hn : (UInt8.ofNat (48 + u % 10) :: l).length + (Lib.decDigits (u / 10)).length ≤ 1000 := by
        rw [hd, List.length_append] at hs
        simp only [List.length_cons, List.length_nil] at hs ⊢
        omega
      refine eqr (suc (f := fun k => spec_FormatInt.l0 k ((u / 10 : Nat) : Int) ⟨(UInt8.ofNat (48 + u % 10) :: l).toArray⟩) (fun k => ?_) (ih (u / 10) (by omega) _ (by omega) hn)) (by rw [hd]; simp)
      rw [spec_FormatInt.l0, if_pos (by omega)]
      simp only [Option.bind_some]
      rw [hm, hq, digit (u % 10) (by omega), bapp, szl, szl, if_pos (by simp only [List.length_cons, List.length_nil]; omega), w64 (i := ((u / 10 : Nat) : Int)) (by omega) (by omega)]
      rfl
theorem sFmt_neg (u : Nat) : 1 ≤ u → u ≤ 9223372036854775808 → Ev (fun k => spec_FormatInt.f k (-(u : Int))) ⟨(45 :: Lib.decDigits u).toArray⟩ := by
  induction u using Nat.strongRecOn with
  | _ u ih =>
    intro h1 hu
    have hm : Int.tmod (-(u : Int)) 10 = -((u % 10 : Nat) : Int) := by rw [Int.neg_tmod]; rfl
    have hq : Int.tdiv (-(u : Int)) 10 = -((u / 10 : Nat) : Int) := by rw [Int.neg_tdiv]; rfl
    by_cases h : u < 10
    · refine suc (f := fun _ => some (⟨(45 :: Lib.decDigits u).toArray⟩ : ByteArray)) (fun k => ?_) now
      have e : (48 : Int) - -(u : Int) = 48 + (u : Int) := by omega
      rw [spec_FormatInt.f, if_pos (by omega), hq, w64 (i := -((u / 10 : Nat) : Int)) (by omega) (by omega), if_pos (by omega), e]
      simp only [Option.bind_some]
      have e2 : (⟨#[45]⟩ : ByteArray) = ⟨[(45 : UInt8)].toArray⟩ := rfl
      rw [digit u h, e2, bapp, szl, dd_small h, if_pos (by simp only [List.length_cons, List.length_nil]; omega)]
      rfl
    · have hd := dd_big h
      have hl := dd_len (u := u / 10) (by omega)
      have e : (48 : Int) - -((u % 10 : Nat) : Int) = 48 + ((u % 10 : Nat) : Int) := by omega
      refine eqr (suc (f := fun k => (spec_FormatInt.f k (-((u / 10 : Nat) : Int))).bind fun t => if t.size + (⟨[UInt8.ofNat (48 + u % 10)].toArray⟩ : ByteArray).size ≤ 9223372036854775807 then some (t ++ ⟨[UInt8.ofNat (48 + u % 10)].toArray⟩) else none) (fun k => ?_) (bev (ih (u / 10) (by omega) (by omega) (by omega)) (ifp (by rw [szl, szl]; simp only [List.length_cons, List.length_nil]; omega) now))) (by rw [hd, bapp]; rfl)
      rw [spec_FormatInt.f, if_pos (by omega), hq, w64 (i := -((u / 10 : Nat) : Int)) (by omega) (by omega), if_neg (by omega), hm, e]
      simp only [Option.bind_some]
      rw [digit (u % 10) (by omega)]
theorem sFmt (n : Int) (h0 : -9223372036854775808 ≤ n) (h1 : n ≤ 9223372036854775807) : Ev (fun k => spec_FormatInt.f k n) ⟨(Lib.itoa n).toArray⟩ := by
  by_cases hn : n < 0
  · obtain ⟨u, rfl⟩ : ∃ u : Nat, n = -(u : Int) := ⟨n.natAbs, by omega⟩
    rw [Lib.itoa_neg u (by omega)]
    exact sFmt_neg u (by omega) (by omega)
  · obtain ⟨u, rfl⟩ : ∃ u : Nat, n = (u : Int) := ⟨n.toNat, by omega⟩
    rw [Lib.itoa_nonneg]
    have hl := dd_len (u := u) (by omega)
    refine eqr (suc (f := fun k => spec_FormatInt.l0 k (u : Int) ⟨([] : List UInt8).toArray⟩) (fun k => by rw [spec_FormatInt.f, if_neg (by omega)]) (sFmt_l u [] (by omega) (by simp only [List.length_nil]; omega))) (by simp)
theorem iFmt (n : Int) (h0 : -9223372036854775808 ≤ n) (h1 : n ≤ 9223372036854775807) : impl_FormatInt.f n = some ⟨(Lib.itoa n).toArray⟩ := if_pos ⟨h0, h1⟩
theorem i64_range {n : Int} (h : (Lit.int .i64 n).wf = true) : -9223372036854775808 ≤ n ∧ n ≤ 9223372036854775807 := by
  unfold Lit.wf at h
  rw [Bool.and_eq_true, decide_eq_true_eq, decide_eq_true_eq] at h
  exact h
theorem szd (s : ByteArray) : s.data.toList.length = s.size := by rw [Array.length_toList]; rfl
theorem bt_list (s : ByteArray) (i : Nat) (h : i < s.data.toList.length) : bt s (i : Int) = ((s.data.toList[i]).toNat : Int) := by
  have h2 : (i : Int).toNat < s.size := by rw [← szd]; simpa using h
  unfold bt
  rw [dif_pos h2]
  rfl
def isD (c : UInt8) : Bool := decide (48 ≤ c.toNat ∧ c.toNat ≤ 57)
theorem isD_iff {c : UInt8} : isD c = true ↔ 48 ≤ c.toNat ∧ c.toNat ≤ 57 := by unfold isD; rw [decide_eq_true_eq]
theorem chr_nat {d : Nat} (h : d < 10) : (UInt8.ofNat (48 + d)).toNat = 48 + d := by rw [UInt8.toNat_ofNat']; omega
theorem dd_all (u : Nat) : (Lib.decDigits u).all isD = true := by
  induction u using Nat.strongRecOn with
  | _ u ih =>
    by_cases h : u < 10
    · rw [dd_small h, List.all_cons, List.all_nil, Bool.and_true, isD_iff, chr_nat h]; omega
    · rw [dd_big h, List.all_append, ih (u / 10) (by omega), Bool.true_and, List.all_cons, List.all_nil, Bool.and_true, isD_iff, chr_nat (by omega)]; omega
theorem dd_pow (u : Nat) : ∀ k, u < 10 ^ (k + 1) → (Lib.decDigits u).length ≤ k + 1 := by
  induction u using Nat.strongRecOn with
  | _ u ih =>
    intro k hk
    by_cases h : u < 10
    · rw [dd_small h]; simp
    · cases k with
      | zero => simp at hk; omega
      | succ k =>
        rw [dd_big h, List.length_append]
        have := ih (u / 10) (by omega) k (by rw [Nat.pow_succ] at hk; omega)
        simp only [List.length_cons, List.length_nil]
        omega
theorem dd19 {u : Nat} (h : u ≤ 9223372036854775808) : (Lib.decDigits u).length ≤ 19 := dd_pow u 18 (by omega)
def valD : Nat → List UInt8 → Option Nat
  | a, [] => some a
  | a, c :: r => if a * 10 + (c.toNat - 48) ≤ 9223372036854775808 then valD (a * 10 + (c.toNat - 48)) r else none
theorem valD_c (a : Nat) (c : UInt8) (r : List UInt8) : valD a (c :: r) = if a * 10 + (c.toNat - 48) ≤ 9223372036854775808 then valD (a * 10 + (c.toNat - 48)) r else none := by rw [valD]
theorem valD_app : ∀ (l : List UInt8) (a b : Nat) (m : List UInt8), valD a l = some b → valD a (l ++ m) = valD b m
  | [], a, b, m, h => by rw [Option.some.inj h]; rfl
  | c :: l, a, b, m, h => by
    rw [List.cons_append]
    rw [valD_c] at h ⊢
    split at h
    · rename_i q; rw [if_pos q]; exact valD_app l _ b m h
    · cases h
theorem valD_dd (u : Nat) : u ≤ 9223372036854775808 → valD 0 (Lib.decDigits u) = some u := by
  induction u using Nat.strongRecOn with
  | _ u ih =>
    intro hu
    by_cases h : u < 10
    · rw [dd_small h]; unfold valD; rw [chr_nat h, if_pos (by omega)]; unfold valD; congr 1; omega
    · rw [dd_big h, valD_app _ _ _ _ (ih (u / 10) (by omega) (by omega))]; unfold valD; rw [chr_nat (by omega), if_pos (by omega)]; unfold valD; congr 1; omega
theorem pu_c (a : Nat) (c : UInt8) (r : List UInt8) : Lib.parseUint10 a (c :: r) = if 48 ≤ c.toNat ∧ c.toNat ≤ 57 then (if 1844674407370955162 ≤ a then Lib.parseUint10 1844674407370955162 [57] else if 18446744073709551616 ≤ a * 10 + (c.toNat - 48) then Lib.parseUint10 1844674407370955162 [57] else Lib.parseUint10 (a * 10 + (c.toNat - 48)) r) else Lib.parseUint10 0 [0] := by
  have e1 : Lib.parseUint10 1844674407370955162 [57] = .range := rfl
  have e2 : ∀ z, z = Lib.parseUint10 0 [0] → z = Lib.parseUint10 0 [0] := fun _ h => h
  rw [e1]
  conv => lhs; rw [Lib.parseUint10]
  rfl
theorem pu_app : ∀ (l : List UInt8) (a b : Nat) (m : List UInt8), Lib.parseUint10 a l = .ok b → Lib.parseUint10 a (l ++ m) = Lib.parseUint10 b m
  | [], a, b, m, h => by rw [Lib.parseUint10] at h; injection h with h; rw [h]; rfl
  | c :: l, a, b, m, h => by
    rw [List.cons_append]
    rw [pu_c] at h ⊢
    by_cases q1 : 48 ≤ c.toNat ∧ c.toNat ≤ 57
    · rw [if_pos q1] at h ⊢
      by_cases q2 : 1844674407370955162 ≤ a
      · rw [if_pos q2] at h; cases h
      · rw [if_neg q2] at h ⊢
        by_cases q3 : 18446744073709551616 ≤ a * 10 + (c.toNat - 48)
        · rw [if_pos q3] at h; cases h
        · rw [if_neg q3] at h ⊢; exact pu_app l _ b m h
    · rw [if_neg q1] at h; cases h
theorem pu_dd (u : Nat) : u ≤ 9223372036854775808 → Lib.parseUint10 0 (Lib.decDigits u) = .ok u := by
  induction u using Nat.strongRecOn with
  | _ u ih =>
    intro hu
    by_cases h : u < 10
    · rw [dd_small h]; unfold Lib.parseUint10; rw [chr_nat h, if_pos (by omega), if_neg (by omega), if_neg (by omega)]; unfold Lib.parseUint10; congr 1; omega
    · rw [dd_big h, pu_app _ _ _ _ (ih (u / 10) (by omega) (by omega))]; unfold Lib.parseUint10; rw [chr_nat (by omega), if_pos (by omega), if_neg (by omega), if_neg (by omega)]; unfold Lib.parseUint10; congr 1; omega
theorem dd_cons (u : Nat) : ∃ c r, Lib.decDigits u = c :: r ∧ 48 ≤ c.toNat ∧ c.toNat ≤ 57 := by
  have hp := dd_pos u
  have ha := dd_all u
  cases h : Lib.decDigits u with
  | nil => rw [h] at hp; simp at hp
  | cons c r =>
    rw [h, List.all_cons, Bool.and_eq_true, isD_iff] at ha
    exact ⟨c, r, rfl, ha.1⟩
theorem atoi_itoa {v : Int} (h0 : -9223372036854775808 ≤ v) (h1 : v ≤ 9223372036854775807) : atoiO (Lib.itoa v) = some v := by
  unfold atoiO
  by_cases hn : v < 0
  · obtain ⟨u, rfl⟩ : ∃ u : Nat, v = -(u : Int) := ⟨v.natAbs, by omega⟩
    rw [Lib.itoa_neg u (by omega)]
    have hm : Lib.parseMag (Lib.decDigits u) = .ok u := by
      obtain ⟨c, r, e, _⟩ := dd_cons u
      unfold Lib.parseMag
      rw [if_neg (by rw [e]; simp)]
      exact pu_dd u (by omega)
    have e : Lib.atoiAll (45 :: Lib.decDigits u) = .ok (-(u : Int)) := by
      simp only [Lib.atoiAll]
      rw [if_pos (show UInt8.toNat 45 = 43 ∨ UInt8.toNat 45 = 45 from Or.inr rfl), hm]
      simp only
      rw [if_neg (show ¬ (¬ UInt8.toNat 45 = 45 ∧ 9223372036854775808 ≤ u) from fun z => z.1 rfl), if_neg (show ¬ (UInt8.toNat 45 = 45 ∧ 9223372036854775808 < u) from fun z => by omega), if_pos (show UInt8.toNat 45 = 45 from rfl)]
    rw [e]
  · obtain ⟨u, rfl⟩ : ∃ u : Nat, v = (u : Int) := ⟨v.toNat, by omega⟩
    rw [Lib.itoa_nonneg]
    obtain ⟨c, r, e, hc⟩ := dd_cons u
    have hm : Lib.parseMag (c :: r) = .ok u := by
      unfold Lib.parseMag
      rw [if_neg (by simp), ← e]
      exact pu_dd u (by omega)
    have e2 : Lib.atoiAll (c :: r) = .ok (u : Int) := by
      simp only [Lib.atoiAll]
      rw [if_neg (show ¬ (c.toNat = 43 ∨ c.toNat = 45) by omega), hm]
      simp only
      rw [if_neg (show ¬ (¬ c.toNat = 45 ∧ 9223372036854775808 ≤ u) by omega), if_neg (show ¬ (c.toNat = 45 ∧ 9223372036854775808 < u) by omega), if_neg (show ¬ c.toNat = 45 by omega)]
    rw [e, e2]
theorem parM_of {s : ByteArray} {v : Int} (h0 : -9223372036854775808 ≤ v) (h1 : v ≤ 9223372036854775807) (h : Lib.itoa v = s.data.toList) : parM s = (v, true) := by
  unfold parM
  rw [← h, atoi_itoa h0 h1]
  simp only
  rw [if_pos trivial]
theorem parM_or (s : ByteArray) : parM s = (0, false) ∨ ∃ v, -9223372036854775808 ≤ v ∧ v ≤ 9223372036854775807 ∧ Lib.itoa v = s.data.toList ∧ parM s = (v, true) := by
  unfold parM
  rcases hA : atoiO s.data.toList with _ | v
  · exact Or.inl rfl
  · have hr := atoi_range hA
    by_cases h : Lib.itoa v = s.data.toList
    · exact Or.inr ⟨v, hr.1, hr.2, h, by simp only; rw [if_pos h]⟩
    · exact Or.inl (by simp only; rw [if_neg h])
def finP (s : ByteArray) (neg : Bool) (a : Nat) : Int × Bool :=
  if neg = true then (if Lib.itoa (-(a : Int)) = s.data.toList then (-(a : Int), true) else (0, false))
  else if a = 9223372036854775808 then (0, false) else if Lib.itoa (a : Int) = s.data.toList then ((a : Int), true) else (0, false)
def finR (s : ByteArray) (neg : Bool) : Option Nat → Int × Bool
  | none => (0, false)
  | some a => finP s neg a
theorem tl_iff (l : List UInt8) (s : ByteArray) : (⟨l.toArray⟩ : ByteArray).toList = s.toList ↔ l = s.data.toList := by rw [Lib.toList_data, Lib.toList_data]
theorem sDig_l (x : ByteArray) (hx : x.size ≤ 1048576) : ∀ (d i : Nat), i + d = x.size → Ev (fun k => spec_IsDigits.l0 k x (i : Int)) (if (x.data.toList.drop i).all isD = true then decide ((x.size : Int) > 0) else false)
  | 0, i, hd => by
    rw [List.drop_eq_nil_of_le (by rw [szd]; omega), List.all_nil, if_pos rfl]
    exact suc (f := fun _ => some (decide ((x.size : Int) > 0))) (fun k => by rw [spec_IsDigits.l0, if_neg (by omega)]) now
  | d + 1, i, hd => by
    have hi : i < x.data.toList.length := by rw [szd]; omega
    have hb := bt_list x i hi
    rw [List.drop_eq_getElem_cons hi, List.all_cons]
    by_cases c1 : bt x (i : Int) < 48
    · rw [if_neg (by rw [Bool.and_eq_true, isD_iff]; omega)]
      exact suc (f := fun _ => some false) (fun k => by rw [spec_IsDigits.l0, if_pos (by omega), if_pos (by omega), if_pos c1]) now
    · by_cases c2 : bt x (i : Int) > 57
      · rw [if_neg (by rw [Bool.and_eq_true, isD_iff]; omega)]
        exact suc (f := fun _ => some false) (fun k => by rw [spec_IsDigits.l0, if_pos (by omega), if_pos (by omega), if_neg c1, if_pos c2]) now
      · have e : isD x.data.toList[i] = true := isD_iff.2 (by omega)
        rw [e, Bool.true_and]
        refine suc (f := fun k => spec_IsDigits.l0 k x ((i + 1 : Nat) : Int)) (fun k => ?_) (sDig_l x hx d (i + 1) (by omega))
        rw [spec_IsDigits.l0, if_pos (by omega), if_pos (by omega), if_neg c1, if_neg c2, up1 (by omega) (by omega)]; rfl
theorem sPar_l (s t : ByteArray) (neg : Bool) (hD : t.data.toList.all isD = true) (ht : t.size ≤ 19) : ∀ (d i a : Nat), i + d = t.size → a ≤ 9223372036854775808 → Ev (fun k => spec_ParseInt.l0 k s neg t (-(a : Int)) (i : Int)) (finR s neg (valD a (t.data.toList.drop i)))
  | 0, i, a, hd, ha => by
    rw [List.drop_eq_nil_of_le (by rw [szd]; omega)]
    show Ev _ (finP s neg a)
    unfold finP
    cases neg with
    | true =>
      rw [if_pos rfl]
      refine suc (f := fun k => (spec_FormatInt.f k (-(a : Int))).bind fun t115 => if t115.toList = s.toList then some (-(a : Int), true) else some (0, false)) (fun k => by rw [spec_ParseInt.l0, if_neg (by omega), if_pos rfl]) (bev (sFmt _ (by omega) (by omega)) ?_)
      by_cases h : Lib.itoa (-(a : Int)) = s.data.toList
      · rw [if_pos h]; exact ifp ((tl_iff _ _).2 h) now
      · rw [if_neg h]; exact ifn (fun z => h ((tl_iff _ _).1 z)) now
    | false =>
      rw [if_neg (by simp)]
      by_cases hm : a = 9223372036854775808
      · rw [if_pos hm]
        exact suc (f := fun _ => some (0, false)) (fun k => by rw [spec_ParseInt.l0, if_neg (by omega), if_neg (by simp), if_pos (by omega)]) now
      · rw [if_neg hm]
        have e : wrap64 (- -(a : Int)) = (a : Int) := by rw [Int.neg_neg]; exact w64 (by omega) (by omega)
        refine suc (f := fun k => (spec_FormatInt.f k (a : Int)).bind fun t115 => if t115.toList = s.toList then some ((a : Int), true) else some (0, false)) (fun k => by rw [spec_ParseInt.l0, if_neg (by omega), if_neg (by simp), if_neg (by omega), e]) (bev (sFmt _ (by omega) (by omega)) ?_)
        by_cases h : Lib.itoa (a : Int) = s.data.toList
        · rw [if_pos h]; exact ifp ((tl_iff _ _).2 h) now
        · rw [if_neg h]; exact ifn (fun z => h ((tl_iff _ _).1 z)) now
  | d + 1, i, a, hd, ha => by
    have hi : i < t.data.toList.length := by rw [szd]; omega
    have hb := bt_list t i hi
    have hc := isD_iff.1 (List.all_eq_true.1 hD _ (List.getElem_mem hi))
    rw [List.drop_eq_getElem_cons hi]
    obtain ⟨q, hq⟩ : ∃ q : Nat, (t.data.toList[i]).toNat = 48 + q := ⟨(t.data.toList[i]).toNat - 48, by omega⟩
    have e1 : wrap64 (wrap64 (bt t (i : Int)) - 48) = (q : Int) := by
      rw [w64 (i := bt t (i : Int)) (by omega) (by omega), w64 (by omega) (by omega)]; omega
    have e2 : wrap64 (Int.tdiv (wrap64 ((-9223372036854775808) + (q : Int))) 10) = -(((9223372036854775808 - q) / 10 : Nat) : Int) := by
      rw [w64 (i := (-9223372036854775808) + (q : Int)) (by omega) (by omega), show (-9223372036854775808 : Int) + (q : Int) = -((9223372036854775808 - q : Nat) : Int) by omega, Int.neg_tdiv]
      show wrap64 (-(((9223372036854775808 - q) / 10 : Nat) : Int)) = _
      exact w64 (by omega) (by omega)
    unfold valD
    rw [hq, show 48 + q - 48 = q by omega]
    by_cases h : a * 10 + q ≤ 9223372036854775808
    · rw [if_pos h]
      refine suc (f := fun k => spec_ParseInt.l0 k s neg t (-((a * 10 + q : Nat) : Int)) ((i + 1 : Nat) : Int)) (fun k => ?_) (sPar_l s t neg hD ht d (i + 1) (a * 10 + q) (by omega) h)
      have e3 : wrap64 (wrap64 (-(a : Int) * 10) - (q : Int)) = -((a * 10 + q : Nat) : Int) := by
        rw [w64 (i := -(a : Int) * 10) (by omega) (by omega), w64 (by omega) (by omega)]; omega
      rw [spec_ParseInt.l0, if_pos (by omega), if_pos (by omega), e1, e2, if_neg (by omega), e3, up1 (by omega) (by omega)]; rfl
    · rw [if_neg h]
      exact suc (f := fun _ => some (0, false)) (fun k => by rw [spec_ParseInt.l0, if_pos (by omega), if_pos (by omega), e1, e2, if_pos (by omega)]) now
def tailP (s t : ByteArray) (neg : Bool) : Int × Bool := if t.data.toList.all isD = true ∧ 0 < t.size ∧ t.size ≤ 19 then finR s neg (valD 0 t.data.toList) else (0, false)
theorem sPar_j (s t : ByteArray) (neg : Bool) (ht : t.size ≤ 1048576) : Ev (fun k => spec_ParseInt.j1 k s neg t) (tailP s t neg) := by
  have hz := sDig_l t ht t.size 0 (by omega)
  have hD : Ev (fun k => spec_IsDigits.f k t) (if t.data.toList.all isD = true then decide ((t.size : Int) > 0) else false) := hz
  have bad : Ev (fun k => spec_ParseInt.j2 k s neg t true) (0, false) := suc (f := fun _ => some (0, false)) (fun k => by rw [spec_ParseInt.j2, if_pos rfl]) now
  refine suc (f := fun k => (spec_IsDigits.f k t).bind fun t114 => if t114 = true then spec_ParseInt.j2 k s neg t (decide ((t.size : Int) > 19)) else spec_ParseInt.j2 k s neg t true) (fun k => by rw [spec_ParseInt.j1]) (bev hD ?_)
  unfold tailP
  by_cases h1 : t.data.toList.all isD = true
  · rw [if_pos h1]
    by_cases h2 : 0 < t.size
    · refine ifp (decide_eq_true (by omega)) ?_
      by_cases h3 : t.size ≤ 19
      · rw [if_pos ⟨h1, h2, h3⟩, decide_eq_false (by omega)]
        exact suc (f := fun k => spec_ParseInt.l0 k s neg t (-((0 : Nat) : Int)) ((0 : Nat) : Int)) (fun k => by rw [spec_ParseInt.j2, if_neg (by simp)]; rfl) (sPar_l s t neg h1 h3 t.size 0 0 (by omega) (by omega))
      · rw [if_neg (fun z => h3 z.2.2), decide_eq_true (by omega)]
        exact bad
    · rw [if_neg (fun z => h2 z.2.1)]
      exact ifn (by rw [decide_eq_false (by omega)]; simp) bad
  · rw [if_neg h1, if_neg (fun z => h1 z.1)]
    exact ifn (by simp) bad
def negP (s : ByteArray) : Bool := decide (0 < s.size) && (bt s 0 == 45)
def parS (s : ByteArray) : Int × Bool := if negP s = true then tailP s (s.extract 1 s.size) true else tailP s s false
theorem ext1 (s : ByteArray) : (s.extract 1 s.size).data.toList = s.data.toList.drop 1 := by
  rw [Lib.extract_data]
  exact List.take_of_length_le (by rw [List.length_drop, szd]; exact Nat.le_refl _)
theorem sPar (s : ByteArray) (hs : s.size ≤ 1048576) : Ev (fun k => spec_ParseInt.f k s) (parS s) := by
  have hz : (s.extract 1 s.size).size ≤ 1048576 := by rw [← szd, ext1, List.length_drop, szd]; omega
  have j0 : ∀ b : Bool, (b = true → 0 < s.size) → Ev (fun k => spec_ParseInt.j0 k s b) (if b = true then tailP s (s.extract 1 s.size) true else tailP s s false) := by
    intro b hb
    cases b with
    | true =>
      rw [if_pos rfl]
      have := hb rfl
      exact suc (fun k => by rw [spec_ParseInt.j0, if_pos rfl, if_pos (by omega)]) (sPar_j s _ true hz)
    | false =>
      rw [if_neg (by simp)]
      exact suc (fun k => by rw [spec_ParseInt.j0, if_neg (by simp)]) (sPar_j s s false hs)
  unfold spec_ParseInt.f parS negP
  by_cases h : 0 < s.size
  · rw [decide_eq_true h, Bool.true_and]
    exact ifp (by omega) (ifp (by omega) (j0 _ (fun _ => h)))
  · rw [decide_eq_false h, Bool.false_and]
    exact ifn (by omega) (j0 false (fun z => by cases z))
theorem tailP_or (s t : ByteArray) (neg : Bool) : tailP s t neg = (0, false) ∨ ∃ v, -9223372036854775808 ≤ v ∧ v ≤ 9223372036854775807 ∧ Lib.itoa v = s.data.toList ∧ tailP s t neg = (v, true) := by
  unfold tailP
  split
  · rcases hv : valD 0 t.data.toList with _ | a
    · exact Or.inl rfl
    · have ha : a ≤ 9223372036854775808 := by
        have : ∀ (l : List UInt8) (b : Nat), b ≤ 9223372036854775808 → valD b l = some a → a ≤ 9223372036854775808 := by
          intro l
          induction l with
          | nil => intro b hb h; rw [← Option.some.inj h]; exact hb
          | cons c l ih =>
            intro b hb h
            unfold valD at h
            split at h
            · rename_i q; exact ih _ q h
            · cases h
        exact this _ 0 (by omega) hv
      show finP s neg a = _ ∨ _
      unfold finR finP
      simp only
      split
      · split
        · rename_i h; exact Or.inr ⟨_, by omega, by omega, h, rfl⟩
        · exact Or.inl rfl
      · split
        · exact Or.inl rfl
        · split
          · rename_i h2 h; exact Or.inr ⟨_, by omega, by omega, h, rfl⟩
          · exact Or.inl rfl
  · exact Or.inl rfl
theorem parS_of {s : ByteArray} {v : Int} (h0 : -9223372036854775808 ≤ v) (h1 : v ≤ 9223372036854775807) (h : Lib.itoa v = s.data.toList) : parS s = (v, true) := by
  unfold parS
  by_cases hn : v < 0
  · obtain ⟨u, rfl⟩ : ∃ u : Nat, v = -(u : Int) := ⟨v.natAbs, by omega⟩
    have h' := h
    rw [Lib.itoa_neg u (by omega)] at h'
    have hl : 0 < s.data.toList.length := by rw [← h']; simp
    have hb := bt_list s 0 hl
    have e0 : s.data.toList[0] = 45 := by simp only [← h']; rfl
    have hng : negP s = true := by
      unfold negP
      rw [szd] at hl
      rw [decide_eq_true hl, Bool.true_and]
      show (bt s ((0 : Nat) : Int) == 45) = true
      rw [hb, e0]; rfl
    have hx := ext1 s
    rw [← h', List.drop_one, List.tail_cons] at hx
    rw [if_pos hng]
    unfold tailP
    rw [hx, if_pos ⟨dd_all u, by rw [← szd, hx]; exact dd_pos u, by rw [← szd, hx]; exact dd19 (by omega)⟩, valD_dd u (by omega)]
    show finP s true u = _
    unfold finP
    rw [if_pos rfl, if_pos h]
  · obtain ⟨u, rfl⟩ : ∃ u : Nat, v = (u : Int) := ⟨v.toNat, by omega⟩
    have h' := h
    rw [Lib.itoa_nonneg] at h'
    obtain ⟨c, r, e, hc⟩ := dd_cons u
    have hl : 0 < s.data.toList.length := by rw [← h', e]; simp
    have hb := bt_list s 0 hl
    have e0 : s.data.toList[0] = c := by simp only [← h', e]; rfl
    have hng : ¬ negP s = true := by
      unfold negP
      rw [Bool.and_eq_true]
      intro z
      have z2 : (bt s ((0 : Nat) : Int) == 45) = true := z.2
      rw [hb, e0, beq_iff_eq] at z2
      omega
    rw [if_neg hng]
    unfold tailP
    rw [← h', if_pos ⟨dd_all u, by rw [← szd, ← h']; exact dd_pos u, by rw [← szd, ← h']; exact dd19 (by omega)⟩, valD_dd u (by omega)]
    show finP s false u = _
    unfold finP
    rw [if_neg (by simp), if_neg (by omega), if_pos h]
theorem parS_eq (s : ByteArray) : parS s = parM s := by
  have hS : parS s = (0, false) ∨ ∃ v, -9223372036854775808 ≤ v ∧ v ≤ 9223372036854775807 ∧ Lib.itoa v = s.data.toList ∧ parS s = (v, true) := by
    unfold parS
    split
    · exact tailP_or _ _ _
    · exact tailP_or _ _ _
  rcases hS with hS | ⟨v, h0, h1, h, hS⟩
  · rcases parM_or s with hM | ⟨v, h0, h1, h, hM⟩
    · rw [hS, hM]
    · rw [hM, parS_of h0 h1 h]
  · rw [hS, parM_of h0 h1 h]

theorem FnExactParseInt : laws_FnExactParseInt.Pure := by
  intro s hs
  refine Ev.rounds ?_
  unfold laws_FnExactParseInt.f
  by_cases hx : (s.size : Int) > 1048576
  · exact ifp hx now
  refine ifn hx ?_
  have e := sPar s (by omega)
  rw [parS_eq] at e
  exact bev e (bnd (if_pos (by omega)) (ifp rfl (ifn (by simp) now)))

end Go.Proofs.YtbjlnjaedikokaaDoor.Own
