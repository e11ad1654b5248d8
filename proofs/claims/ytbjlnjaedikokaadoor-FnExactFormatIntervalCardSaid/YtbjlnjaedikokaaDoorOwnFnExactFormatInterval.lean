/- The law FnExactFormatInterval answers true for every interval. No condition. -/
import Derived.Test.YtbjlnjaedikokaaDoorQFnExactFormatIntervalx2
import Derived.Test.YtbjlnjaedikokaaDoorThy
namespace Go.Proofs.YtbjlnjaedikokaaDoor.Own
open Go.RowKit Go.Proofs.YtbjlnjaedikokaaDoor.QFnExactFormatInterval Go.Proofs.YtbjlnjaedikokaaDoorW.PrintWords Go.Proofs.YtbjlnjaedikokaaDoorW.PrintLast Go.Proofs.YtbjlnjaedikokaaDoorW.PrintMore Go.Proofs.YtbjlnjaedikokaaDoorT Go.Proofs.YtbjlnjaedikokaaDoorT
set_option linter.unusedVariables false
set_option linter.unusedSimpArgs false

theorem szl (l : List UInt8) : (⟨l.toArray⟩ : ByteArray).size = l.length := by simp [ByteArray.size]
theorem bapp (a b : List UInt8) : (⟨a.toArray⟩ : ByteArray) ++ ⟨b.toArray⟩ = ⟨(a ++ b).toArray⟩ := by apply ByteArray.ext; simp
theorem digit (d : Nat) (h : d < 10) : strOfNums [(wrap64 (48 + (d : Int))) % 256] = ⟨[UInt8.ofNat (48 + d)].toArray⟩ := by
  rw [w64 (by omega) (by omega)]
  have e : ((48 + (d : Int)) % 256).toNat = 48 + d := by omega
  simp [strOfNums, e]
theorem dd_small {u : Nat} (h : u < 10) : Lib.decDigits u = [UInt8.ofNat (48 + u)] := Lib.decDigits_one h
theorem dd_big {u : Nat} (h : ¬ u < 10) : Lib.decDigits u = Lib.decDigits (u / 10) ++ [UInt8.ofNat (48 + u % 10)] := by rw [Lib.decDigits, dif_neg h]
theorem dd_pos (u : Nat) : 1 ≤ (Lib.decDigits u).length := by
  by_cases h : u < 10
  · rw [dd_small h]; simp
  · rw [dd_big h]; simp
theorem dd_len {u : Nat} (h : u ≤ 9223372036854775808) : (Lib.decDigits u).length ≤ 21 := by
  by_cases h1 : u = 0
  · subst h1; rw [dd_small (by omega)]; simp
  · have := Lib.itoa_length_le (-(u : Int)) (by omega) (by omega)
    rw [Lib.itoa_neg u (by omega), List.length_cons] at this
    omega
theorem sFmt_l (u : Nat) : ∀ (l : List UInt8), u ≤ 9223372036854775807 → l.length + (Lib.decDigits u).length ≤ 1000 → Ev (fun k => spec_FormatInt.l0 k (u : Int) ⟨l.toArray⟩) ⟨(Lib.decDigits u ++ l).toArray⟩ := by
  induction u using Nat.strongRecOn with
  | _ u ih =>
    intro l hu hs
    by_cases h : u < 10
    · refine suc (f := fun _ => some (⟨(Lib.decDigits u ++ l).toArray⟩ : ByteArray)) (fun k => ?_) now
      rw [spec_FormatInt.l0, if_neg (by omega)]
      simp only [Option.bind_some]
      rw [digit u h, bapp, szl, szl, dd_small h, if_pos (by simp only [List.length_cons, List.length_nil]; omega)]
    · have hd := dd_big h
      have hm : Int.tmod (u : Int) 10 = ((u % 10 : Nat) : Int) := rfl
      have hq : Int.tdiv (u : Int) 10 = ((u / 10 : Nat) : Int) := rfl
      have hn : (UInt8.ofNat (48 + u % 10) :: l).length + (Lib.decDigits (u / 10)).length ≤ 1000 := by
        rw [hd, List.length_append] at hs
        simp only [List.length_cons, List.length_nil] at hs ⊢
        omega
      refine eqr (suc (f := fun k => spec_FormatInt.l0 k ((u / 10 : Nat) : Int) ⟨(UInt8.ofNat (48 + u % 10) :: l).toArray⟩) (fun k => ?_) (ih (u / 10) (by omega) _ (by omega) hn)) (by rw [hd]; simp)
      rw [spec_FormatInt.l0, if_pos (by omega)]
      simp only [Option.bind_some]
      rw [hm, hq, digit (u % 10) (by omega), bapp, szl, szl, if_pos (by simp only [List.length_cons, List.length_nil]; omega), w64 (i := ((u / 10 : Nat) : Int)) (by omega) (by omega)]
      rfl
theorem sFmt_neg (u : Nat) : 1 ≤ u → u ≤ 9223372036854775808 → Ev (fun k => spec_FormatInt.f k (-(u : Int))) ⟨(45 :: Lib.decDigits u).toArray⟩ := by
  induction u using Nat.strongRecOn with
  | _ u ih =>
    intro h1 hu
    have hm : Int.tmod (-(u : Int)) 10 = -((u % 10 : Nat) : Int) := by rw [Int.neg_tmod]; rfl
    have hq : Int.tdiv (-(u : Int)) 10 = -((u / 10 : Nat) : Int) := by rw [Int.neg_tdiv]; rfl
    by_cases h : u < 10
    · refine suc (f := fun _ => some (⟨(45 :: Lib.decDigits u).toArray⟩ : ByteArray)) (fun k => ?_) now
      have e : (48 : Int) - -(u : Int) = 48 + (u : Int) := by omega
      rw [spec_FormatInt.f, if_pos (by omega), hq, w64 (i := -((u / 10 : Nat) : Int)) (by omega) (by omega), if_pos (by omega), e]
      simp only [Option.bind_some]
      have e2 : (⟨#[45]⟩ : ByteArray) = ⟨[(45 : UInt8)].toArray⟩ := rfl
      rw [digit u h, e2, bapp, szl, dd_small h, if_pos (by simp only [List.length_cons, List.length_nil]; omega)]
      rfl
    · have hd := dd_big h
      have hl := dd_len (u := u / 10) (by omega)
      have e : (48 : Int) - -((u % 10 : Nat) : Int) = 48 + ((u % 10 : Nat) : Int) := by omega
      refine eqr (suc (f := fun k => (spec_FormatInt.f k (-((u / 10 : Nat) : Int))).bind fun t => if t.size + (⟨[UInt8.ofNat (48 + u % 10)].toArray⟩ : ByteArray).size ≤ 9223372036854775807 then some (t ++ ⟨[UInt8.ofNat (48 + u % 10)].toArray⟩) else none) (fun k => ?_) (bev (ih (u / 10) (by omega) (by omega) (by omega)) (ifp (by rw [szl, szl]; simp only [List.length_cons, List.length_nil]; omega) now))) (by rw [hd, bapp]; rfl)
      rw [spec_FormatInt.f, if_pos (by omega), hq, w64 (i := -((u / 10 : Nat) : Int)) (by omega) (by omega), if_neg (by omega), hm, e]
      simp only [Option.bind_some]
      rw [digit (u % 10) (by omega)]
theorem sFmt (n : Int) (h0 : -9223372036854775808 ≤ n) (h1 : n ≤ 9223372036854775807) : Ev (fun k => spec_FormatInt.f k n) ⟨(Lib.itoa n).toArray⟩ := by
  by_cases hn : n < 0
  · obtain ⟨u, rfl⟩ : ∃ u : Nat, n = -(u : Int) := ⟨n.natAbs, by omega⟩
    rw [Lib.itoa_neg u (by omega)]
    exact sFmt_neg u (by omega) (by omega)
  · obtain ⟨u, rfl⟩ : ∃ u : Nat, n = (u : Int) := ⟨n.toNat, by omega⟩
    rw [Lib.itoa_nonneg]
    have hl := dd_len (u := u) (by omega)
    refine eqr (suc (f := fun k => spec_FormatInt.l0 k (u : Int) ⟨([] : List UInt8).toArray⟩) (fun k => by rw [spec_FormatInt.f, if_neg (by omega)]) (sFmt_l u [] (by omega) (by simp only [List.length_nil]; omega))) (by simp)
theorem iFmt (n : Int) (h0 : -9223372036854775808 ≤ n) (h1 : n ≤ 9223372036854775807) : impl_FormatInt.f n = some ⟨(Lib.itoa n).toArray⟩ := if_pos ⟨h0, h1⟩
theorem i64_range {n : Int} (h : (Lit.int .i64 n).wf = true) : -9223372036854775808 ≤ n ∧ n ≤ 9223372036854775807 := by
  unfold Lit.wf at h
  rw [Bool.and_eq_true, decide_eq_true_eq, decide_eq_true_eq] at h
  exact h
def ivB (a b : Int) : Bool := decide (-1000000 ≤ a ∧ a ≤ b ∧ b ≤ 1000000 ∧ a ≠ 1000000 ∧ b ≠ -1000000)
theorem iIv (a b : Int) : impl_IntervalOk.f a b = some (ivB a b) := by
  unfold impl_IntervalOk.f ivB
  repeat' split
  all_goals (congr 1; first | (symm; rw [decide_eq_false_iff_not]; omega) | (rw [Bool.eq_iff_iff]; simp only [bne_iff_ne, ne_eq, decide_eq_true_eq]; omega))
def txtB (n : Int) : ByteArray := if n = 1000000 then ⟨#[105, 110, 102]⟩ else if n = -1000000 then ⟨#[45, 105, 110, 102]⟩ else ⟨(Lib.itoa n).toArray⟩
theorem txt_sz {n : Int} (h0 : -9223372036854775808 ≤ n) (h1 : n ≤ 9223372036854775807) : (txtB n).size ≤ 21 := by
  unfold txtB
  split
  · decide
  · split
    · decide
    · rw [szl]; exact Lib.itoa_length_le n h0 h1
theorem iTxt {n : Int} (h0 : -9223372036854775808 ≤ n) (h1 : n ≤ 9223372036854775807) : impl_boundText.f n = some (txtB n) := by
  unfold impl_boundText.f txtB
  rw [iFmt n h0 h1]
  simp only [Option.bind_some]
  split
  · rfl
  · split <;> rfl
def dots : ByteArray := ⟨#[46, 46]⟩
def fivM (a b : Int) : ByteArray := if ivB a b = true then (txtB a ++ dots) ++ txtB b else ⟨#[]⟩
theorem iFiv {a b : Int} (a0 : -9223372036854775808 ≤ a) (a1 : a ≤ 9223372036854775807) (b0 : -9223372036854775808 ≤ b) (b1 : b ≤ 9223372036854775807) : impl_FormatInterval.f a b = some (fivM a b) := by
  unfold impl_FormatInterval.f fivM
  rw [iIv, iTxt a0 a1, iTxt b0 b1]
  simp only [Option.bind_some]
  have sa := txt_sz a0 a1
  have sb := txt_sz b0 b1
  have e : (⟨#[46, 46]⟩ : ByteArray).size = 2 := rfl
  by_cases h : ivB a b = true
  · rw [if_pos h, if_pos h, if_pos (by omega), if_pos (by rw [ByteArray.size_append, e]; omega)]; rfl
  · rw [if_neg h, if_neg h]
theorem sIv (a b : Int) : spec_IntervalOk.f a b = some (ivB a b) := iIv a b
theorem sTxt {n : Int} (h0 : -9223372036854775808 ≤ n) (h1 : n ≤ 9223372036854775807) : Ev (fun k => spec_l02Text.f k n) (txtB n) := by
  unfold spec_l02Text.f txtB
  by_cases h : n = 1000000
  · rw [if_pos h]; exact ifp h now
  · rw [if_neg h]
    refine ifn h ?_
    by_cases g : n = -1000000
    · rw [if_pos g]; exact ifp g now
    · rw [if_neg g]; exact ifn g (bev (sFmt n h0 h1) now)
theorem sFiv {a b : Int} (a0 : -9223372036854775808 ≤ a) (a1 : a ≤ 9223372036854775807) (b0 : -9223372036854775808 ≤ b) (b1 : b ≤ 9223372036854775807) : Ev (fun k => spec_FormatInterval.f k a b) (fivM a b) := by
  unfold spec_FormatInterval.f fivM
  have sa := txt_sz a0 a1
  have sb := txt_sz b0 b1
  have e : (⟨#[46, 46]⟩ : ByteArray).size = 2 := rfl
  refine bnd (sIv a b) ?_
  by_cases h : ivB a b = true
  · rw [if_pos h]
    exact ifp h (bev (sTxt a0 a1) (ifp (by omega) (bev (sTxt b0 b1) (ifp (by rw [ByteArray.size_append, e]; omega) now))))
  · rw [if_neg h]; exact ifn h now

theorem FnExactFormatInterval : laws_FnExactFormatInterval.Pure := by
  intro a b ha hb
  refine Ev.rounds ?_
  unfold laws_FnExactFormatInterval.f
  obtain ⟨a0, a1⟩ := i64_range ha
  obtain ⟨b0, b1⟩ := i64_range hb
  exact bnd rfl (bev (sFiv a0 a1 b0 b1) (bnd rfl (bnd (iFiv a0 a1 b0 b1) (ifp rfl now))))

end Go.Proofs.YtbjlnjaedikokaaDoor.Own
