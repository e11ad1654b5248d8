/- The law FnExactIsDigits answers true for every string. No condition. -/
import Derived.Test.YtdcdikajefekkaaQFnExactIsDigitsx1
namespace Go.Proofs.Ytdcdikajefekkaa.Own
open Go.RowKit Go.Proofs.Ytdcdikajefekkaa.QFnExactIsDigits Go.Proofs.YtdcdikajefekkaaW.PrintWords Go.Proofs.YtdcdikajefekkaaW.PrintLast Go.Proofs.YtdcdikajefekkaaW.PrintMore

theorem ne_nil (s : ByteArray) : (s.toList != ([] : List UInt8)) = decide ((s.size : Int) > 0) := by
  have h : s.toList.length = s.size := by rw [ByteArray.toList_eq]; simp
  rw [Bool.eq_iff_iff]
  simp only [bne_iff_ne, decide_eq_true_eq]
  constructor
  · intro hne
    have := List.length_pos_iff.2 hne
    omega
  · intro hp he
    rw [he] at h
    simp at h
    omega

theorem same_l (s : ByteArray) : ∀ (k : Nat) (i : Int), spec_IsDigits.l0 k s i = impl_IsDigits.l0 k s i
  | 0, _ => rfl
  | k + 1, i => by
    simp only [spec_IsDigits.l0, impl_IsDigits.l0]
    rw [same_l s k, ne_nil]

theorem tells (s : ByteArray) (hn : s.size ≤ 1048576) (d : Nat) : ∀ (k : Nat) (i : Int), 0 ≤ i → i ≤ s.size → (s.size : Int) - i = d → d < k →
    ∃ r, spec_IsDigits.l0 k s i = some r := by
  induction d with
  | zero =>
    intro k i h0 h1 hd hk
    obtain ⟨k, rfl⟩ : ∃ m, k = m + 1 := ⟨k - 1, by omega⟩
    exact ⟨_, by simp only [spec_IsDigits.l0]; rw [if_neg (by omega)]⟩
  | succ d ih =>
    intro k i h0 h1 hd hk
    obtain ⟨k, rfl⟩ : ∃ m, k = m + 1 := ⟨k - 1, by omega⟩
    simp only [spec_IsDigits.l0]
    rw [if_pos (by omega), if_pos h0]
    split
    · exact ⟨_, rfl⟩
    · split
      · exact ⟨_, rfl⟩
      · have hw : wrap64 (i + 1) = i + 1 := by unfold wrap64; omega
        rw [hw]
        exact ih k (i + 1) (by omega) (by omega) (by omega) (by omega)


theorem FnExactIsDigits : laws_FnExactIsDigits.Pure := by
  intro s _
  by_cases hn : (s.size : Int) > 1048576
  · exact ⟨0, by unfold laws_FnExactIsDigits.f; rw [if_pos hn]⟩
  · obtain ⟨r, hr⟩ := tells s (by omega) s.size (s.size + 1) 0 (by omega) (by omega) (by omega) (by omega)
    refine ⟨s.size + 1, ?_⟩
    unfold laws_FnExactIsDigits.f spec_IsDigits.f impl_IsDigits.f
    rw [if_neg hn, ← same_l, hr]
    simp

end Go.Proofs.Ytdcdikajefekkaa.Own
