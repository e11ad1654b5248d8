/- The law FnExactIsName answers true for every string; no conditions beyond a string's size. -/
import Derived.Test.YtdcdikajefekkaaPFnExactIsNamex1
namespace Go.Proofs.Ytdcdikajefekkaa.Pure
open Go.RowKit Go.Proofs.Ytdcdikajefekkaa.PFnExactIsName Go.Proofs.YtdcdikajefekkaaW.PrintWords Go.Proofs.YtdcdikajefekkaaW.PrintLast

theorem same_l (s : ByteArray) : ∀ (k : Nat) (i : Int), spec_IsName.l0 k s i = impl_IsName.l0 k s i
  | 0, _ => rfl
  | k + 1, i => by
    simp only [spec_IsName.l0, impl_IsName.l0, spec_l01In.f]
    rw [same_l s k]
    repeat' split
    all_goals first | rfl | omega | (simp only [Option.bind_some]; done) | (exfalso; omega)

theorem tells (s : ByteArray) (hn : s.size ≤ 1048576) (d : Nat) : ∀ (k : Nat) (i : Int), 0 ≤ i → i ≤ s.size → (s.size : Int) - i = d → d < k →
    ∃ r, impl_IsName.l0 k s i = some r := by
  induction d with
  | zero =>
    intro k i h0 h1 hd hk
    obtain ⟨k, rfl⟩ : ∃ m, k = m + 1 := ⟨k - 1, by omega⟩
    simp only [impl_IsName.l0]; rw [if_neg (by omega)]
    split <;> exact ⟨_, rfl⟩
  | succ d ih =>
    intro k i h0 h1 hd hk
    obtain ⟨k, rfl⟩ : ∃ m, k = m + 1 := ⟨k - 1, by omega⟩
    simp only [impl_IsName.l0]
    rw [if_pos (by omega), if_pos h0]
    have hw : wrap64 (i + 1) = i + 1 := by unfold wrap64; omega
    have step := ih k (i + 1) (by omega) (by omega) (by omega) (by omega)
    rw [hw]
    repeat' split
    all_goals first | exact step | exact ⟨_, rfl⟩

theorem FnExactIsName : laws_FnExactIsName.Pure := by
  intro s _
  by_cases hn : (s.size : Int) > 1048576
  · exact ⟨0, by unfold laws_FnExactIsName.f; rw [if_pos hn]⟩
  · obtain ⟨r, hr⟩ := tells s (by omega) s.size (s.size + 1) 0 (by omega) (by omega) (by omega) (by omega)
    refine ⟨s.size + 1, ?_⟩
    unfold laws_FnExactIsName.f spec_IsName.f impl_IsName.f
    rw [if_neg hn, same_l, hr]
    simp

end Go.Proofs.Ytdcdikajefekkaa.Pure
