/- The law FnExactCountOpen answers true for every list of whole numbers. No condition. -/
import Derived.Test.YtdcdikajefekkaaQFnExactCountOpenx1
namespace Go.Proofs.Ytdcdikajefekkaa.Own
open Go.RowKit Go.Proofs.Ytdcdikajefekkaa.QFnExactCountOpen Go.Proofs.YtdcdikajefekkaaW.PrintWords Go.Proofs.YtdcdikajefekkaaW.PrintLast Go.Proofs.YtdcdikajefekkaaW.PrintMore

theorem up1 {i : Int} (h0 : -1 ≤ i) (h : i ≤ 140737488355328) : wrap64 (i + 1) = i + 1 := by unfold wrap64; omega
theorem rd_at {l : List Int} {i : Nat} (h : i < l.length) : rd l (i : Int) = l[i] := by
  unfold rd; simp [List.getD_eq_getElem?_getD, h]
theorem toInts_l (x : List Int) (hn : x.length ≤ 4194304) : ∀ (d k i : Nat) (y : List Int), i + d = x.length → d < k → y.length = x.length → (∀ j, j < i → y[j]? = x[j]?) → laws_toIntS.l0 k x y (i : Int) = some x
  | d, 0, _, _, _, hk, _, _ => by omega
  | 0, k + 1, i, y, hd, _, hy, hj => by
    simp only [laws_toIntS.l0]
    rw [if_neg (by omega)]
    congr 1
    apply List.ext_getElem? ; intro j
    by_cases h : j < i
    · exact hj j h
    · rw [List.getElem?_eq_none (by omega), List.getElem?_eq_none (by omega)]
  | d + 1, k + 1, i, y, hd, hk, hy, hj => by
    simp only [laws_toIntS.l0]
    rw [if_pos (by omega), if_pos (by omega), if_pos (by omega), up1 (by omega) (by omega)]
    have := toInts_l x hn d k (i + 1) (y.set i (rd x i)) (by omega) (by omega) (by simp [hy]) (fun j h => by
      by_cases e : j = i
      · subst e; rw [rd_at (by omega)]; simp [show j < y.length by omega, show j < x.length by omega]
      · rw [List.getElem?_set_ne (by omega)]; exact hj j (by omega))
    simpa using this
theorem toInts (x : List Int) (hn : x.length ≤ 4194304) (k : Nat) (hk : x.length < k) : laws_toIntS.f k x = some x := by
  unfold laws_toIntS.f
  rw [if_pos (by omega), if_pos (by simp; omega)]
  exact toInts_l x hn x.length k 0 _ (by omega) hk (by simp) (fun j h => by omega)
theorem eqInts_l (x : List Int) (hn : x.length ≤ 4194304) : ∀ (d k i : Nat), i + d = x.length → d < k → laws_eqIntS.l0 k x x (i : Int) = some true
  | d, 0, _, _, hk => by omega
  | 0, k + 1, i, hd, _ => by simp only [laws_eqIntS.l0]; rw [if_neg (by omega)]
  | d + 1, k + 1, i, hd, hk => by
    simp only [laws_eqIntS.l0]
    rw [if_pos (by omega), if_pos (by omega), if_pos (by omega), up1 (by omega) (by omega)]
    simpa using eqInts_l x hn d k (i + 1) (by omega) (by omega)
theorem eqInts (x : List Int) (hn : x.length ≤ 4194304) (k : Nat) (hk : x.length < k) : laws_eqIntS.f k x x = some true := by
  unfold laws_eqIntS.f
  rw [if_pos rfl]
  exact eqInts_l x hn x.length k 0 (by omega) hk

theorem same_l : ∀ (k : Nat) (n : Int) (x : List Int) (m i : Int), spec_CountOpen.l0 k n x m i = impl_CountOpen.l0 k n x m i
  | 0, _, _, _, _ => rfl
  | k + 1, n, x, m, i => by
    simp only [spec_CountOpen.l0, impl_CountOpen.l0]
    rw [same_l k, same_l k]
theorem tells (x : List Int) (hn : x.length ≤ 4194304) : ∀ (d k i : Nat) (n : Int), i + d = x.length → d < k → ∃ r, spec_CountOpen.l0 k n x (x.length : Int) (i : Int) = some r
  | d, 0, _, _, _, hk => by omega
  | 0, k + 1, i, n, hd, _ => ⟨_, by simp only [spec_CountOpen.l0]; rw [if_neg (by omega)]⟩
  | d + 1, k + 1, i, n, hd, hk => by
    simp only [spec_CountOpen.l0]
    rw [if_pos (by omega), if_pos (by omega), if_pos (by omega), up1 (i := (i : Int)) (by omega) (by omega)]
    split
    · simpa using tells x hn d k (i + 1) _ (by omega) (by omega)
    · simpa using tells x hn d k (i + 1) _ (by omega) (by omega)

theorem FnExactCountOpen : laws_FnExactCountOpen.Pure := by
  intro x _ _
  by_cases hn : (x.length : Int) > 1048576
  · exact ⟨0, by unfold laws_FnExactCountOpen.f; rw [if_pos hn]⟩
  · obtain ⟨r, hr⟩ := tells x (by omega) x.length (x.length + 1) 0 0 (by omega) (by omega)
    refine ⟨x.length + 1, ?_⟩
    have hs : spec_CountOpen.f (x.length + 1) x = some r := hr
    have hi : impl_CountOpen.f (x.length + 1) x = some r := by
      unfold impl_CountOpen.f; rw [← same_l]; exact hr
    unfold laws_FnExactCountOpen.f
    simp only [toInts x (by omega) (x.length + 1) (by omega), eqInts x (by omega) (x.length + 1) (by omega), hs, hi, Option.bind_some]
    rw [if_neg hn]
    simp

end Go.Proofs.Ytdcdikajefekkaa.Own
