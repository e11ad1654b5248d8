/- The law FnExactAddBounds answers true for all pairs of whole numbers; no conditions. -/
import Derived.Test.YtdcdikajefekkaaPFnExactAddBoundsx1
namespace Go.Proofs.Ytdcdikajefekkaa.Pure
open Go.RowKit Go.Proofs.Ytdcdikajefekkaa.PFnExactAddBounds Go.Proofs.YtdcdikajefekkaaW.PrintWords Go.Proofs.YtdcdikajefekkaaW.PrintLast

theorem same_c (n : Int) : spec_ClampBound.f n = impl_ClampBound.f n := by
  unfold spec_ClampBound.f impl_ClampBound.f mx mn
  repeat' split
  all_goals first | rfl | (congr 1; omega)

theorem same_j (a b : Int) (t : Bool) : ∀ k, spec_AddBounds.j0 k a b t = impl_AddBounds.j0 k a b t
  | 0 => rfl
  | k + 1 => by simp only [spec_AddBounds.j0, impl_AddBounds.j0, same_c]

theorem tells (a b : Int) (t : Bool) : ∃ r, impl_AddBounds.j0 1 a b t = some r := by
  simp only [impl_AddBounds.j0, impl_ClampBound.f, Option.bind_some]
  repeat' split
  all_goals exact ⟨_, rfl⟩

theorem FnExactAddBounds : laws_FnExactAddBounds.Pure := by
  intro a b _ _
  refine ⟨1, ?_⟩
  unfold laws_FnExactAddBounds.f spec_AddBounds.f impl_AddBounds.f
  simp only [same_j]
  split
  · obtain ⟨r, hr⟩ := tells a b true
    rw [hr]; simp
  · obtain ⟨r, hr⟩ := tells a b (decide (b ≥ 1000000))
    rw [hr]; simp

end Go.Proofs.Ytdcdikajefekkaa.Pure
