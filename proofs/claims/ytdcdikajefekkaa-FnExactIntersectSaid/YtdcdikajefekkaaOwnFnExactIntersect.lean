/- The law FnExactIntersect answers true for every pair of intervals. No condition. -/
import Derived.Test.YtdcdikajefekkaaQFnExactIntersectx3
namespace Go.Proofs.Ytdcdikajefekkaa.Own
open Go.RowKit Go.Proofs.Ytdcdikajefekkaa.QFnExactIntersect Go.Proofs.YtdcdikajefekkaaW.PrintWords Go.Proofs.YtdcdikajefekkaaW.PrintLast Go.Proofs.YtdcdikajefekkaaW.PrintMore

theorem okey (a b : Int) : spec_IntervalOk.f a b = impl_IntervalOk.f a b := rfl
theorem okb (a b : Int) : ∃ r, impl_IntervalOk.f a b = some r := by
  unfold impl_IntervalOk.f
  repeat' split
  all_goals exact ⟨_, rfl⟩
theorem okd (a b : Int) : impl_IntervalOk.f a b = some (decide (-1000000 ≤ a ∧ a ≤ b ∧ b ≤ 1000000 ∧ a ≠ 1000000 ∧ b ≠ -1000000)) := by
  unfold impl_IntervalOk.f
  repeat' split
  all_goals (congr 1; first | (symm; rw [decide_eq_false_iff_not]; omega) | (rw [Bool.eq_iff_iff]; simp only [bne_iff_ne, ne_eq, decide_eq_true_eq]; omega))

theorem FnExactIntersect : laws_FnExactIntersect.Pure := by
  intro a b c d _ _ _ _
  have h : impl_Intersect.f a b c d = spec_Intersect.f a b c d := by
    unfold impl_Intersect.f spec_Intersect.f impl_checked.f mn mx
    simp only [okey, okd, Option.bind_some]
    repeat' split
    all_goals simp only [Option.bind_some, decide_eq_true_eq] at *
    all_goals first | rfl | omega | contradiction | (exfalso; simp_all; done) | (split <;> first | rfl | omega | contradiction | (exfalso; simp_all; done))
  have h2 : ∃ r, spec_Intersect.f a b c d = some r := by
    unfold spec_Intersect.f
    simp only [okey, okd, Option.bind_some]
    repeat' split
    all_goals exact ⟨_, rfl⟩
  obtain ⟨r, hr⟩ := h2
  unfold laws_FnExactIntersect.f laws_toInterval.f
  simp only [Option.bind_some, h, hr, laws_eqInterval.f, if_true]
  simp

end Go.Proofs.Ytdcdikajefekkaa.Own
