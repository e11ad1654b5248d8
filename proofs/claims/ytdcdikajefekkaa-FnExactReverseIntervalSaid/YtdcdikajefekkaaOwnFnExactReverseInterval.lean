/- The law FnExactReverseInterval answers true for every interval. No condition. -/
import Derived.Test.YtdcdikajefekkaaQFnExactReverseIntervalx1
namespace Go.Proofs.Ytdcdikajefekkaa.Own
open Go.RowKit Go.Proofs.Ytdcdikajefekkaa.QFnExactReverseInterval Go.Proofs.YtdcdikajefekkaaW.PrintWords Go.Proofs.YtdcdikajefekkaaW.PrintLast Go.Proofs.YtdcdikajefekkaaW.PrintMore

theorem okey (a b : Int) : spec_IntervalOk.f a b = impl_IntervalOk.f a b := rfl
theorem okb (a b : Int) : ∃ r, impl_IntervalOk.f a b = some r := by
  unfold impl_IntervalOk.f
  repeat' split
  all_goals exact ⟨_, rfl⟩

theorem FnExactReverseInterval : laws_FnExactReverseInterval.Pure := by
  intro a b _ _
  have h : spec_ReverseInterval.f a b = impl_ReverseInterval.f a b := rfl
  have h2 : ∃ r, impl_ReverseInterval.f a b = some r := by
    unfold impl_ReverseInterval.f
    obtain ⟨r, hr⟩ := okb a b
    simp only [hr, Option.bind_some]
    split <;> exact ⟨_, rfl⟩
  obtain ⟨r, hr⟩ := h2
  unfold laws_FnExactReverseInterval.f laws_toInterval.f
  simp only [Option.bind_some, h, hr, laws_eqInterval.f, if_true]

end Go.Proofs.Ytdcdikajefekkaa.Own
