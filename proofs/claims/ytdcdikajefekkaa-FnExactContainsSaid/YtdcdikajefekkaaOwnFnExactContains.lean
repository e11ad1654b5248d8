/- The law FnExactContains answers true for every interval and number. No condition. -/
import Derived.Test.YtdcdikajefekkaaQFnExactContainsx1
namespace Go.Proofs.Ytdcdikajefekkaa.Own
open Go.RowKit Go.Proofs.Ytdcdikajefekkaa.QFnExactContains Go.Proofs.YtdcdikajefekkaaW.PrintWords Go.Proofs.YtdcdikajefekkaaW.PrintLast Go.Proofs.YtdcdikajefekkaaW.PrintMore

theorem okey (a b : Int) : spec_IntervalOk.f a b = impl_IntervalOk.f a b := rfl
theorem okb (a b : Int) : ∃ r, impl_IntervalOk.f a b = some r := by
  unfold impl_IntervalOk.f
  repeat' split
  all_goals exact ⟨_, rfl⟩

theorem FnExactContains : laws_FnExactContains.Pure := by
  intro a b n _ _ _
  have h : spec_Contains.f a b n = impl_Contains.f a b n := rfl
  have h2 : ∃ r, impl_Contains.f a b n = some r := by
    unfold impl_Contains.f
    obtain ⟨r, hr⟩ := okb a b
    simp only [hr, Option.bind_some]
    repeat' split
    all_goals exact ⟨_, rfl⟩
  obtain ⟨r, hr⟩ := h2
  unfold laws_FnExactContains.f laws_toInterval.f
  simp only [Option.bind_some, h, hr]
  simp

end Go.Proofs.Ytdcdikajefekkaa.Own
