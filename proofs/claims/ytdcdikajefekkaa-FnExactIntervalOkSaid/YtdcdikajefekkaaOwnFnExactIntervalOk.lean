/- The law FnExactIntervalOk answers true for every interval. No condition. -/
import Derived.Test.YtdcdikajefekkaaQFnExactIntervalOkx1
namespace Go.Proofs.Ytdcdikajefekkaa.Own
open Go.RowKit Go.Proofs.Ytdcdikajefekkaa.QFnExactIntervalOk Go.Proofs.YtdcdikajefekkaaW.PrintWords Go.Proofs.YtdcdikajefekkaaW.PrintLast Go.Proofs.YtdcdikajefekkaaW.PrintMore

theorem okey (a b : Int) : spec_IntervalOk.f a b = impl_IntervalOk.f a b := rfl
theorem okb (a b : Int) : ∃ r, impl_IntervalOk.f a b = some r := by
  unfold impl_IntervalOk.f
  repeat' split
  all_goals exact ⟨_, rfl⟩

theorem FnExactIntervalOk : laws_FnExactIntervalOk.Pure := by
  intro a b _ _
  unfold laws_FnExactIntervalOk.f laws_toInterval.f
  obtain ⟨r, hr⟩ := okb a b
  simp only [Option.bind_some, okey, hr]
  simp

end Go.Proofs.Ytdcdikajefekkaa.Own
