/- The law FnExactAddIntervals answers true for every pair of intervals. No condition. -/
import Derived.Test.YtdcdikajefekkaaQFnExactAddIntervalsx5
namespace Go.Proofs.Ytdcdikajefekkaa.Own
open Go.RowKit Go.Proofs.Ytdcdikajefekkaa.QFnExactAddIntervals Go.Proofs.YtdcdikajefekkaaW.PrintWords Go.Proofs.YtdcdikajefekkaaW.PrintLast Go.Proofs.YtdcdikajefekkaaW.PrintMore
set_option linter.unusedVariables false
set_option linter.unusedSimpArgs false

theorem okey (a b : Int) : spec_IntervalOk.f a b = impl_IntervalOk.f a b := rfl
theorem okb (a b : Int) : ∃ r, impl_IntervalOk.f a b = some r := by
  unfold impl_IntervalOk.f
  repeat' split
  all_goals exact ⟨_, rfl⟩
def addB (a b : Int) : Int := if a ≥ 1000000 then 1000000 else if b ≥ 1000000 then 1000000 else if a ≤ -1000000 then -1000000 else if b ≤ -1000000 then -1000000 else if a + b < -1000000 then -1000000 else if a + b > 1000000 then 1000000 else a + b
theorem specB (k : Nat) (a b : Int) : spec_AddBounds.f (k + 1) a b = some (addB a b) := by
  unfold spec_AddBounds.f addB
  simp only [spec_AddBounds.j0, spec_ClampBound.f]
  repeat' split
  all_goals simp only [Option.bind_some, decide_eq_true_eq, Option.some.injEq, reduceCtorEq] at *
  all_goals first | omega | contradiction | (exfalso; simp_all; done) | (unfold wrap64 at *; omega)
theorem implB (k : Nat) (a b : Int) : impl_AddBounds.f (k + 1) a b = some (addB a b) := by
  unfold impl_AddBounds.f addB
  simp only [impl_AddBounds.j0, impl_ClampBound.f, mx, mn]
  repeat' split
  all_goals simp only [Option.bind_some, decide_eq_true_eq, Option.some.injEq, reduceCtorEq] at *
  all_goals first | omega | contradiction | (exfalso; simp_all; done) | (unfold wrap64 at *; omega)

theorem low (a b : Int) : spec_l02Low.f 3 a b = some (if a ≤ -1000000 then -1000000 else if b ≤ -1000000 then -1000000 else addB a b) := by
  unfold spec_l02Low.f
  simp only [specB, Option.bind_some]
  repeat' split
  all_goals rfl

theorem FnExactAddIntervals : laws_FnExactAddIntervals.Pure := by
  intro a b c d _ _ _ _
  refine ⟨3, ?_⟩
  have h : spec_AddIntervals.f 3 a b c d = impl_AddIntervals.f 3 a b c d := by
    unfold spec_AddIntervals.f impl_AddIntervals.f
    obtain ⟨r1, h1⟩ := okb a b
    obtain ⟨r2, h2⟩ := okb c d
    simp only [okey, h1, h2, low, specB, implB, Option.bind_some, impl_AddIntervals.j0, impl_AddIntervals.j1]
    cases r1 <;> cases r2 <;> simp only [Bool.not_true, Bool.not_false, if_true, Bool.false_eq_true, if_false, Option.bind_some, decide_eq_true_eq]
    all_goals try (cases impl_IntervalOk.f _ _ <;> rfl)
    by_cases ha : a ≤ -1000000
    · simp only [ha, if_true]
    · by_cases hc : c ≤ -1000000
      · simp only [ha, hc, if_true, if_false, decide_true]
      · simp only [ha, hc, if_false, decide_false, Bool.false_eq_true]
  have h2 : ∃ r, spec_AddIntervals.f 3 a b c d = some r := by
    unfold spec_AddIntervals.f
    simp only [low, specB, Option.bind_some, okey]
    obtain ⟨r1, h1⟩ := okb a b
    obtain ⟨r2, h2⟩ := okb c d
    simp only [h1, h2, Option.bind_some]
    generalize (if a ≤ -1000000 then -1000000 else if c ≤ -1000000 then -1000000 else addB a c) = z
    obtain ⟨r3, h3⟩ := okb z (addB b d)
    simp only [h3, Option.bind_some]
    repeat' split
    all_goals exact ⟨_, rfl⟩
  obtain ⟨r, hr⟩ := h2
  unfold laws_FnExactAddIntervals.f laws_toInterval.f
  simp only [Option.bind_some, ← h, hr, laws_eqInterval.f, if_true]

end Go.Proofs.Ytdcdikajefekkaa.Own
