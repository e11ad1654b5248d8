/- The law FnExactClampBound answers true for every whole number; no conditions. -/
import Derived.Test.YtdcdikajefekkaaPFnExactClampBoundx1
namespace Go.Proofs.Ytdcdikajefekkaa.Pure
open Go.RowKit Go.Proofs.Ytdcdikajefekkaa.PFnExactClampBound Go.Proofs.YtdcdikajefekkaaW.PrintWords Go.Proofs.YtdcdikajefekkaaW.PrintLast

theorem FnExactClampBound : laws_FnExactClampBound.Pure := by
  intro a0 _
  unfold laws_FnExactClampBound.f spec_ClampBound.f impl_ClampBound.f mx mn
  repeat' split
  all_goals simp only [Option.bind_some]
  all_goals first | rfl | (rw [if_pos (by omega)])

end Go.Proofs.Ytdcdikajefekkaa.Pure
