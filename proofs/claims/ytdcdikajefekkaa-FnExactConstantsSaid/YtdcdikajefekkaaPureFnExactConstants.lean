/- The law FnExactConstants answers true; no conditions. -/
import Derived.Test.YtdcdikajefekkaaPFnExactConstantsx1
namespace Go.Proofs.Ytdcdikajefekkaa.Pure
open Go.RowKit Go.Proofs.Ytdcdikajefekkaa.PFnExactConstants Go.Proofs.YtdcdikajefekkaaW.PrintWords Go.Proofs.YtdcdikajefekkaaW.PrintLast

theorem FnExactConstants : laws_FnExactConstants.Pure := by
  rfl

end Go.Proofs.Ytdcdikajefekkaa.Pure
