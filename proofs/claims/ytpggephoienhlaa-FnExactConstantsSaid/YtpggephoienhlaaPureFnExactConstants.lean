/- The program's constants are those of the document: the pure statement of the law FnExactConstants. No condition. -/
import Derived.Test.YtpggephoienhlaaPx1
namespace Go.Proofs.Ytpggephoienhlaa.Pure
open Go.RowKit Go.Proofs.Ytpggephoienhlaa.P Go.Proofs.YtpggephoienhlaaW.PrintWords Go.Proofs.YtpggephoienhlaaW.PrintLast

theorem FnExactConstants : laws_FnExactConstants.Pure := by
  rfl

end Go.Proofs.Ytpggephoienhlaa.Pure
