/- The program's PlaceOf answers as the reference's does, for all arguments: the pure statement of the law FnExactPlaceOf. No condition. -/
import Derived.Test.YtpggephoienhlaaLem2
import Derived.Test.YtpggephoienhlaaPx6
namespace Go.Proofs.Ytpggephoienhlaa.Pure
open Go.RowKit Go.Proofs.Ytpggephoienhlaa.P Go.Proofs.YtpggephoienhlaaW.PrintWords Go.Proofs.YtpggephoienhlaaW.PrintLast

theorem FnExactPlaceOf : laws_FnExactPlaceOf.Pure := by
  intro a s _ _
  unfold laws_FnExactPlaceOf.f
  rw [spec_PlaceOf_eq, impl_PlaceOf_eq, Option.bind_some, Option.bind_some, if_pos rfl]

end Go.Proofs.Ytpggephoienhlaa.Pure
