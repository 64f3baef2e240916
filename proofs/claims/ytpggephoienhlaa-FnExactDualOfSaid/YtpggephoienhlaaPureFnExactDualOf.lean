/- The program's DualOf answers as the reference's does, for all arguments: the pure statement of the law FnExactDualOf. No condition. -/
import Derived.Test.YtpggephoienhlaaLem3
import Derived.Test.YtpggephoienhlaaPx18
namespace Go.Proofs.Ytpggephoienhlaa.Pure
open Go.RowKit Go.Proofs.Ytpggephoienhlaa.P Go.Proofs.YtpggephoienhlaaW.PrintWords Go.Proofs.YtpggephoienhlaaW.PrintLast

theorem FnExactDualOf : laws_FnExactDualOf.Pure := by
  intro l _ _ _
  obtain ⟨K, hK⟩ : ∃ K, K = 2097200 := ⟨_, rfl⟩
  refine ⟨K + 1, ?_⟩
  unfold laws_FnExactDualOf.f
  by_cases hl : (l.length : Int) > 1048576
  · rw [if_pos hl]
  · rw [if_neg hl]
    have hll : l.length ≤ 1048576 := by omega
    have hr := dualP_length l
    simp only [toIntS_k l hll (K + 1) (by omega), toIntS_k l hll K (by omega), spec_DualOf_k l hll (K + 1) (by omega), impl_DualOf_k l hll (K + 1) (by omega), impl_DualOf_k l hll K (by omega), eqIntS_k l hll (K + 1) (by omega), eqIntS_k (dualP l) (by omega) (K + 1) (by omega), eqIntS_k (dualP l) (by omega) K (by omega), markIntS_k (1) (by omega) l hll (K + 1) (by omega), markIntS_k 1 (by omega) (dualP l) (by omega) K (by omega), heldIntS_k 1 (by omega) (dualP l).length (by omega) K (by omega), if_neg (show ¬ (1 + (l.length : Int) < 0) by omega), if_neg (show ¬ ((1 : Int) + ((dualP l).length : Int) < 0) by omega), laws_FnExactDualOf.j0, Bool.not_true, Option.bind_some, Bool.false_eq_true, ↓reduceIte]

end Go.Proofs.Ytpggephoienhlaa.Pure
