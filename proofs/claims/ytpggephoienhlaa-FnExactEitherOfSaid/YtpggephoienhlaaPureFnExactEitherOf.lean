/- The program's EitherOf answers as the reference's does, for all arguments: the pure statement of the law FnExactEitherOf. No condition. -/
import Derived.Test.YtpggephoienhlaaLem3
import Derived.Test.YtpggephoienhlaaPx13
namespace Go.Proofs.Ytpggephoienhlaa.Pure
open Go.RowKit Go.Proofs.Ytpggephoienhlaa.P Go.Proofs.YtpggephoienhlaaW.PrintWords Go.Proofs.YtpggephoienhlaaW.PrintLast

theorem FnExactEitherOf : laws_FnExactEitherOf.Pure := by
  intro l m _ _ _ _ _ _
  obtain ⟨K, hK⟩ : ∃ K, K = 2097200 := ⟨_, rfl⟩
  refine ⟨K + 1, ?_⟩
  unfold laws_FnExactEitherOf.f
  by_cases hl : (l.length : Int) > 1048576
  · rw [if_pos hl]
  · rw [if_neg hl]
    have hll : l.length ≤ 1048576 := by omega
    by_cases hm : (m.length : Int) > 1048576
    · rw [if_pos hm]
    · rw [if_neg hm]
      have hlm : m.length ≤ 1048576 := by omega
      have hr := eitherP_length l m
      simp only [toIntS_k l hll (K + 1) (by omega), toIntS_k m hlm (K + 1) (by omega), toIntS_k l hll K (by omega), toIntS_k m hlm K (by omega), spec_EitherOf_k l m hll hlm (K + 1) (by omega), impl_EitherOf_eq l m, eqIntS_k l hll (K + 1) (by omega), eqIntS_k m hlm (K + 1) (by omega), eqIntS_k (eitherP l m) (by omega) (K + 1) (by omega), eqIntS_k (eitherP l m) (by omega) K (by omega), markIntS_k (1) (by omega) l hll (K + 1) (by omega), markIntS_k (1 + (l.length : Int)) (by omega) m hlm (K + 1) (by omega), markIntS_k 1 (by omega) (eitherP l m) (by omega) K (by omega), heldIntS_k 1 (by omega) (eitherP l m).length (by omega) K (by omega), if_neg (show ¬ (1 + (l.length : Int) + (m.length : Int) < 0) by omega), if_neg (show ¬ ((1 : Int) + ((eitherP l m).length : Int) < 0) by omega), laws_FnExactEitherOf.j0, Bool.not_true, Option.bind_some, Bool.false_eq_true, ↓reduceIte]

end Go.Proofs.Ytpggephoienhlaa.Pure
