/- The program's Between answers as the reference's does, for all arguments: the pure statement of the law FnExactBetween. No condition. -/
import Derived.Test.YtpggephoienhlaaLem5
import Derived.Test.YtpggephoienhlaaPx51
namespace Go.Proofs.Ytpggephoienhlaa.Pure
open Go.RowKit Go.Proofs.Ytpggephoienhlaa.P Go.Proofs.YtpggephoienhlaaW.PrintWords Go.Proofs.YtpggephoienhlaaW.PrintLast

theorem FnExactBetween : laws_FnExactBetween.Pure := by
  intro l _ _ _
  obtain ⟨K, hK⟩ : ∃ K, K = 2097200 := ⟨_, rfl⟩
  refine ⟨K + 1, ?_⟩
  unfold laws_FnExactBetween.f
  by_cases h : (l.length : Int) > 1048576
  · rw [if_pos h]
  · rw [if_neg h]
    have hl : l.length ≤ 1048576 := by omega
    simp only [toIntS_k l hl (K + 1) (by omega), spec_Between_k l hl (K + 1) (by omega), impl_Between_k l hl (K + 1) (by omega), eqIntS_k l hl (K + 1) (by omega), Option.bind_some, bne_self_eq_false, Bool.false_eq_true, ↓reduceIte]

end Go.Proofs.Ytpggephoienhlaa.Pure
