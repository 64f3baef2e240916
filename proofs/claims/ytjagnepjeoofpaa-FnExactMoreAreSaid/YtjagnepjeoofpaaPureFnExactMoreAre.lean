/- The program's MoreAre answers as the reference's does, for all arguments: the pure statement of the law FnExactMoreAre. No condition. -/
import Derived.Test.YtjagnepjeoofpaaLem4
import Derived.Test.YtjagnepjeoofpaaPx45
namespace Go.Proofs.Ytjagnepjeoofpaa.Pure
open Go.RowKit Go.Proofs.Ytjagnepjeoofpaa.P Go.Proofs.YtjagnepjeoofpaaW.PrintWords Go.Proofs.YtjagnepjeoofpaaW.PrintLast

theorem FnExactMoreAre : laws_FnExactMoreAre.Pure := by
  intro l _ _ _
  obtain ⟨K, hK⟩ : ∃ K, K = 2097200 := ⟨_, rfl⟩
  refine ⟨K + 1, ?_⟩
  unfold laws_FnExactMoreAre.f
  by_cases h : (l.length : Int) > 1048576
  · rw [if_pos h]
  · rw [if_neg h]
    have hl : l.length ≤ 1048576 := by omega
    simp only [toIntS_k l hl (K + 1) (by omega), spec_MoreAre_k l hl (K + 1) (by omega), impl_MoreAre_k l hl (K + 1) (by omega), eqIntS_k l hl (K + 1) (by omega), Option.bind_some, bne_self_eq_false, Bool.false_eq_true, ↓reduceIte]

end Go.Proofs.Ytjagnepjeoofpaa.Pure
