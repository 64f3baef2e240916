/- The program's FewerAre answers as the reference's does, for all arguments: the pure statement of the law FnExactFewerAre. No condition. -/
import Derived.Test.YtjagnepjeoofpaaLem4
import Derived.Test.YtjagnepjeoofpaaPx42
namespace Go.Proofs.Ytjagnepjeoofpaa.Pure
open Go.RowKit Go.Proofs.Ytjagnepjeoofpaa.P Go.Proofs.YtjagnepjeoofpaaW.PrintWords Go.Proofs.YtjagnepjeoofpaaW.PrintLast

theorem FnExactFewerAre : laws_FnExactFewerAre.Pure := by
  intro l _ _ _
  obtain ⟨K, hK⟩ : ∃ K, K = 2097200 := ⟨_, rfl⟩
  refine ⟨K + 1, ?_⟩
  unfold laws_FnExactFewerAre.f
  by_cases h : (l.length : Int) > 1048576
  · rw [if_pos h]
  · rw [if_neg h]
    have hl : l.length ≤ 1048576 := by omega
    simp only [toIntS_k l hl (K + 1) (by omega), spec_FewerAre_k l hl (K + 1) (by omega), impl_FewerAre_k l hl (K + 1) (by omega), eqIntS_k l hl (K + 1) (by omega), Option.bind_some, bne_self_eq_false, Bool.false_eq_true, ↓reduceIte]

end Go.Proofs.Ytjagnepjeoofpaa.Pure
