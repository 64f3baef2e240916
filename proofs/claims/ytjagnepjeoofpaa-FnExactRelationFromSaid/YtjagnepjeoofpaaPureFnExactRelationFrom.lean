/- The program's RelationFrom answers as the reference's does, for all arguments: the pure statement of the law FnExactRelationFrom. No condition. -/
import Derived.Test.YtjagnepjeoofpaaLem7f
import Derived.Test.YtjagnepjeoofpaaPx23
namespace Go.Proofs.Ytjagnepjeoofpaa.Pure
open Go.RowKit Go.Proofs.Ytjagnepjeoofpaa.P Go.Proofs.YtjagnepjeoofpaaW.PrintWords Go.Proofs.YtjagnepjeoofpaaW.PrintLast

theorem FnExactRelationFrom : laws_FnExactRelationFrom.Pure := by
  intro t l _ _ _ _
  obtain ⟨K, hK⟩ : ∃ K, K = 2097200 := ⟨_, rfl⟩
  refine ⟨K + 1, ?_⟩
  unfold laws_FnExactRelationFrom.f
  by_cases hl : (l.length : Int) > 1048576
  · rw [if_pos hl]
  · rw [if_neg hl]
    have hll : l.length ≤ 1048576 := by omega
    have hr := rfP_length t l
    simp only [toIntS_k l hll (K + 1) (by omega), toIntS_k l hll K (by omega), spec_RelationFrom_k t l hll (K + 1) (by omega), impl_RelationFrom_k t l hll (K + 1) (by omega), impl_RelationFrom_k t l hll K (by omega), eqIntS_k l hll (K + 1) (by omega), eqIntS_k (rfP t l) (by omega) (K + 1) (by omega), eqIntS_k (rfP t l) (by omega) K (by omega), markIntS_k (1) (by omega) l hll (K + 1) (by omega), markIntS_k 1 (by omega) (rfP t l) (by omega) K (by omega), heldIntS_k 1 (by omega) (rfP t l).length (by omega) K (by omega), if_neg (show ¬ (1 + (l.length : Int) < 0) by omega), if_neg (show ¬ ((1 : Int) + ((rfP t l).length : Int) < 0) by omega), laws_FnExactRelationFrom.j0, Bool.not_true, Option.bind_some, Bool.false_eq_true, ↓reduceIte]

end Go.Proofs.Ytjagnepjeoofpaa.Pure
