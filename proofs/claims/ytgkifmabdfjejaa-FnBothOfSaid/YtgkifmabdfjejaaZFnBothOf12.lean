-- Texts of this claim, laid one behind the other by wip/gen/merge.py.
import Derived.Test.YtgkifmabdfjejaaZFnBothOf11
import Derived.Test.YtgkifmabdfjejaaZFnBothOf10
/- Both is either of the contraries, negated: the pure statement of the law FnBothOf. No condition. -/
namespace Go.Proofs.Ytgkifmabdfjejaa.Pure
open Go.RowKit Go.Proofs.Ytgkifmabdfjejaa.P Go.Proofs.YtgkifmabdfjejaaW.PrintWords Go.Proofs.YtgkifmabdfjejaaW.PrintLast

theorem FnBothOf : laws_FnBothOf.Pure := by
  intro l _ _ hw
  obtain ⟨K, hK⟩ : ∃ K, K = 2097300 := ⟨_, rfl⟩
  refine ⟨K + 1, ?_⟩
  unfold laws_FnBothOf.f
  by_cases hl : (l.length : Int) > 1048576
  · rw [if_pos hl]
  · rw [if_neg hl]
    obtain ⟨xs, eo, hs⟩ := src_open l hw
    unfold spec_DrawBothOf.f
    rw [eo, Option.bind_some]
    obtain ⟨t, c, e, c1, c2, ht⟩ := l20Tri_k xs hs 0 14 (by omega) (by omega) (K + 1) (by omega)
    obtain ⟨u, c', e', _, _, hu⟩ := l20Tri_k xs hs c 14 (by omega) (by omega) (K + 1) (by omega)
    simp only [e, e', Option.bind_some]
    have n1 := bothP_length t u
    have n2 := notP_length t
    have n3 := notP_length u
    have n4 := eitherP_length (notP t) (notP u)
    rw [impl_BothOf_eq, Option.bind_some, spec_BothOf_k t u (by omega) (by omega) (K + 1) (by omega), Option.bind_some, same_k _ (by omega) (K + 1) (by omega), Option.bind_some, if_pos rfl, alive_eq]
    by_cases h : isTri t = true ∧ isTri u = true
    · rw [show (bothP t u).length = 21 from isTri_length (isTri_bothP t u h.1 h.2), if_neg (by omega), impl_BothOf_eq, Option.bind_some, both_comm u t, same_k _ (by omega) (K + 1) (by omega), Option.bind_some, if_pos rfl, impl_BothOf_eq, Option.bind_some, both_self t h.1, same_k _ (by omega) (K + 1) (by omega), Option.bind_some, if_pos rfl, impl_NotOf_k t (by omega) (K + 1) (by omega), Option.bind_some, impl_NotOf_k u (by omega) (K + 1) (by omega), Option.bind_some, impl_EitherOf_eq, Option.bind_some, impl_NotOf_k _ (by omega) (K + 1) (by omega), Option.bind_some, not_either_not t u h.1 h.2, same_k _ (by omega) (K + 1) (by omega)]
      rfl
    · rw [bothP_none t u h, if_pos (by simp)]
      rfl

end Go.Proofs.Ytgkifmabdfjejaa.Pure
