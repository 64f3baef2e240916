-- Texts of this claim, laid one behind the other by wip/gen/merge.py.
import Derived.Test.YtgkifmabdfjejaaZFnInsideNot11
import Derived.Test.YtgkifmabdfjejaaZFnInsideNot10
/- Inside twice is nothing: the pure statement of the law FnInsideNot. No condition. -/
namespace Go.Proofs.Ytgkifmabdfjejaa.Pure
open Go.RowKit Go.Proofs.Ytgkifmabdfjejaa.P Go.Proofs.YtgkifmabdfjejaaW.PrintWords Go.Proofs.YtgkifmabdfjejaaW.PrintLast

theorem FnInsideNot : laws_FnInsideNot.Pure := by
  intro l _ _ hw
  obtain ⟨K, hK⟩ : ∃ K, K = 2097300 := ⟨_, rfl⟩
  refine ⟨K + 1, ?_⟩
  unfold laws_FnInsideNot.f
  by_cases hl : (l.length : Int) > 1048576
  · rw [if_pos hl]
  · rw [if_neg hl]
    obtain ⟨xs, eo, hs⟩ := src_open l hw
    unfold spec_DrawInsideNot.f
    rw [eo, Option.bind_some]
    obtain ⟨t, c, e, _, _, ht⟩ := l20Tri_k xs hs 0 9 (by omega) (by omega) (K + 1) (by omega)
    obtain ⟨m, em, hm⟩ := named_tri (⟨#[109, 111, 115, 116]⟩ : ByteArray).toList (by rw [ByteArray.toList_eq]; decide +kernel)
    have hml := isTri_length hm
    have n1 := insP_length t
    have n2 := insP_length m
    have n3 := bothP_length t m
    rw [e, Option.bind_some, Option.bind_some, impl_InsideNot_k t (by omega) (K + 1) (by omega), Option.bind_some, spec_InsideNot_k t (by omega) (K + 1) (by omega), Option.bind_some, same_k _ (by omega) (K + 1) (by omega), Option.bind_some, if_pos rfl, alive_eq, spec_NamedTriangle_k _ (K + 1) (by omega), em, Option.bind_some]
    by_cases h : isTri t = true
    · rw [show (insP t).length = 21 from isTri_length (isTri_insP t h), if_neg (by omega), Option.bind_some, impl_InsideNot_k (insP t) (by omega) (K + 1) (by omega), Option.bind_some, ins_ins t h, same_k _ (by omega) (K + 1) (by omega), Option.bind_some, if_pos rfl, impl_BothOf_eq, Option.bind_some, impl_InsideNot_k (bothP t m) (by omega) (K + 1) (by omega), Option.bind_some, impl_InsideNot_k m (by omega) (K + 1) (by omega), Option.bind_some, impl_BothOf_eq, Option.bind_some, ins_both t m h hm, same_k _ (by have := bothP_length (insP t) (insP m); omega) (K + 1) (by omega)]
      rfl
    · rw [insP_none t h, if_pos (by simp)]

end Go.Proofs.Ytgkifmabdfjejaa.Pure
