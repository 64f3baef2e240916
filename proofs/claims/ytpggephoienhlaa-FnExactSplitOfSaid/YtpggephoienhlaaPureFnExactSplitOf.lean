/- The program's SplitOf answers as the reference's does, for all arguments: the pure statement of the law FnExactSplitOf. No condition. -/
import Derived.Test.YtpggephoienhlaaLem5
import Derived.Test.YtpggephoienhlaaPx30
namespace Go.Proofs.Ytpggephoienhlaa.Pure
open Go.RowKit Go.Proofs.Ytpggephoienhlaa.P Go.Proofs.YtpggephoienhlaaW.PrintWords Go.Proofs.YtpggephoienhlaaW.PrintLast

theorem FnExactSplitOf : laws_FnExactSplitOf.Pure := by
  intro l _ _ _
  obtain ⟨K, hK⟩ : ∃ K, K = 2097200 := ⟨_, rfl⟩
  refine ⟨K + 3, ?_⟩
  unfold laws_FnExactSplitOf.f
  by_cases hl : (l.length : Int) > 1048576
  · rw [if_pos hl]
  · rw [if_neg hl]
    have hll : l.length ≤ 1048576 := by omega
    obtain ⟨h1, h2⟩ := splitP_length l
    have hs := spec_SplitOf_k l hll
    have hi := impl_SplitOf_k l hll
    obtain ⟨r1, r2, r3, hr⟩ : ∃ r1 r2 r3, splitP l = (r1, r2, r3) := ⟨_, _, _, rfl⟩
    rw [hr] at h1 h2 hs hi
    have h1 : r1.length ≤ 21 := h1
    have h2 : r2.length ≤ 21 := h2
    have ti := toIntS_k l hll
    have e1 := eqIntS_k r1 (by omega)
    have e2 := eqIntS_k r2 (by omega)
    have m0 := markIntS_k 1 (by omega) l hll
    have m1 := markIntS_k 1 (by omega) r1 (by omega)
    have m2 := markIntS_k (1 + (r1.length : Int)) (by omega) r2 (by omega)
    have d1 := heldIntS_k 1 (by omega) r1.length (by omega)
    have d2 := heldIntS_k (1 + (r1.length : Int)) (by omega) r2.length (by omega)
    have n0 : ¬ (1 + (l.length : Int) < 0) := by omega
    have n1 : ¬ (1 + (r1.length : Int) < 0) := by omega
    have n2 : ¬ (1 + (r1.length : Int) + (r2.length : Int) < 0) := by omega
    have j2 : laws_FnExactSplitOf.j2 (K + 1) (marks 1 r1.length) (marks (1 + (r1.length : Int)) r2.length) (1 + (r1.length : Int) + (r2.length : Int)) false = some true := by
      simp only [laws_FnExactSplitOf.j2]
      rw [if_neg (by decide), d1 K (by omega), Option.bind_some, if_neg n1, d2 K (by omega), Option.bind_some, if_neg n2, if_pos rfl]
    have j1 : laws_FnExactSplitOf.j1 (K + 2) l r1 r2 r3 r1 r2 false = some true := by
      simp only [laws_FnExactSplitOf.j1]
      rw [if_neg (by decide), m1 (K + 1) (by omega), Option.bind_some, m2 (K + 1) (by omega), Option.bind_some, d1 (K + 1) (by omega), Option.bind_some, if_neg n1, d2 (K + 1) (by omega), Option.bind_some, if_neg n2, if_pos rfl, ti (K + 1) (by omega), Option.bind_some, hi (K + 1) (by omega), Option.bind_some, e1 (K + 1) (by omega), Option.bind_some, if_pos rfl, e2 (K + 1) (by omega), Option.bind_some, if_pos rfl, bne_self_eq_false]
      exact j2
    have j0 : laws_FnExactSplitOf.j0 (K + 3) l r1 r2 r3 l r1 r2 r3 false = some true := by
      simp only [laws_FnExactSplitOf.j0]
      rw [if_neg (by decide), ti (K + 2) (by omega), Option.bind_some, eqIntS_k l hll (K + 2) (by omega), Option.bind_some, if_pos rfl, m0 (K + 2) (by omega), Option.bind_some, if_neg n0, e1 (K + 2) (by omega), Option.bind_some, if_pos rfl, e2 (K + 2) (by omega), Option.bind_some, if_pos rfl, bne_self_eq_false]
      exact j1
    rw [ti (K + 3) (by omega), Option.bind_some, hs (K + 3) (by omega), Option.bind_some, Option.bind_some, hi (K + 3) (by omega), Option.bind_some, e1 (K + 3) (by omega), Option.bind_some, if_pos rfl, e2 (K + 3) (by omega), Option.bind_some, if_pos rfl, bne_self_eq_false]
    exact j0

end Go.Proofs.Ytpggephoienhlaa.Pure
