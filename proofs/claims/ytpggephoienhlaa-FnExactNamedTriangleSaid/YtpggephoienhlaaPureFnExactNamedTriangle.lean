/- The program's NamedTriangle answers as the reference's does, for all names: the pure statement of the law FnExactNamedTriangle. No condition. -/
import Derived.Test.YtpggephoienhlaaLem1
import Derived.Test.YtpggephoienhlaaLem8
import Derived.Test.YtpggephoienhlaaPx25
namespace Go.Proofs.Ytpggephoienhlaa.Pure
open Go.RowKit Go.Proofs.Ytpggephoienhlaa.P Go.Proofs.YtpggephoienhlaaW.PrintWords Go.Proofs.YtpggephoienhlaaW.PrintLast

theorem FnExactNamedTriangle : laws_FnExactNamedTriangle.Pure := by
  intro a _
  obtain ⟨K, hK⟩ : ∃ K, K = 2097200 := ⟨_, rfl⟩
  refine ⟨K + 2, ?_⟩
  unfold laws_FnExactNamedTriangle.f
  by_cases hl : (a.size : Int) > 1048576
  · rw [if_pos hl]
  · rw [if_neg hl]
    have h1 := specNm_length a.toList
    have hs := spec_NamedTriangle_k a
    have hi := impl_NamedTriangle_eq a
    obtain ⟨r1, r2, hr⟩ : ∃ r1 r2, specNm a.toList = (r1, r2) := ⟨_, _, rfl⟩
    rw [hr] at h1 hs hi
    have h1 : r1.length ≤ 21 := h1
    have e1 := eqIntS_k r1 (by omega)
    have m1 := markIntS_k 1 (by omega) r1 (by omega)
    have d1 := heldIntS_k 1 (by omega) r1.length (by omega)
    have n1 : ¬ (1 + (r1.length : Int) < 0) := by omega
    have j1 : laws_FnExactNamedTriangle.j1 (K + 1) (marks 1 r1.length) (1 + (r1.length : Int)) false = some true := by
      simp only [laws_FnExactNamedTriangle.j1]
      rw [if_neg (by decide), d1 K (by omega), Option.bind_some, if_neg n1, if_pos rfl]
    have j0 : laws_FnExactNamedTriangle.j0 (K + 2) a r1 r2 r1 false = some true := by
      simp only [laws_FnExactNamedTriangle.j0]
      rw [if_neg (by decide), m1 (K + 1) (by omega), Option.bind_some, d1 (K + 1) (by omega), Option.bind_some, if_neg n1, if_pos rfl, hi, Option.bind_some, e1 (K + 1) (by omega), Option.bind_some, if_pos rfl, bne_self_eq_false]
      exact j1
    rw [hs (K + 2) (by omega), Option.bind_some, hi, Option.bind_some, e1 (K + 2) (by omega), Option.bind_some, if_pos rfl, bne_self_eq_false]
    exact j0

end Go.Proofs.Ytpggephoienhlaa.Pure
