-- Written by wip/gen/lay.py, a program of this session, with the kit's print as its base. Lean checks every line.
import Derived.Test.YtjagnepjeoofpaaPx0
import Derived.Test.YtjagnepjeoofpaaPx26
namespace Go.Proofs.Ytjagnepjeoofpaa.P
open Go.RowKit Go.Proofs.YtjagnepjeoofpaaW.PrintWords Go.Proofs.YtjagnepjeoofpaaW.PrintLast Go.Proofs.YtjagnepjeoofpaaW.PrintMore
attribute [local go_sem] max2_int min2_int max_two min_two max_three min_three max_four min_four   -- for this text's walks alone
set_option linter.unusedVariables false
set_option linter.unusedSimpArgs false

/-! ### HAND what isTriangle comes to -/
theorem isTriangle_round (l : List Int) (hl : l.length ≤ 9223372036854775807) (d : Nat) : ∀ (k i : Nat), i + d = l.length → d < k → impl_isTriangle.l0 k l l (l.length : Int) (i : Int) = some ((l.drop i).all (fun x => x == 0 || x == 1) && l.length == 21) := by
  induction d with
  | zero =>
    intro k i h hk
    obtain ⟨k, rfl⟩ : ∃ m, k = m + 1 := ⟨k - 1, by omega⟩
    simp only [impl_isTriangle.l0]
    rw [if_neg (by omega), List.drop_of_length_le (by omega)]
    congr 1
    rw [List.all_nil, Bool.true_and, Bool.eq_iff_iff, beq_iff_eq, beq_iff_eq]
    omega
  | succ d ih =>
    intro k i h hk
    obtain ⟨k, rfl⟩ : ∃ m, k = m + 1 := ⟨k - 1, by omega⟩
    have hi : i < l.length := by omega
    have hr : rd l (i : Int) = l[i] := by simp [rd, List.getD_eq_getElem?_getD, List.getElem?_eq_getElem hi]
    have hd_ : l.drop i = l[i] :: l.drop (i + 1) := List.drop_eq_getElem_cons hi
    have hw : wrap64 ((i : Int) + 1) = ((i + 1 : Nat) : Int) := by unfold wrap64; omega
    simp only [impl_isTriangle.l0]
    rw [if_pos (by omega), if_pos (by omega), if_pos (by omega), hr, hw, ih k (i + 1) (by omega) (by omega), hd_, List.all_cons]
    by_cases h0 : l[i] = 0
    · rw [if_pos h0, show (l[i] == 0 || l[i] == 1) = true from by simp [h0], Bool.true_and]
    · by_cases h1 : l[i] = 1
      · rw [if_neg h0, if_pos h1, show (l[i] == 0 || l[i] == 1) = true from by simp [h1], Bool.true_and]
      · rw [if_neg h0, if_neg h1, show (l[i] == 0 || l[i] == 1) = false from by simp [h0, h1], Bool.false_and, Bool.false_and]
theorem isTriangle_here (l : List Int) (hl : l.length ≤ 9223372036854775807) : impl_isTriangle.f (l.length + 1) l = some (isTri l) := by
  unfold impl_isTriangle.f isTri
  have := isTriangle_round l hl l.length (l.length + 1) 0 (by omega) (by omega)
  simpa using this

end Go.Proofs.Ytjagnepjeoofpaa.P
