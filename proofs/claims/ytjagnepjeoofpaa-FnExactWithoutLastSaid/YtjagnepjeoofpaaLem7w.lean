/- Plain facts: what the reference's and the program's WithoutLast come to, with enough rounds, for relations of at most 2^20 numbers. -/
import Derived.Test.YtjagnepjeoofpaaLem7a
import Derived.Test.YtjagnepjeoofpaaLem6a
import Derived.Test.YtjagnepjeoofpaaPx15
import Derived.Test.YtjagnepjeoofpaaPx16
namespace Go.Proofs.Ytjagnepjeoofpaa.P
open Go.RowKit Go.Proofs.YtjagnepjeoofpaaW.PrintWords Go.Proofs.YtjagnepjeoofpaaW.PrintLast

def woAt (t : Int) (l : List Int) (a b : Int) : Int := rd l (a * pw t + b)
/-- The entries of sets without the last thing. -/
def woP (t : Int) (l : List Int) : List Int := if (isRel t l && decide (1 ≤ t)) = true then rowsB (woAt t l) (2 ^ (t - 1).toNat) (2 ^ (t - 1).toNat) else []
theorem wo_nat (t : Int) (h1 : 1 ≤ t) (h2 : t ≤ 3) : shl .i64 1 (wrap64 (t - 1)) = ((2 ^ (t - 1).toNat : Nat) : Int) ∧ pw t = ((2 * 2 ^ (t - 1).toNat : Nat) : Int) ∧ 2 ^ (t - 1).toNat ≤ 4 := by
  rcases (show t = 1 ∨ t = 2 ∨ t = 3 from by omega) with rfl | rfl | rfl <;> exact ⟨by decide +kernel, by decide +kernel, by decide⟩
theorem woP_length (t : Int) (l : List Int) : (woP t l).length ≤ 100 := by
  unfold woP
  split
  · rename_i h
    simp only [Bool.and_eq_true, decide_eq_true_eq] at h
    obtain ⟨h1, h2, h3⟩ := isRel_range h.1
    have := (wo_nat t h.2 h2).2.2
    rw [rowsB_length]
    have := Nat.mul_le_mul this this
    omega
  · simp
theorem spec_WithoutLast_l1 (t : Int) (l : List Int) (h1 : 1 ≤ t) (h2 : t ≤ 3) (h3 : l.length = 4 ^ t.toNat) (B : Nat) (e1 : shl .i64 1 (wrap64 (t - 1)) = (B : Int)) (e2 : pw t = ((2 * B : Nat) : Int)) (hB : B ≤ 4) (a : Nat) (ha : a < B) (d : Nat) : ∀ (m b : Nat), b + d = B →
    spec_WithoutLast.l1 (m + d + 1) t l (rowsB (woAt t l) B a ++ rowB (woAt t l) a b) (a : Int) (b : Int) = spec_WithoutLast.l0 m t l (rowsB (woAt t l) B (a + 1)) ((a + 1 : Nat) : Int) := by
  have hw : 0 ≤ wrap64 (t - 1) := by unfold wrap64; omega
  induction d with
  | zero =>
    intro m b g
    obtain rfl : b = B := by omega
    obtain ⟨M, hM⟩ : ∃ M, M = m + 0 := ⟨_, rfl⟩
    rw [← hM, show m = M from by omega]
    simp only [spec_WithoutLast.l1]
    rw [if_pos hw, e1, if_neg (by omega), wrap_succ a 100 (by omega) (by omega), ← rowsB_succ]
  | succ d ih =>
    intro m b g
    obtain ⟨M, hM⟩ : ∃ M, M = m + d + 1 := ⟨_, rfl⟩
    rw [show m + (d + 1) + 1 = M + 1 from by omega]
    simp only [spec_WithoutLast.l1]
    have j1 := index_range t a b (by omega) h2 (by omega) (by omega) (by omega) (by omega)
    rw [if_pos hw, e1, if_pos (by omega), if_pos (by omega), idx_wrap t a b (by omega) h2 (by omega) (by omega) (by omega) (by omega), if_pos j1.1, if_pos (by rw [h3]; exact j1.2.1), if_pos (rowsB_bound _ _ _ _ (by omega) (by omega) (by omega)), wrap_succ b 100 (by omega) (by omega), hM, List.append_assoc, show rowB (woAt t l) a b ++ [rd l (↑a * pw t + ↑b)] = rowB (woAt t l) a (b + 1) from (rowB_succ _ _ _).symm]
    exact ih m (b + 1) (by omega)
theorem spec_WithoutLast_l0 (t : Int) (l : List Int) (h1 : 1 ≤ t) (h2 : t ≤ 3) (h3 : l.length = 4 ^ t.toNat) (B : Nat) (e1 : shl .i64 1 (wrap64 (t - 1)) = (B : Int)) (e2 : pw t = ((2 * B : Nat) : Int)) (hB : B ≤ 4) (e : Nat) : ∀ (k a : Nat), a + e = B → 20 * e + 20 < k →
    spec_WithoutLast.l0 k t l (rowsB (woAt t l) B a) (a : Int) = some (rowsB (woAt t l) B B) := by
  have hw : 0 ≤ wrap64 (t - 1) := by unfold wrap64; omega
  induction e with
  | zero =>
    intro k a g hk
    obtain ⟨k, rfl⟩ : ∃ m, k = m + 1 := ⟨k - 1, by omega⟩
    obtain rfl : a = B := by omega
    simp only [spec_WithoutLast.l0]
    rw [if_pos hw, e1, if_neg (by omega)]
  | succ e ih =>
    intro k a g hk
    obtain ⟨k, rfl⟩ : ∃ m, k = m + B + 1 + 1 := ⟨k - (B + 2), by omega⟩
    have hh1 := spec_WithoutLast_l1 t l h1 h2 h3 B e1 e2 hB a (by omega) B k 0 (by omega)
    rw [rowB_zero, List.append_nil] at hh1
    simp only [spec_WithoutLast.l0]
    rw [if_pos hw, e1, if_pos (by omega)]
    refine Eq.trans hh1 ?_
    exact ih k (a + 1) (by omega) (by omega)
theorem spec_WithoutLast_k (t : Int) (l : List Int) (hl : l.length ≤ 1048576) (k : Nat) (hk : 1048700 ≤ k) : spec_WithoutLast.f k t l = some (woP t l) := by
  obtain ⟨k, rfl⟩ : ∃ m, k = m + 1 := ⟨k - 1, by omega⟩
  unfold spec_WithoutLast.f woP
  rw [Option.bind_some, spec_RelationOk_k t l hl _ (by omega), Option.bind_some]
  by_cases h : isRel t l = true
  · obtain ⟨h1, h2, h3⟩ := isRel_range h
    rw [if_pos h, h, Bool.true_and]
    simp only [spec_WithoutLast.j0]
    by_cases h0 : t = 0
    · rw [if_pos (by simpa using h0), if_neg (by rw [decide_eq_true_eq]; omega)]
    · obtain ⟨e1, e2, e3⟩ := wo_nat t (by omega) h2
      rw [if_neg (by simpa using h0), if_pos (by rw [decide_eq_true_eq]; omega)]
      exact spec_WithoutLast_l0 t l (by omega) h2 h3 _ e1 e2 e3 (2 ^ (t - 1).toNat) k 0 (by omega) (by omega)
  · rw [if_neg h, Bool.eq_false_iff.mpr h, Bool.false_and]
    simp only [spec_WithoutLast.j0]
    rfl
theorem impl_WithoutLast_l1 (t : Int) (l : List Int) (h1 : 1 ≤ t) (h2 : t ≤ 3) (h3 : l.length = 4 ^ t.toNat) (B : Nat) (e2 : pw t = ((2 * B : Nat) : Int)) (hB : B ≤ 4) (a : Nat) (ha : a < B) (d : Nat) : ∀ (m b : Nat), b + d = B →
    impl_WithoutLast.l1 (m + d + 1) t l (rowsB (woAt t l) B a ++ rowB (woAt t l) a b) (a : Int) (B : Int) (a : Int) (B : Int) (b : Int) = impl_WithoutLast.l0 m t l (rowsB (woAt t l) B (a + 1)) (B : Int) ((a + 1 : Nat) : Int) := by
  induction d with
  | zero =>
    intro m b g
    obtain rfl : b = B := by omega
    obtain ⟨M, hM⟩ : ∃ M, M = m + 0 := ⟨_, rfl⟩
    rw [← hM, show m = M from by omega]
    simp only [impl_WithoutLast.l1]
    rw [if_neg (by omega), wrap_succ a 100 (by omega) (by omega), ← rowsB_succ]
  | succ d ih =>
    intro m b g
    obtain ⟨M, hM⟩ : ∃ M, M = m + d + 1 := ⟨_, rfl⟩
    rw [show m + (d + 1) + 1 = M + 1 from by omega]
    simp only [impl_WithoutLast.l1]
    have j1 := index_range t a b (by omega) h2 (by omega) (by omega) (by omega) (by omega)
    rw [if_pos (by omega), if_pos (by omega), idx_wrap t a b (by omega) h2 (by omega) (by omega) (by omega) (by omega), if_pos j1.1, if_pos (by rw [h3]; exact j1.2.1), if_pos (rowsB_bound _ _ _ _ (by omega) (by omega) (by omega)), wrap_succ b 100 (by omega) (by omega), hM, List.append_assoc, show rowB (woAt t l) a b ++ [rd l (↑a * pw t + ↑b)] = rowB (woAt t l) a (b + 1) from (rowB_succ _ _ _).symm]
    exact ih m (b + 1) (by omega)
theorem impl_WithoutLast_l0 (t : Int) (l : List Int) (h1 : 1 ≤ t) (h2 : t ≤ 3) (h3 : l.length = 4 ^ t.toNat) (B : Nat) (e1 : shl .i64 1 (wrap64 (t - 1)) = (B : Int)) (e2 : pw t = ((2 * B : Nat) : Int)) (hB : B ≤ 4) (e : Nat) : ∀ (k a : Nat), a + e = B → 20 * e + 20 < k →
    impl_WithoutLast.l0 k t l (rowsB (woAt t l) B a) (B : Int) (a : Int) = some (rowsB (woAt t l) B B) := by
  have hw : 0 ≤ wrap64 (t - 1) := by unfold wrap64; omega
  induction e with
  | zero =>
    intro k a g hk
    obtain ⟨k, rfl⟩ : ∃ m, k = m + 1 := ⟨k - 1, by omega⟩
    obtain rfl : a = B := by omega
    simp only [impl_WithoutLast.l0]
    rw [if_neg (by omega)]
  | succ e ih =>
    intro k a g hk
    obtain ⟨k, rfl⟩ : ∃ m, k = m + B + 1 + 1 := ⟨k - (B + 2), by omega⟩
    have hh1 := impl_WithoutLast_l1 t l h1 h2 h3 B e2 hB a (by omega) B k 0 (by omega)
    rw [rowB_zero, List.append_nil] at hh1
    simp only [impl_WithoutLast.l0]
    rw [if_pos (by omega), if_pos hw, e1]
    refine Eq.trans hh1 ?_
    exact ih k (a + 1) (by omega) (by omega)
theorem impl_WithoutLast_k (t : Int) (l : List Int) (hl : l.length ≤ 1048576) (k : Nat) (hk : 1048700 ≤ k) : impl_WithoutLast.f k t l = some (woP t l) := by
  obtain ⟨k, rfl⟩ : ∃ m, k = m + 1 := ⟨k - 1, by omega⟩
  unfold impl_WithoutLast.f woP
  rw [impl_isRelation_k t l hl _ (by omega), Option.bind_some]
  by_cases h : isRel t l = true
  · obtain ⟨h1, h2, h3⟩ := isRel_range h
    rw [if_pos h, h, Bool.true_and]
    simp only [impl_WithoutLast.j0]
    by_cases h0 : t < 1
    · rw [if_pos (decide_eq_true h0), if_neg (by rw [decide_eq_true_eq]; omega)]
    · obtain ⟨e1, e2, e3⟩ := wo_nat t (by omega) h2
      rw [if_neg (by rw [decide_eq_true_eq]; exact h0), if_pos (show 0 ≤ wrap64 (t - 1) by unfold wrap64; omega), e1, if_pos (show decide (1 ≤ t) = true by rw [decide_eq_true_eq]; omega)]
      exact impl_WithoutLast_l0 t l (by omega) h2 h3 _ e1 e2 e3 (2 ^ (t - 1).toNat) k 0 (by omega) (by omega)
  · rw [if_neg h, Bool.eq_false_iff.mpr h, Bool.false_and]
    simp only [impl_WithoutLast.j0]
    rfl

end Go.Proofs.Ytjagnepjeoofpaa.P
