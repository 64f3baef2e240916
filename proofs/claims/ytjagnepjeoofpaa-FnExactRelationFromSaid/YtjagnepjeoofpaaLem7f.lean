/- Plain facts: what the reference's and the program's RelationFrom come to, with enough rounds, for lists of at most 2^20 numbers. -/
import Derived.Test.YtjagnepjeoofpaaLem7a
import Derived.Test.YtjagnepjeoofpaaLem2
import Derived.Test.YtjagnepjeoofpaaPx20
import Derived.Test.YtjagnepjeoofpaaPx22
namespace Go.Proofs.Ytjagnepjeoofpaa.P
open Go.RowKit Go.Proofs.YtjagnepjeoofpaaW.PrintWords Go.Proofs.YtjagnepjeoofpaaW.PrintLast

/-- How many things a set has (of at most three). -/
def szI (x : Int) : Int := x % 2 + x / 2 % 2 + x / 4 % 2
theorem l2Size_k (a : Int) (h1 : 0 ≤ a) (h2 : a < 8) (k : Nat) (hk : 20 ≤ k) : spec_l2Size.f k a = some (szI a) := by
  obtain ⟨k, rfl⟩ : ∃ m, k = m + 20 := ⟨k - 20, by omega⟩
  clear hk
  have hf : ∀ x : Fin 8, spec_l2Size.f 20 (x.val : Int) = some (szI (x.val : Int)) := by decide +kernel
  obtain ⟨x, rfl⟩ := Int.eq_ofNat_of_zero_le h1
  have h0 := hf ⟨x, by omega⟩
  induction k with
  | zero => exact h0
  | succ k ih =>
    have := spec_l2Size.mono (x : Int) (k + 20)
    rw [show k + 1 + 20 = k + 20 + 1 from by omega]
    exact this _ ih
theorem l2Both_k (a b : Int) (h1 : 0 ≤ a) (h2 : a < 8) (h3 : 0 ≤ b) (h4 : b < 8) (k : Nat) (hk : 20 ≤ k) : spec_l2Both.f k a b = some (Go.bits .and .i64 a b) := by
  obtain ⟨k, rfl⟩ : ∃ m, k = m + 20 := ⟨k - 20, by omega⟩
  clear hk
  have hf : ∀ x y : Fin 8, spec_l2Both.f 20 (x.val : Int) (y.val : Int) = some (Go.bits .and .i64 (x.val : Int) (y.val : Int)) := by decide +kernel
  obtain ⟨x, rfl⟩ := Int.eq_ofNat_of_zero_le h1
  obtain ⟨y, rfl⟩ := Int.eq_ofNat_of_zero_le h3
  have h0 := hf ⟨x, by omega⟩ ⟨y, by omega⟩
  induction k with
  | zero => exact h0
  | succ k ih =>
    have := spec_l2Both.mono (x : Int) (y : Int) (k + 20)
    rw [show k + 1 + 20 = k + 20 + 1 from by omega]
    exact this _ ih
theorem sizeOf_eq (a : Int) (h1 : 0 ≤ a) (h2 : a < 8) : impl_sizeOf.f a = some (szI a) := by
  have hf : ∀ x : Fin 8, impl_sizeOf.f (x.val : Int) = some (szI (x.val : Int)) := by decide +kernel
  obtain ⟨x, rfl⟩ := Int.eq_ofNat_of_zero_le h1
  exact hf ⟨x, by omega⟩
theorem sizes (a b : Int) (h1 : 0 ≤ a) (h2 : a < 8) (h3 : 0 ≤ b) (h4 : b < 8) : 0 ≤ szI a ∧ szI a ≤ 3 ∧ 0 ≤ szI (Go.bits .and .i64 a b) ∧ szI (Go.bits .and .i64 a b) ≤ szI a := by
  have hf : ∀ x y : Fin 8, 0 ≤ szI (x.val : Int) ∧ szI (x.val : Int) ≤ 3 ∧ 0 ≤ szI (Go.bits .and .i64 (x.val : Int) (y.val : Int)) ∧ szI (Go.bits .and .i64 (x.val : Int) (y.val : Int)) ≤ szI (x.val : Int) := by decide +kernel
  obtain ⟨x, rfl⟩ := Int.eq_ofNat_of_zero_le h1
  obtain ⟨y, rfl⟩ := Int.eq_ofNat_of_zero_le h3
  exact hf ⟨x, by omega⟩ ⟨y, by omega⟩
theorem impl_placeOf_in (a s : Int) (h1 : 0 ≤ a) (h2 : a ≤ 5) (h3 : 0 ≤ s) (h4 : s ≤ a) : impl_placeOf.f a s = some (pl a s) := by
  unfold impl_placeOf.f
  rw [pl_wrap a s h1 h2 h3 h4]
def rfAt (l : List Int) (a b : Int) : Int := rd l (pl (szI a) (szI (Go.bits .and .i64 a b)))
/-- The relation of a triangle. -/
def rfP (t : Int) (l : List Int) : List Int := if (decide (0 ≤ t ∧ t ≤ 3) && isTri l) = true then rowsB (rfAt l) (2 ^ t.toNat) (2 ^ t.toNat) else []
theorem two_nat (t : Int) (h1 : 0 ≤ t) (h2 : t ≤ 3) : shl .i64 1 t = ((2 ^ t.toNat : Nat) : Int) ∧ 2 ^ t.toNat ≤ 8 := by
  rcases three t h1 h2 with rfl | rfl | rfl | rfl <;> exact ⟨by decide +kernel, by decide⟩
theorem rfP_length (t : Int) (l : List Int) : (rfP t l).length ≤ 100 := by
  unfold rfP
  split
  · rename_i h
    simp only [Bool.and_eq_true, decide_eq_true_eq] at h
    have := (two_nat t h.1.1 h.1.2).2
    rw [rowsB_length]
    have := Nat.mul_le_mul this this
    omega
  · simp
theorem spec_RelationFrom_l1 (t : Int) (l : List Int) (h1 : 0 ≤ t) (h2 : t ≤ 3) (h3 : l.length = 21) (B : Nat) (e1 : shl .i64 1 t = (B : Int)) (hB : B ≤ 8) (a : Nat) (ha : a < B) (d : Nat) : ∀ (m b : Nat), 100 ≤ m → b + d = B →
    spec_RelationFrom.l1 (m + d + 1) t l (rowsB (rfAt l) B a ++ rowB (rfAt l) a b) (a : Int) (b : Int) = spec_RelationFrom.l0 m t l (rowsB (rfAt l) B (a + 1)) ((a + 1 : Nat) : Int) := by
  induction d with
  | zero =>
    intro m b hm g
    obtain rfl : b = B := by omega
    obtain ⟨M, hM⟩ : ∃ M, M = m + 0 := ⟨_, rfl⟩
    rw [← hM, show m = M from by omega]
    simp only [spec_RelationFrom.l1]
    rw [if_pos h1, e1, if_neg (by omega), wrap_succ a 100 (by omega) (by omega), ← rowsB_succ]
  | succ d ih =>
    intro m b hm g
    obtain ⟨M, hM⟩ : ∃ M, M = m + d + 1 := ⟨_, rfl⟩
    rw [show m + (d + 1) + 1 = M + 1 from by omega]
    simp only [spec_RelationFrom.l1]
    have hs := sizes a b (by omega) (by omega) (by omega) (by omega)
    have hx : 0 ≤ Go.bits .and .i64 (a : Int) (b : Int) ∧ Go.bits .and .i64 (a : Int) (b : Int) < 8 := and_range 3 a b (by omega) (by omega) (by omega) (by show (a : Int) < 8; omega) (by omega) (by show (b : Int) < 8; omega)
    have hp := pl_range (szI a) (szI (Go.bits .and .i64 a b)) (by omega) (by omega) (by omega) (by omega)
    rw [if_pos h1, e1, if_pos (by omega), l2Size_k a (by omega) (by omega) M (by omega), Option.bind_some, l2Both_k a b (by omega) (by omega) (by omega) (by omega) M (by omega), Option.bind_some, l2Size_k _ hx.1 hx.2 M (by omega), Option.bind_some, spec_PlaceOf_eq, Option.bind_some, plOr_in _ _ (by omega) (by omega) (by omega) (by omega), if_pos hp.1, if_pos (by omega), if_pos (rowsB_bound _ _ _ _ (by omega) (by omega) (by omega)), wrap_succ b 100 (by omega) (by omega), hM, List.append_assoc, show rowB (rfAt l) a b ++ [rd l (pl (szI ↑a) (szI (Go.bits .and .i64 ↑a ↑b)))] = rowB (rfAt l) a (b + 1) from (rowB_succ _ _ _).symm]
    exact ih m (b + 1) hm (by omega)
theorem spec_RelationFrom_l0 (t : Int) (l : List Int) (h1 : 0 ≤ t) (h2 : t ≤ 3) (h3 : l.length = 21) (B : Nat) (e1 : shl .i64 1 t = (B : Int)) (hB : B ≤ 8) (e : Nat) : ∀ (k a : Nat), a + e = B → 20 * e + 200 < k →
    spec_RelationFrom.l0 k t l (rowsB (rfAt l) B a) (a : Int) = some (rowsB (rfAt l) B B) := by
  induction e with
  | zero =>
    intro k a g hk
    obtain ⟨k, rfl⟩ : ∃ m, k = m + 1 := ⟨k - 1, by omega⟩
    obtain rfl : a = B := by omega
    simp only [spec_RelationFrom.l0]
    rw [if_pos h1, e1, if_neg (by omega)]
  | succ e ih =>
    intro k a g hk
    obtain ⟨k, rfl⟩ : ∃ m, k = m + B + 1 + 1 := ⟨k - (B + 2), by omega⟩
    have hh1 := spec_RelationFrom_l1 t l h1 h2 h3 B e1 hB a (by omega) B k 0 (by omega) (by omega)
    rw [rowB_zero, List.append_nil] at hh1
    simp only [spec_RelationFrom.l0]
    rw [if_pos h1, e1, if_pos (by omega)]
    refine Eq.trans hh1 ?_
    exact ih k (a + 1) (by omega) (by omega)
theorem spec_RelationFrom_k (t : Int) (l : List Int) (hl : l.length ≤ 1048576) (k : Nat) (hk : 1048700 ≤ k) : spec_RelationFrom.f k t l = some (rfP t l) := by
  obtain ⟨k, rfl⟩ : ∃ m, k = m + 1 := ⟨k - 1, by omega⟩
  unfold spec_RelationFrom.f rfP
  rw [Option.bind_some, l1In_eq, Option.bind_some]
  by_cases h : 0 ≤ t ∧ t ≤ 3
  · rw [if_pos (decide_eq_true h), spec_TriangleOk_k l hl _ (by omega), Option.bind_some, decide_eq_true h, Bool.true_and]
    simp only [spec_RelationFrom.j0]
    by_cases ht : isTri l = true
    · obtain ⟨e1, e3⟩ := two_nat t h.1 h.2
      rw [ht, if_neg (by decide), if_pos rfl]
      exact spec_RelationFrom_l0 t l h.1 h.2 (isTri_length ht) _ e1 e3 (2 ^ t.toNat) k 0 (by omega) (by omega)
    · rw [Bool.eq_false_iff.mpr ht, if_pos (by decide), if_neg (by decide)]
  · rw [if_neg (by rw [decide_eq_true_eq]; exact h), decide_eq_false h, Bool.false_and]
    simp only [spec_RelationFrom.j0]
    rfl
theorem impl_RelationFrom_l1 (t : Int) (l : List Int) (h1 : 0 ≤ t) (h2 : t ≤ 3) (h3 : l.length = 21) (B : Nat) (hB : B ≤ 8) (a : Nat) (ha : a < B) (d : Nat) : ∀ (m b : Nat), b + d = B →
    impl_RelationFrom.l1 (m + d + 1) t l (rowsB (rfAt l) B a ++ rowB (rfAt l) a b) (a : Int) (B : Int) (a : Int) (B : Int) (b : Int) = impl_RelationFrom.l0 m t l (rowsB (rfAt l) B (a + 1)) (B : Int) ((a + 1 : Nat) : Int) := by
  induction d with
  | zero =>
    intro m b g
    obtain rfl : b = B := by omega
    obtain ⟨M, hM⟩ : ∃ M, M = m + 0 := ⟨_, rfl⟩
    rw [← hM, show m = M from by omega]
    simp only [impl_RelationFrom.l1]
    rw [if_neg (by omega), wrap_succ a 100 (by omega) (by omega), ← rowsB_succ]
  | succ d ih =>
    intro m b g
    obtain ⟨M, hM⟩ : ∃ M, M = m + d + 1 := ⟨_, rfl⟩
    rw [show m + (d + 1) + 1 = M + 1 from by omega]
    simp only [impl_RelationFrom.l1]
    have hs := sizes a b (by omega) (by omega) (by omega) (by omega)
    have hx : 0 ≤ Go.bits .and .i64 (a : Int) (b : Int) ∧ Go.bits .and .i64 (a : Int) (b : Int) < 8 := and_range 3 a b (by omega) (by omega) (by omega) (by show (a : Int) < 8; omega) (by omega) (by show (b : Int) < 8; omega)
    have hp := pl_range (szI a) (szI (Go.bits .and .i64 a b)) (by omega) (by omega) (by omega) (by omega)
    rw [if_pos (by omega), sizeOf_eq a (by omega) (by omega), Option.bind_some, sizeOf_eq _ hx.1 hx.2, Option.bind_some, impl_placeOf_in _ _ (by omega) (by omega) (by omega) (by omega), Option.bind_some, if_pos hp.1, if_pos (by omega), if_pos (rowsB_bound _ _ _ _ (by omega) (by omega) (by omega)), wrap_succ b 100 (by omega) (by omega), hM, List.append_assoc, show rowB (rfAt l) a b ++ [rd l (pl (szI ↑a) (szI (Go.bits .and .i64 ↑a ↑b)))] = rowB (rfAt l) a (b + 1) from (rowB_succ _ _ _).symm]
    exact ih m (b + 1) (by omega)
theorem impl_RelationFrom_l0 (t : Int) (l : List Int) (h1 : 0 ≤ t) (h2 : t ≤ 3) (h3 : l.length = 21) (B : Nat) (e1 : shl .i64 1 t = (B : Int)) (hB : B ≤ 8) (e : Nat) : ∀ (k a : Nat), a + e = B → 20 * e + 20 < k →
    impl_RelationFrom.l0 k t l (rowsB (rfAt l) B a) (B : Int) (a : Int) = some (rowsB (rfAt l) B B) := by
  induction e with
  | zero =>
    intro k a g hk
    obtain ⟨k, rfl⟩ : ∃ m, k = m + 1 := ⟨k - 1, by omega⟩
    obtain rfl : a = B := by omega
    simp only [impl_RelationFrom.l0]
    rw [if_neg (by omega)]
  | succ e ih =>
    intro k a g hk
    obtain ⟨k, rfl⟩ : ∃ m, k = m + B + 1 + 1 := ⟨k - (B + 2), by omega⟩
    have hh1 := impl_RelationFrom_l1 t l h1 h2 h3 B hB a (by omega) B k 0 (by omega)
    rw [rowB_zero, List.append_nil] at hh1
    simp only [impl_RelationFrom.l0]
    rw [if_pos (by omega), if_pos h1, e1]
    refine Eq.trans hh1 ?_
    exact ih k (a + 1) (by omega) (by omega)
theorem impl_RelationFrom_k (t : Int) (l : List Int) (hl : l.length ≤ 1048576) (k : Nat) (hk : 1048700 ≤ k) : impl_RelationFrom.f k t l = some (rfP t l) := by
  obtain ⟨k, rfl⟩ : ∃ m, k = m + 1 := ⟨k - 1, by omega⟩
  unfold impl_RelationFrom.f rfP
  by_cases a1 : t < 0
  · rw [if_pos a1, decide_eq_false (show ¬ (0 ≤ t ∧ t ≤ 3) by omega), Bool.false_and]
    simp only [impl_RelationFrom.j0]
    rfl
  · by_cases a2 : t > 3
    · rw [if_neg a1, if_pos a2, decide_eq_false (show ¬ (0 ≤ t ∧ t ≤ 3) by omega), Bool.false_and]
      simp only [impl_RelationFrom.j0]
      rfl
    · rw [if_neg a1, if_neg a2, impl_isTriangle_k l hl _ (by omega), Option.bind_some, decide_eq_true (show 0 ≤ t ∧ t ≤ 3 by omega), Bool.true_and]
      simp only [impl_RelationFrom.j0]
      by_cases ht : isTri l = true
      · obtain ⟨e1, e3⟩ := two_nat t (by omega) (by omega)
        rw [ht, if_neg (by decide), if_pos rfl, if_pos (by omega), e1]
        exact impl_RelationFrom_l0 t l (by omega) (by omega) (isTri_length ht) _ e1 e3 (2 ^ t.toNat) k 0 (by omega) (by omega)
      · rw [Bool.eq_false_iff.mpr ht, if_pos (by decide), if_neg (by decide)]

end Go.Proofs.Ytjagnepjeoofpaa.P
