-- Texts of this claim, laid one behind the other by wip/gen/merge.py.
import Derived.Test.YtcongmckkjbhiaaZFnRelationFrom14
import Derived.Test.YtcongmckkjbhiaaZFnRelationFrom13
import Derived.Test.YtcongmckkjbhiaaZFnRelationFrom3
import Derived.Test.YtcongmckkjbhiaaZFnRelationFrom0
import Derived.Test.YtcongmckkjbhiaaZFnRelationFrom2
import Derived.Test.YtcongmckkjbhiaaZFnRelationFrom12
import Derived.Test.YtcongmckkjbhiaaZFnRelationFrom8
import Derived.Test.YtcongmckkjbhiaaZFnRelationFrom9
import Derived.Test.YtcongmckkjbhiaaZFnRelationFrom7
/- Plain facts: what the reference's and the program's WithoutLast come to, with enough rounds, for relations of at most 2^20 numbers. -/
namespace Go.Proofs.Ytcongmckkjbhiaa.P
open Go.RowKit Go.Proofs.YtcongmckkjbhiaaW.PrintWords Go.Proofs.YtcongmckkjbhiaaW.PrintLast
def woAt (t : Int) (l : List Int) (a b : Int) : Int := rd l (a * pw t + b)
/-- The entries of sets without the last thing. -/
def woP (t : Int) (l : List Int) : List Int := if (isRel t l && decide (1 ≤ t)) = true then rowsB (woAt t l) (2 ^ (t - 1).toNat) (2 ^ (t - 1).toNat) else []
theorem wo_nat (t : Int) (h1 : 1 ≤ t) (h2 : t ≤ 3) : shl .i64 1 (wrap64 (t - 1)) = ((2 ^ (t - 1).toNat : Nat) : Int) ∧ pw t = ((2 * 2 ^ (t - 1).toNat : Nat) : Int) ∧ 2 ^ (t - 1).toNat ≤ 4 := by
 rcases (show t = 1 ∨ t = 2 ∨ t = 3 from by omega) with rfl | rfl | rfl <;> exact ⟨by decide +kernel, by decide +kernel, by decide⟩
theorem impl_WithoutLast_l1 (t : Int) (l : List Int) (h1 : 1 ≤ t) (h2 : t ≤ 3) (h3 : l.length = 4 ^ t.toNat) (B : Nat) (e2 : pw t = ((2 * B : Nat) : Int)) (hB : B ≤ 4) (a : Nat) (ha : a < B) (d : Nat) : ∀ (m b : Nat), b + d = B →
  impl_WithoutLast.l1 (m + d + 1) t l (rowsB (woAt t l) B a ++ rowB (woAt t l) a b) (a : Int) (B : Int) (a : Int) (B : Int) (b : Int) = impl_WithoutLast.l0 m t l (rowsB (woAt t l) B (a + 1)) (B : Int) ((a + 1 : Nat) : Int) := by
 induction d with
 | zero =>
  intro m b g
  obtain rfl : b = B := by omega
  obtain ⟨M, hM⟩ : ∃ M, M = m + 0 := ⟨_, rfl⟩
  rw [← hM, show m = M from by omega]
  simp only [impl_WithoutLast.l1]
  rw [if_neg (by omega), wrap_succ a 100 (by omega) (by omega), ← rowsB_succ]
 | succ d ih =>
  intro m b g
  obtain ⟨M, hM⟩ : ∃ M, M = m + d + 1 := ⟨_, rfl⟩
  rw [show m + (d + 1) + 1 = M + 1 from by omega]
  simp only [impl_WithoutLast.l1]
  have j1 := index_range t a b (by omega) h2 (by omega) (by omega) (by omega) (by omega)
  rw [if_pos (by omega), if_pos (by omega), idx_wrap t a b (by omega) h2 (by omega) (by omega) (by omega) (by omega), if_pos j1.1, if_pos (by rw [h3]; exact j1.2.1), if_pos (rowsB_bound _ _ _ _ (by omega) (by omega) (by omega)), wrap_succ b 100 (by omega) (by omega), hM, List.append_assoc, show rowB (woAt t l) a b ++ [rd l (↑a * pw t + ↑b)] = rowB (woAt t l) a (b + 1) from (rowB_succ _ _ _).symm]
  exact ih m (b + 1) (by omega)
theorem impl_WithoutLast_l0 (t : Int) (l : List Int) (h1 : 1 ≤ t) (h2 : t ≤ 3) (h3 : l.length = 4 ^ t.toNat) (B : Nat) (e1 : shl .i64 1 (wrap64 (t - 1)) = (B : Int)) (e2 : pw t = ((2 * B : Nat) : Int)) (hB : B ≤ 4) (e : Nat) : ∀ (k a : Nat), a + e = B → 20 * e + 20 < k →
  impl_WithoutLast.l0 k t l (rowsB (woAt t l) B a) (B : Int) (a : Int) = some (rowsB (woAt t l) B B) := by
 have hw : 0 ≤ wrap64 (t - 1) := by unfold wrap64; omega
 induction e with
 | zero =>
  intro k a g hk
  obtain ⟨k, rfl⟩ : ∃ m, k = m + 1 := ⟨k - 1, by omega⟩
  obtain rfl : a = B := by omega
  simp only [impl_WithoutLast.l0]
  rw [if_neg (by omega)]
 | succ e ih =>
  intro k a g hk
  obtain ⟨k, rfl⟩ : ∃ m, k = m + B + 1 + 1 := ⟨k - (B + 2), by omega⟩
  have hh1 := impl_WithoutLast_l1 t l h1 h2 h3 B e2 hB a (by omega) B k 0 (by omega)
  rw [rowB_zero, List.append_nil] at hh1
  simp only [impl_WithoutLast.l0]
  rw [if_pos (by omega), if_pos hw, e1]
  refine Eq.trans hh1 ?_
  exact ih k (a + 1) (by omega) (by omega)
theorem impl_WithoutLast_k (t : Int) (l : List Int) (hl : l.length ≤ 1048576) (k : Nat) (hk : 1048700 ≤ k) : impl_WithoutLast.f k t l = some (woP t l) := by
 obtain ⟨k, rfl⟩ : ∃ m, k = m + 1 := ⟨k - 1, by omega⟩
 unfold impl_WithoutLast.f woP
 rw [impl_isRelation_k t l hl _ (by omega), Option.bind_some]
 by_cases h : isRel t l = true
 ·obtain ⟨h1, h2, h3⟩ := isRel_range h
  rw [if_pos h, h, Bool.true_and]
  simp only [impl_WithoutLast.j0]
  by_cases h0 : t < 1
  ·rw [if_pos (decide_eq_true h0), if_neg (by rw [decide_eq_true_eq]; omega)]
  ·obtain ⟨e1, e2, e3⟩ := wo_nat t (by omega) h2
   rw [if_neg (by rw [decide_eq_true_eq]; exact h0), if_pos (show 0 ≤ wrap64 (t - 1) by unfold wrap64; omega), e1, if_pos (show decide (1 ≤ t) = true by rw [decide_eq_true_eq]; omega)]
   exact impl_WithoutLast_l0 t l (by omega) h2 h3 _ e1 e2 e3 (2 ^ (t - 1).toNat) k 0 (by omega) (by omega)
 ·rw [if_neg h, Bool.eq_false_iff.mpr h, Bool.false_and]
  simp only [impl_WithoutLast.j0]
  rfl
end Go.Proofs.Ytcongmckkjbhiaa.P
namespace Go.Proofs.Ytcongmckkjbhiaa.P
open Go.RowKit Go.Proofs.YtcongmckkjbhiaaW.PrintWords Go.Proofs.YtcongmckkjbhiaaW.PrintLast Go.Proofs.YtcongmckkjbhiaaW.PrintMore
attribute [local go_sem] max2_int min2_int max_two min_two max_three min_three max_four min_four
set_option linter.unusedVariables false
set_option linter.unusedSimpArgs false
/-! ### HAND what isTriangle comes to -/
theorem isTriangle_round (l : List Int) (hl : l.length ≤ 9223372036854775807) (d : Nat) : ∀ (k i : Nat), i + d = l.length → d < k → impl_isTriangle.l0 k l l (l.length : Int) (i : Int) = some ((l.drop i).all (fun x => x == 0 || x == 1) && l.length == 21) := by
 induction d with
 | zero =>
  intro k i h hk
  obtain ⟨k, rfl⟩ : ∃ m, k = m + 1 := ⟨k - 1, by omega⟩
  simp only [impl_isTriangle.l0]
  rw [if_neg (by omega), List.drop_of_length_le (by omega)]
  congr 1
  rw [List.all_nil, Bool.true_and, Bool.eq_iff_iff, beq_iff_eq, beq_iff_eq]
  omega
 | succ d ih =>
  intro k i h hk
  obtain ⟨k, rfl⟩ : ∃ m, k = m + 1 := ⟨k - 1, by omega⟩
  have hi : i < l.length := by omega
  have hr : rd l (i : Int) = l[i] := by simp [rd, List.getD_eq_getElem?_getD, List.getElem?_eq_getElem hi]
  have hd_ : l.drop i = l[i] :: l.drop (i + 1) := List.drop_eq_getElem_cons hi
  have hw : wrap64 ((i : Int) + 1) = ((i + 1 : Nat) : Int) := by unfold wrap64; omega
  simp only [impl_isTriangle.l0]
  rw [if_pos (by omega), if_pos (by omega), if_pos (by omega), hr, hw, ih k (i + 1) (by omega) (by omega), hd_, List.all_cons]
  by_cases h0 : l[i] = 0
  ·rw [if_pos h0, show (l[i] == 0 || l[i] == 1) = true from by simp [h0], Bool.true_and]
  ·by_cases h1 : l[i] = 1
   ·rw [if_neg h0, if_pos h1, show (l[i] == 0 || l[i] == 1) = true from by simp [h1], Bool.true_and]
   ·rw [if_neg h0, if_neg h1, show (l[i] == 0 || l[i] == 1) = false from by simp [h0, h1], Bool.false_and, Bool.false_and]
end Go.Proofs.Ytcongmckkjbhiaa.P
/- Plain facts on triangles: what the printed l1In, PlaceOf, TriangleOk (reference and program) come to; lists of 21 numbers by places. -/
namespace Go.Proofs.Ytcongmckkjbhiaa.P
open Go.RowKit Go.Proofs.YtcongmckkjbhiaaW.PrintWords Go.Proofs.YtcongmckkjbhiaaW.PrintLast
theorem l1In_eq (n a b : Int) : spec_l1In.f n a b = some (decide (a ≤ n ∧ n ≤ b)) := by
 unfold spec_l1In.f
 by_cases h : n ≥ a
 ·rw [if_pos h]; congr 1; rw [decide_eq_decide]; omega
 ·rw [if_neg h]; congr 1; symm; rw [decide_eq_false_iff_not]; omega
/-- The place of an entry. -/
def pl (a s : Int) : Int := a * (a + 1) / 2 + s
theorem five (a : Int) (h1 : 0 ≤ a) (h2 : a ≤ 5) : a = 0 ∨ a = 1 ∨ a = 2 ∨ a = 3 ∨ a = 4 ∨ a = 5 := by omega
theorem pl_range (a s : Int) (h1 : 0 ≤ a) (h2 : a ≤ 5) (h3 : 0 ≤ s) (h4 : s ≤ a) : 0 ≤ pl a s ∧ pl a s < 21 := by
 unfold pl
 rcases five a h1 h2 with rfl | rfl | rfl | rfl | rfl | rfl <;> omega
theorem pl_wrap (a s : Int) (h1 : 0 ≤ a) (h2 : a ≤ 5) (h3 : 0 ≤ s) (h4 : s ≤ a) : wrap64 ((wrap64 (Int.tdiv (wrap64 (a * (wrap64 (a + 1)))) 2)) + s) = pl a s := by
 unfold pl
 rcases five a h1 h2 with rfl | rfl | rfl | rfl | rfl | rfl <;> (simp [wrap64]; omega)
/-- The place, or -1. -/
def plOr (a s : Int) : Int := if 0 ≤ a ∧ a ≤ 5 ∧ 0 ≤ s ∧ s ≤ a then pl a s else -1
theorem spec_PlaceOf_eq (a s : Int) : spec_PlaceOf.f a s = some (plOr a s) := by
 unfold spec_PlaceOf.f plOr
 simp only [l1In_eq, Option.bind_some, decide_eq_true_eq]
 by_cases h : 0 ≤ a ∧ a ≤ 5
 ·rw [if_pos h]
  by_cases h' : 0 ≤ s ∧ s ≤ a
  ·rw [if_pos h', if_pos ⟨h.1, h.2, h'.1, h'.2⟩, pl_wrap a s h.1 h.2 h'.1 h'.2]
  ·rw [if_neg h', if_neg (fun h2 => h' ⟨h2.2.2.1, h2.2.2.2⟩)]
 ·rw [if_neg h, if_neg (fun h2 => h ⟨h2.1, h2.2.1⟩)]
theorem plOr_in (a s : Int) (h1 : 0 ≤ a) (h2 : a ≤ 5) (h3 : 0 ≤ s) (h4 : s ≤ a) : plOr a s = pl a s := if_pos ⟨h1, h2, h3, h4⟩
theorem spec_TriangleOk_round (l : List Int) (hl : l.length ≤ 1048576) (d : Nat) : ∀ (k i : Nat), i + d = l.length → d < k → spec_TriangleOk.l0 k l (i : Int) = some ((l.drop i).all (fun x => x == 0 || x == 1) && l.length == 21) := by
 induction d with
 | zero =>
  intro k i h hk
  obtain ⟨k, rfl⟩ : ∃ m, k = m + 1 := ⟨k - 1, by omega⟩
  simp only [spec_TriangleOk.l0]
  rw [if_neg (by omega), List.drop_of_length_le (by omega), List.all_nil, Bool.true_and]
  congr 1
  rw [Bool.eq_iff_iff, beq_iff_eq, beq_iff_eq]
  omega
 | succ d ih =>
  intro k i h hk
  obtain ⟨k, rfl⟩ : ∃ m, k = m + 1 := ⟨k - 1, by omega⟩
  have hi : i < l.length := by omega
  have hd_ : l.drop i = l[i] :: l.drop (i + 1) := List.drop_eq_getElem_cons hi
  simp only [spec_TriangleOk.l0]
  rw [if_pos (by omega), if_pos (by omega), rd_get l i hi, l1In_eq, Option.bind_some, wrap_succ i l.length hi hl, ih k (i + 1) (by omega) (by omega), hd_, List.all_cons]
  by_cases h0 : l[i] = 0 ∨ l[i] = 1
  ·rw [if_pos (decide_eq_true (by omega)), show (l[i] == 0 || l[i] == 1) = true from by simpa using h0, Bool.true_and]
  ·rw [if_neg (by rw [decide_eq_true_eq]; omega), show (l[i] == 0 || l[i] == 1) = false from by simpa using h0, Bool.false_and, Bool.false_and]
theorem spec_TriangleOk_k (l : List Int) (hl : l.length ≤ 1048576) (k : Nat) (hk : 1048576 < k) : spec_TriangleOk.f k l = some (isTri l) := by
 unfold spec_TriangleOk.f isTri
 simpa using spec_TriangleOk_round l hl l.length k 0 (by omega) (by omega)
theorem impl_isTriangle_k (l : List Int) (hl : l.length ≤ 1048576) (k : Nat) (hk : 1048576 < k) : impl_isTriangle.f k l = some (isTri l) := by
 unfold impl_isTriangle.f isTri
 simpa using isTriangle_round l (by omega) l.length k 0 (by omega) (by omega)
/-! The 21 places. -/
def pairs : List (Int × Int) := [(0, 0), (1, 0), (1, 1), (2, 0), (2, 1), (2, 2), (3, 0), (3, 1), (3, 2), (3, 3), (4, 0), (4, 1), (4, 2), (4, 3), (4, 4), (5, 0), (5, 1), (5, 2), (5, 3), (5, 4), (5, 5)]
/-- The list of a number at each place. -/
def triI (f : Int → Int → Int) : List Int := pairs.map fun p => f p.1 p.2
theorem pairs_range (p : Int × Int) (h : p ∈ pairs) : 0 ≤ p.1 ∧ p.1 ≤ 5 ∧ 0 ≤ p.2 ∧ p.2 ≤ p.1 := by
 revert p
 decide
theorem triI_length (f : Int → Int → Int) : (triI f).length = 21 := by simp [triI, pairs]
theorem triBy_eq (so : Int → Int → Bool) : triBy so = triI fun a s => if so a s = true then 1 else 0 := rfl
theorem triI_congr (f g : Int → Int → Int) (h : ∀ a s, 0 ≤ a → a ≤ 5 → 0 ≤ s → s ≤ a → f a s = g a s) : triI f = triI g := by
 unfold triI
 apply List.map_congr_left
 intro p hp
 obtain ⟨h1, h2, h3, h4⟩ := pairs_range p hp
 exact h p.1 p.2 h1 h2 h3 h4
theorem tri_bit (l : List Int) (h : isTri l = true) (i : Int) : rd l i = 0 ∨ rd l i = 1 := by
 unfold rd
 rw [List.getD_eq_getElem?_getD]
 by_cases hi : i.toNat < l.length
 ·rw [List.getElem?_eq_getElem hi, Option.getD_some]
  simp only [isTri, Bool.and_eq_true, List.all_eq_true] at h
  have := h.1 _ (List.getElem_mem hi)
  simpa using this
 ·rw [List.getElem?_eq_none (by omega)]
  exact .inl rfl
theorem isTri_of (l : List Int) (h1 : l.length = 21) (h2 : ∀ x ∈ l, x = 0 ∨ x = 1) : isTri l = true := by
 simp only [isTri, Bool.and_eq_true, List.all_eq_true]
 exact ⟨fun x hx => by simpa using h2 x hx, by simpa using h1⟩
theorem isTri_triI (f : Int → Int → Int) (h : ∀ a s, 0 ≤ a → a ≤ 5 → 0 ≤ s → s ≤ a → f a s = 0 ∨ f a s = 1) : isTri (triI f) = true := by
 refine isTri_of _ (triI_length f) fun x hx => ?_
 obtain ⟨p, hp, rfl⟩ := List.mem_map.mp hx
 obtain ⟨h1, h2, h3, h4⟩ := pairs_range p hp
 exact h p.1 p.2 h1 h2 h3 h4
theorem isTri_triBy (so : Int → Int → Bool) : isTri (triBy so) = true := by
 rw [triBy_eq]
 refine isTri_triI _ fun a s _ _ _ _ => ?_
 by_cases h : so a s = true
 ·rw [if_pos h]; exact .inr rfl
 ·rw [if_neg h]; exact .inl rfl
/- Plain facts: what the reference's and the program's RelationFrom come to, with enough rounds, for lists of at most 2^20 numbers. -/
/-- How many things a set has (of at most three). -/
def szI (x : Int) : Int := x % 2 + x / 2 % 2 + x / 4 % 2
theorem l2Size_k (a : Int) (h1 : 0 ≤ a) (h2 : a < 8) (k : Nat) (hk : 20 ≤ k) : spec_l2Size.f k a = some (szI a) := by
 obtain ⟨k, rfl⟩ : ∃ m, k = m + 20 := ⟨k - 20, by omega⟩
 clear hk
 have hf : ∀ x : Fin 8, spec_l2Size.f 20 (x.val : Int) = some (szI (x.val : Int)) := by decide +kernel
 obtain ⟨x, rfl⟩ := Int.eq_ofNat_of_zero_le h1
 have h0 := hf ⟨x, by omega⟩
 induction k with
 | zero => exact h0
 | succ k ih =>
  have := spec_l2Size.mono (x : Int) (k + 20)
  rw [show k + 1 + 20 = k + 20 + 1 from by omega]
  exact this _ ih
theorem l2Both_k (a b : Int) (h1 : 0 ≤ a) (h2 : a < 8) (h3 : 0 ≤ b) (h4 : b < 8) (k : Nat) (hk : 20 ≤ k) : spec_l2Both.f k a b = some (Go.bits .and .i64 a b) := by
 obtain ⟨k, rfl⟩ : ∃ m, k = m + 20 := ⟨k - 20, by omega⟩
 clear hk
 have hf : ∀ x y : Fin 8, spec_l2Both.f 20 (x.val : Int) (y.val : Int) = some (Go.bits .and .i64 (x.val : Int) (y.val : Int)) := by decide +kernel
 obtain ⟨x, rfl⟩ := Int.eq_ofNat_of_zero_le h1
 obtain ⟨y, rfl⟩ := Int.eq_ofNat_of_zero_le h3
 have h0 := hf ⟨x, by omega⟩ ⟨y, by omega⟩
 induction k with
 | zero => exact h0
 | succ k ih =>
  have := spec_l2Both.mono (x : Int) (y : Int) (k + 20)
  rw [show k + 1 + 20 = k + 20 + 1 from by omega]
  exact this _ ih
theorem sizeOf_eq (a : Int) (h1 : 0 ≤ a) (h2 : a < 8) : impl_sizeOf.f a = some (szI a) := by
 have hf : ∀ x : Fin 8, impl_sizeOf.f (x.val : Int) = some (szI (x.val : Int)) := by decide +kernel
 obtain ⟨x, rfl⟩ := Int.eq_ofNat_of_zero_le h1
 exact hf ⟨x, by omega⟩
theorem sizes (a b : Int) (h1 : 0 ≤ a) (h2 : a < 8) (h3 : 0 ≤ b) (h4 : b < 8) : 0 ≤ szI a ∧ szI a ≤ 3 ∧ 0 ≤ szI (Go.bits .and .i64 a b) ∧ szI (Go.bits .and .i64 a b) ≤ szI a := by
 have hf : ∀ x y : Fin 8, 0 ≤ szI (x.val : Int) ∧ szI (x.val : Int) ≤ 3 ∧ 0 ≤ szI (Go.bits .and .i64 (x.val : Int) (y.val : Int)) ∧ szI (Go.bits .and .i64 (x.val : Int) (y.val : Int)) ≤ szI (x.val : Int) := by decide +kernel
 obtain ⟨x, rfl⟩ := Int.eq_ofNat_of_zero_le h1
 obtain ⟨y, rfl⟩ := Int.eq_ofNat_of_zero_le h3
 exact hf ⟨x, by omega⟩ ⟨y, by omega⟩
theorem impl_placeOf_in (a s : Int) (h1 : 0 ≤ a) (h2 : a ≤ 5) (h3 : 0 ≤ s) (h4 : s ≤ a) : impl_placeOf.f a s = some (pl a s) := by
 unfold impl_placeOf.f
 rw [pl_wrap a s h1 h2 h3 h4]
def rfAt (l : List Int) (a b : Int) : Int := rd l (pl (szI a) (szI (Go.bits .and .i64 a b)))
/-- The relation of a triangle. -/
def rfP (t : Int) (l : List Int) : List Int := if (decide (0 ≤ t ∧ t ≤ 3) && isTri l) = true then rowsB (rfAt l) (2 ^ t.toNat) (2 ^ t.toNat) else []
theorem two_nat (t : Int) (h1 : 0 ≤ t) (h2 : t ≤ 3) : shl .i64 1 t = ((2 ^ t.toNat : Nat) : Int) ∧ 2 ^ t.toNat ≤ 8 := by
 rcases three t h1 h2 with rfl | rfl | rfl | rfl <;> exact ⟨by decide +kernel, by decide⟩
theorem rfP_length (t : Int) (l : List Int) : (rfP t l).length ≤ 100 := by
 unfold rfP
 split
 ·rename_i h
  simp only [Bool.and_eq_true, decide_eq_true_eq] at h
  have := (two_nat t h.1.1 h.1.2).2
  rw [rowsB_length]
  have := Nat.mul_le_mul this this
  omega
 ·simp
theorem spec_RelationFrom_l1 (t : Int) (l : List Int) (h1 : 0 ≤ t) (h2 : t ≤ 3) (h3 : l.length = 21) (B : Nat) (e1 : shl .i64 1 t = (B : Int)) (hB : B ≤ 8) (a : Nat) (ha : a < B) (d : Nat) : ∀ (m b : Nat), 100 ≤ m → b + d = B →
  spec_RelationFrom.l1 (m + d + 1) t l (rowsB (rfAt l) B a ++ rowB (rfAt l) a b) (a : Int) (b : Int) = spec_RelationFrom.l0 m t l (rowsB (rfAt l) B (a + 1)) ((a + 1 : Nat) : Int) := by
 induction d with
 | zero =>
  intro m b hm g
  obtain rfl : b = B := by omega
  obtain ⟨M, hM⟩ : ∃ M, M = m + 0 := ⟨_, rfl⟩
  rw [← hM, show m = M from by omega]
  simp only [spec_RelationFrom.l1]
  rw [if_pos h1, e1, if_neg (by omega), wrap_succ a 100 (by omega) (by omega), ← rowsB_succ]
 | succ d ih =>
  intro m b hm g
  obtain ⟨M, hM⟩ : ∃ M, M = m + d + 1 := ⟨_, rfl⟩
  rw [show m + (d + 1) + 1 = M + 1 from by omega]
  simp only [spec_RelationFrom.l1]
  have hs := sizes a b (by omega) (by omega) (by omega) (by omega)
  have hx : 0 ≤ Go.bits .and .i64 (a : Int) (b : Int) ∧ Go.bits .and .i64 (a : Int) (b : Int) < 8 := and_range 3 a b (by omega) (by omega) (by omega) (by show (a : Int) < 8; omega) (by omega) (by show (b : Int) < 8; omega)
  have hp := pl_range (szI a) (szI (Go.bits .and .i64 a b)) (by omega) (by omega) (by omega) (by omega)
  rw [if_pos h1, e1, if_pos (by omega), l2Size_k a (by omega) (by omega) M (by omega), Option.bind_some, l2Both_k a b (by omega) (by omega) (by omega) (by omega) M (by omega), Option.bind_some, l2Size_k _ hx.1 hx.2 M (by omega), Option.bind_some, spec_PlaceOf_eq, Option.bind_some, plOr_in _ _ (by omega) (by omega) (by omega) (by omega), if_pos hp.1, if_pos (by omega), if_pos (rowsB_bound _ _ _ _ (by omega) (by omega) (by omega)), wrap_succ b 100 (by omega) (by omega), hM, List.append_assoc, show rowB (rfAt l) a b ++ [rd l (pl (szI ↑a) (szI (Go.bits .and .i64 ↑a ↑b)))] = rowB (rfAt l) a (b + 1) from (rowB_succ _ _ _).symm]
  exact ih m (b + 1) hm (by omega)
theorem spec_RelationFrom_l0 (t : Int) (l : List Int) (h1 : 0 ≤ t) (h2 : t ≤ 3) (h3 : l.length = 21) (B : Nat) (e1 : shl .i64 1 t = (B : Int)) (hB : B ≤ 8) (e : Nat) : ∀ (k a : Nat), a + e = B → 20 * e + 200 < k →
  spec_RelationFrom.l0 k t l (rowsB (rfAt l) B a) (a : Int) = some (rowsB (rfAt l) B B) := by
 induction e with
 | zero =>
  intro k a g hk
  obtain ⟨k, rfl⟩ : ∃ m, k = m + 1 := ⟨k - 1, by omega⟩
  obtain rfl : a = B := by omega
  simp only [spec_RelationFrom.l0]
  rw [if_pos h1, e1, if_neg (by omega)]
 | succ e ih =>
  intro k a g hk
  obtain ⟨k, rfl⟩ : ∃ m, k = m + B + 1 + 1 := ⟨k - (B + 2), by omega⟩
  have hh1 := spec_RelationFrom_l1 t l h1 h2 h3 B e1 hB a (by omega) B k 0 (by omega) (by omega)
  rw [rowB_zero, List.append_nil] at hh1
  simp only [spec_RelationFrom.l0]
  rw [if_pos h1, e1, if_pos (by omega)]
  refine Eq.trans hh1 ?_
  exact ih k (a + 1) (by omega) (by omega)
theorem spec_RelationFrom_k (t : Int) (l : List Int) (hl : l.length ≤ 1048576) (k : Nat) (hk : 1048700 ≤ k) : spec_RelationFrom.f k t l = some (rfP t l) := by
 obtain ⟨k, rfl⟩ : ∃ m, k = m + 1 := ⟨k - 1, by omega⟩
 unfold spec_RelationFrom.f rfP
 rw [Option.bind_some, l1In_eq, Option.bind_some]
 by_cases h : 0 ≤ t ∧ t ≤ 3
 ·rw [if_pos (decide_eq_true h), spec_TriangleOk_k l hl _ (by omega), Option.bind_some, decide_eq_true h, Bool.true_and]
  simp only [spec_RelationFrom.j0]
  by_cases ht : isTri l = true
  ·obtain ⟨e1, e3⟩ := two_nat t h.1 h.2
   rw [ht, if_neg (by decide), if_pos rfl]
   exact spec_RelationFrom_l0 t l h.1 h.2 (isTri_length ht) _ e1 e3 (2 ^ t.toNat) k 0 (by omega) (by omega)
  ·rw [Bool.eq_false_iff.mpr ht, if_pos (by decide), if_neg (by decide)]
 ·rw [if_neg (by rw [decide_eq_true_eq]; exact h), decide_eq_false h, Bool.false_and]
  simp only [spec_RelationFrom.j0]
  rfl
theorem impl_RelationFrom_l1 (t : Int) (l : List Int) (h1 : 0 ≤ t) (h2 : t ≤ 3) (h3 : l.length = 21) (B : Nat) (hB : B ≤ 8) (a : Nat) (ha : a < B) (d : Nat) : ∀ (m b : Nat), b + d = B →
  impl_RelationFrom.l1 (m + d + 1) t l (rowsB (rfAt l) B a ++ rowB (rfAt l) a b) (a : Int) (B : Int) (a : Int) (B : Int) (b : Int) = impl_RelationFrom.l0 m t l (rowsB (rfAt l) B (a + 1)) (B : Int) ((a + 1 : Nat) : Int) := by
 induction d with
 | zero =>
  intro m b g
  obtain rfl : b = B := by omega
  obtain ⟨M, hM⟩ : ∃ M, M = m + 0 := ⟨_, rfl⟩
  rw [← hM, show m = M from by omega]
  simp only [impl_RelationFrom.l1]
  rw [if_neg (by omega), wrap_succ a 100 (by omega) (by omega), ← rowsB_succ]
 | succ d ih =>
  intro m b g
  obtain ⟨M, hM⟩ : ∃ M, M = m + d + 1 := ⟨_, rfl⟩
  rw [show m + (d + 1) + 1 = M + 1 from by omega]
  simp only [impl_RelationFrom.l1]
  have hs := sizes a b (by omega) (by omega) (by omega) (by omega)
  have hx : 0 ≤ Go.bits .and .i64 (a : Int) (b : Int) ∧ Go.bits .and .i64 (a : Int) (b : Int) < 8 := and_range 3 a b (by omega) (by omega) (by omega) (by show (a : Int) < 8; omega) (by omega) (by show (b : Int) < 8; omega)
  have hp := pl_range (szI a) (szI (Go.bits .and .i64 a b)) (by omega) (by omega) (by omega) (by omega)
  rw [if_pos (by omega), sizeOf_eq a (by omega) (by omega), Option.bind_some, sizeOf_eq _ hx.1 hx.2, Option.bind_some, impl_placeOf_in _ _ (by omega) (by omega) (by omega) (by omega), Option.bind_some, if_pos hp.1, if_pos (by omega), if_pos (rowsB_bound _ _ _ _ (by omega) (by omega) (by omega)), wrap_succ b 100 (by omega) (by omega), hM, List.append_assoc, show rowB (rfAt l) a b ++ [rd l (pl (szI ↑a) (szI (Go.bits .and .i64 ↑a ↑b)))] = rowB (rfAt l) a (b + 1) from (rowB_succ _ _ _).symm]
  exact ih m (b + 1) (by omega)
theorem impl_RelationFrom_l0 (t : Int) (l : List Int) (h1 : 0 ≤ t) (h2 : t ≤ 3) (h3 : l.length = 21) (B : Nat) (e1 : shl .i64 1 t = (B : Int)) (hB : B ≤ 8) (e : Nat) : ∀ (k a : Nat), a + e = B → 20 * e + 20 < k →
  impl_RelationFrom.l0 k t l (rowsB (rfAt l) B a) (B : Int) (a : Int) = some (rowsB (rfAt l) B B) := by
 induction e with
 | zero =>
  intro k a g hk
  obtain ⟨k, rfl⟩ : ∃ m, k = m + 1 := ⟨k - 1, by omega⟩
  obtain rfl : a = B := by omega
  simp only [impl_RelationFrom.l0]
  rw [if_neg (by omega)]
 | succ e ih =>
  intro k a g hk
  obtain ⟨k, rfl⟩ : ∃ m, k = m + B + 1 + 1 := ⟨k - (B + 2), by omega⟩
  have hh1 := impl_RelationFrom_l1 t l h1 h2 h3 B hB a (by omega) B k 0 (by omega)
  rw [rowB_zero, List.append_nil] at hh1
  simp only [impl_RelationFrom.l0]
  rw [if_pos (by omega), if_pos h1, e1]
  refine Eq.trans hh1 ?_
  exact ih k (a + 1) (by omega) (by omega)
theorem impl_RelationFrom_k (t : Int) (l : List Int) (hl : l.length ≤ 1048576) (k : Nat) (hk : 1048700 ≤ k) : impl_RelationFrom.f k t l = some (rfP t l) := by
 obtain ⟨k, rfl⟩ : ∃ m, k = m + 1 := ⟨k - 1, by omega⟩
 unfold impl_RelationFrom.f rfP
 by_cases a1 : t < 0
 ·rw [if_pos a1, decide_eq_false (show ¬ (0 ≤ t ∧ t ≤ 3) by omega), Bool.false_and]
  simp only [impl_RelationFrom.j0]
  rfl
 ·by_cases a2 : t > 3
  ·rw [if_neg a1, if_pos a2, decide_eq_false (show ¬ (0 ≤ t ∧ t ≤ 3) by omega), Bool.false_and]
   simp only [impl_RelationFrom.j0]
   rfl
  ·rw [if_neg a1, if_neg a2, impl_isTriangle_k l hl _ (by omega), Option.bind_some, decide_eq_true (show 0 ≤ t ∧ t ≤ 3 by omega), Bool.true_and]
   simp only [impl_RelationFrom.j0]
   by_cases ht : isTri l = true
   ·obtain ⟨e1, e3⟩ := two_nat t (by omega) (by omega)
    rw [ht, if_neg (by decide), if_pos rfl, if_pos (by omega), e1]
    exact impl_RelationFrom_l0 t l (by omega) (by omega) (isTri_length ht) _ e1 e3 (2 ^ t.toNat) k 0 (by omega) (by omega)
   ·rw [Bool.eq_false_iff.mpr ht, if_pos (by decide), if_neg (by decide)]
/- Relations by rows: entries, what is a relation; the relation of a triangle, and what is left without the last thing. -/
theorem rowsB_rd (f : Int → Int → Int) (B : Nat) : ∀ (n a b : Nat), a < n → b < B → rd (rowsB f B n) ((a * B + b : Nat) : Int) = f a b := by
 intro n
 induction n with
 | zero => intro a b h; omega
 | succ n ih =>
  intro a b ha hb
  have hl := rowsB_length f B n
  rcases Nat.lt_or_ge a n with h | h
  ·have hi := ih a b h hb
   have hlt : a * B + b < n * B := by
    have := Nat.mul_le_mul_right B (show a + 1 ≤ n from h)
    rw [Nat.succ_mul] at this
    omega
   unfold rd at hi ⊢
   rw [Int.toNat_natCast, List.getD_eq_getElem?_getD] at hi ⊢
   rw [rowsB_succ, List.getElem?_append_left (by rw [hl]; exact hlt)]
   exact hi
  ·obtain rfl : a = n := by omega
   unfold rd
   rw [Int.toNat_natCast, List.getD_eq_getElem?_getD, rowsB_succ, List.getElem?_append_right (by rw [hl]; omega), hl, show a * B + b - a * B = b by omega]
   unfold rowB
   rw [List.getElem?_map, List.getElem?_range hb]
   rfl
theorem rowsB_congr (f g : Int → Int → Int) (B n : Nat) (h : ∀ a b : Nat, a < n → b < B → f a b = g a b) : rowsB f B n = rowsB g B n := by
 induction n with
 | zero => rfl
 | succ n ih =>
  rw [rowsB_succ, rowsB_succ, ih (fun a b h1 h2 => h a b (by omega) h2)]
  congr 1
  unfold rowB
  exact List.map_congr_left fun b hb => h n b (by omega) (List.mem_range.mp hb)
theorem rowsB_rel (t : Int) (f : Int → Int → Int) (h1 : 0 ≤ t) (h2 : t ≤ 3) (h : ∀ a b : Nat, a < 2 ^ t.toNat → b < 2 ^ t.toNat → f a b = 0 ∨ f a b = 1) : isRel t (rowsB f (2 ^ t.toNat) (2 ^ t.toNat)) = true := by
 unfold isRel
 have hl : (rowsB f (2 ^ t.toNat) (2 ^ t.toNat)).length = 4 ^ t.toNat := by
  rw [rowsB_length]
  rcases three t h1 h2 with rfl | rfl | rfl | rfl <;> decide
 rw [decide_eq_true (show 0 ≤ t ∧ t ≤ 3 from ⟨h1, h2⟩), hl, beq_self_eq_true, Bool.true_and, Bool.true_and]
 rw [List.all_eq_true]
 intro x hx
 unfold rowsB rowB at hx
 rw [List.mem_flatMap] at hx
 obtain ⟨a, ha, hx⟩ := hx
 rw [List.mem_map] at hx
 obtain ⟨b, hb, rfl⟩ := hx
 rcases h a b (List.mem_range.mp ha) (List.mem_range.mp hb) with e | e <;> rw [e] <;> rfl
theorem rowsB_hr (t : Int) (f : Int → Int → Int) (a b : Int) (h1 : 0 ≤ t) (h2 : t ≤ 3) (a0 : 0 ≤ a) (a1 : a < pw t) (b0 : 0 ≤ b) (b1 : b < pw t) : hr t (rowsB f (2 ^ t.toNat) (2 ^ t.toNat)) a b = (f a b == 1) := by
 obtain ⟨B, e1, e2, e3⟩ := pw_nat t h1 h2
 obtain ⟨x, rfl⟩ := Int.eq_ofNat_of_zero_le a0
 obtain ⟨y, rfl⟩ := Int.eq_ofNat_of_zero_le b0
 unfold hr
 rw [e3, e1, show (x : Int) * (B : Int) + (y : Int) = ((x * B + y : Nat) : Int) by push_cast; rfl, rowsB_rd f B B x y (by omega) (by omega)]
theorem rfP_hr (t : Int) (l : List Int) (h : isTri l = true) (h1 : 0 ≤ t) (h2 : t ≤ 3) (a b : Int) (a0 : 0 ≤ a) (a1 : a < pw t) (b0 : 0 ≤ b) (b1 : b < pw t) : hr t (rfP t l) a b = hd l (szI a) (szI (Go.bits .and .i64 a b)) := by
 unfold rfP
 rw [if_pos (by rw [h, decide_eq_true (show 0 ≤ t ∧ t ≤ 3 from ⟨h1, h2⟩)]; rfl), rowsB_hr t _ a b h1 h2 a0 a1 b0 b1]
 rfl
theorem rfP_rel (t : Int) (l : List Int) (h : isTri l = true) (h1 : 0 ≤ t) (h2 : t ≤ 3) : isRel t (rfP t l) = true := by
 unfold rfP
 rw [if_pos (by rw [h, decide_eq_true (show 0 ≤ t ∧ t ≤ 3 from ⟨h1, h2⟩)]; rfl)]
 exact rowsB_rel t _ h1 h2 fun a b _ _ => tri_bit l h _
theorem wo_rf (t : Int) (l : List Int) (h : isTri l = true) (h1 : 1 ≤ t) (h2 : t ≤ 3) : woP t (rfP t l) = rfP (t - 1) l := by
 have hr0 := rfP_rel t l h (by omega) h2
 unfold woP
 rw [if_pos (by rw [hr0, decide_eq_true h1]; rfl)]
 have e : rfP (t - 1) l = rowsB (rfAt l) (2 ^ (t - 1).toNat) (2 ^ (t - 1).toNat) := by
  unfold rfP
  rw [if_pos (by rw [h, decide_eq_true (show 0 ≤ t - 1 ∧ t - 1 ≤ 3 from ⟨by omega, by omega⟩)]; rfl)]
 rw [e]
 obtain ⟨B, e1, e2, e3⟩ := pw_nat t (by omega) h2
 have e0 : rfP t l = rowsB (rfAt l) B B := by
  unfold rfP
  rw [if_pos (by rw [h, decide_eq_true (show 0 ≤ t ∧ t ≤ 3 from ⟨by omega, h2⟩)]; rfl), e3]
 have hlt : 2 ^ (t - 1).toNat < B := by
  rw [← e3]
  rcases three t (by omega) h2 with rfl | rfl | rfl | rfl <;> first | omega | decide
 refine rowsB_congr _ _ _ _ fun a b ha hb => ?_
 unfold woAt
 rw [e1, e0, show (a : Int) * (B : Int) + (b : Int) = ((a * B + b : Nat) : Int) by push_cast; rfl, rowsB_rd _ B B a b (by omega) (by omega)]
/- Plain facts on lists of numbers by rows and by indexes, and on the entries of a triangle. No condition beyond those typed. -/
/-! Lists by rows, and by indexes. -/
def rowI (f : Int → Int → Int) (a m : Nat) : List Int := (List.range m).map fun (s : Nat) => f (a : Int) (s : Int)
def rowsI (f : Int → Int → Int) (n : Nat) : List Int := (List.range n).flatMap fun a => rowI f a (a + 1)
theorem rowI_zero (f : Int → Int → Int) (a : Nat) : rowI f a 0 = [] := rfl
theorem rowI_succ (f : Int → Int → Int) (a m : Nat) : rowI f a (m + 1) = rowI f a m ++ [f a m] := by simp [rowI, List.range_succ]
theorem rowsI_succ (f : Int → Int → Int) (n : Nat) : rowsI f (n + 1) = rowsI f n ++ rowI f n (n + 1) := by simp [rowsI, List.range_succ]
theorem rowI_length (f : Int → Int → Int) (a m : Nat) : (rowI f a m).length = m := by simp [rowI]
theorem rowsI_length_le (f : Int → Int → Int) : ∀ n, n ≤ 6 → (rowsI f n).length ≤ 6 * n
 | 0, _ => by simp [rowsI]
 | n + 1, h => by
  have := rowsI_length_le f n (by omega)
  rw [rowsI_succ, List.length_append, rowI_length]
  omega
theorem rows_bound (f : Int → Int → Int) (n m : Nat) (hn : n < 6) (hm : m ≤ n + 1) : (rowsI f n ++ rowI f n m).length < 17592186044416 := by
 have := rowsI_length_le f n (by omega)
 rw [List.length_append, rowI_length]
 omega
def idx (f : Int → Int) (n : Nat) : List Int := (List.range n).map fun (j : Nat) => f (j : Int)
theorem idx_succ (f : Int → Int) (n : Nat) : idx f (n + 1) = idx f n ++ [f n] := by simp [idx, List.range_succ]
theorem idx_length (f : Int → Int) (n : Nat) : (idx f n).length = n := by simp [idx]
theorem idx_tri (f : Int → Int) : idx f 21 = triI fun a s => f (pl a s) := rfl
theorem wrap_succ6 (i : Nat) (h : i ≤ 100) : wrap64 ((i : Int) + 1) = ((i + 1 : Nat) : Int) := by unfold wrap64; omega
theorem bit_of (l : List Int) (h : isTri l = true) (a s : Int) : rd l (pl a s) = if hd l a s = true then 1 else 0 := by
 unfold hd
 rcases tri_bit l h (pl a s) with e | e
 ·rw [show a * (a + 1) / 2 + s = pl a s from rfl, e]; rfl
 ·rw [show a * (a + 1) / 2 + s = pl a s from rfl, e]; rfl
/- Plain facts: what the reference's NotOf, BothOf, EitherOf, InsideNot, DualOf come to, with enough rounds, for lists of at most 2^20 numbers. -/
/-! NotOf -/
def notP (l : List Int) : List Int := if isTri l = true then triBy (fun a s => !(hd l a s)) else []
theorem spec_NotOf_round (l : List Int) (hl : l.length ≤ 1048576) (ht : isTri l = true) (d : Nat) : ∀ (k i : Nat), i + d = l.length → d + 1048576 < k → spec_NotOf.l0 k l (idx (fun j => wrap64 (1 - rd l j)) i) (i : Int) = some (idx (fun j => wrap64 (1 - rd l j)) l.length) := by
 induction d with
 | zero =>
  intro k i h hk
  obtain ⟨k, rfl⟩ : ∃ m, k = m + 1 := ⟨k - 1, by omega⟩
  simp only [spec_NotOf.l0]
  rw [if_neg (by omega), show i = l.length from by omega]
 | succ d ih =>
  intro k i h hk
  obtain ⟨k, rfl⟩ : ∃ m, k = m + 1 := ⟨k - 1, by omega⟩
  simp only [spec_NotOf.l0]
  rw [if_pos (by omega), spec_TriangleOk_k l hl k (by omega), Option.bind_some, ht, if_pos rfl, if_pos (by omega), if_pos (by rw [idx_length]; omega), wrap_succ i l.length (by omega) hl, ← idx_succ]
  exact ih k (i + 1) (by omega) (by omega)
theorem spec_NotOf_k (l : List Int) (hl : l.length ≤ 1048576) (k : Nat) (hk : 2097153 ≤ k) : spec_NotOf.f k l = some (notP l) := by
 unfold spec_NotOf.f notP
 by_cases ht : isTri l = true
 ·have h := spec_NotOf_round l hl ht l.length k 0 (by omega) (by omega)
  rw [isTri_length ht, idx_tri] at h
  rw [if_pos ht]
  refine Eq.trans h ?_
  rw [triBy_eq]
  congr 1
  refine triI_congr _ _ fun a s _ _ _ _ => ?_
  rw [bit_of l ht]
  cases hd l a s <;> simp [wrap64]
 ·rw [if_neg ht]
  obtain ⟨k, rfl⟩ : ∃ m, k = m + 1 := ⟨k - 1, by omega⟩
  simp only [spec_NotOf.l0]
  by_cases h0 : (0 : Int) < (l.length : Int)
  ·rw [if_pos h0, spec_TriangleOk_k l hl k (by omega), Option.bind_some, if_neg ht]
  ·rw [if_neg h0]
/-! BothOf, EitherOf -/
def bothP (l m : List Int) : List Int := if (isTri l && isTri m) = true then triBy (fun a s => hd l a s && hd m a s) else []
def eitherP (l m : List Int) : List Int := if (isTri l && isTri m) = true then triBy (fun a s => hd l a s || hd m a s) else []
theorem spec_BothOf_round (l m : List Int) (hl : l.length ≤ 1048576) (hm : m.length ≤ 1048576) (ht : isTri l = true) (hu : isTri m = true) (d : Nat) : ∀ (k i : Nat), i + d = l.length → d + 1048576 < k → spec_BothOf.l0 k l m (idx (fun j => wrap64 (rd l j * rd m j)) i) (i : Int) = some (idx (fun j => wrap64 (rd l j * rd m j)) l.length) := by
 induction d with
 | zero =>
  intro k i h hk
  obtain ⟨k, rfl⟩ : ∃ m, k = m + 1 := ⟨k - 1, by omega⟩
  simp only [spec_BothOf.l0]
  rw [if_neg (by omega), show i = l.length from by omega]
 | succ d ih =>
  intro k i h hk
  obtain ⟨k, rfl⟩ : ∃ m, k = m + 1 := ⟨k - 1, by omega⟩
  have h1 := isTri_length ht
  have h2 := isTri_length hu
  simp only [spec_BothOf.l0]
  rw [if_pos (by omega), spec_TriangleOk_k l hl k (by omega), Option.bind_some, ht, if_pos rfl, spec_TriangleOk_k m hm k (by omega), Option.bind_some, hu, if_pos rfl, if_pos (by omega), if_pos (by omega), if_pos (by rw [idx_length]; omega), wrap_succ i l.length (by omega) hl, ← idx_succ]
  exact ih k (i + 1) (by omega) (by omega)
theorem spec_BothOf_k (l m : List Int) (hl : l.length ≤ 1048576) (hm : m.length ≤ 1048576) (k : Nat) (hk : 2097153 ≤ k) : spec_BothOf.f k l m = some (bothP l m) := by
 unfold spec_BothOf.f bothP
 by_cases ht : isTri l = true
 ·by_cases hu : isTri m = true
  ·have h := spec_BothOf_round l m hl hm ht hu l.length k 0 (by omega) (by omega)
   rw [isTri_length ht, idx_tri] at h
   rw [if_pos (show (isTri l && isTri m) = true from by rw [ht, hu]; rfl)]
   refine Eq.trans h ?_
   rw [triBy_eq]
   congr 1
   refine triI_congr _ _ fun a s _ _ _ _ => ?_
   rw [bit_of l ht, bit_of m hu]
   cases hd l a s <;> cases hd m a s <;> simp [wrap64]
  ·rw [if_neg (show ¬ (isTri l && isTri m) = true from by rw [ht, Bool.eq_false_iff.mpr hu]; decide)]
   obtain ⟨k, rfl⟩ : ∃ m, k = m + 1 := ⟨k - 1, by omega⟩
   simp only [spec_BothOf.l0]
   have := isTri_length ht
   rw [if_pos (by omega), spec_TriangleOk_k l hl k (by omega), Option.bind_some, ht, if_pos rfl, spec_TriangleOk_k m hm k (by omega), Option.bind_some, if_neg hu]
 ·rw [if_neg (show ¬ (isTri l && isTri m) = true from by rw [Bool.eq_false_iff.mpr ht, Bool.false_and]; decide)]
  obtain ⟨k, rfl⟩ : ∃ m, k = m + 1 := ⟨k - 1, by omega⟩
  simp only [spec_BothOf.l0]
  by_cases h0 : (0 : Int) < (l.length : Int)
  ·rw [if_pos h0, spec_TriangleOk_k l hl k (by omega), Option.bind_some, if_neg ht]
  ·rw [if_neg h0]
theorem spec_EitherOf_round (l m : List Int) (hl : l.length ≤ 1048576) (hm : m.length ≤ 1048576) (ht : isTri l = true) (hu : isTri m = true) (d : Nat) : ∀ (k i : Nat), i + d = l.length → d + 1048576 < k → spec_EitherOf.l0 k l m (idx (fun j => wrap64 (wrap64 (rd l j + rd m j) - wrap64 (rd l j * rd m j))) i) (i : Int) = some (idx (fun j => wrap64 (wrap64 (rd l j + rd m j) - wrap64 (rd l j * rd m j))) l.length) := by
 induction d with
 | zero =>
  intro k i h hk
  obtain ⟨k, rfl⟩ : ∃ m, k = m + 1 := ⟨k - 1, by omega⟩
  simp only [spec_EitherOf.l0]
  rw [if_neg (by omega), show i = l.length from by omega]
 | succ d ih =>
  intro k i h hk
  obtain ⟨k, rfl⟩ : ∃ m, k = m + 1 := ⟨k - 1, by omega⟩
  have h1 := isTri_length ht
  have h2 := isTri_length hu
  simp only [spec_EitherOf.l0]
  rw [if_pos (by omega), spec_TriangleOk_k l hl k (by omega), Option.bind_some, ht, if_pos rfl, spec_TriangleOk_k m hm k (by omega), Option.bind_some, hu, if_pos rfl, if_pos (by omega), if_pos (by omega), if_pos (by rw [idx_length]; omega), wrap_succ i l.length (by omega) hl, ← idx_succ]
  exact ih k (i + 1) (by omega) (by omega)
theorem spec_EitherOf_k (l m : List Int) (hl : l.length ≤ 1048576) (hm : m.length ≤ 1048576) (k : Nat) (hk : 2097153 ≤ k) : spec_EitherOf.f k l m = some (eitherP l m) := by
 unfold spec_EitherOf.f eitherP
 by_cases ht : isTri l = true
 ·by_cases hu : isTri m = true
  ·have h := spec_EitherOf_round l m hl hm ht hu l.length k 0 (by omega) (by omega)
   rw [isTri_length ht, idx_tri] at h
   rw [if_pos (show (isTri l && isTri m) = true from by rw [ht, hu]; rfl)]
   refine Eq.trans h ?_
   rw [triBy_eq]
   congr 1
   refine triI_congr _ _ fun a s _ _ _ _ => ?_
   rw [bit_of l ht, bit_of m hu]
   cases hd l a s <;> cases hd m a s <;> simp [wrap64]
  ·rw [if_neg (show ¬ (isTri l && isTri m) = true from by rw [ht, Bool.eq_false_iff.mpr hu]; decide)]
   obtain ⟨k, rfl⟩ : ∃ m, k = m + 1 := ⟨k - 1, by omega⟩
   simp only [spec_EitherOf.l0]
   have := isTri_length ht
   rw [if_pos (by omega), spec_TriangleOk_k l hl k (by omega), Option.bind_some, ht, if_pos rfl, spec_TriangleOk_k m hm k (by omega), Option.bind_some, if_neg hu]
 ·rw [if_neg (show ¬ (isTri l && isTri m) = true from by rw [Bool.eq_false_iff.mpr ht, Bool.false_and]; decide)]
  obtain ⟨k, rfl⟩ : ∃ m, k = m + 1 := ⟨k - 1, by omega⟩
  simp only [spec_EitherOf.l0]
  by_cases h0 : (0 : Int) < (l.length : Int)
  ·rw [if_pos h0, spec_TriangleOk_k l hl k (by omega), Option.bind_some, if_neg ht]
  ·rw [if_neg h0]
/-! InsideNot, DualOf -/
def insP (l : List Int) : List Int := if isTri l = true then triBy (fun a s => hd l a (a - s)) else []
theorem spec_InsideNot_inner (l : List Int) (hl : l.length = 21) (a : Nat) (ha : a < 6) (d : Nat) : ∀ (m s : Nat), s + d = a + 1 →
  spec_InsideNot.l1 (m + d + 1) l (rowsI (fun a s => rd l (pl a (a - s))) a ++ rowI (fun a s => rd l (pl a (a - s))) a s) (a : Int) (s : Int) = spec_InsideNot.l0 m l (rowsI (fun a s => rd l (pl a (a - s))) (a + 1)) ((a + 1 : Nat) : Int) := by
 induction d with
 | zero =>
  intro m s h
  simp only [spec_InsideNot.l1]
  rw [if_neg (by omega), wrap_succ6 a (by omega), show s = a + 1 from by omega, ← rowsI_succ]
 | succ d ih =>
  intro m s h
  rw [show m + (d + 1) + 1 = (m + d + 1) + 1 from by omega]
  simp only [spec_InsideNot.l1]
  have hw : wrap64 ((a : Int) - s) = (a : Int) - s := by unfold wrap64; omega
  have hr := pl_range a ((a : Int) - s) (by omega) (by omega) (by omega) (by omega)
  rw [if_pos (by omega), hw, spec_PlaceOf_eq, plOr_in _ _ (by omega) (by omega) (by omega) (by omega), Option.bind_some, if_pos hr.1, if_pos (by omega), if_pos (rows_bound _ a s ha (by omega)), wrap_succ6 s (by omega), List.append_assoc, ← rowI_succ (fun a s => rd l (pl a (a - s))) a s]
  exact ih m (s + 1) (by omega)
theorem spec_InsideNot_outer (l : List Int) (ht : isTri l = true) (e : Nat) : ∀ (k a : Nat), a + e = 6 → 10 * e + 1048600 < k →
  spec_InsideNot.l0 k l (rowsI (fun a s => rd l (pl a (a - s))) a) (a : Int) = some (triI (fun a s => rd l (pl a (a - s)))) := by
 have hl := isTri_length ht
 induction e with
 | zero =>
  intro k a h hk
  obtain ⟨k, rfl⟩ : ∃ m, k = m + 2 := ⟨k - 2, by omega⟩
  obtain rfl : a = 6 := by omega
  simp only [spec_InsideNot.l0]
  rw [if_neg (by omega)]
  simp only [spec_InsideNot.j1]
  rfl
 | succ e ih =>
  intro k a h hk
  obtain ⟨k, rfl⟩ : ∃ m, k = m + (a + 1) + 1 + 2 := ⟨k - (a + 4), by omega⟩
  simp only [spec_InsideNot.l0]
  rw [if_pos (by omega), spec_TriangleOk_k l (by omega) _ (by omega), Option.bind_some, ht]
  simp only [spec_InsideNot.j1, if_true]
  have := spec_InsideNot_inner l hl a (by omega) (a + 1) k 0 (by omega)
  rw [rowI_zero, List.append_nil] at this
  refine Eq.trans this ?_
  exact ih k (a + 1) (by omega) (by omega)
theorem spec_InsideNot_k (l : List Int) (hl : l.length ≤ 1048576) (k : Nat) (hk : 2097153 ≤ k) : spec_InsideNot.f k l = some (insP l) := by
 unfold spec_InsideNot.f insP
 by_cases ht : isTri l = true
 ·rw [if_pos ht]
  have := spec_InsideNot_outer l ht 6 k 0 (by omega) (by omega)
  refine Eq.trans this ?_
  rw [triBy_eq]
  congr 1
  refine triI_congr _ _ fun a s _ _ _ _ => ?_
  rw [bit_of l ht]
 ·rw [if_neg ht]
  obtain ⟨k, rfl⟩ : ∃ m, k = m + 2 := ⟨k - 2, by omega⟩
  simp only [spec_InsideNot.l0]
  rw [if_pos (by omega), spec_TriangleOk_k l hl _ (by omega), Option.bind_some]
  simp only [spec_InsideNot.j1]
  rw [if_neg ht]
theorem isTri_notP (l : List Int) (h : isTri l = true) : isTri (notP l) = true := by
 unfold notP
 rw [if_pos h]
 exact isTri_triBy _
theorem isTri_insP (l : List Int) (h : isTri l = true) : isTri (insP l) = true := by
 unfold insP
 rw [if_pos h]
 exact isTri_triBy _
theorem isTri_bothP (l m : List Int) (h : isTri l = true) (h' : isTri m = true) : isTri (bothP l m) = true := by
 unfold bothP
 rw [if_pos (by rw [h, h']; rfl)]
 exact isTri_triBy _
theorem isTri_eitherP (l m : List Int) (h : isTri l = true) (h' : isTri m = true) : isTri (eitherP l m) = true := by
 unfold eitherP
 rw [if_pos (by rw [h, h']; rfl)]
 exact isTri_triBy _
/- Plain facts: what the reference's NamedTriangle comes to, with enough rounds, for every text. -/
/-! The reference's rules. -/
def madeB (rule n a s : Int) : Bool :=
 if rule = 0 then s == a else if rule = 1 then decide (n ≤ s) else if rule = 2 then s == n else if rule = 3 then decide (a < 2 * s) else if rule = 4 then s % 2 == 0 else if rule = 5 then a - s == n else false
def madeI (rule n a s : Int) : Int := if madeB rule n a s = true then 1 else 0
theorem spec_l1Made_l1 (rule n : Int) (a : Nat) (ha : a < 6) (d : Nat) : ∀ (m s : Nat), s + d = a + 1 →
  spec_l1Made.l1 (m + d + 1) rule n (rowsI (madeI rule n) a ++ rowI (madeI rule n) a s) (a : Int) (s : Int) = spec_l1Made.l0 m rule n (rowsI (madeI rule n) (a + 1)) ((a + 1 : Nat) : Int) := by
 induction d with
 | zero =>
  intro m s h
  obtain ⟨M, hM⟩ : ∃ M, M = m + 0 := ⟨_, rfl⟩
  rw [← hM, show m = M from by omega]
  simp only [spec_l1Made.l1]
  rw [if_neg (by omega), wrap_succ6 a (by omega), show s = a + 1 from by omega, ← rowsI_succ]
 | succ d ih =>
  intro m s h
  obtain ⟨M, hM⟩ : ∃ M, M = m + d + 1 := ⟨_, rfl⟩
  rw [show m + (d + 1) + 1 = M + 1 from by omega]
  have hb := rows_bound (madeI rule n) a s ha (by omega)
  have w1 : wrap64 (2 * (s : Int)) = 2 * s := by unfold wrap64; omega
  have w2 : wrap64 ((a : Int) - s) = (a : Int) - s := by unfold wrap64; omega
  have hm : Int.tmod (s : Int) 2 = (s : Int) % 2 := Int.tmod_eq_emod_of_nonneg (by omega)
  have hi := ih m (s + 1) (by omega)
  have key : ∀ b : Bool, madeB rule n a s = b → spec_l1Made.l1 M rule n ((rowsI (madeI rule n) a ++ rowI (madeI rule n) a s) ++ [if b = true then 1 else 0]) (a : Int) ((s + 1 : Nat) : Int) = spec_l1Made.l0 m rule n (rowsI (madeI rule n) (a + 1)) ((a + 1 : Nat) : Int) := by
   intro b hb'
   rw [List.append_assoc, show rowI (madeI rule n) a s ++ [if b = true then 1 else 0] = rowI (madeI rule n) a (s + 1) from by rw [rowI_succ, madeI, hb'], hM]
   exact hi
  simp only [spec_l1Made.l1]
  rw [if_pos (by omega), wrap_succ6 s (by omega), w1, w2, hm]
  simp only [if_pos hb]
  have kt := key true
  have kf := key false
  simp only [if_true, Bool.false_eq_true, if_false] at kt kf
  unfold madeB at kt kf
  by_cases r0 : rule = 0
  ·rw [if_pos r0]
   simp only [if_pos r0] at kt kf
   by_cases c : (s : Int) = a
   ·rw [if_pos c]; exact kt (by simpa using c)
   ·rw [if_neg c]; exact kf (by simpa using c)
  ·rw [if_neg r0]
   simp only [if_neg r0] at kt kf
   by_cases r1 : rule = 1
   ·rw [if_pos r1]
    simp only [if_pos r1] at kt kf
    by_cases c : (s : Int) ≥ n
    ·rw [if_pos c]; exact kt (decide_eq_true c)
    ·rw [if_neg c]; exact kf (decide_eq_false c)
   ·rw [if_neg r1]
    simp only [if_neg r1] at kt kf
    by_cases r2 : rule = 2
    ·rw [if_pos r2]
     simp only [if_pos r2] at kt kf
     by_cases c : (s : Int) = n
     ·rw [if_pos c]; exact kt (by simpa using c)
     ·rw [if_neg c]; exact kf (by simpa using c)
    ·rw [if_neg r2]
     simp only [if_neg r2] at kt kf
     by_cases r3 : rule = 3
     ·rw [if_pos r3]
      simp only [if_pos r3] at kt kf
      by_cases c : 2 * (s : Int) > a
      ·rw [if_pos c]; exact kt (decide_eq_true c)
      ·rw [if_neg c]; exact kf (decide_eq_false c)
     ·rw [if_neg r3]
      simp only [if_neg r3] at kt kf
      by_cases r4 : rule = 4
      ·rw [if_pos r4]
       simp only [if_pos r4] at kt kf
       by_cases c : (s : Int) % 2 = 0
       ·rw [if_pos c]; exact kt (by rw [c]; rfl)
       ·rw [if_neg c]; exact kf (beq_eq_false_iff_ne.mpr c)
      ·rw [if_neg r4]
       simp only [if_neg r4] at kt kf
       by_cases r5 : rule = 5
       ·rw [if_pos r5]
        simp only [if_pos r5] at kt kf
        by_cases c : (a : Int) - s = n
        ·rw [if_pos c]; exact kt (beq_iff_eq.mpr c)
        ·rw [if_neg c]; exact kf (beq_eq_false_iff_ne.mpr c)
       ·rw [if_neg r5]
        simp only [if_neg r5] at kt kf
        exact kf trivial
theorem spec_l1Made_l0 (rule n : Int) (e : Nat) : ∀ (k a : Nat), a + e = 6 → 10 * e + 10 < k → spec_l1Made.l0 k rule n (rowsI (madeI rule n) a) (a : Int) = some (triI (madeI rule n)) := by
 induction e with
 | zero =>
  intro k a h hk
  obtain ⟨k, rfl⟩ : ∃ m, k = m + 1 := ⟨k - 1, by omega⟩
  obtain rfl : a = 6 := by omega
  simp only [spec_l1Made.l0]
  rw [if_neg (by omega)]
  rfl
 | succ e ih =>
  intro k a h hk
  obtain ⟨k, rfl⟩ : ∃ m, k = m + (a + 1) + 1 + 1 := ⟨k - (a + 3), by omega⟩
  have hh := spec_l1Made_l1 rule n a (by omega) (a + 1) k 0 (by omega)
  rw [rowI_zero, List.append_nil] at hh
  simp only [spec_l1Made.l0]
  rw [if_pos (by omega)]
  refine Eq.trans hh ?_
  exact ih k (a + 1) (by omega) (by omega)
theorem spec_l1Made_k (rule n : Int) (k : Nat) (hk : 100 ≤ k) : spec_l1Made.f k rule n = some (triI (madeI rule n)) := spec_l1Made_l0 rule n 6 k 0 (by omega) (by omega)
/-! The names. -/
def digitB (n : Int) : ByteArray := strOfNums [(wrap64 (48 + n)) % 256]
theorem spec_l1Number_k (n : Int) (h : n < 10) (k : Nat) (hk : 1 ≤ k) : spec_l1Number.f k n = some (digitB n) := by
 obtain ⟨k, rfl⟩ : ∃ m, k = m + 1 := ⟨k - 1, by omega⟩
 simp only [spec_l1Number.f]
 rw [if_pos h]
 rfl
theorem digit_list (n : Nat) (h : n < 6) : (digitB (n : Int)).data.toList = [UInt8.ofNat (48 + n)] ∧ (digitB (n : Int)).size = 1 := by
 have hf : ∀ i : Fin 6, (digitB (i.val : Int)).data.toList = [UInt8.ofNat (48 + i.val)] ∧ (digitB (i.val : Int)).size = 1 := by decide +kernel
 exact hf ⟨n, h⟩
def wAtleast : List UInt8 := [97, 116, 108, 101, 97, 115, 116]
def wJust : List UInt8 := [106, 117, 115, 116]
def wAllbut : List UInt8 := [97, 108, 108, 98, 117, 116]
/-- What the reference answers to a name, by its letters: from the digit i on. -/
def specDig (L : List UInt8) : Nat → Nat → List Int × Bool
 | 0, _ => ([], false)
 | e + 1, i => if L = wAtleast ++ [UInt8.ofNat (48 + i)] ∧ 0 < i then (triI (madeI 1 i), true) else if L = wJust ++ [UInt8.ofNat (48 + i)] then (triI (madeI 2 i), true) else if L = wAllbut ++ [UInt8.ofNat (48 + i)] then (triI (madeI 5 i), true) else specDig L e (i + 1)
theorem cat_list (W : List UInt8) (n : Nat) (h : n < 6) : ((⟨W.toArray⟩ : ByteArray) ++ digitB (n : Int)).toList = W ++ [UInt8.ofNat (48 + n)] := by
 rw [ByteArray.toList_eq, ByteArray.data_append, Array.toList_append, (digit_list n h).1]
theorem spec_Named_l1 (a0 : ByteArray) (e : Nat) : ∀ (k i : Nat), i + e = 6 → 300 + 3 * e ≤ k → spec_NamedTriangle.l1 k a0 (i : Int) = some (specDig a0.toList e i) := by
 induction e with
 | zero =>
  intro k i h hk
  obtain ⟨k, rfl⟩ : ∃ m, k = m + 1 := ⟨k - 1, by omega⟩
  simp only [spec_NamedTriangle.l1]
  rw [if_neg (by omega)]
  rfl
 | succ e ih =>
  intro k i h hk
  obtain ⟨k, rfl⟩ : ∃ m, k = m + 1 + 1 := ⟨k - 2, by omega⟩
  have hz := (digit_list i (by omega)).2
  have c1 := cat_list wAtleast i (by omega)
  have c2 := cat_list wJust i (by omega)
  have c3 := cat_list wAllbut i (by omega)
  simp only [spec_NamedTriangle.l1]
  rw [if_pos (by omega), spec_l1Number_k _ (by omega) _ (by omega), Option.bind_some, if_pos (by omega), show ((⟨#[97, 116, 108, 101, 97, 115, 116]⟩ : ByteArray) ++ digitB (i : Int)).toList = wAtleast ++ [UInt8.ofNat (48 + i)] from c1]
  have hj : ∀ x : Bool, (x = true → a0.toList = wAtleast ++ [UInt8.ofNat (48 + i)] ∧ 0 < i) → (x = false → ¬ (a0.toList = wAtleast ++ [UInt8.ofNat (48 + i)] ∧ 0 < i)) → spec_NamedTriangle.j2 (k + 1) a0 (i : Int) (digitB (i : Int)) x = some (specDig a0.toList (e + 1) i) := by
   intro x h1 h2
   simp only [spec_NamedTriangle.j2]
   rw [specDig]
   cases x with
   | true =>
    rw [if_pos rfl, spec_l1Made_k _ _ _ (by omega), Option.bind_some, if_pos (h1 rfl)]
   | false =>
    rw [if_neg (by decide), if_neg (h2 rfl), if_pos (by omega), show ((⟨#[106, 117, 115, 116]⟩ : ByteArray) ++ digitB (i : Int)).toList = wJust ++ [UInt8.ofNat (48 + i)] from c2]
    by_cases g2 : a0.toList = wJust ++ [UInt8.ofNat (48 + i)]
    ·rw [if_pos g2, if_pos g2, spec_l1Made_k _ _ _ (by omega), Option.bind_some]
    ·rw [if_neg g2, if_neg g2, if_pos (by omega), show ((⟨#[97, 108, 108, 98, 117, 116]⟩ : ByteArray) ++ digitB (i : Int)).toList = wAllbut ++ [UInt8.ofNat (48 + i)] from c3]
     by_cases g3 : a0.toList = wAllbut ++ [UInt8.ofNat (48 + i)]
     ·rw [if_pos g3, if_pos g3, spec_l1Made_k _ _ _ (by omega), Option.bind_some]
     ·rw [if_neg g3, if_neg g3, wrap_succ6 i (by omega)]
      exact ih k (i + 1) (by omega) (by omega)
  by_cases g1 : a0.toList = wAtleast ++ [UInt8.ofNat (48 + i)]
  ·rw [if_pos g1]
   refine hj _ (fun h => ⟨g1, by have := of_decide_eq_true h; omega⟩) (fun h h' => ?_)
   have := of_decide_eq_false h
   omega
  ·rw [if_neg g1]
   exact hj false (fun h => absurd h (by decide)) (fun _ h' => g1 h'.1)
def specNm (L : List UInt8) : List Int × Bool :=
 if L = [101, 118, 101, 114, 121] then (triI (madeI 0 0), true) else if L = [115, 111, 109, 101] then (triI (madeI 1 1), true) else if L = [110, 111] then (triI (madeI 2 0), true) else if L = [109, 111, 115, 116] then (triI (madeI 3 0), true) else if L = [101, 118, 101, 110] then (triI (madeI 4 0), true) else specDig L 6 0
theorem spec_NamedTriangle_k (a0 : ByteArray) (k : Nat) (hk : 1000 ≤ k) : spec_NamedTriangle.f k a0 = some (specNm a0.toList) := by
 obtain ⟨k, rfl⟩ : ∃ m, k = m + 5 + 1 := ⟨k - 6, by omega⟩
 have hl := spec_Named_l1 a0 6 k 0 (by omega) (by omega)
 have m0 := fun r n => spec_l1Made_k r n (k + 5) (by omega)
 have m1 := fun r n => spec_l1Made_k r n (k + 4) (by omega)
 have m2 := fun r n => spec_l1Made_k r n (k + 3) (by omega)
 have m3 := fun r n => spec_l1Made_k r n (k + 2) (by omega)
 have m4 := fun r n => spec_l1Made_k r n (k + 1) (by omega)
 unfold spec_NamedTriangle.f specNm
 obtain ⟨x, hx⟩ : ∃ x, specDig a0.toList 6 0 = x := ⟨_, rfl⟩
 rw [hx] at hl ⊢
 have t0 : ((⟨#[101, 118, 101, 114, 121]⟩ : ByteArray)).toList = [101, 118, 101, 114, 121] := by rw [ByteArray.toList_eq]
 have t1 : ((⟨#[115, 111, 109, 101]⟩ : ByteArray)).toList = [115, 111, 109, 101] := by rw [ByteArray.toList_eq]
 have t2 : ((⟨#[110, 111]⟩ : ByteArray)).toList = [110, 111] := by rw [ByteArray.toList_eq]
 have t3 : ((⟨#[109, 111, 115, 116]⟩ : ByteArray)).toList = [109, 111, 115, 116] := by rw [ByteArray.toList_eq]
 have t4 : ((⟨#[101, 118, 101, 110]⟩ : ByteArray)).toList = [101, 118, 101, 110] := by rw [ByteArray.toList_eq]
 obtain ⟨ns, hns⟩ : ∃ ns : List ByteArray, ns = [(⟨#[101, 118, 101, 114, 121]⟩ : ByteArray), (⟨#[115, 111, 109, 101]⟩ : ByteArray), (⟨#[110, 111]⟩ : ByteArray), (⟨#[109, 111, 115, 116]⟩ : ByteArray), (⟨#[101, 118, 101, 110]⟩ : ByteArray)] := ⟨_, rfl⟩
 rw [← hns]
 have nl : ns.length = 5 := by rw [hns]; rfl
 have r0 : (rdOf ByteArray.empty ns 0).toList = [101, 118, 101, 114, 121] := by rw [hns]; exact t0
 have r1 : (rdOf ByteArray.empty ns 1).toList = [115, 111, 109, 101] := by rw [hns]; exact t1
 have r2 : (rdOf ByteArray.empty ns 2).toList = [110, 111] := by rw [hns]; exact t2
 have r3 : (rdOf ByteArray.empty ns 3).toList = [109, 111, 115, 116] := by rw [hns]; exact t3
 have r4 : (rdOf ByteArray.empty ns 4).toList = [101, 118, 101, 110] := by rw [hns]; exact t4
 have l5 : spec_NamedTriangle.l0 (k + 1) a0 ns 5 = some x := by
  rw [spec_NamedTriangle.l0]
  rw [if_neg (by omega)]
  exact hl
 have l4 : spec_NamedTriangle.l0 (k + 2) a0 ns 4 = some (if a0.toList = [101, 118, 101, 110] then (triI (madeI 4 0), true) else x) := by
  rw [spec_NamedTriangle.l0]
  rw [if_pos (by omega), if_pos (by omega), r4]
  by_cases g : a0.toList = [101, 118, 101, 110]
  ·rw [if_pos g, if_pos g, Option.bind_some, if_pos (by decide), Option.bind_some, if_pos (by decide), show rd [0, 1, 2, 3, 4] 4 = 4 from rfl, show rd [0, 1, 0, 0, 0] 4 = 0 from rfl, m4 4 0, Option.bind_some]
  ·rw [if_neg g, if_neg g, show wrap64 ((4 : Int) + 1) = 5 from by unfold wrap64; omega]
   exact l5
 have l3 : spec_NamedTriangle.l0 (k + 3) a0 ns 3 = some (if a0.toList = [109, 111, 115, 116] then (triI (madeI 3 0), true) else if a0.toList = [101, 118, 101, 110] then (triI (madeI 4 0), true) else x) := by
  rw [spec_NamedTriangle.l0]
  rw [if_pos (by omega), if_pos (by omega), r3]
  by_cases g : a0.toList = [109, 111, 115, 116]
  ·rw [if_pos g, if_pos g, Option.bind_some, if_pos (by decide), Option.bind_some, if_pos (by decide), show rd [0, 1, 2, 3, 4] 3 = 3 from rfl, show rd [0, 1, 0, 0, 0] 3 = 0 from rfl, m3 3 0, Option.bind_some]
  ·rw [if_neg g, if_neg g, show wrap64 ((3 : Int) + 1) = 4 from by unfold wrap64; omega]
   exact l4
 have l2 : spec_NamedTriangle.l0 (k + 4) a0 ns 2 = some (if a0.toList = [110, 111] then (triI (madeI 2 0), true) else if a0.toList = [109, 111, 115, 116] then (triI (madeI 3 0), true) else if a0.toList = [101, 118, 101, 110] then (triI (madeI 4 0), true) else x) := by
  rw [spec_NamedTriangle.l0]
  rw [if_pos (by omega), if_pos (by omega), r2]
  by_cases g : a0.toList = [110, 111]
  ·rw [if_pos g, if_pos g, Option.bind_some, if_pos (by decide), Option.bind_some, if_pos (by decide), show rd [0, 1, 2, 3, 4] 2 = 2 from rfl, show rd [0, 1, 0, 0, 0] 2 = 0 from rfl, m2 2 0, Option.bind_some]
  ·rw [if_neg g, if_neg g, show wrap64 ((2 : Int) + 1) = 3 from by unfold wrap64; omega]
   exact l3
 have l1 : spec_NamedTriangle.l0 (k + 5) a0 ns 1 = some (if a0.toList = [115, 111, 109, 101] then (triI (madeI 1 1), true) else if a0.toList = [110, 111] then (triI (madeI 2 0), true) else if a0.toList = [109, 111, 115, 116] then (triI (madeI 3 0), true) else if a0.toList = [101, 118, 101, 110] then (triI (madeI 4 0), true) else x) := by
  rw [spec_NamedTriangle.l0]
  rw [if_pos (by omega), if_pos (by omega), r1]
  by_cases g : a0.toList = [115, 111, 109, 101]
  ·rw [if_pos g, if_pos g, Option.bind_some, if_pos (by decide), Option.bind_some, if_pos (by decide), show rd [0, 1, 2, 3, 4] 1 = 1 from rfl, show rd [0, 1, 0, 0, 0] 1 = 1 from rfl, m1 1 1, Option.bind_some]
  ·rw [if_neg g, if_neg g, show wrap64 ((1 : Int) + 1) = 2 from by unfold wrap64; omega]
   exact l2
 rw [spec_NamedTriangle.l0]
 rw [if_pos (by omega), if_pos (by omega), r0]
 by_cases g : a0.toList = [101, 118, 101, 114, 121]
 ·rw [if_pos g, if_pos g, Option.bind_some, if_pos (by decide), Option.bind_some, if_pos (by decide), show rd [0, 1, 2, 3, 4] 0 = 0 from rfl, show rd [0, 1, 0, 0, 0] 0 = 0 from rfl, m0 0 0, Option.bind_some]
 ·rw [if_neg g, if_neg g, show wrap64 ((0 : Int) + 1) = 1 from by unfold wrap64; omega]
  exact l1
theorem madeI_bit (r n a s : Int) : madeI r n a s = 0 ∨ madeI r n a s = 1 := by
 unfold madeI
 split
 ·exact .inr rfl
 ·exact .inl rfl
theorem specDig_form (L : List UInt8) : ∀ e i, (∃ r n, specDig L e i = (triI (madeI r n), true)) ∨ specDig L e i = ([], false)
 | 0, _ => .inr rfl
 | e + 1, i => by
  rw [specDig]
  split
  ·exact .inl ⟨_, _, rfl⟩
  ·split
   ·exact .inl ⟨_, _, rfl⟩
   ·split
    ·exact .inl ⟨_, _, rfl⟩
    ·exact specDig_form L e (i + 1)
theorem specNm_form (L : List UInt8) : (∃ r n, specNm L = (triI (madeI r n), true)) ∨ specNm L = ([], false) := by
 unfold specNm
 repeat' split
 all_goals first | exact .inl ⟨_, _, rfl⟩ | exact specDig_form L 6 0
theorem isTri_made (r n : Int) : isTri (triI (madeI r n)) = true := isTri_triI _ fun a s _ _ _ _ => madeI_bit r n a s
def l20N : List ByteArray := [(⟨#[101, 118, 101, 114, 121]⟩ : ByteArray), (⟨#[115, 111, 109, 101]⟩ : ByteArray), (⟨#[110, 111]⟩ : ByteArray), (⟨#[109, 111, 115, 116]⟩ : ByteArray), (⟨#[101, 118, 101, 110]⟩ : ByteArray), (⟨#[97, 116, 108, 101, 97, 115, 116, 50]⟩ : ByteArray), (⟨#[97, 116, 108, 101, 97, 115, 116, 51]⟩ : ByteArray), (⟨#[106, 117, 115, 116, 49]⟩ : ByteArray), (⟨#[106, 117, 115, 116, 50]⟩ : ByteArray), (⟨#[97, 108, 108, 98, 117, 116, 49]⟩ : ByteArray)]
theorem names_in (r : Int) (h0 : 0 ≤ r) (h1 : r < 10) : ∃ t, specNm (rdOf ByteArray.empty l20N r).toList = (t, true) ∧ isTri t = true := by
 have hf : ∀ i : Fin 10, (specNm (rdOf ByteArray.empty l20N (i.val : Int)).data.toList).2 = true := by decide +kernel
 have := hf ⟨r.toNat, by omega⟩
 simp only [] at this
 rw [show ((r.toNat : Nat) : Int) = r by omega, ← ByteArray.toList_eq] at this
 rcases specNm_form (rdOf ByteArray.empty l20N r).toList with ⟨a, b, e⟩ | e
 ·exact ⟨_, e, isTri_made a b⟩
 ·rw [e] at this
  exact absurd this Bool.false_ne_true
end Go.Proofs.Ytcongmckkjbhiaa.P
