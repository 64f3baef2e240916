-- Texts of this claim, laid one behind the other by wip/gen/merge.py.
import Derived.Test.YtcongmckkjbhiaaZFnBothWays11
import Derived.Test.YtcongmckkjbhiaaZFnBothWays1
import Derived.Test.YtcongmckkjbhiaaZFnBothWays12
import Derived.Test.YtcongmckkjbhiaaZFnBothWays6
import Derived.Test.YtcongmckkjbhiaaZFnBothWays7
import Derived.Test.YtcongmckkjbhiaaZFnBothWays5
import Derived.Test.YtcongmckkjbhiaaZFnBothWays10
import Derived.Test.YtcongmckkjbhiaaZFnBothWays2
import Derived.Laws.Entries
import Derived.Test.YtcongmckkjbhiaaZFnBothWays8
import Derived.Test.YtcongmckkjbhiaaZFnBothWays0
import Derived.Test.YtcongmckkjbhiaaWLast
/- Plain facts on triangles: what the printed l1In, PlaceOf, TriangleOk (reference and program) come to; lists of 21 numbers by places. -/
namespace Go.Proofs.Ytcongmckkjbhiaa.P
open Go.RowKit Go.Proofs.YtcongmckkjbhiaaW.PrintWords Go.Proofs.YtcongmckkjbhiaaW.PrintLast
theorem l1In_eq (n a b : Int) : spec_l1In.f n a b = some (decide (a ≤ n ∧ n ≤ b)) := by
 unfold spec_l1In.f
 by_cases h : n ≥ a
 ·rw [if_pos h]; congr 1; rw [decide_eq_decide]; omega
 ·rw [if_neg h]; congr 1; symm; rw [decide_eq_false_iff_not]; omega
/-- The place of an entry. -/
def pl (a s : Int) : Int := a * (a + 1) / 2 + s
theorem five (a : Int) (h1 : 0 ≤ a) (h2 : a ≤ 5) : a = 0 ∨ a = 1 ∨ a = 2 ∨ a = 3 ∨ a = 4 ∨ a = 5 := by omega
theorem pl_range (a s : Int) (h1 : 0 ≤ a) (h2 : a ≤ 5) (h3 : 0 ≤ s) (h4 : s ≤ a) : 0 ≤ pl a s ∧ pl a s < 21 := by
 unfold pl
 rcases five a h1 h2 with rfl | rfl | rfl | rfl | rfl | rfl <;> omega
theorem pl_wrap (a s : Int) (h1 : 0 ≤ a) (h2 : a ≤ 5) (h3 : 0 ≤ s) (h4 : s ≤ a) : wrap64 ((wrap64 (Int.tdiv (wrap64 (a * (wrap64 (a + 1)))) 2)) + s) = pl a s := by
 unfold pl
 rcases five a h1 h2 with rfl | rfl | rfl | rfl | rfl | rfl <;> (simp [wrap64]; omega)
/-- The place, or -1. -/
def plOr (a s : Int) : Int := if 0 ≤ a ∧ a ≤ 5 ∧ 0 ≤ s ∧ s ≤ a then pl a s else -1
theorem spec_PlaceOf_eq (a s : Int) : spec_PlaceOf.f a s = some (plOr a s) := by
 unfold spec_PlaceOf.f plOr
 simp only [l1In_eq, Option.bind_some, decide_eq_true_eq]
 by_cases h : 0 ≤ a ∧ a ≤ 5
 ·rw [if_pos h]
  by_cases h' : 0 ≤ s ∧ s ≤ a
  ·rw [if_pos h', if_pos ⟨h.1, h.2, h'.1, h'.2⟩, pl_wrap a s h.1 h.2 h'.1 h'.2]
  ·rw [if_neg h', if_neg (fun h2 => h' ⟨h2.2.2.1, h2.2.2.2⟩)]
 ·rw [if_neg h, if_neg (fun h2 => h ⟨h2.1, h2.2.1⟩)]
theorem plOr_in (a s : Int) (h1 : 0 ≤ a) (h2 : a ≤ 5) (h3 : 0 ≤ s) (h4 : s ≤ a) : plOr a s = pl a s := if_pos ⟨h1, h2, h3, h4⟩
theorem spec_TriangleOk_round (l : List Int) (hl : l.length ≤ 1048576) (d : Nat) : ∀ (k i : Nat), i + d = l.length → d < k → spec_TriangleOk.l0 k l (i : Int) = some ((l.drop i).all (fun x => x == 0 || x == 1) && l.length == 21) := by
 induction d with
 | zero =>
  intro k i h hk
  obtain ⟨k, rfl⟩ : ∃ m, k = m + 1 := ⟨k - 1, by omega⟩
  simp only [spec_TriangleOk.l0]
  rw [if_neg (by omega), List.drop_of_length_le (by omega), List.all_nil, Bool.true_and]
  congr 1
  rw [Bool.eq_iff_iff, beq_iff_eq, beq_iff_eq]
  omega
 | succ d ih =>
  intro k i h hk
  obtain ⟨k, rfl⟩ : ∃ m, k = m + 1 := ⟨k - 1, by omega⟩
  have hi : i < l.length := by omega
  have hd_ : l.drop i = l[i] :: l.drop (i + 1) := List.drop_eq_getElem_cons hi
  simp only [spec_TriangleOk.l0]
  rw [if_pos (by omega), if_pos (by omega), rd_get l i hi, l1In_eq, Option.bind_some, wrap_succ i l.length hi hl, ih k (i + 1) (by omega) (by omega), hd_, List.all_cons]
  by_cases h0 : l[i] = 0 ∨ l[i] = 1
  ·rw [if_pos (decide_eq_true (by omega)), show (l[i] == 0 || l[i] == 1) = true from by simpa using h0, Bool.true_and]
  ·rw [if_neg (by rw [decide_eq_true_eq]; omega), show (l[i] == 0 || l[i] == 1) = false from by simpa using h0, Bool.false_and, Bool.false_and]
theorem spec_TriangleOk_k (l : List Int) (hl : l.length ≤ 1048576) (k : Nat) (hk : 1048576 < k) : spec_TriangleOk.f k l = some (isTri l) := by
 unfold spec_TriangleOk.f isTri
 simpa using spec_TriangleOk_round l hl l.length k 0 (by omega) (by omega)
/-! The 21 places. -/
def pairs : List (Int × Int) := [(0, 0), (1, 0), (1, 1), (2, 0), (2, 1), (2, 2), (3, 0), (3, 1), (3, 2), (3, 3), (4, 0), (4, 1), (4, 2), (4, 3), (4, 4), (5, 0), (5, 1), (5, 2), (5, 3), (5, 4), (5, 5)]
/-- The list of a number at each place. -/
def triI (f : Int → Int → Int) : List Int := pairs.map fun p => f p.1 p.2
theorem pairs_range (p : Int × Int) (h : p ∈ pairs) : 0 ≤ p.1 ∧ p.1 ≤ 5 ∧ 0 ≤ p.2 ∧ p.2 ≤ p.1 := by
 revert p
 decide
theorem triI_length (f : Int → Int → Int) : (triI f).length = 21 := by simp [triI, pairs]
theorem triBy_eq (so : Int → Int → Bool) : triBy so = triI fun a s => if so a s = true then 1 else 0 := rfl
theorem triI_congr (f g : Int → Int → Int) (h : ∀ a s, 0 ≤ a → a ≤ 5 → 0 ≤ s → s ≤ a → f a s = g a s) : triI f = triI g := by
 unfold triI
 apply List.map_congr_left
 intro p hp
 obtain ⟨h1, h2, h3, h4⟩ := pairs_range p hp
 exact h p.1 p.2 h1 h2 h3 h4
theorem tri_bit (l : List Int) (h : isTri l = true) (i : Int) : rd l i = 0 ∨ rd l i = 1 := by
 unfold rd
 rw [List.getD_eq_getElem?_getD]
 by_cases hi : i.toNat < l.length
 ·rw [List.getElem?_eq_getElem hi, Option.getD_some]
  simp only [isTri, Bool.and_eq_true, List.all_eq_true] at h
  have := h.1 _ (List.getElem_mem hi)
  simpa using this
 ·rw [List.getElem?_eq_none (by omega)]
  exact .inl rfl
theorem isTri_of (l : List Int) (h1 : l.length = 21) (h2 : ∀ x ∈ l, x = 0 ∨ x = 1) : isTri l = true := by
 simp only [isTri, Bool.and_eq_true, List.all_eq_true]
 exact ⟨fun x hx => by simpa using h2 x hx, by simpa using h1⟩
theorem isTri_triI (f : Int → Int → Int) (h : ∀ a s, 0 ≤ a → a ≤ 5 → 0 ≤ s → s ≤ a → f a s = 0 ∨ f a s = 1) : isTri (triI f) = true := by
 refine isTri_of _ (triI_length f) fun x hx => ?_
 obtain ⟨p, hp, rfl⟩ := List.mem_map.mp hx
 obtain ⟨h1, h2, h3, h4⟩ := pairs_range p hp
 exact h p.1 p.2 h1 h2 h3 h4
theorem isTri_triBy (so : Int → Int → Bool) : isTri (triBy so) = true := by
 rw [triBy_eq]
 refine isTri_triI _ fun a s _ _ _ _ => ?_
 by_cases h : so a s = true
 ·rw [if_pos h]; exact .inr rfl
 ·rw [if_neg h]; exact .inl rfl
/- Plain facts on lists of numbers by rows and by indexes, and on the entries of a triangle. No condition beyond those typed. -/
/-! Lists by rows, and by indexes. -/
def rowI (f : Int → Int → Int) (a m : Nat) : List Int := (List.range m).map fun (s : Nat) => f (a : Int) (s : Int)
def rowsI (f : Int → Int → Int) (n : Nat) : List Int := (List.range n).flatMap fun a => rowI f a (a + 1)
theorem rowI_zero (f : Int → Int → Int) (a : Nat) : rowI f a 0 = [] := rfl
theorem rowI_succ (f : Int → Int → Int) (a m : Nat) : rowI f a (m + 1) = rowI f a m ++ [f a m] := by simp [rowI, List.range_succ]
theorem rowsI_succ (f : Int → Int → Int) (n : Nat) : rowsI f (n + 1) = rowsI f n ++ rowI f n (n + 1) := by simp [rowsI, List.range_succ]
theorem rowI_length (f : Int → Int → Int) (a m : Nat) : (rowI f a m).length = m := by simp [rowI]
theorem rowsI_length_le (f : Int → Int → Int) : ∀ n, n ≤ 6 → (rowsI f n).length ≤ 6 * n
 | 0, _ => by simp [rowsI]
 | n + 1, h => by
  have := rowsI_length_le f n (by omega)
  rw [rowsI_succ, List.length_append, rowI_length]
  omega
theorem rows_bound (f : Int → Int → Int) (n m : Nat) (hn : n < 6) (hm : m ≤ n + 1) : (rowsI f n ++ rowI f n m).length < 17592186044416 := by
 have := rowsI_length_le f n (by omega)
 rw [List.length_append, rowI_length]
 omega
def idx (f : Int → Int) (n : Nat) : List Int := (List.range n).map fun (j : Nat) => f (j : Int)
theorem idx_succ (f : Int → Int) (n : Nat) : idx f (n + 1) = idx f n ++ [f n] := by simp [idx, List.range_succ]
theorem idx_length (f : Int → Int) (n : Nat) : (idx f n).length = n := by simp [idx]
theorem idx_tri (f : Int → Int) : idx f 21 = triI fun a s => f (pl a s) := rfl
theorem wrap_succ6 (i : Nat) (h : i ≤ 100) : wrap64 ((i : Int) + 1) = ((i + 1 : Nat) : Int) := by unfold wrap64; omega
theorem bit_of (l : List Int) (h : isTri l = true) (a s : Int) : rd l (pl a s) = if hd l a s = true then 1 else 0 := by
 unfold hd
 rcases tri_bit l h (pl a s) with e | e
 ·rw [show a * (a + 1) / 2 + s = pl a s from rfl, e]; rfl
 ·rw [show a * (a + 1) / 2 + s = pl a s from rfl, e]; rfl
/- Plain facts: what the reference's NotOf, BothOf, EitherOf, InsideNot, DualOf come to, with enough rounds, for lists of at most 2^20 numbers. -/
/-! NotOf -/
def notP (l : List Int) : List Int := if isTri l = true then triBy (fun a s => !(hd l a s)) else []
theorem spec_NotOf_round (l : List Int) (hl : l.length ≤ 1048576) (ht : isTri l = true) (d : Nat) : ∀ (k i : Nat), i + d = l.length → d + 1048576 < k → spec_NotOf.l0 k l (idx (fun j => wrap64 (1 - rd l j)) i) (i : Int) = some (idx (fun j => wrap64 (1 - rd l j)) l.length) := by
 induction d with
 | zero =>
  intro k i h hk
  obtain ⟨k, rfl⟩ : ∃ m, k = m + 1 := ⟨k - 1, by omega⟩
  simp only [spec_NotOf.l0]
  rw [if_neg (by omega), show i = l.length from by omega]
 | succ d ih =>
  intro k i h hk
  obtain ⟨k, rfl⟩ : ∃ m, k = m + 1 := ⟨k - 1, by omega⟩
  simp only [spec_NotOf.l0]
  rw [if_pos (by omega), spec_TriangleOk_k l hl k (by omega), Option.bind_some, ht, if_pos rfl, if_pos (by omega), if_pos (by rw [idx_length]; omega), wrap_succ i l.length (by omega) hl, ← idx_succ]
  exact ih k (i + 1) (by omega) (by omega)
theorem spec_NotOf_k (l : List Int) (hl : l.length ≤ 1048576) (k : Nat) (hk : 2097153 ≤ k) : spec_NotOf.f k l = some (notP l) := by
 unfold spec_NotOf.f notP
 by_cases ht : isTri l = true
 ·have h := spec_NotOf_round l hl ht l.length k 0 (by omega) (by omega)
  rw [isTri_length ht, idx_tri] at h
  rw [if_pos ht]
  refine Eq.trans h ?_
  rw [triBy_eq]
  congr 1
  refine triI_congr _ _ fun a s _ _ _ _ => ?_
  rw [bit_of l ht]
  cases hd l a s <;> simp [wrap64]
 ·rw [if_neg ht]
  obtain ⟨k, rfl⟩ : ∃ m, k = m + 1 := ⟨k - 1, by omega⟩
  simp only [spec_NotOf.l0]
  by_cases h0 : (0 : Int) < (l.length : Int)
  ·rw [if_pos h0, spec_TriangleOk_k l hl k (by omega), Option.bind_some, if_neg ht]
  ·rw [if_neg h0]
/-! BothOf, EitherOf -/
def bothP (l m : List Int) : List Int := if (isTri l && isTri m) = true then triBy (fun a s => hd l a s && hd m a s) else []
def eitherP (l m : List Int) : List Int := if (isTri l && isTri m) = true then triBy (fun a s => hd l a s || hd m a s) else []
theorem spec_BothOf_round (l m : List Int) (hl : l.length ≤ 1048576) (hm : m.length ≤ 1048576) (ht : isTri l = true) (hu : isTri m = true) (d : Nat) : ∀ (k i : Nat), i + d = l.length → d + 1048576 < k → spec_BothOf.l0 k l m (idx (fun j => wrap64 (rd l j * rd m j)) i) (i : Int) = some (idx (fun j => wrap64 (rd l j * rd m j)) l.length) := by
 induction d with
 | zero =>
  intro k i h hk
  obtain ⟨k, rfl⟩ : ∃ m, k = m + 1 := ⟨k - 1, by omega⟩
  simp only [spec_BothOf.l0]
  rw [if_neg (by omega), show i = l.length from by omega]
 | succ d ih =>
  intro k i h hk
  obtain ⟨k, rfl⟩ : ∃ m, k = m + 1 := ⟨k - 1, by omega⟩
  have h1 := isTri_length ht
  have h2 := isTri_length hu
  simp only [spec_BothOf.l0]
  rw [if_pos (by omega), spec_TriangleOk_k l hl k (by omega), Option.bind_some, ht, if_pos rfl, spec_TriangleOk_k m hm k (by omega), Option.bind_some, hu, if_pos rfl, if_pos (by omega), if_pos (by omega), if_pos (by rw [idx_length]; omega), wrap_succ i l.length (by omega) hl, ← idx_succ]
  exact ih k (i + 1) (by omega) (by omega)
theorem spec_BothOf_k (l m : List Int) (hl : l.length ≤ 1048576) (hm : m.length ≤ 1048576) (k : Nat) (hk : 2097153 ≤ k) : spec_BothOf.f k l m = some (bothP l m) := by
 unfold spec_BothOf.f bothP
 by_cases ht : isTri l = true
 ·by_cases hu : isTri m = true
  ·have h := spec_BothOf_round l m hl hm ht hu l.length k 0 (by omega) (by omega)
   rw [isTri_length ht, idx_tri] at h
   rw [if_pos (show (isTri l && isTri m) = true from by rw [ht, hu]; rfl)]
   refine Eq.trans h ?_
   rw [triBy_eq]
   congr 1
   refine triI_congr _ _ fun a s _ _ _ _ => ?_
   rw [bit_of l ht, bit_of m hu]
   cases hd l a s <;> cases hd m a s <;> simp [wrap64]
  ·rw [if_neg (show ¬ (isTri l && isTri m) = true from by rw [ht, Bool.eq_false_iff.mpr hu]; decide)]
   obtain ⟨k, rfl⟩ : ∃ m, k = m + 1 := ⟨k - 1, by omega⟩
   simp only [spec_BothOf.l0]
   have := isTri_length ht
   rw [if_pos (by omega), spec_TriangleOk_k l hl k (by omega), Option.bind_some, ht, if_pos rfl, spec_TriangleOk_k m hm k (by omega), Option.bind_some, if_neg hu]
 ·rw [if_neg (show ¬ (isTri l && isTri m) = true from by rw [Bool.eq_false_iff.mpr ht, Bool.false_and]; decide)]
  obtain ⟨k, rfl⟩ : ∃ m, k = m + 1 := ⟨k - 1, by omega⟩
  simp only [spec_BothOf.l0]
  by_cases h0 : (0 : Int) < (l.length : Int)
  ·rw [if_pos h0, spec_TriangleOk_k l hl k (by omega), Option.bind_some, if_neg ht]
  ·rw [if_neg h0]
theorem spec_EitherOf_round (l m : List Int) (hl : l.length ≤ 1048576) (hm : m.length ≤ 1048576) (ht : isTri l = true) (hu : isTri m = true) (d : Nat) : ∀ (k i : Nat), i + d = l.length → d + 1048576 < k → spec_EitherOf.l0 k l m (idx (fun j => wrap64 (wrap64 (rd l j + rd m j) - wrap64 (rd l j * rd m j))) i) (i : Int) = some (idx (fun j => wrap64 (wrap64 (rd l j + rd m j) - wrap64 (rd l j * rd m j))) l.length) := by
 induction d with
 | zero =>
  intro k i h hk
  obtain ⟨k, rfl⟩ : ∃ m, k = m + 1 := ⟨k - 1, by omega⟩
  simp only [spec_EitherOf.l0]
  rw [if_neg (by omega), show i = l.length from by omega]
 | succ d ih =>
  intro k i h hk
  obtain ⟨k, rfl⟩ : ∃ m, k = m + 1 := ⟨k - 1, by omega⟩
  have h1 := isTri_length ht
  have h2 := isTri_length hu
  simp only [spec_EitherOf.l0]
  rw [if_pos (by omega), spec_TriangleOk_k l hl k (by omega), Option.bind_some, ht, if_pos rfl, spec_TriangleOk_k m hm k (by omega), Option.bind_some, hu, if_pos rfl, if_pos (by omega), if_pos (by omega), if_pos (by rw [idx_length]; omega), wrap_succ i l.length (by omega) hl, ← idx_succ]
  exact ih k (i + 1) (by omega) (by omega)
theorem spec_EitherOf_k (l m : List Int) (hl : l.length ≤ 1048576) (hm : m.length ≤ 1048576) (k : Nat) (hk : 2097153 ≤ k) : spec_EitherOf.f k l m = some (eitherP l m) := by
 unfold spec_EitherOf.f eitherP
 by_cases ht : isTri l = true
 ·by_cases hu : isTri m = true
  ·have h := spec_EitherOf_round l m hl hm ht hu l.length k 0 (by omega) (by omega)
   rw [isTri_length ht, idx_tri] at h
   rw [if_pos (show (isTri l && isTri m) = true from by rw [ht, hu]; rfl)]
   refine Eq.trans h ?_
   rw [triBy_eq]
   congr 1
   refine triI_congr _ _ fun a s _ _ _ _ => ?_
   rw [bit_of l ht, bit_of m hu]
   cases hd l a s <;> cases hd m a s <;> simp [wrap64]
  ·rw [if_neg (show ¬ (isTri l && isTri m) = true from by rw [ht, Bool.eq_false_iff.mpr hu]; decide)]
   obtain ⟨k, rfl⟩ : ∃ m, k = m + 1 := ⟨k - 1, by omega⟩
   simp only [spec_EitherOf.l0]
   have := isTri_length ht
   rw [if_pos (by omega), spec_TriangleOk_k l hl k (by omega), Option.bind_some, ht, if_pos rfl, spec_TriangleOk_k m hm k (by omega), Option.bind_some, if_neg hu]
 ·rw [if_neg (show ¬ (isTri l && isTri m) = true from by rw [Bool.eq_false_iff.mpr ht, Bool.false_and]; decide)]
  obtain ⟨k, rfl⟩ : ∃ m, k = m + 1 := ⟨k - 1, by omega⟩
  simp only [spec_EitherOf.l0]
  by_cases h0 : (0 : Int) < (l.length : Int)
  ·rw [if_pos h0, spec_TriangleOk_k l hl k (by omega), Option.bind_some, if_neg ht]
  ·rw [if_neg h0]
/-! InsideNot, DualOf -/
def insP (l : List Int) : List Int := if isTri l = true then triBy (fun a s => hd l a (a - s)) else []
theorem spec_InsideNot_inner (l : List Int) (hl : l.length = 21) (a : Nat) (ha : a < 6) (d : Nat) : ∀ (m s : Nat), s + d = a + 1 →
  spec_InsideNot.l1 (m + d + 1) l (rowsI (fun a s => rd l (pl a (a - s))) a ++ rowI (fun a s => rd l (pl a (a - s))) a s) (a : Int) (s : Int) = spec_InsideNot.l0 m l (rowsI (fun a s => rd l (pl a (a - s))) (a + 1)) ((a + 1 : Nat) : Int) := by
 induction d with
 | zero =>
  intro m s h
  simp only [spec_InsideNot.l1]
  rw [if_neg (by omega), wrap_succ6 a (by omega), show s = a + 1 from by omega, ← rowsI_succ]
 | succ d ih =>
  intro m s h
  rw [show m + (d + 1) + 1 = (m + d + 1) + 1 from by omega]
  simp only [spec_InsideNot.l1]
  have hw : wrap64 ((a : Int) - s) = (a : Int) - s := by unfold wrap64; omega
  have hr := pl_range a ((a : Int) - s) (by omega) (by omega) (by omega) (by omega)
  rw [if_pos (by omega), hw, spec_PlaceOf_eq, plOr_in _ _ (by omega) (by omega) (by omega) (by omega), Option.bind_some, if_pos hr.1, if_pos (by omega), if_pos (rows_bound _ a s ha (by omega)), wrap_succ6 s (by omega), List.append_assoc, ← rowI_succ (fun a s => rd l (pl a (a - s))) a s]
  exact ih m (s + 1) (by omega)
theorem spec_InsideNot_outer (l : List Int) (ht : isTri l = true) (e : Nat) : ∀ (k a : Nat), a + e = 6 → 10 * e + 1048600 < k →
  spec_InsideNot.l0 k l (rowsI (fun a s => rd l (pl a (a - s))) a) (a : Int) = some (triI (fun a s => rd l (pl a (a - s)))) := by
 have hl := isTri_length ht
 induction e with
 | zero =>
  intro k a h hk
  obtain ⟨k, rfl⟩ : ∃ m, k = m + 2 := ⟨k - 2, by omega⟩
  obtain rfl : a = 6 := by omega
  simp only [spec_InsideNot.l0]
  rw [if_neg (by omega)]
  simp only [spec_InsideNot.j1]
  rfl
 | succ e ih =>
  intro k a h hk
  obtain ⟨k, rfl⟩ : ∃ m, k = m + (a + 1) + 1 + 2 := ⟨k - (a + 4), by omega⟩
  simp only [spec_InsideNot.l0]
  rw [if_pos (by omega), spec_TriangleOk_k l (by omega) _ (by omega), Option.bind_some, ht]
  simp only [spec_InsideNot.j1, if_true]
  have := spec_InsideNot_inner l hl a (by omega) (a + 1) k 0 (by omega)
  rw [rowI_zero, List.append_nil] at this
  refine Eq.trans this ?_
  exact ih k (a + 1) (by omega) (by omega)
theorem spec_InsideNot_k (l : List Int) (hl : l.length ≤ 1048576) (k : Nat) (hk : 2097153 ≤ k) : spec_InsideNot.f k l = some (insP l) := by
 unfold spec_InsideNot.f insP
 by_cases ht : isTri l = true
 ·rw [if_pos ht]
  have := spec_InsideNot_outer l ht 6 k 0 (by omega) (by omega)
  refine Eq.trans this ?_
  rw [triBy_eq]
  congr 1
  refine triI_congr _ _ fun a s _ _ _ _ => ?_
  rw [bit_of l ht]
 ·rw [if_neg ht]
  obtain ⟨k, rfl⟩ : ∃ m, k = m + 2 := ⟨k - 2, by omega⟩
  simp only [spec_InsideNot.l0]
  rw [if_pos (by omega), spec_TriangleOk_k l hl _ (by omega), Option.bind_some]
  simp only [spec_InsideNot.j1]
  rw [if_neg ht]
theorem isTri_notP (l : List Int) (h : isTri l = true) : isTri (notP l) = true := by
 unfold notP
 rw [if_pos h]
 exact isTri_triBy _
theorem isTri_insP (l : List Int) (h : isTri l = true) : isTri (insP l) = true := by
 unfold insP
 rw [if_pos h]
 exact isTri_triBy _
theorem isTri_bothP (l m : List Int) (h : isTri l = true) (h' : isTri m = true) : isTri (bothP l m) = true := by
 unfold bothP
 rw [if_pos (by rw [h, h']; rfl)]
 exact isTri_triBy _
theorem isTri_eitherP (l m : List Int) (h : isTri l = true) (h' : isTri m = true) : isTri (eitherP l m) = true := by
 unfold eitherP
 rw [if_pos (by rw [h, h']; rfl)]
 exact isTri_triBy _
/- Plain facts: what the reference's NamedTriangle comes to, with enough rounds, for every text. -/
/-! The reference's rules. -/
def madeB (rule n a s : Int) : Bool :=
 if rule = 0 then s == a else if rule = 1 then decide (n ≤ s) else if rule = 2 then s == n else if rule = 3 then decide (a < 2 * s) else if rule = 4 then s % 2 == 0 else if rule = 5 then a - s == n else false
def madeI (rule n a s : Int) : Int := if madeB rule n a s = true then 1 else 0
theorem spec_l1Made_l1 (rule n : Int) (a : Nat) (ha : a < 6) (d : Nat) : ∀ (m s : Nat), s + d = a + 1 →
  spec_l1Made.l1 (m + d + 1) rule n (rowsI (madeI rule n) a ++ rowI (madeI rule n) a s) (a : Int) (s : Int) = spec_l1Made.l0 m rule n (rowsI (madeI rule n) (a + 1)) ((a + 1 : Nat) : Int) := by
 induction d with
 | zero =>
  intro m s h
  obtain ⟨M, hM⟩ : ∃ M, M = m + 0 := ⟨_, rfl⟩
  rw [← hM, show m = M from by omega]
  simp only [spec_l1Made.l1]
  rw [if_neg (by omega), wrap_succ6 a (by omega), show s = a + 1 from by omega, ← rowsI_succ]
 | succ d ih =>
  intro m s h
  obtain ⟨M, hM⟩ : ∃ M, M = m + d + 1 := ⟨_, rfl⟩
  rw [show m + (d + 1) + 1 = M + 1 from by omega]
  have hb := rows_bound (madeI rule n) a s ha (by omega)
  have w1 : wrap64 (2 * (s : Int)) = 2 * s := by unfold wrap64; omega
  have w2 : wrap64 ((a : Int) - s) = (a : Int) - s := by unfold wrap64; omega
  have hm : Int.tmod (s : Int) 2 = (s : Int) % 2 := Int.tmod_eq_emod_of_nonneg (by omega)
  have hi := ih m (s + 1) (by omega)
  have key : ∀ b : Bool, madeB rule n a s = b → spec_l1Made.l1 M rule n ((rowsI (madeI rule n) a ++ rowI (madeI rule n) a s) ++ [if b = true then 1 else 0]) (a : Int) ((s + 1 : Nat) : Int) = spec_l1Made.l0 m rule n (rowsI (madeI rule n) (a + 1)) ((a + 1 : Nat) : Int) := by
   intro b hb'
   rw [List.append_assoc, show rowI (madeI rule n) a s ++ [if b = true then 1 else 0] = rowI (madeI rule n) a (s + 1) from by rw [rowI_succ, madeI, hb'], hM]
   exact hi
  simp only [spec_l1Made.l1]
  rw [if_pos (by omega), wrap_succ6 s (by omega), w1, w2, hm]
  simp only [if_pos hb]
  have kt := key true
  have kf := key false
  simp only [if_true, Bool.false_eq_true, if_false] at kt kf
  unfold madeB at kt kf
  by_cases r0 : rule = 0
  ·rw [if_pos r0]
   simp only [if_pos r0] at kt kf
   by_cases c : (s : Int) = a
   ·rw [if_pos c]; exact kt (by simpa using c)
   ·rw [if_neg c]; exact kf (by simpa using c)
  ·rw [if_neg r0]
   simp only [if_neg r0] at kt kf
   by_cases r1 : rule = 1
   ·rw [if_pos r1]
    simp only [if_pos r1] at kt kf
    by_cases c : (s : Int) ≥ n
    ·rw [if_pos c]; exact kt (decide_eq_true c)
    ·rw [if_neg c]; exact kf (decide_eq_false c)
   ·rw [if_neg r1]
    simp only [if_neg r1] at kt kf
    by_cases r2 : rule = 2
    ·rw [if_pos r2]
     simp only [if_pos r2] at kt kf
     by_cases c : (s : Int) = n
     ·rw [if_pos c]; exact kt (by simpa using c)
     ·rw [if_neg c]; exact kf (by simpa using c)
    ·rw [if_neg r2]
     simp only [if_neg r2] at kt kf
     by_cases r3 : rule = 3
     ·rw [if_pos r3]
      simp only [if_pos r3] at kt kf
      by_cases c : 2 * (s : Int) > a
      ·rw [if_pos c]; exact kt (decide_eq_true c)
      ·rw [if_neg c]; exact kf (decide_eq_false c)
     ·rw [if_neg r3]
      simp only [if_neg r3] at kt kf
      by_cases r4 : rule = 4
      ·rw [if_pos r4]
       simp only [if_pos r4] at kt kf
       by_cases c : (s : Int) % 2 = 0
       ·rw [if_pos c]; exact kt (by rw [c]; rfl)
       ·rw [if_neg c]; exact kf (beq_eq_false_iff_ne.mpr c)
      ·rw [if_neg r4]
       simp only [if_neg r4] at kt kf
       by_cases r5 : rule = 5
       ·rw [if_pos r5]
        simp only [if_pos r5] at kt kf
        by_cases c : (a : Int) - s = n
        ·rw [if_pos c]; exact kt (beq_iff_eq.mpr c)
        ·rw [if_neg c]; exact kf (beq_eq_false_iff_ne.mpr c)
       ·rw [if_neg r5]
        simp only [if_neg r5] at kt kf
        exact kf trivial
theorem spec_l1Made_l0 (rule n : Int) (e : Nat) : ∀ (k a : Nat), a + e = 6 → 10 * e + 10 < k → spec_l1Made.l0 k rule n (rowsI (madeI rule n) a) (a : Int) = some (triI (madeI rule n)) := by
 induction e with
 | zero =>
  intro k a h hk
  obtain ⟨k, rfl⟩ : ∃ m, k = m + 1 := ⟨k - 1, by omega⟩
  obtain rfl : a = 6 := by omega
  simp only [spec_l1Made.l0]
  rw [if_neg (by omega)]
  rfl
 | succ e ih =>
  intro k a h hk
  obtain ⟨k, rfl⟩ : ∃ m, k = m + (a + 1) + 1 + 1 := ⟨k - (a + 3), by omega⟩
  have hh := spec_l1Made_l1 rule n a (by omega) (a + 1) k 0 (by omega)
  rw [rowI_zero, List.append_nil] at hh
  simp only [spec_l1Made.l0]
  rw [if_pos (by omega)]
  refine Eq.trans hh ?_
  exact ih k (a + 1) (by omega) (by omega)
theorem spec_l1Made_k (rule n : Int) (k : Nat) (hk : 100 ≤ k) : spec_l1Made.f k rule n = some (triI (madeI rule n)) := spec_l1Made_l0 rule n 6 k 0 (by omega) (by omega)
/-! The names. -/
def digitB (n : Int) : ByteArray := strOfNums [(wrap64 (48 + n)) % 256]
theorem spec_l1Number_k (n : Int) (h : n < 10) (k : Nat) (hk : 1 ≤ k) : spec_l1Number.f k n = some (digitB n) := by
 obtain ⟨k, rfl⟩ : ∃ m, k = m + 1 := ⟨k - 1, by omega⟩
 simp only [spec_l1Number.f]
 rw [if_pos h]
 rfl
theorem digit_list (n : Nat) (h : n < 6) : (digitB (n : Int)).data.toList = [UInt8.ofNat (48 + n)] ∧ (digitB (n : Int)).size = 1 := by
 have hf : ∀ i : Fin 6, (digitB (i.val : Int)).data.toList = [UInt8.ofNat (48 + i.val)] ∧ (digitB (i.val : Int)).size = 1 := by decide +kernel
 exact hf ⟨n, h⟩
def wAtleast : List UInt8 := [97, 116, 108, 101, 97, 115, 116]
def wJust : List UInt8 := [106, 117, 115, 116]
def wAllbut : List UInt8 := [97, 108, 108, 98, 117, 116]
/-- What the reference answers to a name, by its letters: from the digit i on. -/
def specDig (L : List UInt8) : Nat → Nat → List Int × Bool
 | 0, _ => ([], false)
 | e + 1, i => if L = wAtleast ++ [UInt8.ofNat (48 + i)] ∧ 0 < i then (triI (madeI 1 i), true) else if L = wJust ++ [UInt8.ofNat (48 + i)] then (triI (madeI 2 i), true) else if L = wAllbut ++ [UInt8.ofNat (48 + i)] then (triI (madeI 5 i), true) else specDig L e (i + 1)
theorem cat_list (W : List UInt8) (n : Nat) (h : n < 6) : ((⟨W.toArray⟩ : ByteArray) ++ digitB (n : Int)).toList = W ++ [UInt8.ofNat (48 + n)] := by
 rw [ByteArray.toList_eq, ByteArray.data_append, Array.toList_append, (digit_list n h).1]
theorem spec_Named_l1 (a0 : ByteArray) (e : Nat) : ∀ (k i : Nat), i + e = 6 → 300 + 3 * e ≤ k → spec_NamedTriangle.l1 k a0 (i : Int) = some (specDig a0.toList e i) := by
 induction e with
 | zero =>
  intro k i h hk
  obtain ⟨k, rfl⟩ : ∃ m, k = m + 1 := ⟨k - 1, by omega⟩
  simp only [spec_NamedTriangle.l1]
  rw [if_neg (by omega)]
  rfl
 | succ e ih =>
  intro k i h hk
  obtain ⟨k, rfl⟩ : ∃ m, k = m + 1 + 1 := ⟨k - 2, by omega⟩
  have hz := (digit_list i (by omega)).2
  have c1 := cat_list wAtleast i (by omega)
  have c2 := cat_list wJust i (by omega)
  have c3 := cat_list wAllbut i (by omega)
  simp only [spec_NamedTriangle.l1]
  rw [if_pos (by omega), spec_l1Number_k _ (by omega) _ (by omega), Option.bind_some, if_pos (by omega), show ((⟨#[97, 116, 108, 101, 97, 115, 116]⟩ : ByteArray) ++ digitB (i : Int)).toList = wAtleast ++ [UInt8.ofNat (48 + i)] from c1]
  have hj : ∀ x : Bool, (x = true → a0.toList = wAtleast ++ [UInt8.ofNat (48 + i)] ∧ 0 < i) → (x = false → ¬ (a0.toList = wAtleast ++ [UInt8.ofNat (48 + i)] ∧ 0 < i)) → spec_NamedTriangle.j2 (k + 1) a0 (i : Int) (digitB (i : Int)) x = some (specDig a0.toList (e + 1) i) := by
   intro x h1 h2
   simp only [spec_NamedTriangle.j2]
   rw [specDig]
   cases x with
   | true =>
    rw [if_pos rfl, spec_l1Made_k _ _ _ (by omega), Option.bind_some, if_pos (h1 rfl)]
   | false =>
    rw [if_neg (by decide), if_neg (h2 rfl), if_pos (by omega), show ((⟨#[106, 117, 115, 116]⟩ : ByteArray) ++ digitB (i : Int)).toList = wJust ++ [UInt8.ofNat (48 + i)] from c2]
    by_cases g2 : a0.toList = wJust ++ [UInt8.ofNat (48 + i)]
    ·rw [if_pos g2, if_pos g2, spec_l1Made_k _ _ _ (by omega), Option.bind_some]
    ·rw [if_neg g2, if_neg g2, if_pos (by omega), show ((⟨#[97, 108, 108, 98, 117, 116]⟩ : ByteArray) ++ digitB (i : Int)).toList = wAllbut ++ [UInt8.ofNat (48 + i)] from c3]
     by_cases g3 : a0.toList = wAllbut ++ [UInt8.ofNat (48 + i)]
     ·rw [if_pos g3, if_pos g3, spec_l1Made_k _ _ _ (by omega), Option.bind_some]
     ·rw [if_neg g3, if_neg g3, wrap_succ6 i (by omega)]
      exact ih k (i + 1) (by omega) (by omega)
  by_cases g1 : a0.toList = wAtleast ++ [UInt8.ofNat (48 + i)]
  ·rw [if_pos g1]
   refine hj _ (fun h => ⟨g1, by have := of_decide_eq_true h; omega⟩) (fun h h' => ?_)
   have := of_decide_eq_false h
   omega
  ·rw [if_neg g1]
   exact hj false (fun h => absurd h (by decide)) (fun _ h' => g1 h'.1)
def specNm (L : List UInt8) : List Int × Bool :=
 if L = [101, 118, 101, 114, 121] then (triI (madeI 0 0), true) else if L = [115, 111, 109, 101] then (triI (madeI 1 1), true) else if L = [110, 111] then (triI (madeI 2 0), true) else if L = [109, 111, 115, 116] then (triI (madeI 3 0), true) else if L = [101, 118, 101, 110] then (triI (madeI 4 0), true) else specDig L 6 0
theorem spec_NamedTriangle_k (a0 : ByteArray) (k : Nat) (hk : 1000 ≤ k) : spec_NamedTriangle.f k a0 = some (specNm a0.toList) := by
 obtain ⟨k, rfl⟩ : ∃ m, k = m + 5 + 1 := ⟨k - 6, by omega⟩
 have hl := spec_Named_l1 a0 6 k 0 (by omega) (by omega)
 have m0 := fun r n => spec_l1Made_k r n (k + 5) (by omega)
 have m1 := fun r n => spec_l1Made_k r n (k + 4) (by omega)
 have m2 := fun r n => spec_l1Made_k r n (k + 3) (by omega)
 have m3 := fun r n => spec_l1Made_k r n (k + 2) (by omega)
 have m4 := fun r n => spec_l1Made_k r n (k + 1) (by omega)
 unfold spec_NamedTriangle.f specNm
 obtain ⟨x, hx⟩ : ∃ x, specDig a0.toList 6 0 = x := ⟨_, rfl⟩
 rw [hx] at hl ⊢
 have t0 : ((⟨#[101, 118, 101, 114, 121]⟩ : ByteArray)).toList = [101, 118, 101, 114, 121] := by rw [ByteArray.toList_eq]
 have t1 : ((⟨#[115, 111, 109, 101]⟩ : ByteArray)).toList = [115, 111, 109, 101] := by rw [ByteArray.toList_eq]
 have t2 : ((⟨#[110, 111]⟩ : ByteArray)).toList = [110, 111] := by rw [ByteArray.toList_eq]
 have t3 : ((⟨#[109, 111, 115, 116]⟩ : ByteArray)).toList = [109, 111, 115, 116] := by rw [ByteArray.toList_eq]
 have t4 : ((⟨#[101, 118, 101, 110]⟩ : ByteArray)).toList = [101, 118, 101, 110] := by rw [ByteArray.toList_eq]
 obtain ⟨ns, hns⟩ : ∃ ns : List ByteArray, ns = [(⟨#[101, 118, 101, 114, 121]⟩ : ByteArray), (⟨#[115, 111, 109, 101]⟩ : ByteArray), (⟨#[110, 111]⟩ : ByteArray), (⟨#[109, 111, 115, 116]⟩ : ByteArray), (⟨#[101, 118, 101, 110]⟩ : ByteArray)] := ⟨_, rfl⟩
 rw [← hns]
 have nl : ns.length = 5 := by rw [hns]; rfl
 have r0 : (rdOf ByteArray.empty ns 0).toList = [101, 118, 101, 114, 121] := by rw [hns]; exact t0
 have r1 : (rdOf ByteArray.empty ns 1).toList = [115, 111, 109, 101] := by rw [hns]; exact t1
 have r2 : (rdOf ByteArray.empty ns 2).toList = [110, 111] := by rw [hns]; exact t2
 have r3 : (rdOf ByteArray.empty ns 3).toList = [109, 111, 115, 116] := by rw [hns]; exact t3
 have r4 : (rdOf ByteArray.empty ns 4).toList = [101, 118, 101, 110] := by rw [hns]; exact t4
 have l5 : spec_NamedTriangle.l0 (k + 1) a0 ns 5 = some x := by
  rw [spec_NamedTriangle.l0]
  rw [if_neg (by omega)]
  exact hl
 have l4 : spec_NamedTriangle.l0 (k + 2) a0 ns 4 = some (if a0.toList = [101, 118, 101, 110] then (triI (madeI 4 0), true) else x) := by
  rw [spec_NamedTriangle.l0]
  rw [if_pos (by omega), if_pos (by omega), r4]
  by_cases g : a0.toList = [101, 118, 101, 110]
  ·rw [if_pos g, if_pos g, Option.bind_some, if_pos (by decide), Option.bind_some, if_pos (by decide), show rd [0, 1, 2, 3, 4] 4 = 4 from rfl, show rd [0, 1, 0, 0, 0] 4 = 0 from rfl, m4 4 0, Option.bind_some]
  ·rw [if_neg g, if_neg g, show wrap64 ((4 : Int) + 1) = 5 from by unfold wrap64; omega]
   exact l5
 have l3 : spec_NamedTriangle.l0 (k + 3) a0 ns 3 = some (if a0.toList = [109, 111, 115, 116] then (triI (madeI 3 0), true) else if a0.toList = [101, 118, 101, 110] then (triI (madeI 4 0), true) else x) := by
  rw [spec_NamedTriangle.l0]
  rw [if_pos (by omega), if_pos (by omega), r3]
  by_cases g : a0.toList = [109, 111, 115, 116]
  ·rw [if_pos g, if_pos g, Option.bind_some, if_pos (by decide), Option.bind_some, if_pos (by decide), show rd [0, 1, 2, 3, 4] 3 = 3 from rfl, show rd [0, 1, 0, 0, 0] 3 = 0 from rfl, m3 3 0, Option.bind_some]
  ·rw [if_neg g, if_neg g, show wrap64 ((3 : Int) + 1) = 4 from by unfold wrap64; omega]
   exact l4
 have l2 : spec_NamedTriangle.l0 (k + 4) a0 ns 2 = some (if a0.toList = [110, 111] then (triI (madeI 2 0), true) else if a0.toList = [109, 111, 115, 116] then (triI (madeI 3 0), true) else if a0.toList = [101, 118, 101, 110] then (triI (madeI 4 0), true) else x) := by
  rw [spec_NamedTriangle.l0]
  rw [if_pos (by omega), if_pos (by omega), r2]
  by_cases g : a0.toList = [110, 111]
  ·rw [if_pos g, if_pos g, Option.bind_some, if_pos (by decide), Option.bind_some, if_pos (by decide), show rd [0, 1, 2, 3, 4] 2 = 2 from rfl, show rd [0, 1, 0, 0, 0] 2 = 0 from rfl, m2 2 0, Option.bind_some]
  ·rw [if_neg g, if_neg g, show wrap64 ((2 : Int) + 1) = 3 from by unfold wrap64; omega]
   exact l3
 have l1 : spec_NamedTriangle.l0 (k + 5) a0 ns 1 = some (if a0.toList = [115, 111, 109, 101] then (triI (madeI 1 1), true) else if a0.toList = [110, 111] then (triI (madeI 2 0), true) else if a0.toList = [109, 111, 115, 116] then (triI (madeI 3 0), true) else if a0.toList = [101, 118, 101, 110] then (triI (madeI 4 0), true) else x) := by
  rw [spec_NamedTriangle.l0]
  rw [if_pos (by omega), if_pos (by omega), r1]
  by_cases g : a0.toList = [115, 111, 109, 101]
  ·rw [if_pos g, if_pos g, Option.bind_some, if_pos (by decide), Option.bind_some, if_pos (by decide), show rd [0, 1, 2, 3, 4] 1 = 1 from rfl, show rd [0, 1, 0, 0, 0] 1 = 1 from rfl, m1 1 1, Option.bind_some]
  ·rw [if_neg g, if_neg g, show wrap64 ((1 : Int) + 1) = 2 from by unfold wrap64; omega]
   exact l2
 rw [spec_NamedTriangle.l0]
 rw [if_pos (by omega), if_pos (by omega), r0]
 by_cases g : a0.toList = [101, 118, 101, 114, 121]
 ·rw [if_pos g, if_pos g, Option.bind_some, if_pos (by decide), Option.bind_some, if_pos (by decide), show rd [0, 1, 2, 3, 4] 0 = 0 from rfl, show rd [0, 1, 0, 0, 0] 0 = 0 from rfl, m0 0 0, Option.bind_some]
 ·rw [if_neg g, if_neg g, show wrap64 ((0 : Int) + 1) = 1 from by unfold wrap64; omega]
  exact l1
theorem specDig_length (L : List UInt8) : ∀ e i, (specDig L e i).1.length ≤ 21
 | 0, _ => by simp [specDig]
 | e + 1, i => by
  rw [specDig]
  split
  ·simp only [triI_length]; omega
  ·split
   ·simp only [triI_length]; omega
   ·split
    ·simp only [triI_length]; omega
    ·exact specDig_length L e (i + 1)
theorem specNm_length (L : List UInt8) : (specNm L).1.length ≤ 21 := by
 unfold specNm
 repeat' split
 all_goals first | exact specDig_length L 6 0 | (simp only [triI_length]; omega)
theorem madeI_bit (r n a s : Int) : madeI r n a s = 0 ∨ madeI r n a s = 1 := by
 unfold madeI
 split
 ·exact .inr rfl
 ·exact .inl rfl
theorem specDig_form (L : List UInt8) : ∀ e i, (∃ r n, specDig L e i = (triI (madeI r n), true)) ∨ specDig L e i = ([], false)
 | 0, _ => .inr rfl
 | e + 1, i => by
  rw [specDig]
  split
  ·exact .inl ⟨_, _, rfl⟩
  ·split
   ·exact .inl ⟨_, _, rfl⟩
   ·split
    ·exact .inl ⟨_, _, rfl⟩
    ·exact specDig_form L e (i + 1)
theorem specNm_form (L : List UInt8) : (∃ r n, specNm L = (triI (madeI r n), true)) ∨ specNm L = ([], false) := by
 unfold specNm
 repeat' split
 all_goals first | exact .inl ⟨_, _, rfl⟩ | exact specDig_form L 6 0
theorem isTri_made (r n : Int) : isTri (triI (madeI r n)) = true := isTri_triI _ fun a s _ _ _ _ => madeI_bit r n a s
def l20N : List ByteArray := [(⟨#[101, 118, 101, 114, 121]⟩ : ByteArray), (⟨#[115, 111, 109, 101]⟩ : ByteArray), (⟨#[110, 111]⟩ : ByteArray), (⟨#[109, 111, 115, 116]⟩ : ByteArray), (⟨#[101, 118, 101, 110]⟩ : ByteArray), (⟨#[97, 116, 108, 101, 97, 115, 116, 50]⟩ : ByteArray), (⟨#[97, 116, 108, 101, 97, 115, 116, 51]⟩ : ByteArray), (⟨#[106, 117, 115, 116, 49]⟩ : ByteArray), (⟨#[106, 117, 115, 116, 50]⟩ : ByteArray), (⟨#[97, 108, 108, 98, 117, 116, 49]⟩ : ByteArray)]
theorem names_in (r : Int) (h0 : 0 ≤ r) (h1 : r < 10) : ∃ t, specNm (rdOf ByteArray.empty l20N r).toList = (t, true) ∧ isTri t = true := by
 have hf : ∀ i : Fin 10, (specNm (rdOf ByteArray.empty l20N (i.val : Int)).data.toList).2 = true := by decide +kernel
 have := hf ⟨r.toNat, by omega⟩
 simp only [] at this
 rw [show ((r.toNat : Nat) : Int) = r by omega, ← ByteArray.toList_eq] at this
 rcases specNm_form (rdOf ByteArray.empty l20N r).toList with ⟨a, b, e⟩ | e
 ·exact ⟨_, e, isTri_made a b⟩
 ·rw [e] at this
  exact absurd this Bool.false_ne_true
/- Plain facts on the drawing of arguments: the reader, one draw. -/
theorem wr (x : Int) (h0 : 0 ≤ x) (h1 : x < 4611686018427387904) : wrap64 x = x := by unfold wrap64; omega
theorem xor_pos (a b : Int) (h1 : 0 ≤ a) (h2 : a < 4611686018427387904) (h3 : 0 ≤ b) (h4 : b < 4611686018427387904) : 0 ≤ Go.bits .xor .i64 a b ∧ Go.bits .xor .i64 a b < 4611686018427387904 := by
 obtain ⟨x, rfl⟩ := Int.eq_ofNat_of_zero_le h1
 obtain ⟨y, rfl⟩ := Int.eq_ofNat_of_zero_le h3
 have hx : x ^^^ y < 2 ^ 62 := Nat.xor_lt_two_pow (by omega) (by omega)
 have e1 : (BitVec.ofInt 64 (x : Int)).toNat = x := by
  rw [BitVec.ofInt_natCast, BitVec.toNat_ofNat]; exact Nat.mod_eq_of_lt (by omega)
 have e2 : (BitVec.ofInt 64 (y : Int)).toNat = y := by
  rw [BitVec.ofInt_natCast, BitVec.toNat_ofNat]; exact Nat.mod_eq_of_lt (by omega)
 have h : Go.bits .xor .i64 (x : Int) (y : Int) = ((x ^^^ y : Nat) : Int) := by
  show IntKind.i64.wrap ((BitVec.ofInt 64 (x : Int) ^^^ BitVec.ofInt 64 (y : Int)).toNat : Int) = _
  rw [BitVec.toNat_xor, e1, e2]
  simp [IntKind.wrap, IntKind.bits, IntKind.signed]
  omega
 rw [h]
 omega
/-- What draws read from: bytes, not too many. -/
def Src (xs : List Int) : Prop := xs.length ≤ 2000 ∧ ∀ x ∈ xs, 0 ≤ x ∧ x ≤ 255
theorem Src.rd {xs : List Int} (h : Src xs) (i : Int) : 0 ≤ rd xs i ∧ rd xs i ≤ 255 := by
 unfold Go.Proofs.YtcongmckkjbhiaaW.PrintWords.rd
 rw [List.getD_eq_getElem?_getD]
 cases e : xs[i.toNat]? with
 | none => simp
 | some v => exact h.2 v (List.mem_of_getElem? e)
theorem src_open (l : List Int) (hw : ∀ x ∈ l, (Lit.int .u8 x).wf = true) : ∃ xs, spec_l20Open.f l = some (xs, 0) ∧ Src xs := by
 have hb : ∀ x ∈ l, 0 ≤ x ∧ x ≤ 255 := by
  intro x hx
  have h := hw x hx
  have h' : (decide (IntKind.u8.min ≤ x) && decide (x ≤ IntKind.u8.max)) = true := h
  rw [Bool.and_eq_true, decide_eq_true_eq, decide_eq_true_eq] at h'
  exact ⟨h'.1, h'.2⟩
 unfold spec_l20Open.f
 by_cases h : (l.length : Int) > 2000
 ·rw [if_pos h, if_pos (by omega)]
  exact ⟨_, rfl, by rw [List.length_take]; omega, fun x hx => hb x (List.mem_of_mem_take hx)⟩
 ·rw [if_neg h]
  exact ⟨_, rfl, by omega, hb⟩
theorem tmod_range (v n : Int) (hv : 0 ≤ v) (hn : 1 ≤ n) : 0 ≤ Int.tmod v n ∧ Int.tmod v n < n := by
 rw [Int.tmod_eq_emod_of_nonneg hv]
 exact ⟨Int.emod_nonneg _ (by omega), Int.emod_lt_of_pos _ (by omega)⟩
theorem pick_k (xs : List Int) (hs : Src xs) (c n : Int) (h0 : 0 ≤ c) (h1 : c ≤ 1000000) (k : Nat) (hk : 1 ≤ k) : ∃ r, spec_l20Rd_pick.f k xs c n = some (r, c + 1) ∧ 0 ≤ r ∧ (1 ≤ n → r < n) := by
 obtain ⟨k, rfl⟩ : ∃ m, k = m + 1 := ⟨k - 1, by omega⟩
 unfold spec_l20Rd_pick.f
 rw [wr (c + 1) (by omega) (by omega)]
 by_cases hn : n < 1
 ·rw [if_pos hn]
  simp only [spec_l20Rd_pick.j0]
  rw [if_pos trivial]
  exact ⟨0, rfl, by omega, fun h => by omega⟩
 ·rw [if_neg hn]
  simp only [spec_l20Rd_pick.j0]
  rw [show c + 1 - 1 = c by omega, wr c (by omega) (by omega)]
  by_cases hl : xs.length = 0
  ·rw [if_pos (by simp [hl])]
   exact ⟨0, rfl, by omega, fun h => by omega⟩
  ·rw [if_neg (by simp; intro h; exact hl (by rw [h]; rfl))]
   by_cases hc : c < (xs.length : Int)
   ·rw [if_pos hc, if_pos h0, if_neg (by omega)]
    have hb := hs.rd c
    rw [wr _ hb.1 (by omega)]
    have := tmod_range _ n hb.1 (by omega)
    exact ⟨_, rfl, this.1, fun _ => this.2⟩
   ·have hlen := hs.1
    have hL : (1 : Int) ≤ (xs.length : Int) := by omega
    have t1 := tmod_range c (xs.length : Int) h0 hL
    have w7 : wrap64 (wrap64 (c * 7) + 3) = c * 7 + 3 := by rw [wr (c * 7) (by omega) (by omega), wr _ (by omega) (by omega)]
    have t2 := tmod_range (c * 7 + 3) (xs.length : Int) (by omega) hL
    rw [w7, if_neg hc, if_neg (by omega), if_pos t1.1, if_pos t1.2, if_pos t2.1, if_pos t2.2, if_neg (by omega)]
    have b1 := hs.rd (Int.tmod c (xs.length : Int))
    have b2 := hs.rd (Int.tmod (c * 7 + 3) (xs.length : Int))
    have q0 : 0 ≤ Int.tdiv c (xs.length : Int) := Int.tdiv_nonneg h0 (by omega)
    have q1 : Int.tdiv c (xs.length : Int) ≤ c := by
     rw [Int.tdiv_eq_ediv_of_nonneg h0]
     exact Int.ediv_le_self _ h0
    obtain ⟨B1, e1⟩ : ∃ B, B = rd xs (Int.tmod c (xs.length : Int)) := ⟨_, rfl⟩
    obtain ⟨B2, e2⟩ : ∃ B, B = rd xs (Int.tmod (c * 7 + 3) (xs.length : Int)) := ⟨_, rfl⟩
    obtain ⟨Q, e3⟩ : ∃ B, B = Int.tdiv c (xs.length : Int) := ⟨_, rfl⟩
    rw [← e1] at b1 ⊢
    rw [← e2] at b2 ⊢
    rw [← e3] at q0 q1 ⊢
    rw [wr B1 (by omega) (by omega), wr B2 (by omega) (by omega), wr Q (by omega) (by omega), wr (B1 * 131) (by omega) (by omega), wr (B2 * 1117) (by omega) (by omega), wr (c * 29) (by omega) (by omega), wr (Q * 53) (by omega) (by omega), wr (B1 * 131 + B2 * 1117) (by omega) (by omega), wr (B1 * 131 + B2 * 1117 + c * 29) (by omega) (by omega), wr (B1 * 131 + B2 * 1117 + c * 29 + Q * 53) (by omega) (by omega)]
    obtain ⟨V, e4⟩ : ∃ V, V = B1 * 131 + B2 * 1117 + c * 29 + Q * 53 := ⟨_, rfl⟩
    rw [← e4]
    have hV : 0 ≤ V ∧ V < 4611686018427387904 := by omega
    have hd : Int.tdiv V 64 = V / 64 := Int.tdiv_eq_ediv_of_nonneg hV.1
    rw [hd, wr (V / 64) (by omega) (by omega)]
    have hx := xor_pos V (V / 64) hV.1 hV.2 (by omega) (by omega)
    have := tmod_range _ n hx.1 (by omega)
    exact ⟨_, rfl, this.1, fun _ => this.2⟩
theorem odd_k (xs : List Int) (hs : Src xs) (c n : Int) (h0 : 0 ≤ c) (h1 : c ≤ 1000000) (k : Nat) (hk : 1 ≤ k) : ∃ b c', spec_l20Rd_odd.f k xs c n = some (b, c') ∧ c ≤ c' ∧ c' ≤ c + 1 := by
 unfold spec_l20Rd_odd.f
 by_cases h : n > 0
 ·obtain ⟨r, e, _, _⟩ := pick_k xs hs c n h0 h1 k hk
  rw [if_pos h, e, Option.bind_some]
  exact ⟨_, _, rfl, by omega, by omega⟩
 ·rw [if_neg h]
  exact ⟨_, _, rfl, by omega, by omega⟩
/- Plain facts on the drawing of arguments: a drawn triangle; every draw ends, with a result of bounded size. -/
/- Plain facts on the drawing of triangles that are always good ones. -/
theorem tri0_j1 (xs : List Int) (l : List Int) (c : Int) (k : Nat) (hk : 1 ≤ k) : spec_l20Tri.j1 k 0 l xs c = some (l, c) := by
 obtain ⟨k, rfl⟩ : ∃ m, k = m + 1 := ⟨k - 1, by omega⟩
 simp only [spec_l20Tri.j1]
 unfold spec_l20Rd_odd.f
 rw [if_neg (by omega), Option.bind_some, if_neg Bool.false_ne_true]
theorem tri0_l0 (xs : List Int) (hs : Src xs) (d : Nat) : ∀ (k : Nat) (l : List Int) (i : Nat) (c : Int), i + d = 21 → l.length = i → (∀ x ∈ l, x = 0 ∨ x = 1) → 0 ≤ c → c + d ≤ 400000 → d + 10 ≤ k →
  ∃ r c', spec_l20Tri.l0 k 0 l (i : Int) xs c = some (r, c') ∧ c ≤ c' ∧ c' ≤ c + d ∧ isTri r = true := by
 induction d with
 | zero =>
  intro k l i c h hl hx h0 h1 hk
  obtain ⟨k, rfl⟩ : ∃ m, k = m + 1 := ⟨k - 1, by omega⟩
  simp only [spec_l20Tri.l0]
  rw [if_neg (by omega), tri0_j1 xs l c k (by omega)]
  exact ⟨_, _, rfl, by omega, by omega, isTri_of l (by omega) hx⟩
 | succ d ih =>
  intro k l i c h hl hx h0 h1 hk
  obtain ⟨k, rfl⟩ : ∃ m, k = m + 1 := ⟨k - 1, by omega⟩
  obtain ⟨r, e, p1, p2⟩ := pick_k xs hs c 2 h0 (by omega) k (by omega)
  have p3 := p2 (by omega)
  obtain ⟨r', c', e', g1, g2, g3⟩ := ih k (l ++ [r]) (i + 1) (c + 1) (by omega) (by rw [List.length_append, hl]; rfl) (by
   intro x hm
   rcases List.mem_append.mp hm with q | q
   ·exact hx x q
   ·have := List.mem_singleton.mp q
    omega) (by omega) (by omega) (by omega)
  simp only [spec_l20Tri.l0]
  rw [if_pos (by omega), e, Option.bind_some, if_pos (by omega), wrap_succ6 i (by omega), e']
  exact ⟨_, _, rfl, by omega, by omega, g3⟩
theorem l20Tri0_k (xs : List Int) (hs : Src xs) (c : Int) (h0 : 0 ≤ c) (h1 : c ≤ 300000) (k : Nat) (hk : 2097200 ≤ k) : ∃ l c', spec_l20Tri.f k xs c 0 = some (l, c') ∧ c ≤ c' ∧ c' ≤ c + 30 ∧ isTri l = true := by
 unfold spec_l20Tri.f
 obtain ⟨r1, e1, g1, g2⟩ := pick_k xs hs c 4 h0 (by omega) k (by omega)
 rw [e1, Option.bind_some]
 by_cases z : r1 = 0
 ·rw [if_pos z]
  obtain ⟨l, c', e, g3, g4, g5⟩ := tri0_l0 xs hs 21 k [] 0 (c + 1) (by omega) rfl (by simp) (by omega) (by omega) (by omega)
  exact ⟨l, c', e, by omega, by omega, g5⟩
 ·rw [if_neg z, show spec_l20Names.f = some l20N from rfl]
  obtain ⟨r2, e2, g3, g4⟩ := pick_k xs hs (c + 1) 10 (by omega) (by omega) k (by omega)
  obtain ⟨r3, e3, g5, g6⟩ := pick_k xs hs (c + 1 + 1) 10 (by omega) (by omega) k (by omega)
  obtain ⟨r4, e4, g7, g8⟩ := pick_k xs hs (c + 1 + 1 + 1) 7 (by omega) (by omega) k (by omega)
  obtain ⟨t, t1, t2⟩ := names_in r2 g3 (g4 (by omega))
  obtain ⟨u, u1, u2⟩ := names_in r3 g5 (g6 (by omega))
  have i2 : r2 < (l20N.length : Int) := g4 (by omega)
  have i3 : r3 < (l20N.length : Int) := g6 (by omega)
  rw [Option.bind_some, e2, Option.bind_some, if_pos g3, if_pos i2, spec_NamedTriangle_k _ k (by omega), t1, Option.bind_some, Option.bind_some, e3, Option.bind_some, if_pos g5, if_pos i3, spec_NamedTriangle_k _ k (by omega), u1, Option.bind_some, e4, Option.bind_some]
  have ht := isTri_length t2
  have hu := isTri_length u2
  have fin : ∀ l : List Int, isTri l = true → ∃ r c', spec_l20Tri.j1 k 0 l xs (c + 1 + 1 + 1 + 1) = some (r, c') ∧ c ≤ c' ∧ c' ≤ c + 30 ∧ isTri r = true := by
   intro l h
   exact ⟨l, _, tri0_j1 xs l _ k (by omega), by omega, by omega, h⟩
  by_cases z0 : r4 = 0
  ·rw [if_pos z0, spec_NotOf_k t (by omega) k (by omega), Option.bind_some]
   exact fin _ (isTri_notP t t2)
  ·rw [if_neg z0]
   by_cases z1 : r4 = 1
   ·rw [if_pos z1, spec_InsideNot_k t (by omega) k (by omega), Option.bind_some]
    exact fin _ (isTri_insP t t2)
   ·rw [if_neg z1]
    by_cases z2 : r4 = 2
    ·rw [if_pos z2, spec_BothOf_k t u (by omega) (by omega) k (by omega), Option.bind_some]
     exact fin _ (isTri_bothP t u t2 u2)
    ·rw [if_neg z2]
     by_cases z3 : r4 = 3
     ·rw [if_pos z3, spec_EitherOf_k t u (by omega) (by omega) k (by omega), Option.bind_some]
      exact fin _ (isTri_eitherP t u t2 u2)
     ·rw [if_neg z3]
      exact fin t t2
/- Plain facts on lists of numbers by rows of one length. No condition beyond those typed. -/
def rowB (f : Int → Int → Int) (a m : Nat) : List Int := (List.range m).map fun (s : Nat) => f (a : Int) (s : Int)
def rowsB (f : Int → Int → Int) (B n : Nat) : List Int := (List.range n).flatMap fun a => rowB f a B
theorem rowB_zero (f : Int → Int → Int) (a : Nat) : rowB f a 0 = [] := rfl
theorem rowB_succ (f : Int → Int → Int) (a m : Nat) : rowB f a (m + 1) = rowB f a m ++ [f a m] := by simp [rowB, List.range_succ]
theorem rowsB_succ (f : Int → Int → Int) (B n : Nat) : rowsB f B (n + 1) = rowsB f B n ++ rowB f n B := by simp [rowsB, List.range_succ]
theorem rowB_length (f : Int → Int → Int) (a m : Nat) : (rowB f a m).length = m := by simp [rowB]
theorem rowsB_length (f : Int → Int → Int) (B : Nat) : ∀ n, (rowsB f B n).length = n * B
 | 0 => by simp [rowsB]
 | n + 1 => by rw [rowsB_succ, List.length_append, rowsB_length f B n, rowB_length, Nat.succ_mul]
theorem rowsB_bound (f : Int → Int → Int) (B n m : Nat) (hB : B ≤ 8) (hn : n ≤ 8) (hm : m ≤ 8) : (rowsB f B n ++ rowB f n m).length < 17592186044416 := by
 rw [List.length_append, rowsB_length, rowB_length]
 have := Nat.mul_le_mul hn hB
 omega
end Go.Proofs.Ytcongmckkjbhiaa.P
