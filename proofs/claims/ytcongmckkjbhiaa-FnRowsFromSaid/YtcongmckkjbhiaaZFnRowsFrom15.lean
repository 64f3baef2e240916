-- Texts of this claim, laid one behind the other by wip/gen/merge.py.
import Derived.Test.YtcongmckkjbhiaaZFnRowsFrom14
import Derived.Test.YtcongmckkjbhiaaZFnRowsFrom13
import Derived.Test.YtcongmckkjbhiaaZFnRowsFrom11
import Derived.Test.YtcongmckkjbhiaaZFnRowsFrom0
import Derived.Test.YtcongmckkjbhiaaWLast
import Derived.Test.YtcongmckkjbhiaaZFnRowsFrom1
import Derived.Test.YtcongmckkjbhiaaZFnRowsFrom9
import Derived.Test.YtcongmckkjbhiaaZFnRowsFrom10
/- Plain facts: what the reference's and the program's KnowsNoThing come to, with enough rounds, for relations of at most 2^20 numbers. -/
namespace Go.Proofs.Ytcongmckkjbhiaa.P
open Go.RowKit Go.Proofs.YtcongmckkjbhiaaW.PrintWords Go.Proofs.YtcongmckkjbhiaaW.PrintLast
/-! KnowsNoThing -/
theorem swap_here (t s i k : Int) (h1 : 0 ≤ t) (h2 : t ≤ 3) (h3 : 0 ≤ s) (h4 : s < pw t) (h5 : 0 ≤ k) (h6 : k < i) (h7 : i < t) : spec_l2Swap.f s i k = some (exch s i k) := by
 have hf : ∀ T : Fin 4, ∀ x : Fin 8, ∀ p q : Fin 3, (x.val : Int) < pw T.val → q.val < p.val → p.val < T.val → spec_l2Swap.f x.val p.val q.val = some (exch x.val p.val q.val) := by decide +kernel
 have hp := pw_range t h1 h2
 obtain ⟨T, rfl⟩ := Int.eq_ofNat_of_zero_le h1
 obtain ⟨x, rfl⟩ := Int.eq_ofNat_of_zero_le h3
 obtain ⟨q, rfl⟩ := Int.eq_ofNat_of_zero_le h5
 obtain ⟨p, rfl⟩ := Int.eq_ofNat_of_zero_le (show 0 ≤ i by omega)
 exact hf ⟨T, by omega⟩ ⟨x, by omega⟩ ⟨p, by omega⟩ ⟨q, by omega⟩ h4 (show q < p by omega) (show p < T by omega)
theorem spec_KnowsNoThing_l3 (t : Int) (l : List Int) (h : isRel t l = true) (B : Nat) (hp : pw t = (B : Int)) (a b i : Nat) (ha : a < B) (hb : b < B) (hi : (i : Int) < t) (d : Nat) : ∀ (m q : Nat), q + d = i →
  spec_KnowsNoThing.l3 (m + d + 1) t l (a : Int) (b : Int) (i : Int) (q : Int) = if ((List.range' q d).all fun (q : Nat) => kntAt t l a b i q) = true then spec_KnowsNoThing.l2 m t l (a : Int) (b : Int) ((i + 1 : Nat) : Int) else some false := by
 obtain ⟨h1, h2, h3⟩ := isRel_range h
 induction d with
 | zero =>
  intro m q g
  simp only [spec_KnowsNoThing.l3]
  rw [if_neg (by omega), wrap_succ i 100 (by omega) (by omega), List.range'_zero, List.all_nil, if_pos rfl]
 | succ d ih =>
  intro m q g
  obtain ⟨M, hM⟩ : ∃ M, M = m + d + 1 := ⟨_, rfl⟩
  rw [show m + (d + 1) + 1 = M + 1 from by omega]
  simp only [spec_KnowsNoThing.l3]
  have e1 := swap_here t a i q h1 h2 (by omega) (by omega) (by omega) (by omega) hi
  have e2 := swap_here t b i q h1 h2 (by omega) (by omega) (by omega) (by omega) hi
  have x1 := exch_here t a i q h1 h2 (by omega) (by omega) (by omega) (by omega) hi
  have x2 := exch_here t b i q h1 h2 (by omega) (by omega) (by omega) (by omega) hi
  have j1 := index_range t a b h1 h2 (by omega) (by omega) (by omega) (by omega)
  have j2 := index_range t (exch a i q) (exch b i q) h1 h2 x1.2.1 x1.2.2 x2.2.1 x2.2.2
  rw [if_pos (by omega), if_pos h1, e1, e2, Option.bind_some, Option.bind_some, idx_wrap t a b h1 h2 (by omega) (by omega) (by omega) (by omega), idx_wrap t _ _ h1 h2 x1.2.1 x1.2.2 x2.2.1 x2.2.2, if_pos j1.1, if_pos (by rw [h3]; exact j1.2.1), if_pos j2.1, if_pos (by rw [h3]; exact j2.2.1), wrap_succ q 100 (by omega) (by omega), hM, ih m (q + 1) (by omega), show List.range' q (d + 1) = q :: List.range' (q + 1) d from rfl, List.all_cons]
  have hs := rel_same t l h a b (exch a i q) (exch b i q)
  by_cases c : rd l (↑a * pw t + ↑b) = rd l (exch ↑a ↑i ↑q * pw t + exch ↑b ↑i ↑q)
  ·rw [if_pos c, show kntAt t l a b i q = true from hs.1 c, Bool.true_and]
  ·rw [if_neg c, show kntAt t l a b i q = false from Bool.eq_false_iff.mpr (fun g => c (hs.2 g)), Bool.false_and, if_neg (by decide)]
theorem spec_KnowsNoThing_l2 (t : Int) (l : List Int) (h : isRel t l = true) (B T : Nat) (hp : pw t = (B : Int)) (hT : t = (T : Int)) (a b : Nat) (ha : a < B) (hb : b < B) (hb8 : B ≤ 8) (e : Nat) : ∀ (k i : Nat), i + e = T → 20 * e + 20 < k →
  ∃ k', k ≤ k' + 20 * e + 20 ∧ spec_KnowsNoThing.l2 k t l (a : Int) (b : Int) (i : Int) = if ((List.range' i e).all fun (i : Nat) => (List.range' 0 i).all fun (q : Nat) => kntAt t l a b i q) = true then spec_KnowsNoThing.l1 k' t l (a : Int) ((b + 1 : Nat) : Int) else some false := by
 obtain ⟨h1, h2, h3⟩ := isRel_range h
 induction e with
 | zero =>
  intro k i g hk
  obtain ⟨k, rfl⟩ : ∃ m, k = m + 1 := ⟨k - 1, by omega⟩
  refine ⟨k, by omega, ?_⟩
  simp only [spec_KnowsNoThing.l2]
  rw [if_neg (by omega), wrap_succ b 100 (by omega) (by omega), List.range'_zero, List.all_nil, if_pos rfl]
 | succ e ih =>
  intro k i g hk
  obtain ⟨k, rfl⟩ : ∃ m, k = m + i + 1 + 1 := ⟨k - (i + 2), by omega⟩
  obtain ⟨k', hk', hh⟩ := ih k (i + 1) (by omega) (by omega)
  refine ⟨k', by omega, ?_⟩
  have := spec_KnowsNoThing_l3 t l h B hp a b i ha hb (by omega) i k 0 (by omega)
  simp only [spec_KnowsNoThing.l2]
  rw [if_pos (by omega)]
  refine Eq.trans this ?_
  rw [hh, show List.range' i (e + 1) = i :: List.range' (i + 1) e from rfl, List.all_cons]
  cases ((List.range' 0 i).all fun (q : Nat) => kntAt t l a b i q) <;> first | rfl | simp
theorem knt_all (t : Int) (l : List Int) (T : Nat) (hT : t = (T : Int)) (a b : Int) : ((List.range' 0 T).all fun (i : Nat) => (List.range' 0 i).all fun (q : Nat) => kntAt t l a b i q) = kntP t l a b := by
 unfold kntP
 rw [show t.toNat = T from by omega]
 simp only [List.range_eq_range']
theorem spec_KnowsNoThing_l1 (t : Int) (l : List Int) (h : isRel t l = true) (B T : Nat) (hp : pw t = (B : Int)) (hT : t = (T : Int)) (hb8 : B ≤ 8) (a : Nat) (ha : a < B) (e : Nat) : ∀ (k b : Nat), b + e = B → 100 * e + 100 < k →
  ∃ k', k ≤ k' + 100 * e + 100 ∧ spec_KnowsNoThing.l1 k t l (a : Int) (b : Int) = if ((List.range' b e).all fun (b : Nat) => kntP t l a b) = true then spec_KnowsNoThing.l0 k' t l ((a + 1 : Nat) : Int) else some false := by
 obtain ⟨h1, h2, h3⟩ := isRel_range h
 induction e with
 | zero =>
  intro k b g hk
  obtain ⟨k, rfl⟩ : ∃ m, k = m + 1 := ⟨k - 1, by omega⟩
  refine ⟨k, by omega, ?_⟩
  simp only [spec_KnowsNoThing.l1]
  rw [if_pos h1, shl_one t h1 h2, hp, if_neg (by omega), wrap_succ a 100 (by omega) (by omega), List.range'_zero, List.all_nil, if_pos rfl]
 | succ e ih =>
  intro k b g hk
  obtain ⟨k, rfl⟩ : ∃ m, k = m + 1 := ⟨k - 1, by omega⟩
  obtain ⟨k1, hk1, hh1⟩ := spec_KnowsNoThing_l2 t l h B T hp hT a b ha (by omega) hb8 T k 0 (by omega) (by omega)
  obtain ⟨k', hk', hh⟩ := ih k1 (b + 1) (by omega) (by omega)
  refine ⟨k', by omega, ?_⟩
  rw [knt_all t l T hT] at hh1
  simp only [spec_KnowsNoThing.l1]
  rw [if_pos h1, shl_one t h1 h2, hp, if_pos (by omega)]
  refine Eq.trans hh1 ?_
  rw [hh, show List.range' b (e + 1) = b :: List.range' (b + 1) e from rfl, List.all_cons]
  cases kntP t l a b <;> first | rfl | simp
theorem spec_KnowsNoThing_l0 (t : Int) (l : List Int) (h : isRel t l = true) (B T : Nat) (hp : pw t = (B : Int)) (hT : t = (T : Int)) (hb8 : B ≤ 8) (e : Nat) : ∀ (k a : Nat), a + e = B → 1000 * e + 1000 < k →
  spec_KnowsNoThing.l0 k t l (a : Int) = some ((List.range' a e).all fun (a : Nat) => (List.range' 0 B).all fun (b : Nat) => kntP t l a b) := by
 obtain ⟨h1, h2, h3⟩ := isRel_range h
 induction e with
 | zero =>
  intro k a g hk
  obtain ⟨k, rfl⟩ : ∃ m, k = m + 1 := ⟨k - 1, by omega⟩
  simp only [spec_KnowsNoThing.l0]
  rw [if_pos h1, shl_one t h1 h2, hp, if_neg (by omega), List.range'_zero, List.all_nil]
 | succ e ih =>
  intro k a g hk
  obtain ⟨k, rfl⟩ : ∃ m, k = m + 1 := ⟨k - 1, by omega⟩
  obtain ⟨k1, hk1, hh1⟩ := spec_KnowsNoThing_l1 t l h B T hp hT hb8 a (by omega) B k 0 (by omega) (by omega)
  simp only [spec_KnowsNoThing.l0]
  rw [if_pos h1, shl_one t h1 h2, hp, if_pos (by omega)]
  refine Eq.trans hh1 ?_
  rw [ih k1 (a + 1) (by omega) (by omega), show List.range' a (e + 1) = a :: List.range' (a + 1) e from rfl, List.all_cons]
  cases ((List.range' 0 B).all fun (b : Nat) => kntP t l a b) <;> first | rfl | simp
def kntAllP (t : Int) (l : List Int) : Bool := isRel t l && forAllP t (impl_KnowsNoThing.so t l)
theorem spec_KnowsNoThing_k (t : Int) (l : List Int) (hl : l.length ≤ 1048576) (k : Nat) (hk : 1048600 ≤ k) : spec_KnowsNoThing.f k t l = some (kntAllP t l) := by
 unfold spec_KnowsNoThing.f kntAllP
 rw [spec_RelationOk_k t l hl k hk, Option.bind_some]
 by_cases h : isRel t l = true
 ·obtain ⟨h1, h2, h3⟩ := isRel_range h
  obtain ⟨B, hp, hb8, hB⟩ := pw_nat t h1 h2
  obtain ⟨T, hT⟩ := Int.eq_ofNat_of_zero_le h1
  rw [if_pos h, h, Bool.true_and, ← forAll_range t B hB]
  exact spec_KnowsNoThing_l0 t l h B T hp hT hb8 B k 0 (by omega) (by omega)
 ·rw [if_neg h, Bool.eq_false_iff.mpr h, Bool.false_and]
theorem impl_KnowsNoThing_k (t : Int) (l : List Int) (_hl : l.length ≤ 1048576) (k : Nat) (_hk : 1048600 ≤ k) : impl_KnowsNoThing.f t l = some (kntAllP t l) := rfl
/- Plain facts on lists of numbers by rows of one length. No condition beyond those typed. -/
def rowB (f : Int → Int → Int) (a m : Nat) : List Int := (List.range m).map fun (s : Nat) => f (a : Int) (s : Int)
def rowsB (f : Int → Int → Int) (B n : Nat) : List Int := (List.range n).flatMap fun a => rowB f a B
theorem rowB_zero (f : Int → Int → Int) (a : Nat) : rowB f a 0 = [] := rfl
theorem rowB_succ (f : Int → Int → Int) (a m : Nat) : rowB f a (m + 1) = rowB f a m ++ [f a m] := by simp [rowB, List.range_succ]
theorem rowsB_succ (f : Int → Int → Int) (B n : Nat) : rowsB f B (n + 1) = rowsB f B n ++ rowB f n B := by simp [rowsB, List.range_succ]
theorem rowB_length (f : Int → Int → Int) (a m : Nat) : (rowB f a m).length = m := by simp [rowB]
theorem rowsB_length (f : Int → Int → Int) (B : Nat) : ∀ n, (rowsB f B n).length = n * B
 | 0 => by simp [rowsB]
 | n + 1 => by rw [rowsB_succ, List.length_append, rowsB_length f B n, rowB_length, Nat.succ_mul]
theorem rowsB_bound (f : Int → Int → Int) (B n m : Nat) (hB : B ≤ 8) (hn : n ≤ 8) (hm : m ≤ 8) : (rowsB f B n ++ rowB f n m).length < 17592186044416 := by
 rw [List.length_append, rowsB_length, rowB_length]
 have := Nat.mul_le_mul hn hB
 omega
end Go.Proofs.Ytcongmckkjbhiaa.P
namespace Go.Proofs.Ytcongmckkjbhiaa.P
open Go.RowKit Go.Proofs.YtcongmckkjbhiaaW.PrintWords Go.Proofs.YtcongmckkjbhiaaW.PrintLast Go.Proofs.YtcongmckkjbhiaaW.PrintMore
attribute [local go_sem] max2_int min2_int max_two min_two max_three min_three max_four min_four
set_option linter.unusedVariables false
set_option linter.unusedSimpArgs false
/-! ### HAND what isTriangle comes to -/
theorem isTriangle_round (l : List Int) (hl : l.length ≤ 9223372036854775807) (d : Nat) : ∀ (k i : Nat), i + d = l.length → d < k → impl_isTriangle.l0 k l l (l.length : Int) (i : Int) = some ((l.drop i).all (fun x => x == 0 || x == 1) && l.length == 21) := by
 induction d with
 | zero =>
  intro k i h hk
  obtain ⟨k, rfl⟩ : ∃ m, k = m + 1 := ⟨k - 1, by omega⟩
  simp only [impl_isTriangle.l0]
  rw [if_neg (by omega), List.drop_of_length_le (by omega)]
  congr 1
  rw [List.all_nil, Bool.true_and, Bool.eq_iff_iff, beq_iff_eq, beq_iff_eq]
  omega
 | succ d ih =>
  intro k i h hk
  obtain ⟨k, rfl⟩ : ∃ m, k = m + 1 := ⟨k - 1, by omega⟩
  have hi : i < l.length := by omega
  have hr : rd l (i : Int) = l[i] := by simp [rd, List.getD_eq_getElem?_getD, List.getElem?_eq_getElem hi]
  have hd_ : l.drop i = l[i] :: l.drop (i + 1) := List.drop_eq_getElem_cons hi
  have hw : wrap64 ((i : Int) + 1) = ((i + 1 : Nat) : Int) := by unfold wrap64; omega
  simp only [impl_isTriangle.l0]
  rw [if_pos (by omega), if_pos (by omega), if_pos (by omega), hr, hw, ih k (i + 1) (by omega) (by omega), hd_, List.all_cons]
  by_cases h0 : l[i] = 0
  ·rw [if_pos h0, show (l[i] == 0 || l[i] == 1) = true from by simp [h0], Bool.true_and]
  ·by_cases h1 : l[i] = 1
   ·rw [if_neg h0, if_pos h1, show (l[i] == 0 || l[i] == 1) = true from by simp [h1], Bool.true_and]
   ·rw [if_neg h0, if_neg h1, show (l[i] == 0 || l[i] == 1) = false from by simp [h0, h1], Bool.false_and, Bool.false_and]
end Go.Proofs.Ytcongmckkjbhiaa.P
/- Plain facts on triangles: what the printed l1In, PlaceOf, TriangleOk (reference and program) come to; lists of 21 numbers by places. -/
namespace Go.Proofs.Ytcongmckkjbhiaa.P
open Go.RowKit Go.Proofs.YtcongmckkjbhiaaW.PrintWords Go.Proofs.YtcongmckkjbhiaaW.PrintLast
theorem l1In_eq (n a b : Int) : spec_l1In.f n a b = some (decide (a ≤ n ∧ n ≤ b)) := by
 unfold spec_l1In.f
 by_cases h : n ≥ a
 ·rw [if_pos h]; congr 1; rw [decide_eq_decide]; omega
 ·rw [if_neg h]; congr 1; symm; rw [decide_eq_false_iff_not]; omega
/-- The place of an entry. -/
def pl (a s : Int) : Int := a * (a + 1) / 2 + s
theorem five (a : Int) (h1 : 0 ≤ a) (h2 : a ≤ 5) : a = 0 ∨ a = 1 ∨ a = 2 ∨ a = 3 ∨ a = 4 ∨ a = 5 := by omega
theorem pl_range (a s : Int) (h1 : 0 ≤ a) (h2 : a ≤ 5) (h3 : 0 ≤ s) (h4 : s ≤ a) : 0 ≤ pl a s ∧ pl a s < 21 := by
 unfold pl
 rcases five a h1 h2 with rfl | rfl | rfl | rfl | rfl | rfl <;> omega
theorem pl_wrap (a s : Int) (h1 : 0 ≤ a) (h2 : a ≤ 5) (h3 : 0 ≤ s) (h4 : s ≤ a) : wrap64 ((wrap64 (Int.tdiv (wrap64 (a * (wrap64 (a + 1)))) 2)) + s) = pl a s := by
 unfold pl
 rcases five a h1 h2 with rfl | rfl | rfl | rfl | rfl | rfl <;> (simp [wrap64]; omega)
/-- The place, or -1. -/
def plOr (a s : Int) : Int := if 0 ≤ a ∧ a ≤ 5 ∧ 0 ≤ s ∧ s ≤ a then pl a s else -1
theorem spec_PlaceOf_eq (a s : Int) : spec_PlaceOf.f a s = some (plOr a s) := by
 unfold spec_PlaceOf.f plOr
 simp only [l1In_eq, Option.bind_some, decide_eq_true_eq]
 by_cases h : 0 ≤ a ∧ a ≤ 5
 ·rw [if_pos h]
  by_cases h' : 0 ≤ s ∧ s ≤ a
  ·rw [if_pos h', if_pos ⟨h.1, h.2, h'.1, h'.2⟩, pl_wrap a s h.1 h.2 h'.1 h'.2]
  ·rw [if_neg h', if_neg (fun h2 => h' ⟨h2.2.2.1, h2.2.2.2⟩)]
 ·rw [if_neg h, if_neg (fun h2 => h ⟨h2.1, h2.2.1⟩)]
theorem plOr_in (a s : Int) (h1 : 0 ≤ a) (h2 : a ≤ 5) (h3 : 0 ≤ s) (h4 : s ≤ a) : plOr a s = pl a s := if_pos ⟨h1, h2, h3, h4⟩
theorem spec_TriangleOk_round (l : List Int) (hl : l.length ≤ 1048576) (d : Nat) : ∀ (k i : Nat), i + d = l.length → d < k → spec_TriangleOk.l0 k l (i : Int) = some ((l.drop i).all (fun x => x == 0 || x == 1) && l.length == 21) := by
 induction d with
 | zero =>
  intro k i h hk
  obtain ⟨k, rfl⟩ : ∃ m, k = m + 1 := ⟨k - 1, by omega⟩
  simp only [spec_TriangleOk.l0]
  rw [if_neg (by omega), List.drop_of_length_le (by omega), List.all_nil, Bool.true_and]
  congr 1
  rw [Bool.eq_iff_iff, beq_iff_eq, beq_iff_eq]
  omega
 | succ d ih =>
  intro k i h hk
  obtain ⟨k, rfl⟩ : ∃ m, k = m + 1 := ⟨k - 1, by omega⟩
  have hi : i < l.length := by omega
  have hd_ : l.drop i = l[i] :: l.drop (i + 1) := List.drop_eq_getElem_cons hi
  simp only [spec_TriangleOk.l0]
  rw [if_pos (by omega), if_pos (by omega), rd_get l i hi, l1In_eq, Option.bind_some, wrap_succ i l.length hi hl, ih k (i + 1) (by omega) (by omega), hd_, List.all_cons]
  by_cases h0 : l[i] = 0 ∨ l[i] = 1
  ·rw [if_pos (decide_eq_true (by omega)), show (l[i] == 0 || l[i] == 1) = true from by simpa using h0, Bool.true_and]
  ·rw [if_neg (by rw [decide_eq_true_eq]; omega), show (l[i] == 0 || l[i] == 1) = false from by simpa using h0, Bool.false_and, Bool.false_and]
theorem spec_TriangleOk_k (l : List Int) (hl : l.length ≤ 1048576) (k : Nat) (hk : 1048576 < k) : spec_TriangleOk.f k l = some (isTri l) := by
 unfold spec_TriangleOk.f isTri
 simpa using spec_TriangleOk_round l hl l.length k 0 (by omega) (by omega)
theorem impl_isTriangle_k (l : List Int) (hl : l.length ≤ 1048576) (k : Nat) (hk : 1048576 < k) : impl_isTriangle.f k l = some (isTri l) := by
 unfold impl_isTriangle.f isTri
 simpa using isTriangle_round l (by omega) l.length k 0 (by omega) (by omega)
/-! The 21 places. -/
def pairs : List (Int × Int) := [(0, 0), (1, 0), (1, 1), (2, 0), (2, 1), (2, 2), (3, 0), (3, 1), (3, 2), (3, 3), (4, 0), (4, 1), (4, 2), (4, 3), (4, 4), (5, 0), (5, 1), (5, 2), (5, 3), (5, 4), (5, 5)]
/-- The list of a number at each place. -/
def triI (f : Int → Int → Int) : List Int := pairs.map fun p => f p.1 p.2
theorem pairs_range (p : Int × Int) (h : p ∈ pairs) : 0 ≤ p.1 ∧ p.1 ≤ 5 ∧ 0 ≤ p.2 ∧ p.2 ≤ p.1 := by
 revert p
 decide
theorem triI_length (f : Int → Int → Int) : (triI f).length = 21 := by simp [triI, pairs]
theorem triBy_eq (so : Int → Int → Bool) : triBy so = triI fun a s => if so a s = true then 1 else 0 := rfl
theorem triI_congr (f g : Int → Int → Int) (h : ∀ a s, 0 ≤ a → a ≤ 5 → 0 ≤ s → s ≤ a → f a s = g a s) : triI f = triI g := by
 unfold triI
 apply List.map_congr_left
 intro p hp
 obtain ⟨h1, h2, h3, h4⟩ := pairs_range p hp
 exact h p.1 p.2 h1 h2 h3 h4
theorem tri_bit (l : List Int) (h : isTri l = true) (i : Int) : rd l i = 0 ∨ rd l i = 1 := by
 unfold rd
 rw [List.getD_eq_getElem?_getD]
 by_cases hi : i.toNat < l.length
 ·rw [List.getElem?_eq_getElem hi, Option.getD_some]
  simp only [isTri, Bool.and_eq_true, List.all_eq_true] at h
  have := h.1 _ (List.getElem_mem hi)
  simpa using this
 ·rw [List.getElem?_eq_none (by omega)]
  exact .inl rfl
theorem isTri_of (l : List Int) (h1 : l.length = 21) (h2 : ∀ x ∈ l, x = 0 ∨ x = 1) : isTri l = true := by
 simp only [isTri, Bool.and_eq_true, List.all_eq_true]
 exact ⟨fun x hx => by simpa using h2 x hx, by simpa using h1⟩
theorem isTri_triI (f : Int → Int → Int) (h : ∀ a s, 0 ≤ a → a ≤ 5 → 0 ≤ s → s ≤ a → f a s = 0 ∨ f a s = 1) : isTri (triI f) = true := by
 refine isTri_of _ (triI_length f) fun x hx => ?_
 obtain ⟨p, hp, rfl⟩ := List.mem_map.mp hx
 obtain ⟨h1, h2, h3, h4⟩ := pairs_range p hp
 exact h p.1 p.2 h1 h2 h3 h4
theorem isTri_triBy (so : Int → Int → Bool) : isTri (triBy so) = true := by
 rw [triBy_eq]
 refine isTri_triI _ fun a s _ _ _ _ => ?_
 by_cases h : so a s = true
 ·rw [if_pos h]; exact .inr rfl
 ·rw [if_neg h]; exact .inl rfl
/- Plain facts: what the reference's and the program's RelationFrom come to, with enough rounds, for lists of at most 2^20 numbers. -/
/-- How many things a set has (of at most three). -/
def szI (x : Int) : Int := x % 2 + x / 2 % 2 + x / 4 % 2
theorem l2Size_k (a : Int) (h1 : 0 ≤ a) (h2 : a < 8) (k : Nat) (hk : 20 ≤ k) : spec_l2Size.f k a = some (szI a) := by
 obtain ⟨k, rfl⟩ : ∃ m, k = m + 20 := ⟨k - 20, by omega⟩
 clear hk
 have hf : ∀ x : Fin 8, spec_l2Size.f 20 (x.val : Int) = some (szI (x.val : Int)) := by decide +kernel
 obtain ⟨x, rfl⟩ := Int.eq_ofNat_of_zero_le h1
 have h0 := hf ⟨x, by omega⟩
 induction k with
 | zero => exact h0
 | succ k ih =>
  have := spec_l2Size.mono (x : Int) (k + 20)
  rw [show k + 1 + 20 = k + 20 + 1 from by omega]
  exact this _ ih
theorem l2Both_k (a b : Int) (h1 : 0 ≤ a) (h2 : a < 8) (h3 : 0 ≤ b) (h4 : b < 8) (k : Nat) (hk : 20 ≤ k) : spec_l2Both.f k a b = some (Go.bits .and .i64 a b) := by
 obtain ⟨k, rfl⟩ : ∃ m, k = m + 20 := ⟨k - 20, by omega⟩
 clear hk
 have hf : ∀ x y : Fin 8, spec_l2Both.f 20 (x.val : Int) (y.val : Int) = some (Go.bits .and .i64 (x.val : Int) (y.val : Int)) := by decide +kernel
 obtain ⟨x, rfl⟩ := Int.eq_ofNat_of_zero_le h1
 obtain ⟨y, rfl⟩ := Int.eq_ofNat_of_zero_le h3
 have h0 := hf ⟨x, by omega⟩ ⟨y, by omega⟩
 induction k with
 | zero => exact h0
 | succ k ih =>
  have := spec_l2Both.mono (x : Int) (y : Int) (k + 20)
  rw [show k + 1 + 20 = k + 20 + 1 from by omega]
  exact this _ ih
theorem sizeOf_eq (a : Int) (h1 : 0 ≤ a) (h2 : a < 8) : impl_sizeOf.f a = some (szI a) := by
 have hf : ∀ x : Fin 8, impl_sizeOf.f (x.val : Int) = some (szI (x.val : Int)) := by decide +kernel
 obtain ⟨x, rfl⟩ := Int.eq_ofNat_of_zero_le h1
 exact hf ⟨x, by omega⟩
theorem sizes (a b : Int) (h1 : 0 ≤ a) (h2 : a < 8) (h3 : 0 ≤ b) (h4 : b < 8) : 0 ≤ szI a ∧ szI a ≤ 3 ∧ 0 ≤ szI (Go.bits .and .i64 a b) ∧ szI (Go.bits .and .i64 a b) ≤ szI a := by
 have hf : ∀ x y : Fin 8, 0 ≤ szI (x.val : Int) ∧ szI (x.val : Int) ≤ 3 ∧ 0 ≤ szI (Go.bits .and .i64 (x.val : Int) (y.val : Int)) ∧ szI (Go.bits .and .i64 (x.val : Int) (y.val : Int)) ≤ szI (x.val : Int) := by decide +kernel
 obtain ⟨x, rfl⟩ := Int.eq_ofNat_of_zero_le h1
 obtain ⟨y, rfl⟩ := Int.eq_ofNat_of_zero_le h3
 exact hf ⟨x, by omega⟩ ⟨y, by omega⟩
theorem impl_placeOf_in (a s : Int) (h1 : 0 ≤ a) (h2 : a ≤ 5) (h3 : 0 ≤ s) (h4 : s ≤ a) : impl_placeOf.f a s = some (pl a s) := by
 unfold impl_placeOf.f
 rw [pl_wrap a s h1 h2 h3 h4]
def rfAt (l : List Int) (a b : Int) : Int := rd l (pl (szI a) (szI (Go.bits .and .i64 a b)))
/-- The relation of a triangle. -/
def rfP (t : Int) (l : List Int) : List Int := if (decide (0 ≤ t ∧ t ≤ 3) && isTri l) = true then rowsB (rfAt l) (2 ^ t.toNat) (2 ^ t.toNat) else []
theorem two_nat (t : Int) (h1 : 0 ≤ t) (h2 : t ≤ 3) : shl .i64 1 t = ((2 ^ t.toNat : Nat) : Int) ∧ 2 ^ t.toNat ≤ 8 := by
 rcases three t h1 h2 with rfl | rfl | rfl | rfl <;> exact ⟨by decide +kernel, by decide⟩
theorem spec_RelationFrom_l1 (t : Int) (l : List Int) (h1 : 0 ≤ t) (h2 : t ≤ 3) (h3 : l.length = 21) (B : Nat) (e1 : shl .i64 1 t = (B : Int)) (hB : B ≤ 8) (a : Nat) (ha : a < B) (d : Nat) : ∀ (m b : Nat), 100 ≤ m → b + d = B →
  spec_RelationFrom.l1 (m + d + 1) t l (rowsB (rfAt l) B a ++ rowB (rfAt l) a b) (a : Int) (b : Int) = spec_RelationFrom.l0 m t l (rowsB (rfAt l) B (a + 1)) ((a + 1 : Nat) : Int) := by
 induction d with
 | zero =>
  intro m b hm g
  obtain rfl : b = B := by omega
  obtain ⟨M, hM⟩ : ∃ M, M = m + 0 := ⟨_, rfl⟩
  rw [← hM, show m = M from by omega]
  simp only [spec_RelationFrom.l1]
  rw [if_pos h1, e1, if_neg (by omega), wrap_succ a 100 (by omega) (by omega), ← rowsB_succ]
 | succ d ih =>
  intro m b hm g
  obtain ⟨M, hM⟩ : ∃ M, M = m + d + 1 := ⟨_, rfl⟩
  rw [show m + (d + 1) + 1 = M + 1 from by omega]
  simp only [spec_RelationFrom.l1]
  have hs := sizes a b (by omega) (by omega) (by omega) (by omega)
  have hx : 0 ≤ Go.bits .and .i64 (a : Int) (b : Int) ∧ Go.bits .and .i64 (a : Int) (b : Int) < 8 := and_range 3 a b (by omega) (by omega) (by omega) (by show (a : Int) < 8; omega) (by omega) (by show (b : Int) < 8; omega)
  have hp := pl_range (szI a) (szI (Go.bits .and .i64 a b)) (by omega) (by omega) (by omega) (by omega)
  rw [if_pos h1, e1, if_pos (by omega), l2Size_k a (by omega) (by omega) M (by omega), Option.bind_some, l2Both_k a b (by omega) (by omega) (by omega) (by omega) M (by omega), Option.bind_some, l2Size_k _ hx.1 hx.2 M (by omega), Option.bind_some, spec_PlaceOf_eq, Option.bind_some, plOr_in _ _ (by omega) (by omega) (by omega) (by omega), if_pos hp.1, if_pos (by omega), if_pos (rowsB_bound _ _ _ _ (by omega) (by omega) (by omega)), wrap_succ b 100 (by omega) (by omega), hM, List.append_assoc, show rowB (rfAt l) a b ++ [rd l (pl (szI ↑a) (szI (Go.bits .and .i64 ↑a ↑b)))] = rowB (rfAt l) a (b + 1) from (rowB_succ _ _ _).symm]
  exact ih m (b + 1) hm (by omega)
theorem spec_RelationFrom_l0 (t : Int) (l : List Int) (h1 : 0 ≤ t) (h2 : t ≤ 3) (h3 : l.length = 21) (B : Nat) (e1 : shl .i64 1 t = (B : Int)) (hB : B ≤ 8) (e : Nat) : ∀ (k a : Nat), a + e = B → 20 * e + 200 < k →
  spec_RelationFrom.l0 k t l (rowsB (rfAt l) B a) (a : Int) = some (rowsB (rfAt l) B B) := by
 induction e with
 | zero =>
  intro k a g hk
  obtain ⟨k, rfl⟩ : ∃ m, k = m + 1 := ⟨k - 1, by omega⟩
  obtain rfl : a = B := by omega
  simp only [spec_RelationFrom.l0]
  rw [if_pos h1, e1, if_neg (by omega)]
 | succ e ih =>
  intro k a g hk
  obtain ⟨k, rfl⟩ : ∃ m, k = m + B + 1 + 1 := ⟨k - (B + 2), by omega⟩
  have hh1 := spec_RelationFrom_l1 t l h1 h2 h3 B e1 hB a (by omega) B k 0 (by omega) (by omega)
  rw [rowB_zero, List.append_nil] at hh1
  simp only [spec_RelationFrom.l0]
  rw [if_pos h1, e1, if_pos (by omega)]
  refine Eq.trans hh1 ?_
  exact ih k (a + 1) (by omega) (by omega)
theorem spec_RelationFrom_k (t : Int) (l : List Int) (hl : l.length ≤ 1048576) (k : Nat) (hk : 1048700 ≤ k) : spec_RelationFrom.f k t l = some (rfP t l) := by
 obtain ⟨k, rfl⟩ : ∃ m, k = m + 1 := ⟨k - 1, by omega⟩
 unfold spec_RelationFrom.f rfP
 rw [Option.bind_some, l1In_eq, Option.bind_some]
 by_cases h : 0 ≤ t ∧ t ≤ 3
 ·rw [if_pos (decide_eq_true h), spec_TriangleOk_k l hl _ (by omega), Option.bind_some, decide_eq_true h, Bool.true_and]
  simp only [spec_RelationFrom.j0]
  by_cases ht : isTri l = true
  ·obtain ⟨e1, e3⟩ := two_nat t h.1 h.2
   rw [ht, if_neg (by decide), if_pos rfl]
   exact spec_RelationFrom_l0 t l h.1 h.2 (isTri_length ht) _ e1 e3 (2 ^ t.toNat) k 0 (by omega) (by omega)
  ·rw [Bool.eq_false_iff.mpr ht, if_pos (by decide), if_neg (by decide)]
 ·rw [if_neg (by rw [decide_eq_true_eq]; exact h), decide_eq_false h, Bool.false_and]
  simp only [spec_RelationFrom.j0]
  rfl
theorem impl_RelationFrom_l1 (t : Int) (l : List Int) (h1 : 0 ≤ t) (h2 : t ≤ 3) (h3 : l.length = 21) (B : Nat) (hB : B ≤ 8) (a : Nat) (ha : a < B) (d : Nat) : ∀ (m b : Nat), b + d = B →
  impl_RelationFrom.l1 (m + d + 1) t l (rowsB (rfAt l) B a ++ rowB (rfAt l) a b) (a : Int) (B : Int) (a : Int) (B : Int) (b : Int) = impl_RelationFrom.l0 m t l (rowsB (rfAt l) B (a + 1)) (B : Int) ((a + 1 : Nat) : Int) := by
 induction d with
 | zero =>
  intro m b g
  obtain rfl : b = B := by omega
  obtain ⟨M, hM⟩ : ∃ M, M = m + 0 := ⟨_, rfl⟩
  rw [← hM, show m = M from by omega]
  simp only [impl_RelationFrom.l1]
  rw [if_neg (by omega), wrap_succ a 100 (by omega) (by omega), ← rowsB_succ]
 | succ d ih =>
  intro m b g
  obtain ⟨M, hM⟩ : ∃ M, M = m + d + 1 := ⟨_, rfl⟩
  rw [show m + (d + 1) + 1 = M + 1 from by omega]
  simp only [impl_RelationFrom.l1]
  have hs := sizes a b (by omega) (by omega) (by omega) (by omega)
  have hx : 0 ≤ Go.bits .and .i64 (a : Int) (b : Int) ∧ Go.bits .and .i64 (a : Int) (b : Int) < 8 := and_range 3 a b (by omega) (by omega) (by omega) (by show (a : Int) < 8; omega) (by omega) (by show (b : Int) < 8; omega)
  have hp := pl_range (szI a) (szI (Go.bits .and .i64 a b)) (by omega) (by omega) (by omega) (by omega)
  rw [if_pos (by omega), sizeOf_eq a (by omega) (by omega), Option.bind_some, sizeOf_eq _ hx.1 hx.2, Option.bind_some, impl_placeOf_in _ _ (by omega) (by omega) (by omega) (by omega), Option.bind_some, if_pos hp.1, if_pos (by omega), if_pos (rowsB_bound _ _ _ _ (by omega) (by omega) (by omega)), wrap_succ b 100 (by omega) (by omega), hM, List.append_assoc, show rowB (rfAt l) a b ++ [rd l (pl (szI ↑a) (szI (Go.bits .and .i64 ↑a ↑b)))] = rowB (rfAt l) a (b + 1) from (rowB_succ _ _ _).symm]
  exact ih m (b + 1) (by omega)
theorem impl_RelationFrom_l0 (t : Int) (l : List Int) (h1 : 0 ≤ t) (h2 : t ≤ 3) (h3 : l.length = 21) (B : Nat) (e1 : shl .i64 1 t = (B : Int)) (hB : B ≤ 8) (e : Nat) : ∀ (k a : Nat), a + e = B → 20 * e + 20 < k →
  impl_RelationFrom.l0 k t l (rowsB (rfAt l) B a) (B : Int) (a : Int) = some (rowsB (rfAt l) B B) := by
 induction e with
 | zero =>
  intro k a g hk
  obtain ⟨k, rfl⟩ : ∃ m, k = m + 1 := ⟨k - 1, by omega⟩
  obtain rfl : a = B := by omega
  simp only [impl_RelationFrom.l0]
  rw [if_neg (by omega)]
 | succ e ih =>
  intro k a g hk
  obtain ⟨k, rfl⟩ : ∃ m, k = m + B + 1 + 1 := ⟨k - (B + 2), by omega⟩
  have hh1 := impl_RelationFrom_l1 t l h1 h2 h3 B hB a (by omega) B k 0 (by omega)
  rw [rowB_zero, List.append_nil] at hh1
  simp only [impl_RelationFrom.l0]
  rw [if_pos (by omega), if_pos h1, e1]
  refine Eq.trans hh1 ?_
  exact ih k (a + 1) (by omega) (by omega)
theorem impl_RelationFrom_k (t : Int) (l : List Int) (hl : l.length ≤ 1048576) (k : Nat) (hk : 1048700 ≤ k) : impl_RelationFrom.f k t l = some (rfP t l) := by
 obtain ⟨k, rfl⟩ : ∃ m, k = m + 1 := ⟨k - 1, by omega⟩
 unfold impl_RelationFrom.f rfP
 by_cases a1 : t < 0
 ·rw [if_pos a1, decide_eq_false (show ¬ (0 ≤ t ∧ t ≤ 3) by omega), Bool.false_and]
  simp only [impl_RelationFrom.j0]
  rfl
 ·by_cases a2 : t > 3
  ·rw [if_neg a1, if_pos a2, decide_eq_false (show ¬ (0 ≤ t ∧ t ≤ 3) by omega), Bool.false_and]
   simp only [impl_RelationFrom.j0]
   rfl
  ·rw [if_neg a1, if_neg a2, impl_isTriangle_k l hl _ (by omega), Option.bind_some, decide_eq_true (show 0 ≤ t ∧ t ≤ 3 by omega), Bool.true_and]
   simp only [impl_RelationFrom.j0]
   by_cases ht : isTri l = true
   ·obtain ⟨e1, e3⟩ := two_nat t (by omega) (by omega)
    rw [ht, if_neg (by decide), if_pos rfl, if_pos (by omega), e1]
    exact impl_RelationFrom_l0 t l (by omega) (by omega) (isTri_length ht) _ e1 e3 (2 ^ t.toNat) k 0 (by omega) (by omega)
   ·rw [Bool.eq_false_iff.mpr ht, if_pos (by decide), if_neg (by decide)]
/- Things exchanged: the sizes stay; sets with the same sizes are reached by at most two exchanges. -/
theorem exch_sizesE (t a b : Int) (i k : Nat) (h1 : 0 ≤ t) (h2 : t ≤ 3) (a0 : 0 ≤ a) (a1 : a < pw t) (b0 : 0 ≤ b) (b1 : b < pw t) (h6 : k < i) (h7 : (i : Int) < t) : szI (exch a i k) = szI a ∧ szI (Go.bits .and .i64 (exch a i k) (exch b i k)) = szI (Go.bits .and .i64 a b) := by
 have hf : ∀ T : Fin 4, ∀ x y : Fin 8, ∀ p q : Fin 3, (x.val : Int) < pw T.val → (y.val : Int) < pw T.val → q.val < p.val → p.val < T.val → szI (exch x.val p.val q.val) = szI x.val ∧ szI (Go.bits .and .i64 (exch x.val p.val q.val) (exch y.val p.val q.val)) = szI (Go.bits .and .i64 x.val y.val) := by decide +kernel
 have hp := pw_range t h1 h2
 obtain ⟨T, rfl⟩ := Int.eq_ofNat_of_zero_le h1
 obtain ⟨x, rfl⟩ := Int.eq_ofNat_of_zero_le a0
 obtain ⟨y, rfl⟩ := Int.eq_ofNat_of_zero_le b0
 exact hf ⟨T, by omega⟩ ⟨x, by omega⟩ ⟨y, by omega⟩ ⟨i, by omega⟩ ⟨k, by omega⟩ a1 b1 h6 (show i < T by omega)
def exPairs (T : Nat) : List (Nat × Nat) := (List.range T).flatMap fun i => (List.range i).map fun k => (i, k)
def exPaths (T : Nat) : List (List (Nat × Nat)) := [] :: ((exPairs T).map (fun p => [p]) ++ (exPairs T).flatMap fun p => (exPairs T).map fun q => [p, q])
def exGo (p : List (Nat × Nat)) (s : Int) : Int := p.foldl (fun s q => exch s q.1 q.2) s
theorem exPaths_ok (T : Nat) (h : T < 4) : ∀ p ∈ exPaths T, ∀ q ∈ p, q.2 < q.1 ∧ q.1 < T := by
 have hf : ∀ T : Fin 4, ∀ p ∈ exPaths T.val, ∀ q ∈ p, q.2 < q.1 ∧ q.1 < T.val := by decide +kernel
 exact hf ⟨T, h⟩
theorem exConn (t a b u v : Int) (h1 : 0 ≤ t) (h2 : t ≤ 3) (a0 : 0 ≤ a) (a1 : a < pw t) (b0 : 0 ≤ b) (b1 : b < pw t) (u0 : 0 ≤ u) (u1 : u < pw t) (v0 : 0 ≤ v) (v1 : v < pw t) (s1 : szI a = szI u) (s2 : szI b = szI v) (s3 : szI (Go.bits .and .i64 a b) = szI (Go.bits .and .i64 u v)) : ∃ p ∈ exPaths t.toNat, exGo p a = u ∧ exGo p b = v := by
 have hf : ∀ T : Fin 4, ∀ x : Fin 8, (x.val : Int) < pw T.val → ∀ y : Fin 8, (y.val : Int) < pw T.val → ∀ z : Fin 8, (z.val : Int) < pw T.val → szI x.val = szI z.val → ∀ w : Fin 8, (w.val : Int) < pw T.val → szI y.val = szI w.val → szI (Go.bits .and .i64 x.val y.val) = szI (Go.bits .and .i64 z.val w.val) → ((exPaths T.val).any fun p => exGo p x.val == z.val && exGo p y.val == w.val) = true := by decide +kernel
 have hp := pw_range t h1 h2
 obtain ⟨T, rfl⟩ := Int.eq_ofNat_of_zero_le h1
 obtain ⟨x, rfl⟩ := Int.eq_ofNat_of_zero_le a0
 obtain ⟨y, rfl⟩ := Int.eq_ofNat_of_zero_le b0
 obtain ⟨z, rfl⟩ := Int.eq_ofNat_of_zero_le u0
 obtain ⟨w, rfl⟩ := Int.eq_ofNat_of_zero_le v0
 have := hf ⟨T, by omega⟩ ⟨x, by omega⟩ a1 ⟨y, by omega⟩ b1 ⟨z, by omega⟩ u1 s1 ⟨w, by omega⟩ v1 s2 s3
 rw [List.any_eq_true] at this
 obtain ⟨p, hp1, hp2⟩ := this
 rw [Bool.and_eq_true, beq_iff_eq, beq_iff_eq] at hp2
 exact ⟨p, hp1, hp2⟩
theorem exGo_hr (t : Int) (l : List Int) (h1 : 0 ≤ t) (h2 : t ≤ 3) (hk : ∀ a b : Int, 0 ≤ a → a < pw t → 0 ≤ b → b < pw t → ∀ i k : Nat, i < t.toNat → k < i → kntAt t l a b i k = true) : ∀ (p : List (Nat × Nat)), (∀ q ∈ p, q.2 < q.1 ∧ q.1 < t.toNat) → ∀ a b : Int, 0 ≤ a → a < pw t → 0 ≤ b → b < pw t → hr t l (exGo p a) (exGo p b) = hr t l a b
 | [], _, _, _, _, _, _, _ => rfl
 | q :: p, hq, a, b, a0, a1, b0, b1 => by
  have h := hq q (List.mem_cons_self ..)
  have x1 := exch_here t a q.1 q.2 h1 h2 a0 a1 (by omega) (by omega) (by omega)
  have x2 := exch_here t b q.1 q.2 h1 h2 b0 b1 (by omega) (by omega) (by omega)
  have ih := exGo_hr t l h1 h2 hk p (fun q' hq' => hq q' (List.mem_cons_of_mem _ hq')) (exch a q.1 q.2) (exch b q.1 q.2) x1.2.1 x1.2.2 x2.2.1 x2.2.2
  have hh := hk a b a0 a1 b0 b1 q.1 q.2 h.2 h.1
  unfold kntAt at hh
  rw [beq_iff_eq] at hh
  show hr t l (exGo p (exch a q.1 q.2)) (exGo p (exch b q.1 q.2)) = hr t l a b
  rw [ih, hh]
/-! A place of a relation, as two sets. -/
end Go.Proofs.Ytcongmckkjbhiaa.P
namespace Go.Proofs.Ytcongmckkjbhiaa.P
open Go.RowKit Go.Proofs.YtcongmckkjbhiaaW.PrintWords Go.Proofs.YtcongmckkjbhiaaW.PrintLast Go.Proofs.YtcongmckkjbhiaaW.PrintMore
attribute [local go_sem] max2_int min2_int max_two min_two max_three min_three max_four min_four
set_option linter.unusedVariables false
set_option linter.unusedSimpArgs false
/-! ### spec_WithoutLast: function 36 -/
mutual
def spec_WithoutLast.j0 : Nat → Int → List Int → List Int → Bool → Option (List Int)
 | 0, _, _, _, _ => none
 | k + 1, x0, x1, x5, x16 => if x16 = true then (some x5) else (spec_WithoutLast.l0 k x0 x1 x5 0)
def spec_WithoutLast.l0 : Nat → Int → List Int → List Int → Int → Option (List Int)
 | 0, _, _, _, _ => none
 | k + 1, x0, x1, x5, x6 => if 0 ≤ (wrap64 (x0 - 1)) then (if x6 < (shl .i64 1 (wrap64 (x0 - 1))) then (spec_WithoutLast.l1 k x0 x1 x5 x6 0) else (some x5)) else (none)
def spec_WithoutLast.l1 : Nat → Int → List Int → List Int → Int → Int → Option (List Int)
 | 0, _, _, _, _, _ => none
 | k + 1, x0, x1, x5, x6, x7 => if 0 ≤ (wrap64 (x0 - 1)) then (if x7 < (shl .i64 1 (wrap64 (x0 - 1))) then (if 0 ≤ x0 then (if 0 ≤ (wrap64 ((shl .i64 x6 x0) + x7)) then (if (wrap64 ((shl .i64 x6 x0) + x7)) < (x1.length : Int) then (if x5.length < 17592186044416 then (spec_WithoutLast.l1 k x0 x1 (x5 ++ [rd x1 (wrap64 ((shl .i64 x6 x0) + x7))]) x6 (wrap64 (x7 + 1))) else (none)) else (none)) else (none)) else (none)) else (spec_WithoutLast.l0 k x0 x1 x5 (wrap64 (x6 + 1)))) else (none)
end
def spec_WithoutLast.f (k : Nat) (a0 : Int) (l1 : List Int) : Option (List Int) := (some (([] : List Int) : List Int)).bind fun y576 => ((spec_RelationOk.f k a0 l1).bind fun t579 => (if t579 = true then (spec_WithoutLast.j0 k a0 l1 y576 (a0 == 0)) else (spec_WithoutLast.j0 k a0 l1 y576 true)))
theorem spec_WithoutLast.mono_l : ∀ k, (∀ y0 y1 y2 y3, LeO (spec_WithoutLast.j0 k y0 y1 y2 y3) (spec_WithoutLast.j0 (k + 1) y0 y1 y2 y3)) ∧ (∀ y0 y1 y2 y3, LeO (spec_WithoutLast.l0 k y0 y1 y2 y3) (spec_WithoutLast.l0 (k + 1) y0 y1 y2 y3)) ∧ (∀ y0 y1 y2 y3 y4, LeO (spec_WithoutLast.l1 k y0 y1 y2 y3 y4) (spec_WithoutLast.l1 (k + 1) y0 y1 y2 y3 y4))
 | 0 => ⟨fun _ _ _ _ r h => by simp [spec_WithoutLast.j0] at h, fun _ _ _ _ r h => by simp [spec_WithoutLast.l0] at h, fun _ _ _ _ _ r h => by simp [spec_WithoutLast.l1] at h⟩
 | k + 1 => by
  obtain ⟨ih0, ih1, ih2⟩ := spec_WithoutLast.mono_l k
  refine ⟨?_, ?_, ?_⟩
  ·intro y0 y1 y2 y3
   unfold spec_WithoutLast.j0
   repeat' first
   | (with_reducible exact ih0 _ _ _ _)
   | (with_reducible exact ih1 _ _ _ _)
   | (with_reducible exact ih2 _ _ _ _ _)
   | (with_reducible exact spec_RelationOk.mono _ _ _)
   | (with_reducible exact LeO.refl _)
   | (with_reducible exact LeO.none _)
   | (with_reducible refine LeO.ite ?_ ?_)
   | (with_reducible refine LeO.bind ?_ (fun _ => ?_))
  ·intro y0 y1 y2 y3
   unfold spec_WithoutLast.l0
   repeat' first
   | (with_reducible exact ih0 _ _ _ _)
   | (with_reducible exact ih1 _ _ _ _)
   | (with_reducible exact ih2 _ _ _ _ _)
   | (with_reducible exact spec_RelationOk.mono _ _ _)
   | (with_reducible exact LeO.refl _)
   | (with_reducible exact LeO.none _)
   | (with_reducible refine LeO.ite ?_ ?_)
   | (with_reducible refine LeO.bind ?_ (fun _ => ?_))
  ·intro y0 y1 y2 y3 y4
   unfold spec_WithoutLast.l1
   repeat' first
   | (with_reducible exact ih0 _ _ _ _)
   | (with_reducible exact ih1 _ _ _ _)
   | (with_reducible exact ih2 _ _ _ _ _)
   | (with_reducible exact spec_RelationOk.mono _ _ _)
   | (with_reducible exact LeO.refl _)
   | (with_reducible exact LeO.none _)
   | (with_reducible refine LeO.ite ?_ ?_)
   | (with_reducible refine LeO.bind ?_ (fun _ => ?_))
theorem spec_WithoutLast.mono : ∀ a0 a1 k, LeO (spec_WithoutLast.f k a0 a1) (spec_WithoutLast.f (k + 1) a0 a1) := by
 intro a0 a1 k
 obtain ⟨ih0, ih1, ih2⟩ := spec_WithoutLast.mono_l k
 unfold spec_WithoutLast.f
 repeat' first
   | (with_reducible exact ih0 _ _ _ _)
   | (with_reducible exact ih1 _ _ _ _)
   | (with_reducible exact ih2 _ _ _ _ _)
   | (with_reducible exact spec_RelationOk.mono _ _ _)
   | (with_reducible exact LeO.refl _)
   | (with_reducible exact LeO.none _)
   | (with_reducible refine LeO.ite ?_ ?_)
   | (with_reducible refine LeO.bind ?_ (fun _ => ?_))
set_option maxHeartbeats 8000000 in
set_option maxRecDepth 100000 in
theorem spec_WithoutLast.calls (k : Nat) (a0 : Int) (A1 : Option Addr) (c1 : Nat) (l1 : List Int) (r : List Int) (w : World) (hr1 : Kd.C (Kd.int .i64) w A1 l1.length l1) (hc1 : l1.length ≤ c1) (h : spec_WithoutLast.f k a0 l1 = some r) :
  Calls Try.prog 36 #[.int .i64 a0, .slice A1 l1.length c1] w fun e w' => ∃ v0_ : Value, e = .returned (v0_) ∧ Kd.R (Kd.int .i64) 3 w' w.heap.size (fun _ => True) v0_ r ∧ Below w.heap.size w w' := by
 have HR1 := Aside0.mk hr1
 have HC1 := Aside0.mk hc1
 clear hr1 hc1
 have HB := Aside0.mk (Below.refl w.heap.size w)
 have H : ((some (([] : List Int) : List Int)).bind fun y576 => ((spec_RelationOk.f k a0 l1).bind fun t579 => (if t579 = true then (spec_WithoutLast.j0 k a0 l1 y576 (a0 == 0)) else (spec_WithoutLast.j0 k a0 l1 y576 true)))) = some r := h
 clear h
 obtain ⟨y576, hy576⟩ : ∃ y_ : List Int, y_ = (([] : List Int)) := ⟨_, rfl⟩
 replace H : ((spec_RelationOk.f k a0 l1).bind fun t579 => (if t579 = true then (spec_WithoutLast.j0 k a0 l1 y576 (a0 == 0)) else (spec_WithoutLast.j0 k a0 l1 y576 true))) = some r := by first | (rw [hy576]; with_reducible exact H) | (have H2_ := (Option.bind_some _ _).symm.trans H; rw [hy576]; with_reducible exact H2_) | (have H2_ := (Option.bind_some _ _).symm.trans H; with_reducible exact H2_) | with_reducible exact H | (rw [hy576]; exact H) | exact H
 have Ny576 := Aside0.mk hy576
 clear hy576
 have HC3 := Aside0.mk H
 clear H
 go_enter Try.func36, Try.ntmps36
 go_upto_region 2 with (first | ((with_reducible refine gate_dst (N := 8) rfl ?_); refine Kd.R_lit (Kd.int .i64) _ 3 ?hg (N := 8) ?hd (xs := ([] : List Int)) (inner := []) (ok := fun _ => True) (okp := fun _ => True) ?hr ?hp (fun _ hk => hk) trivial (Below.refl _ _) (Nat.le_refl _) (by simp) ?_; (case hd => rfl); (case hg => rfl); (case hr => first | (go_simp; done) | (go_simp; rfl)); (case hp => exact (Reps.none _ _)); intro v577 w4 ho5 hb hg_ hnew_; clear hg_ hnew_; (first | rw [← Ny576.out] at ho5 | (simp only [Int.reduceToNat] at ho5; rw [← Ny576.out] at ho5)); have n0_ := Aside0.mk (Kd.R_lower ho5 (below_size (by repeat (first | (with_reducible first | exact HB.out | apply below_alloc | apply pw_below_drewN | apply below_drew1) | exact HB.out)))); have n1_ := Aside0.mk (below_step (by repeat (first | (with_reducible first | exact HB.out | apply below_alloc | apply pw_below_drewN | apply below_drew1) | exact HB.out)) hb); clear HB; have HO578 := n0_; have HB := n1_; clear n0_ n1_; clear hb ho5))
 (try simp only [Act.put, List.setIfInBounds_toArray, List.set_cons_zero, List.set_cons_succ])
 go_cut [16] (fun v16 wc => ∃ (kq : Nat) (x16_2 : Bool), v16 = .bool x16_2 ∧ Aside0 (spec_WithoutLast.j0 kq a0 l1 y576 x16_2 = some r) ∧ Aside0 (kq ≤ k) ∧ Aside0 (Kd.R (Kd.int .i64) 3 wc w.heap.size (fun _ => True) v577 y576) ∧ Aside0 (Below w.heap.size w wc))
 case first =>
  have H := HC3.out
  clear HC3
  replace H := Option.bind_eq_some_iff.mp H
  obtain ⟨t579, A60, H⟩ := H
  replace H : (if t579 = true then (spec_WithoutLast.j0 k a0 l1 y576 (a0 == 0)) else (spec_WithoutLast.j0 k a0 l1 y576 true)) = some r := H
  have A6 := Aside0.mk A60
  clear A60
  by_cases c7 : t579 = true
  ·subst c7
   have H1 : (spec_WithoutLast.j0 k a0 l1 y576 (a0 == 0)) = some r := by rw [if_pos rfl] at H; exact H
   clear H
   have H := H1
   clear H1
   have H' := Aside0.mk H
   clear H
   go_wp2_with (first | ((with_reducible refine gate_callee (f := 21) rfl ?_); refine goesL_ (some 11) rfl rfl Try.func21 (by kernel_rfl) rfl #[.int .i64 a0, .slice A1 l1.length c1] rfl (by (try simp only [List.map_toArray, List.map_cons, List.map_nil]); first | done | rfl | (simp only [List.length_drop, List.length_take]; rfl)) ?_; (with_reducible refine (spec_RelationOk.calls k a0 _ _ l1 true _ ?side1 ?side2 A6.out).mono ?_); (case side1 => repeat (first | exact (Kd.C_below HR1.out HB.out) | (with_reducible refine Kd.C_alloc ?_ _) | (with_reducible refine Kd.C_drewN ?_ _) | (with_reducible refine Kd.C_drew ?_))); (case side2 => exact HC1.out); rintro e w' ⟨rfl, ⟨nd, rfl⟩⟩; refine ⟨_, rfl, ?_⟩))
   go_meet
   case rel => exact ⟨_, ((a0 == 0)), (by first | rfl | (simp; done) | (simp [*]; done)), H', ⟨by first | omega | exact Nat.le_refl _⟩, ⟨by (with_reducible repeat (first | apply Kd.R_alloc | apply Kd.R_drewN | apply Kd.R_drew)); exact HO578.out⟩, ⟨by repeat (first | (with_reducible first | exact HB.out | apply below_alloc | apply pw_below_drewN | apply below_drew1) | exact HB.out)⟩⟩
  ·replace c7 := Bool.eq_false_iff.mpr c7
   subst c7
   have H1 : (spec_WithoutLast.j0 k a0 l1 y576 true) = some r := by rw [if_neg (show ¬ (false = true) by decide)] at H; exact H
   clear H
   have H := H1
   clear H1
   have H' := Aside0.mk H
   clear H
   go_wp2_with (first | ((with_reducible refine gate_callee (f := 21) rfl ?_); refine goesL_ (some 11) rfl rfl Try.func21 (by kernel_rfl) rfl #[.int .i64 a0, .slice A1 l1.length c1] rfl (by (try simp only [List.map_toArray, List.map_cons, List.map_nil]); first | done | rfl | (simp only [List.length_drop, List.length_take]; rfl)) ?_; (with_reducible refine (spec_RelationOk.calls k a0 _ _ l1 false _ ?side1 ?side2 A6.out).mono ?_); (case side1 => repeat (first | exact (Kd.C_below HR1.out HB.out) | (with_reducible refine Kd.C_alloc ?_ _) | (with_reducible refine Kd.C_drewN ?_ _) | (with_reducible refine Kd.C_drew ?_))); (case side2 => exact HC1.out); rintro e w' ⟨rfl, ⟨nd, rfl⟩⟩; refine ⟨_, rfl, ?_⟩))
   go_meet
   case rel => exact ⟨_, (true), (by first | rfl | (simp; done) | (simp [*]; done)), H', ⟨by first | omega | exact Nat.le_refl _⟩, ⟨by (with_reducible repeat (first | apply Kd.R_alloc | apply Kd.R_drewN | apply Kd.R_drew)); exact HO578.out⟩, ⟨by repeat (first | (with_reducible first | exact HB.out | apply below_alloc | apply pw_below_drewN | apply below_drew1) | exact HB.out)⟩⟩
 case rest =>
  clear HC3
  try clear c1
  try clear c2
  try clear p2
  try clear c3
  try clear c7
  obtain ⟨kq, x16_2, rfl, HA, HJ2, HO_5, HB⟩ := hcut
  cases kq with
  | zero => exact absurd HA.out (by simp [spec_WithoutLast.j0])
  | succ kj2 =>
   have H := HA.out
   clear HA
   simp only [spec_WithoutLast.j0] at H
   by_cases c8 : x16_2 = true
   ·subst c8
    have H1 : (some y576) = some r := by rw [if_pos rfl] at H; exact H
    clear H
    have H := H1
    clear H1
    obtain rfl := Option.some.inj H
    go_wp2
    go_ret
    exact ⟨_, by first | rfl | (simp [errW_none, errW_some] <;> rfl) | (simp [*, errW_none, errW_some] <;> rfl), by (with_reducible repeat (first | apply Kd.R_alloc | apply Kd.R_drewN | apply Kd.R_drew)); exact HO_5.out, by repeat (first | (with_reducible first | exact HB.out | apply below_alloc | apply pw_below_drewN | apply below_drew1) | exact HB.out)⟩
   ·replace c8 := Bool.eq_false_iff.mpr c8
    subst c8
    have H1 : (spec_WithoutLast.l0 kj2 a0 l1 y576 0) = some r := by rw [if_neg (show ¬ (false = true) by decide)] at H; exact H
    clear H
    have H := H1
    clear H1
    have H' := Aside0.mk H
    clear H
    go_wp2
    go_loopg [5, 6] kj2 (fun kq v5 v6 w' => ∃ (x5_2 : List Int) (x6_2 : Int), v6 = .int .i64 x6_2 ∧ Aside0 (spec_WithoutLast.l0 kq a0 l1 x5_2 x6_2 = some r) ∧ Aside0 (kq ≤ kj2) ∧ Aside0 (Kd.R (Kd.int .i64) 3 w' w.heap.size (fun _ => True) v5 x5_2) ∧ Aside0 (Below w.heap.size w w'))
    case atStart => exact ⟨(y576), (0), (by first | rfl | (simp; done) | (simp [*]; done)), H', ⟨Nat.le_refl _⟩, ⟨by (with_reducible repeat (first | apply Kd.R_alloc | apply Kd.R_drewN | apply Kd.R_drew)); exact HO_5.out⟩, ⟨by repeat (first | (with_reducible first | exact HB.out | apply below_alloc | apply pw_below_drewN | apply below_drew1) | exact HB.out)⟩⟩
    case round =>
     clear H'
     try clear c1
     try clear c2
     try clear p2
     try clear c3
     try clear c7
     try clear c8
     try clear p2
     obtain ⟨x5_2, x6_2, rfl, HA, HK2, HO_5, HB⟩ := hrel
     cases gk with
     | zero => exact absurd HA.out (by simp [spec_WithoutLast.l0])
     | succ k2 =>
      have H := HA.out
      clear HA
      simp only [spec_WithoutLast.l0] at H
      obtain ⟨ji9, hji9⟩ : ∃ j_ : Int, (wrap64 (a0 - 1)) = j_ := ⟨_, rfl⟩
      replace H : (if 0 ≤ (ji9) then (if x6_2 < (shl .i64 1 (ji9)) then (spec_WithoutLast.l1 k2 a0 l1 x5_2 x6_2 0) else (some x5_2)) else (none)) = some r := by first | (rw [hji9] at H; exact H) | (simp only [hji9] at H ⊢; exact H)
      have hji9w : (IntKind.i64.wrap (a0 - 1)) = ji9 := (i64_w _).trans hji9
      by_cases c10 : 0 ≤ (ji9)
      ·rw [if_pos c10] at H
       have c10b0 := eq_true c10
       have c10b1 : decide (0 ≤ (ji9)) = true := decide_eq_true c10
       clear c10
       obtain ⟨ji11, hji11⟩ : ∃ j_ : Int, (shl .i64 1 (ji9)) = j_ := ⟨_, rfl⟩
       replace H : (if x6_2 < (ji11) then (spec_WithoutLast.l1 k2 a0 l1 x5_2 x6_2 0) else (some x5_2)) = some r := by first | (rw [hji11] at H; exact H) | (simp only [hji11] at H ⊢; exact H)
       have hji11_ : (IntKind.i64.wrap (1 * 2 ^ min (ji9).toNat 64)) = ji11 := hji11
       have hji11z : (ji9) ≤ 64 → (IntKind.i64.wrap (1 * 2 ^ (ji9).toNat)) = ji11 := shl_small hji11
       have hji11u : (IntKind.i64.wrap (2 ^ min (ji9).toNat 64)) = ji11 := by have h_ := hji11_; rw [Int.one_mul] at h_; exact h_
       have hji11v : (ji9) ≤ 64 → (IntKind.i64.wrap (2 ^ (ji9).toNat)) = ji11 := fun hle_ => by have h_ := hji11z hle_; rw [Int.one_mul] at h_; exact h_
       have hji11y : (wrap64 (1 * 2 ^ min (ji9).toNat 64)) = ji11 := (i64_w _).symm.trans hji11_
       have hji11x : (ji9) ≤ 64 → (wrap64 (1 * 2 ^ (ji9).toNat)) = ji11 := fun h_ => (i64_w _).symm.trans (hji11z h_)
       by_cases c12 : x6_2 < (ji11)
       ·rw [if_pos c12] at H
        have c12b0 : decide (x6_2 < (ji11)) = true := decide_eq_true c12
        clear c12
        have H' := Aside0.mk H
        clear H
        go_wp2
        go_loopg [5, 7] k2 (fun kq v5 v7 w' => ∃ (x5_3 : List Int) (x7_3 : Int), v7 = .int .i64 x7_3 ∧ Aside0 (spec_WithoutLast.l1 kq a0 l1 x5_3 x6_2 x7_3 = some r) ∧ Aside0 (kq ≤ k2) ∧ Aside0 (Kd.R (Kd.int .i64) 3 w' w.heap.size (fun _ => True) v5 x5_3) ∧ Aside0 (Below w.heap.size w w'))
        case atStart => exact ⟨(x5_2), (0), (by first | rfl | (simp; done) | (simp [*]; done)), H', ⟨Nat.le_refl _⟩, ⟨by (with_reducible repeat (first | apply Kd.R_alloc | apply Kd.R_drewN | apply Kd.R_drew)); exact HO_5.out⟩, ⟨by repeat (first | (with_reducible first | exact HB.out | apply below_alloc | apply pw_below_drewN | apply below_drew1) | exact HB.out)⟩⟩
        case round =>
         clear H'
         try clear c1
         try clear c2
         try clear p2
         try clear c3
         try clear p6
         try clear c7
         try clear c8
         try clear c10
         try clear c10b0
         try clear c10b1
         try clear c12
         try clear c12b0
         try clear p2
         obtain ⟨x5_3, x7_3, rfl, HA, HK3, HO_5, HB⟩ := hrel
         cases gk with
         | zero => exact absurd HA.out (by simp [spec_WithoutLast.l1])
         | succ k3 =>
          have H := HA.out
          clear HA
          simp only [spec_WithoutLast.l1] at H
          replace H : (if 0 ≤ (ji9) then (if x7_3 < (shl .i64 1 (ji9)) then (if 0 ≤ a0 then (if 0 ≤ (wrap64 ((shl .i64 x6_2 a0) + x7_3)) then (if (wrap64 ((shl .i64 x6_2 a0) + x7_3)) < (l1.length : Int) then (if x5_3.length < 17592186044416 then (spec_WithoutLast.l1 k3 a0 l1 (x5_3 ++ [rd l1 (wrap64 ((shl .i64 x6_2 a0) + x7_3))]) x6_2 (wrap64 (x7_3 + 1))) else (none)) else (none)) else (none)) else (none)) else (spec_WithoutLast.l0 k3 a0 l1 x5_3 (wrap64 (x6_2 + 1)))) else (none)) = some r := by first | exact H | (rw [hji9] at H; exact H) | (simp only [hji9] at H ⊢; exact H)
          by_cases c13 : 0 ≤ (ji9)
          ·rw [if_pos c13] at H
           have c13b0 := eq_true c13
           have c13b1 : decide (0 ≤ (ji9)) = true := decide_eq_true c13
           clear c13
           replace H : (if x7_3 < (ji11) then (if 0 ≤ a0 then (if 0 ≤ (wrap64 ((shl .i64 x6_2 a0) + x7_3)) then (if (wrap64 ((shl .i64 x6_2 a0) + x7_3)) < (l1.length : Int) then (if x5_3.length < 17592186044416 then (spec_WithoutLast.l1 k3 a0 l1 (x5_3 ++ [rd l1 (wrap64 ((shl .i64 x6_2 a0) + x7_3))]) x6_2 (wrap64 (x7_3 + 1))) else (none)) else (none)) else (none)) else (none)) else (spec_WithoutLast.l0 k3 a0 l1 x5_3 (wrap64 (x6_2 + 1)))) = some r := by first | exact H | (rw [hji11] at H; exact H) | (simp only [hji11] at H ⊢; exact H)
           by_cases c14 : x7_3 < (ji11)
           ·rw [if_pos c14] at H
            have c14b0 : decide (x7_3 < (ji11)) = true := decide_eq_true c14
            clear c14
            by_cases c15 : 0 ≤ a0
            ·rw [if_pos c15] at H
             have c15b0 := eq_true c15
             have c15b1 : decide (0 ≤ a0) = true := decide_eq_true c15
             clear c15
             obtain ⟨ji16, hji16⟩ : ∃ j_ : Int, (shl .i64 x6_2 a0) = j_ := ⟨_, rfl⟩
             replace H : (if 0 ≤ (wrap64 ((ji16) + x7_3)) then (if (wrap64 ((ji16) + x7_3)) < (l1.length : Int) then (if x5_3.length < 17592186044416 then (spec_WithoutLast.l1 k3 a0 l1 (x5_3 ++ [rd l1 (wrap64 ((ji16) + x7_3))]) x6_2 (wrap64 (x7_3 + 1))) else (none)) else (none)) else (none)) = some r := by first | (rw [hji16] at H; exact H) | (simp only [hji16] at H ⊢; exact H)
             have hji16_ : (IntKind.i64.wrap (x6_2 * 2 ^ min a0.toNat 64)) = ji16 := hji16
             have hji16z : a0 ≤ 64 → (IntKind.i64.wrap (x6_2 * 2 ^ a0.toNat)) = ji16 := shl_small hji16
             have hji16y : (wrap64 (x6_2 * 2 ^ min a0.toNat 64)) = ji16 := (i64_w _).symm.trans hji16_
             have hji16x : a0 ≤ 64 → (wrap64 (x6_2 * 2 ^ a0.toNat)) = ji16 := fun h_ => (i64_w _).symm.trans (hji16z h_)
             obtain ⟨ji17, hji17⟩ : ∃ j_ : Int, (wrap64 ((ji16) + x7_3)) = j_ := ⟨_, rfl⟩
             replace H : (if 0 ≤ (ji17) then (if (ji17) < (l1.length : Int) then (if x5_3.length < 17592186044416 then (spec_WithoutLast.l1 k3 a0 l1 (x5_3 ++ [rd l1 (ji17)]) x6_2 (wrap64 (x7_3 + 1))) else (none)) else (none)) else (none)) = some r := by first | (rw [hji17] at H; exact H) | (simp only [hji17] at H ⊢; exact H)
             have hji17w : (IntKind.i64.wrap ((ji16) + x7_3)) = ji17 := (i64_w _).trans hji17
             by_cases c18 : 0 ≤ (ji17)
             ·rw [if_pos c18] at H
              have c18b0 : decide (0 ≤ (ji17)) = true := decide_eq_true c18
              clear c18
              by_cases c19 : (ji17) < (l1.length : Int)
              ·rw [if_pos c19] at H
               have c19b0 : decide ((ji17) < (l1.length : Int)) = true := decide_eq_true c19
               clear c19
               by_cases c20 : x5_3.length < 17592186044416
               ·rw [if_pos c20] at H
                have LMc20 := Aside0.mk c20
                clear c20
                obtain ⟨y581, hy581⟩ : ∃ y_ : List Int, y_ = (x5_3 ++ [rd l1 (ji17)]) := ⟨_, rfl⟩
                replace H : (spec_WithoutLast.l1 k3 a0 l1 y581 x6_2 (wrap64 (x7_3 + 1))) = some r := by first | (rw [hy581]; with_reducible exact H) | (have H2_ := (Option.bind_some _ _).symm.trans H; rw [hy581]; with_reducible exact H2_) | (have H2_ := (Option.bind_some _ _).symm.trans H; with_reducible exact H2_) | with_reducible exact H | (rw [hy581]; exact H) | exact H
                have Ny581 := Aside0.mk hy581
                clear hy581
                have H' := Aside0.mk H
                clear H
                have p580 : 0 ≤ ((ji17) : Int) := of_decide_eq_true (by first | (with_reducible assumption) | assumption)
                have q580 : (ji17) < (l1.length : Int) := of_decide_eq_true (by first | (with_reducible assumption) | assumption)
                obtain ⟨ad580, e580, hx580_0⟩ := Kd.at_int HR1.out (ji17) p580 q580
                cases e580
                replace hx580_0 := (HB.out.cell (World.block_lt_of_cell? w _ hx580_0)).trans hx580_0
                replace p580 := eq_true p580
                replace q580 := eq_true q580
                go_wp2_with (first | ((with_reducible refine gate_builtin (b := .append) (xs := #[.tmp 32, .tmp 41]) rfl ?_); at_builtin; refine Kd.R_append (Kd.int .i64) (w0 := w) w.heap.size rfl (.tmp 32) (.tmp 41) 23 3 (.int .i64 0) 8 rfl Try.underlying23 info3 rfl (by decide) (by omega) u5 x5_3 (rd l1 (ji17)) [.int .i64 (rd l1 (ji17))] (fun _ => True) (fun _ => False) rfl rfl ?aP (fun _ hk => hk.elim) ?aF ?aO ?aB ?aS ?aL ?_; (case aP => exact rfl); (case aB => exact (by repeat (first | (with_reducible first | exact HB.out | apply below_alloc | apply pw_below_drewN | apply below_drew1) | exact HB.out))); (case aF => exact (fun _ _ => trivial)); (case aO => exact (by (with_reducible repeat (first | apply Kd.R_alloc | apply Kd.R_drewN | apply Kd.R_drew)); exact HO_5.out)); (case aS => exact (below_size (by repeat (first | (with_reducible first | exact HB.out | apply below_alloc | apply pw_below_drewN | apply below_drew1) | exact HB.out)))); (case aL => have := LMc20.out; omega); intro v582 w21 ho hb hg hat; rw [← Ny581.out] at ho; have n0_ := Aside0.mk (hb); have n1_ := Aside0.mk (ho); clear HB; clear HO_5; have HB := n0_; have HO583 := n1_; clear n0_ n1_; clear ho hb hg hat))
                go_roundg k3
                case measure => have := HJ2.out; have := HK2.out; have := HK3.out; omega
                case rel => exact ⟨(y581), (wrap64 (x7_3 + 1)), (by first | rfl | (simp; done) | (simp [*]; done)), H', ⟨by have := HJ2.out; have := HK2.out; have := HK3.out; omega⟩, ⟨by (with_reducible repeat (first | apply Kd.R_alloc | apply Kd.R_drewN | apply Kd.R_drew)); exact HO583.out⟩, ⟨by repeat (first | (with_reducible first | exact HB.out | apply below_alloc | apply pw_below_drewN | apply below_drew1) | exact HB.out)⟩⟩
               ·rw [if_neg c20] at H
                exact absurd H (by simp)
              ·rw [if_neg c19] at H
               exact absurd H (by simp)
             ·rw [if_neg c18] at H
              exact absurd H (by simp)
            ·rw [if_neg c15] at H
             exact absurd H (by simp)
           ·rw [if_neg c14] at H
            have c14b0 : decide (x7_3 < (ji11)) = false := decide_eq_false c14
            clear c14
            have H' := Aside0.mk H
            clear H
            go_wp2
            go_roundg k3
            case measure => have := HJ2.out; have := HK2.out; have := HK3.out; omega
            case rel => exact ⟨(x5_3), (wrap64 (x6_2 + 1)), (by first | rfl | (simp; done) | (simp [*]; done)), H', ⟨by have := HJ2.out; have := HK2.out; have := HK3.out; omega⟩, ⟨by (with_reducible repeat (first | apply Kd.R_alloc | apply Kd.R_drewN | apply Kd.R_drew)); exact HO_5.out⟩, ⟨by repeat (first | (with_reducible first | exact HB.out | apply below_alloc | apply pw_below_drewN | apply below_drew1) | exact HB.out)⟩⟩
          ·rw [if_neg c13] at H
           exact absurd H (by simp)
       ·rw [if_neg c12] at H
        have c12b0 : decide (x6_2 < (ji11)) = false := decide_eq_false c12
        clear c12
        obtain rfl := Option.some.inj H
        go_wp2
        go_ret
        exact ⟨_, by first | rfl | (simp [errW_none, errW_some] <;> rfl) | (simp only [← hji9, ← hji11]; first | rfl | (simp [errW_none, errW_some] <;> rfl)) | (simp [*, errW_none, errW_some] <;> rfl), by (with_reducible repeat (first | apply Kd.R_alloc | apply Kd.R_drewN | apply Kd.R_drew)); exact HO_5.out, by repeat (first | (with_reducible first | exact HB.out | apply below_alloc | apply pw_below_drewN | apply below_drew1) | exact HB.out)⟩
      ·rw [if_neg c10] at H
       exact absurd H (by simp)
end Go.Proofs.Ytcongmckkjbhiaa.P
