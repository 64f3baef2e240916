-- Texts of this claim, laid one behind the other by wip/gen/merge.py.
import Derived.Test.YthgkkhpndiiabaaZFnExactRowsFrom12
import Derived.Test.YthgkkhpndiiabaaZFnExactRowsFrom3
import Derived.Test.YthgkkhpndiiabaaZFnExactRowsFrom4
import Derived.Test.YthgkkhpndiiabaaZFnExactRowsFrom14
import Derived.Test.YthgkkhpndiiabaaZFnExactRowsFrom15
import Derived.Test.YthgkkhpndiiabaaZFnExactRowsFrom10
import Derived.Test.YthgkkhpndiiabaaZFnExactRowsFrom9
import Derived.Test.YthgkkhpndiiabaaZFnExactRowsFrom11
/- Plain facts: what the reference's and the program's LooksInside come to, with enough rounds, for relations of at most 2^20 numbers. -/
namespace Go.Proofs.Ythgkkhpndiiabaa.P
open Go.RowKit Go.Proofs.YthgkkhpndiiabaaW.PrintWords Go.Proofs.YthgkkhpndiiabaaW.PrintLast

theorem spec_l2Both_k (a b : Int) (h1 : 0 ≤ a) (h2 : a < 8) (h3 : 0 ≤ b) (h4 : b < 8) (k : Nat) (hk : 20 ≤ k) : spec_l2Both.f k a b = some (Go.bits .and .i64 a b) := by
  obtain ⟨k, rfl⟩ : ∃ m, k = m + 20 := ⟨k - 20, by omega⟩
  clear hk
  have hf : ∀ x y : Fin 8, spec_l2Both.f 20 (x.val : Int) (y.val : Int) = some (Go.bits .and .i64 (x.val : Int) (y.val : Int)) := by decide +kernel
  obtain ⟨x, rfl⟩ := Int.eq_ofNat_of_zero_le h1
  obtain ⟨y, rfl⟩ := Int.eq_ofNat_of_zero_le h3
  have h0 := hf ⟨x, by omega⟩ ⟨y, by omega⟩
  induction k with
  | zero => exact h0
  | succ k ih =>
    have := spec_l2Both.mono (x : Int) (y : Int) (k + 20)
    rw [show k + 1 + 20 = k + 20 + 1 from by omega]
    exact this _ ih
/-! LooksInside -/
theorem spec_LooksInside_l1 (t : Int) (l : List Int) (h : isRel t l = true) (B : Nat) (hp : pw t = (B : Int)) (hb8 : B ≤ 8) (a : Nat) (ha : a < B) (d : Nat) : ∀ (m b : Nat), 40 ≤ m → b + d = B →
    spec_LooksInside.l1 (m + d + 1) t l (a : Int) (b : Int) = if ((List.range' b d).all fun (b : Nat) => impl_LooksInside.so t l a b) = true then spec_LooksInside.l0 m t l ((a + 1 : Nat) : Int) else some false := by
  obtain ⟨h1, h2, h3⟩ := isRel_range h
  induction d with
  | zero =>
    intro m b hm g
    simp only [spec_LooksInside.l1]
    rw [if_pos h1, shl_one t h1 h2, hp, if_neg (by omega), wrap_succ a 100 (by omega) (by omega), List.range'_zero, List.all_nil, if_pos rfl]
  | succ d ih =>
    intro m b hm g
    obtain ⟨M, hM⟩ : ∃ M, M = m + d + 1 := ⟨_, rfl⟩
    rw [show m + (d + 1) + 1 = M + 1 from by omega]
    simp only [spec_LooksInside.l1]
    have j1 := index_range t a b h1 h2 (by omega) (by omega) (by omega) (by omega)
    have x2 := and_range t a b h1 h2 (by omega) (by omega) (by omega) (by omega)
    have j2 := index_range t a (Go.bits .and .i64 a b) h1 h2 (by omega) (by omega) x2.1 x2.2
    have hq := spec_l2Both_k a b (by omega) (by omega) (by omega) (by omega) M (by omega)
    rw [if_pos h1, shl_one t h1 h2, if_pos (show (b : Int) < pw t by omega), idx_wrap t a b h1 h2 (by omega) (by omega) (by omega) (by omega), if_pos j1.1, if_pos (by rw [h3]; exact j1.2.1), hq, Option.bind_some, idx_wrap t a _ h1 h2 (by omega) (by omega) x2.1 x2.2, if_pos j2.1, if_pos (by rw [h3]; exact j2.2.1), wrap_succ b 100 (by omega) (by omega), hM, ih m (b + 1) hm (by omega), show List.range' b (d + 1) = b :: List.range' (b + 1) d from rfl, List.all_cons]
    have hs := rel_same t l h a b a (Go.bits .and .i64 a b)
    by_cases c : rd l (↑a * pw t + ↑b) = rd l (↑a * pw t + Go.bits .and .i64 ↑a ↑b)
    · rw [if_pos c, show impl_LooksInside.so t l a b = true from hs.1 c, Bool.true_and]
    · rw [if_neg c, show impl_LooksInside.so t l a b = false from Bool.eq_false_iff.mpr (fun g => c (hs.2 g)), Bool.false_and, if_neg (by decide)]
theorem spec_LooksInside_l0 (t : Int) (l : List Int) (h : isRel t l = true) (B : Nat) (hp : pw t = (B : Int)) (hb8 : B ≤ 8) (e : Nat) : ∀ (k a : Nat), a + e = B → 100 * e + 200 < k →
    spec_LooksInside.l0 k t l (a : Int) = some ((List.range' a e).all fun (a : Nat) => (List.range' 0 B).all fun (b : Nat) => impl_LooksInside.so t l a b) := by
  obtain ⟨h1, h2, h3⟩ := isRel_range h
  induction e with
  | zero =>
    intro k a g hk
    obtain ⟨k, rfl⟩ : ∃ m, k = m + 1 := ⟨k - 1, by omega⟩
    simp only [spec_LooksInside.l0]
    rw [if_pos h1, shl_one t h1 h2, hp, if_neg (by omega), List.range'_zero, List.all_nil]
  | succ e ih =>
    intro k a g hk
    obtain ⟨k, rfl⟩ : ∃ m, k = m + B + 1 + 1 := ⟨k - (B + 2), by omega⟩
    have hh1 := spec_LooksInside_l1 t l h B hp hb8 a (by omega) B k 0 (by omega) (by omega)
    simp only [spec_LooksInside.l0]
    rw [if_pos h1, shl_one t h1 h2, hp, if_pos (by omega)]
    refine Eq.trans hh1 ?_
    rw [ih k (a + 1) (by omega) (by omega), show List.range' a (e + 1) = a :: List.range' (a + 1) e from rfl, List.all_cons]
    cases ((List.range' 0 B).all fun (b : Nat) => impl_LooksInside.so t l a b) <;> first | rfl | simp
def insideP (t : Int) (l : List Int) : Bool := isRel t l && forAllP t (impl_LooksInside.so t l)
theorem spec_LooksInside_k (t : Int) (l : List Int) (hl : l.length ≤ 1048576) (k : Nat) (hk : 1048600 ≤ k) : spec_LooksInside.f k t l = some (insideP t l) := by
  unfold spec_LooksInside.f insideP
  rw [spec_RelationOk_k t l hl k hk, Option.bind_some]
  by_cases h : isRel t l = true
  · obtain ⟨h1, h2, h3⟩ := isRel_range h
    obtain ⟨B, hp, hb8, hB⟩ := pw_nat t h1 h2
    rw [if_pos h, h, Bool.true_and, ← forAll_range t B hB]
    exact spec_LooksInside_l0 t l h B hp hb8 B k 0 (by omega) (by omega)
  · rw [if_neg h, Bool.eq_false_iff.mpr h, Bool.false_and]
theorem impl_LooksInside_k (t : Int) (l : List Int) (_hl : l.length ≤ 1048576) (k : Nat) (_hk : 1048600 ≤ k) : impl_LooksInside.f t l = some (insideP t l) := rfl

end Go.Proofs.Ythgkkhpndiiabaa.P

/- Plain facts on lists of numbers by rows and by indexes, and on the entries of a triangle. No condition beyond those typed. -/
namespace Go.Proofs.Ythgkkhpndiiabaa.P
open Go.RowKit Go.Proofs.YthgkkhpndiiabaaW.PrintWords Go.Proofs.YthgkkhpndiiabaaW.PrintLast

/-! Lists by rows, and by indexes. -/
def rowI (f : Int → Int → Int) (a m : Nat) : List Int := (List.range m).map fun (s : Nat) => f (a : Int) (s : Int)
def rowsI (f : Int → Int → Int) (n : Nat) : List Int := (List.range n).flatMap fun a => rowI f a (a + 1)
theorem rowI_zero (f : Int → Int → Int) (a : Nat) : rowI f a 0 = [] := rfl
theorem rowI_succ (f : Int → Int → Int) (a m : Nat) : rowI f a (m + 1) = rowI f a m ++ [f a m] := by simp [rowI, List.range_succ]
theorem rowsI_succ (f : Int → Int → Int) (n : Nat) : rowsI f (n + 1) = rowsI f n ++ rowI f n (n + 1) := by simp [rowsI, List.range_succ]
theorem rowI_length (f : Int → Int → Int) (a m : Nat) : (rowI f a m).length = m := by simp [rowI]
theorem rowsI_length_le (f : Int → Int → Int) : ∀ n, n ≤ 6 → (rowsI f n).length ≤ 6 * n
  | 0, _ => by simp [rowsI]
  | n + 1, h => by
    have := rowsI_length_le f n (by omega)
    rw [rowsI_succ, List.length_append, rowI_length]
    omega
theorem triI_rows (f : Int → Int → Int) : rowsI f 6 = triI f := rfl
theorem rows_bound (f : Int → Int → Int) (n m : Nat) (hn : n < 6) (hm : m ≤ n + 1) : (rowsI f n ++ rowI f n m).length < 17592186044416 := by
  have := rowsI_length_le f n (by omega)
  rw [List.length_append, rowI_length]
  omega
def idx (f : Int → Int) (n : Nat) : List Int := (List.range n).map fun (j : Nat) => f (j : Int)
theorem idx_succ (f : Int → Int) (n : Nat) : idx f (n + 1) = idx f n ++ [f n] := by simp [idx, List.range_succ]
theorem idx_length (f : Int → Int) (n : Nat) : (idx f n).length = n := by simp [idx]
theorem idx_tri (f : Int → Int) : idx f 21 = triI fun a s => f (pl a s) := rfl
theorem wrap_succ6 (i : Nat) (h : i ≤ 100) : wrap64 ((i : Int) + 1) = ((i + 1 : Nat) : Int) := by unfold wrap64; omega
theorem bit_of (l : List Int) (h : isTri l = true) (a s : Int) : rd l (pl a s) = if hd l a s = true then 1 else 0 := by
  unfold hd
  rcases tri_bit l h (pl a s) with e | e
  · rw [show a * (a + 1) / 2 + s = pl a s from rfl, e]; rfl
  · rw [show a * (a + 1) / 2 + s = pl a s from rfl, e]; rfl

end Go.Proofs.Ythgkkhpndiiabaa.P

/- The rows of a relation: they are all of it exactly if it looks inside and knows no thing. Plain facts. -/
namespace Go.Proofs.Ythgkkhpndiiabaa.P
open Go.RowKit Go.Proofs.YthgkkhpndiiabaaW.PrintWords Go.Proofs.YthgkkhpndiiabaaW.PrintLast

/-- A relation's entry for the first a and the first s things. -/
def rwAt (t : Int) (l : List Int) (a s : Int) : Int := rd l ((2 ^ a.toNat - 1) * pw t + (2 ^ s.toNat - 1))
def rwP (t : Int) (l : List Int) : List Int := rowsI (rwAt t l) (t.toNat + 1)
theorem bit01 (x : Int) (h : x = 0 ∨ x = 1) : (if (x == 1) = true then (1 : Int) else 0) = x := by
  rcases h with rfl | rfl <;> rfl
theorem rfOut_eq (t : Int) (l : List Int) (h : isRel t l = true) : rfOut t l = rwP t l := by
  obtain ⟨t0, t3, _⟩ := isRel_range h
  have e1 : rfOut t l = (List.range (rfPN t)).map fun i => rwAt t l (((rfPairs.getD i (0, 0)).1 : Nat) : Int) (((rfPairs.getD i (0, 0)).2 : Nat) : Int) := by
    unfold rfOut rfFill
    refine List.map_congr_left fun i hi => ?_
    have hi := List.mem_range.mp hi
    have hb := bit01 (rwAt t l (((rfPairs.getD i (0, 0)).1 : Nat) : Int) (((rfPairs.getD i (0, 0)).2 : Nat) : Int)) (rel_bit t l h _)
    have e2 : (rwAt t l (((rfPairs.getD i (0, 0)).1 : Nat) : Int) (((rfPairs.getD i (0, 0)).2 : Nat) : Int) == 1) = rfBit t l i := rfl
    rw [e2] at hb
    rw [← hb]
    by_cases c : rfBit t l i = true
    · rw [if_pos ⟨hi, c⟩, if_pos c]
    · rw [if_neg (fun g => c g.2), if_neg c]
  rw [e1]
  rcases three t t0 t3 with rfl | rfl | rfl | rfl <;> rfl
theorem rwP_length (t : Int) (l : List Int) (h1 : 0 ≤ t) (h2 : t ≤ 3) : (rwP t l).length = rfPN t ∧ rfPN t ≤ 10 := by
  rcases three t h1 h2 with rfl | rfl | rfl | rfl
  · rw [show rfPN 0 = 1 by decide]; exact ⟨rfl, by decide⟩
  · rw [show rfPN 1 = 3 by decide]; exact ⟨rfl, by decide⟩
  · rw [show rfPN 2 = 6 by decide]; exact ⟨rfl, by decide⟩
  · rw [show rfPN 3 = 10 by decide]; exact ⟨rfl, by decide⟩
theorem rwP_rd (t : Int) (l : List Int) (p s : Int) (h1 : 0 ≤ t) (h2 : t ≤ 3) (h3 : 0 ≤ p) (h4 : p ≤ t) (h5 : 0 ≤ s) (h6 : s ≤ p) : rd (rwP t l) (pl p s) = rwAt t l p s := by
  rcases three t h1 h2 with rfl | rfl | rfl | rfl <;> rcases three p h3 (by omega) with rfl | rfl | rfl | rfl <;> first | omega | (rcases three s h5 (by omega) with rfl | rfl | rfl | rfl <;> first | omega | rfl)
theorem rw_facts (t a b : Int) (h1 : 0 ≤ t) (h2 : t ≤ 3) (a0 : 0 ≤ a) (a1 : a < pw t) (b0 : 0 ≤ b) (b1 : b < pw t) :
    (0 ≤ szI a ∧ szI a ≤ t ∧ 0 ≤ szI (Go.bits .and .i64 a b) ∧ szI (Go.bits .and .i64 a b) ≤ szI a) ∧
    (0 ≤ (2 : Int) ^ (szI a).toNat - 1 ∧ (2 : Int) ^ (szI a).toNat - 1 < pw t ∧ 0 ≤ (2 : Int) ^ (szI (Go.bits .and .i64 a b)).toNat - 1 ∧ (2 : Int) ^ (szI (Go.bits .and .i64 a b)).toNat - 1 < pw t) ∧
    szI a = szI (2 ^ (szI a).toNat - 1) ∧ szI (Go.bits .and .i64 a b) = szI (2 ^ (szI (Go.bits .and .i64 a b)).toNat - 1) ∧
    szI (Go.bits .and .i64 a (Go.bits .and .i64 a b)) = szI (Go.bits .and .i64 (2 ^ (szI a).toNat - 1) (2 ^ (szI (Go.bits .and .i64 a b)).toNat - 1)) ∧
    Go.bits .and .i64 a (Go.bits .and .i64 a b) = Go.bits .and .i64 a b := by
  have hf : ∀ T : Fin 4, ∀ x y : Fin 8, (x.val : Int) < pw T.val → (y.val : Int) < pw T.val →
    (0 ≤ szI x.val ∧ szI x.val ≤ T.val ∧ 0 ≤ szI (Go.bits .and .i64 x.val y.val) ∧ szI (Go.bits .and .i64 x.val y.val) ≤ szI x.val) ∧
    (0 ≤ (2 : Int) ^ (szI x.val).toNat - 1 ∧ (2 : Int) ^ (szI x.val).toNat - 1 < pw T.val ∧ 0 ≤ (2 : Int) ^ (szI (Go.bits .and .i64 x.val y.val)).toNat - 1 ∧ (2 : Int) ^ (szI (Go.bits .and .i64 x.val y.val)).toNat - 1 < pw T.val) ∧
    szI x.val = szI (2 ^ (szI x.val).toNat - 1) ∧ szI (Go.bits .and .i64 x.val y.val) = szI (2 ^ (szI (Go.bits .and .i64 x.val y.val)).toNat - 1) ∧
    szI (Go.bits .and .i64 x.val (Go.bits .and .i64 x.val y.val)) = szI (Go.bits .and .i64 (2 ^ (szI x.val).toNat - 1) (2 ^ (szI (Go.bits .and .i64 x.val y.val)).toNat - 1)) ∧
    Go.bits .and .i64 x.val (Go.bits .and .i64 x.val y.val) = Go.bits .and .i64 x.val y.val := by decide +kernel
  have hp := pw_range t h1 h2
  obtain ⟨T, rfl⟩ := Int.eq_ofNat_of_zero_le h1
  obtain ⟨x, rfl⟩ := Int.eq_ofNat_of_zero_le a0
  obtain ⟨y, rfl⟩ := Int.eq_ofNat_of_zero_le b0
  exact hf ⟨T, by omega⟩ ⟨x, by omega⟩ ⟨y, by omega⟩ a1 b1
theorem rfSo_eq (t : Int) (l : List Int) (a b : Int) (h1 : 0 ≤ t) (h2 : t ≤ 3) (a0 : 0 ≤ a) (a1 : a < pw t) (b0 : 0 ≤ b) (b1 : b < pw t) :
    rfSo t l (rwP t l) a b = (hr t l a b == hr t l (2 ^ (szI a).toNat - 1) (2 ^ (szI (Go.bits .and .i64 a b)).toNat - 1)) := by
  obtain ⟨⟨g1, g2, g3, g4⟩, _⟩ := rw_facts t a b h1 h2 a0 a1 b0 b1
  have e : rfIdx a b = pl (szI a) (szI (Go.bits .and .i64 a b)) := rfl
  unfold rfSo
  rw [e, rwP_rd t l _ _ h1 h2 g1 g2 g3 g4]
  rfl
theorem rfFine_eq (t : Int) (l : List Int) : rfFine t l = (insideP t l && kntAllP t l) := by
  by_cases h : isRel t l = true
  · obtain ⟨t0, t3, _⟩ := isRel_range h
    have hp := pw_range t t0 t3
    unfold rfFine insideP kntAllP
    rw [h, Bool.true_and, Bool.true_and, Bool.true_and, rfOut_eq t l h, Bool.eq_iff_iff, Bool.and_eq_true, forAllP_iff, forAllP_iff, forAllP_iff]
    constructor
    · intro g
      have g : ∀ a b : Int, 0 ≤ a → a < pw t → 0 ≤ b → b < pw t → hr t l a b = hr t l (2 ^ (szI a).toNat - 1) (2 ^ (szI (Go.bits .and .i64 a b)).toNat - 1) := by
        intro a b a0 a1 b0 b1
        have := g a b a0 a1 b0 b1
        rw [rfSo_eq t l a b t0 t3 a0 a1 b0 b1] at this
        exact beq_iff_eq.mp this
      constructor
      · intro a b a0 a1 b0 b1
        obtain ⟨c0, c1⟩ := and_range t a b t0 t3 a0 a1 b0 b1
        obtain ⟨_, _, _, _, _, q⟩ := rw_facts t a b t0 t3 a0 a1 b0 b1
        unfold impl_LooksInside.so
        rw [g a b a0 a1 b0 b1, g a _ a0 a1 c0 c1, q]
        exact beq_self_eq_true _
      · intro a b a0 a1 b0 b1
        unfold impl_KnowsNoThing.so
        refine kntP_true _ _ _ _ fun i k hi hk => ?_
        have x1 := exch_here t a i k t0 t3 a0 a1 (by omega) (by omega) (by omega)
        have x2 := exch_here t b i k t0 t3 b0 b1 (by omega) (by omega) (by omega)
        obtain ⟨s1, s2⟩ := exch_sizesE t a b i k t0 t3 a0 a1 b0 b1 hk (by omega)
        unfold kntAt
        rw [g a b a0 a1 b0 b1, g _ _ x1.2.1 x1.2.2 x2.2.1 x2.2.2, s1, s2]
        exact beq_self_eq_true _
    · rintro ⟨gi, gk⟩ a b a0 a1 b0 b1
      rw [rfSo_eq t l a b t0 t3 a0 a1 b0 b1, beq_iff_eq]
      have e1 := gi a b a0 a1 b0 b1
      unfold impl_LooksInside.so at e1
      rw [beq_iff_eq] at e1
      obtain ⟨c0, c1⟩ := and_range t a b t0 t3 a0 a1 b0 b1
      obtain ⟨_, ⟨u0, u1, v0, v1⟩, s1, s2, s3, _⟩ := rw_facts t a b t0 t3 a0 a1 b0 b1
      obtain ⟨p, hp1, e2, e3⟩ := exConn t a (Go.bits .and .i64 a b) (2 ^ (szI a).toNat - 1) (2 ^ (szI (Go.bits .and .i64 a b)).toNat - 1) t0 t3 a0 a1 c0 c1 u0 u1 v0 v1 s1 s2 s3
      have hk : ∀ a b : Int, 0 ≤ a → a < pw t → 0 ≤ b → b < pw t → ∀ i k : Nat, i < t.toNat → k < i → kntAt t l a b i k = true := by
        intro a b a0 a1 b0 b1 i k hi hk
        have := gk a b a0 a1 b0 b1
        simp only [impl_KnowsNoThing.so, kntP, List.all_eq_true, List.mem_range] at this
        exact this i hi k hk
      have e4 := exGo_hr t l t0 t3 hk p (exPaths_ok t.toNat (by omega) p hp1) a (Go.bits .and .i64 a b) a0 a1 c0 c1
      rw [e2, e3] at e4
      rw [e1, e4]
  · unfold rfFine insideP
    rw [Bool.eq_false_iff.mpr h]
    rfl
/-- What RowsFrom answers. -/
def rowsP (t : Int) (l : List Int) : List Int × Bool := (if (insideP t l && kntAllP t l) = true then rwP t l else [], insideP t l && kntAllP t l)
theorem impl_RowsFrom_eq (t : Int) (l : List Int) : impl_RowsFrom.f t l = some (rowsP t l) := by
  unfold impl_RowsFrom.f rowsP
  rw [rfFine_eq]
  by_cases h : (insideP t l && kntAllP t l) = true
  · have hr : isRel t l = true := by
      unfold insideP at h
      rw [Bool.and_eq_true, Bool.and_eq_true] at h
      exact h.1.1
    rw [if_pos h, if_pos h, rfOut_eq t l hr]
  · rw [if_neg h, if_neg h]
theorem rowsP_length (t : Int) (l : List Int) : (rowsP t l).1.length ≤ 10 := by
  unfold rowsP
  by_cases h : (insideP t l && kntAllP t l) = true
  · have hr : isRel t l = true := by
      unfold insideP at h
      rw [Bool.and_eq_true, Bool.and_eq_true] at h
      exact h.1.1
    obtain ⟨t0, t3, _⟩ := isRel_range hr
    obtain ⟨g1, g2⟩ := rwP_length t l t0 t3
    show (if (insideP t l && kntAllP t l) = true then rwP t l else []).length ≤ 10
    rw [if_pos h]
    omega
  · show (if (insideP t l && kntAllP t l) = true then rwP t l else []).length ≤ 10
    rw [if_neg h]
    exact Nat.zero_le _

end Go.Proofs.Ythgkkhpndiiabaa.P

/- What the reference's RowsFrom comes to, with enough rounds. Plain facts. -/
namespace Go.Proofs.Ythgkkhpndiiabaa.P
open Go.RowKit Go.Proofs.YthgkkhpndiiabaaW.PrintWords Go.Proofs.YthgkkhpndiiabaaW.PrintLast

theorem rw_idx (T a s : Nat) (hT : T ≤ 3) (ha : a ≤ T) (hs : s ≤ a) : wrap64 (wrap64 (shl .i64 (wrap64 (shl .i64 1 (a : Int) - 1)) (T : Int) + shl .i64 1 (s : Int)) - 1) = (2 ^ ((a : Int)).toNat - 1) * pw T + (2 ^ ((s : Int)).toNat - 1) ∧ 0 ≤ ((2 : Int) ^ ((a : Int)).toNat - 1) * pw T + (2 ^ ((s : Int)).toNat - 1) ∧ ((2 : Int) ^ ((a : Int)).toNat - 1) * pw T + (2 ^ ((s : Int)).toNat - 1) < ((4 ^ T : Nat) : Int) := by
  have hf : ∀ T a s : Fin 4, a.val ≤ T.val → s.val ≤ a.val → wrap64 (wrap64 (shl .i64 (wrap64 (shl .i64 1 (a.val : Int) - 1)) (T.val : Int) + shl .i64 1 (s.val : Int)) - 1) = (2 ^ ((a.val : Int)).toNat - 1) * pw T.val + (2 ^ ((s.val : Int)).toNat - 1) ∧ 0 ≤ ((2 : Int) ^ ((a.val : Int)).toNat - 1) * pw T.val + (2 ^ ((s.val : Int)).toNat - 1) ∧ ((2 : Int) ^ ((a.val : Int)).toNat - 1) * pw T.val + (2 ^ ((s.val : Int)).toNat - 1) < ((4 ^ T.val : Nat) : Int) := by decide +kernel
  exact hf ⟨T, by omega⟩ ⟨a, by omega⟩ ⟨s, by omega⟩ ha hs
theorem spec_RowsFrom_l1 (T : Nat) (hT : T ≤ 3) (l : List Int) (h3 : l.length = 4 ^ T) (a : Nat) (ha : a ≤ T) (d : Nat) : ∀ (m s : Nat), s + d = a + 1 →
    spec_RowsFrom.l1 (m + d + 1) T l (rowsI (rwAt T l) a ++ rowI (rwAt T l) a s) (a : Int) (s : Int) = spec_RowsFrom.l0 m T l (rowsI (rwAt T l) (a + 1)) ((a + 1 : Nat) : Int) := by
  induction d with
  | zero =>
    intro m s h
    obtain ⟨M, hM⟩ : ∃ M, M = m + 0 := ⟨_, rfl⟩
    rw [← hM, show m = M from by omega]
    simp only [spec_RowsFrom.l1]
    rw [if_neg (by omega), wrap_succ6 a (by omega), show s = a + 1 from by omega, ← rowsI_succ]
  | succ d ih =>
    intro m s h
    obtain ⟨M, hM⟩ : ∃ M, M = m + d + 1 := ⟨_, rfl⟩
    rw [show m + (d + 1) + 1 = M + 1 from by omega]
    have hb := rows_bound (rwAt T l) a s (by omega) (by omega)
    obtain ⟨e1, e2, e3⟩ := rw_idx T a s hT ha (by omega)
    have hi := ih m (s + 1) (by omega)
    simp only [spec_RowsFrom.l1]
    rw [if_pos (by omega), if_pos (by omega), if_pos (by omega), if_pos (by omega), e1, if_pos e2, if_pos (by rw [h3]; exact e3), if_pos hb, wrap_succ6 s (by omega), hM, List.append_assoc, show rowI (rwAt T l) a s ++ [rd l ((2 ^ ((a : Int)).toNat - 1) * pw T + (2 ^ ((s : Int)).toNat - 1))] = rowI (rwAt T l) a (s + 1) from (rowI_succ _ _ _).symm]
    exact hi
theorem spec_RowsFrom_l0 (T : Nat) (hT : T ≤ 3) (l : List Int) (h3 : l.length = 4 ^ T) (e : Nat) : ∀ (k a : Nat), a + e = T + 1 → 20 * e + 20 < k →
    spec_RowsFrom.l0 k T l (rowsI (rwAt T l) a) (a : Int) = some (rowsI (rwAt T l) (T + 1), true) := by
  induction e with
  | zero =>
    intro k a g hk
    obtain ⟨k, rfl⟩ : ∃ m, k = m + 1 := ⟨k - 1, by omega⟩
    obtain rfl : a = T + 1 := by omega
    simp only [spec_RowsFrom.l0]
    rw [if_neg (by omega)]
  | succ e ih =>
    intro k a g hk
    obtain ⟨k, rfl⟩ : ∃ m, k = m + (a + 1) + 1 + 1 := ⟨k - (a + 3), by omega⟩
    have hh1 := spec_RowsFrom_l1 T hT l h3 a (by omega) (a + 1) k 0 (by omega)
    rw [rowI_zero, List.append_nil] at hh1
    simp only [spec_RowsFrom.l0]
    rw [if_pos (by omega)]
    refine Eq.trans hh1 ?_
    exact ih k (a + 1) (by omega) (by omega)
theorem spec_RowsFrom_k (t : Int) (l : List Int) (hl : l.length ≤ 1048576) (k : Nat) (hk : 1048700 ≤ k) : spec_RowsFrom.f k t l = some (rowsP t l) := by
  obtain ⟨k, rfl⟩ : ∃ m, k = m + 1 := ⟨k - 1, by omega⟩
  unfold spec_RowsFrom.f
  rw [Option.bind_some, spec_LooksInside_k t l hl _ (by omega), Option.bind_some]
  by_cases g : insideP t l = true
  · rw [if_pos g, spec_KnowsNoThing_k t l hl _ (by omega), Option.bind_some]
    by_cases g2 : kntAllP t l = true
    · have hr : isRel t l = true := by
        unfold insideP at g
        rw [Bool.and_eq_true] at g
        exact g.1
      obtain ⟨t0, t3, h3⟩ := isRel_range hr
      obtain ⟨T, rfl⟩ := Int.eq_ofNat_of_zero_le t0
      rw [g2]
      simp only [spec_RowsFrom.j0]
      rw [Bool.not_true, if_neg Bool.false_ne_true]
      refine (spec_RowsFrom_l0 T (by omega) l h3 (T + 1) k 0 (by omega) (by omega)).trans ?_
      unfold rowsP rwP
      rw [g, g2, Bool.true_and, if_pos rfl, Int.toNat_natCast]
    · rw [Bool.eq_false_iff.mpr g2]
      simp only [spec_RowsFrom.j0]
      first | rw [Bool.not_false, if_pos rfl] | rw [Bool.not_false, if_pos trivial]
      unfold rowsP
      rw [Bool.eq_false_iff.mpr g2, Bool.and_false]
      rfl
  · rw [if_neg g]
    simp only [spec_RowsFrom.j0]
    rw [if_pos trivial]
    unfold rowsP
    rw [Bool.eq_false_iff.mpr g, Bool.false_and]
    rfl

end Go.Proofs.Ythgkkhpndiiabaa.P

/- The program's RowsFrom answers as the reference's does, for all arguments: the pure statement of the law FnExactRowsFrom. No condition. -/
namespace Go.Proofs.Ythgkkhpndiiabaa.Pure
open Go.RowKit Go.Proofs.Ythgkkhpndiiabaa.P Go.Proofs.YthgkkhpndiiabaaW.PrintWords Go.Proofs.YthgkkhpndiiabaaW.PrintLast

theorem FnExactRowsFrom : laws_FnExactRowsFrom.Pure := by
  intro t l _ _ _ _
  obtain ⟨K, hK⟩ : ∃ K, K = 2097200 := ⟨_, rfl⟩
  refine ⟨K + 4, ?_⟩
  unfold laws_FnExactRowsFrom.f
  by_cases hl : (l.length : Int) > 1048576
  · rw [if_pos hl]
  · rw [if_neg hl]
    have hll : l.length ≤ 1048576 := by omega
    have h1 := rowsP_length t l
    have hs := spec_RowsFrom_k t l hll
    have hi := impl_RowsFrom_eq t l
    obtain ⟨r1, r2, hr⟩ : ∃ r1 r2, rowsP t l = (r1, r2) := ⟨_, _, rfl⟩
    rw [hr] at h1 hs hi
    have h1 : r1.length ≤ 10 := h1
    have T := toIntS_k l hll
    have E := eqIntS_k l hll
    have e1 := eqIntS_k r1 (by omega)
    have m0 := markIntS_k 1 (by omega) l hll
    have m1 := markIntS_k 1 (by omega) r1 (by omega)
    have d1 := heldIntS_k 1 (by omega) r1.length (by omega)
    have n0 : ¬ (1 + (l.length : Int) < 0) := by omega
    have n1 : ¬ (1 + (r1.length : Int) < 0) := by omega
    have j2 : laws_FnExactRowsFrom.j2 (K + 2) (marks 1 r1.length) (1 + (r1.length : Int)) false = some true := by
      simp only [laws_FnExactRowsFrom.j2]
      rw [if_neg Bool.false_ne_true, d1 (K + 1) (by omega), Option.bind_some, if_neg n1, if_pos rfl]
    have j1 : laws_FnExactRowsFrom.j1 (K + 3) t l r1 r2 r1 false = some true := by
      simp only [laws_FnExactRowsFrom.j1]
      rw [if_neg Bool.false_ne_true, m1 (K + 2) (by omega), Option.bind_some, d1 (K + 2) (by omega), Option.bind_some, if_neg n1, if_pos rfl, T (K + 2) (by omega), Option.bind_some, hi, Option.bind_some, e1 (K + 2) (by omega), Option.bind_some, if_pos rfl, bne_self_eq_false]
      exact j2
    have j0 : laws_FnExactRowsFrom.j0 (K + 4) t l r1 r2 l r1 r2 false = some true := by
      simp only [laws_FnExactRowsFrom.j0]
      rw [if_neg Bool.false_ne_true, T (K + 3) (by omega), Option.bind_some, E (K + 3) (by omega), Option.bind_some, if_pos rfl, m0 (K + 3) (by omega), Option.bind_some, if_neg n0, e1 (K + 3) (by omega), Option.bind_some, if_pos rfl, bne_self_eq_false]
      exact j1
    rw [T (K + 4) (by omega), Option.bind_some, hs (K + 4) (by omega), Option.bind_some, Option.bind_some, hi, Option.bind_some, e1 (K + 4) (by omega), Option.bind_some, if_pos rfl, bne_self_eq_false]
    exact j0

end Go.Proofs.Ythgkkhpndiiabaa.Pure
