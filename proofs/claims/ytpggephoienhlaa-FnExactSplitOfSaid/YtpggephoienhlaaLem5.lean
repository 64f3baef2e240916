/- Plain facts: what the reference's and the program's Between and SplitOf come to, with enough rounds, for lists of at most 2^20 numbers. -/
import Derived.Test.YtpggephoienhlaaLem2b
import Derived.Test.YtpggephoienhlaaPx26
import Derived.Test.YtpggephoienhlaaPx27
import Derived.Test.YtpggephoienhlaaPx31
import Derived.Test.YtpggephoienhlaaPx29
namespace Go.Proofs.Ytpggephoienhlaa.P
open Go.RowKit Go.Proofs.YtpggephoienhlaaW.PrintWords Go.Proofs.YtpggephoienhlaaW.PrintLast

/-- At three numbers of one row: what holds at two holds at the third. -/
def btOk (l : List Int) (a lo hi k : Int) : Bool := !(hd l a lo && hd l a hi && !(hd l a k))
theorem bit_one (l : List Int) (h : isTri l = true) (a s : Int) : (rd l (pl a s) = 1) = (hd l a s = true) := by
  rw [bit_of l h]
  cases hd l a s <;> simp
theorem bit_zero (l : List Int) (h : isTri l = true) (a s : Int) : (rd l (pl a s) = 0) = (hd l a s = false) := by
  rw [bit_of l h]
  cases hd l a s <;> simp
theorem spec_Between_l3 (l : List Int) (ht : isTri l = true) (a lo hi : Nat) (ha : a < 6) (h1 : lo ≤ hi) (h2 : hi ≤ a) (d : Nat) : ∀ (m q : Nat), q + d = hi + 1 → lo ≤ q →
    spec_Between.l3 (m + d + 1) l (a : Int) (lo : Int) (hi : Int) (q : Int) = if ((List.range' q d).all fun (q : Nat) => btOk l a lo hi q) = true then spec_Between.l2 m l (a : Int) (lo : Int) ((hi + 1 : Nat) : Int) else some false := by
  have hl := isTri_length ht
  induction d with
  | zero =>
    intro m q h hq
    simp only [spec_Between.l3]
    rw [if_neg (by omega), wrap_succ6 hi (by omega), List.range'_zero, List.all_nil, if_pos rfl]
  | succ d ih =>
    intro m q h hq
    obtain ⟨M, hM⟩ : ∃ M, M = m + d + 1 := ⟨_, rfl⟩
    rw [show m + (d + 1) + 1 = M + 1 from by omega]
    simp only [spec_Between.l3]
    have r1 := pl_range a lo (by omega) (by omega) (by omega) (by omega)
    have r2 := pl_range a hi (by omega) (by omega) (by omega) (by omega)
    have r3 := pl_range a q (by omega) (by omega) (by omega) (by omega)
    have e1 : plOr (a : Int) (lo : Int) = pl a lo := plOr_in _ _ (by omega) (by omega) (by omega) (by omega)
    have e2 : plOr (a : Int) (hi : Int) = pl a hi := plOr_in _ _ (by omega) (by omega) (by omega) (by omega)
    have e3 : plOr (a : Int) (q : Int) = pl a q := plOr_in _ _ (by omega) (by omega) (by omega) (by omega)
    have i1 : pl (a : Int) (lo : Int) < (l.length : Int) := by omega
    have i2 : pl (a : Int) (hi : Int) < (l.length : Int) := by omega
    have i3 : pl (a : Int) (q : Int) < (l.length : Int) := by omega
    have hq2 : (q : Int) ≤ (hi : Int) := by omega
    simp only [spec_PlaceOf_eq, e1, e2, e3, Option.bind_some, r1.1, r2.1, r3.1, i1, i2, i3, hq2, if_true, bit_one l ht, bit_zero l ht]
    rw [wrap_succ6 q (by omega), hM, ih m (q + 1) (by omega) (by omega), show List.range' q (d + 1) = q :: List.range' (q + 1) d from rfl, List.all_cons]
    unfold btOk
    cases hd l a lo <;> cases hd l a hi <;> cases hd l a q <;> first | rfl | simp
theorem spec_Between_l2 (l : List Int) (ht : isTri l = true) (a lo : Nat) (ha : a < 6) (h1 : lo ≤ a) (e : Nat) : ∀ (k hi : Nat), hi + e = a + 1 → lo ≤ hi → 20 * e + 20 < k →
    ∃ k', k ≤ k' + 20 * e + 20 ∧ spec_Between.l2 k l (a : Int) (lo : Int) (hi : Int) = if ((List.range' hi e).all fun (hi : Nat) => (List.range' lo (hi + 1 - lo)).all fun (q : Nat) => btOk l a lo hi q) = true then spec_Between.l1 k' l (a : Int) ((lo + 1 : Nat) : Int) else some false := by
  induction e with
  | zero =>
    intro k hi h hq hk
    obtain ⟨k, rfl⟩ : ∃ m, k = m + 1 := ⟨k - 1, by omega⟩
    refine ⟨k, by omega, ?_⟩
    simp only [spec_Between.l2]
    rw [if_neg (by omega), wrap_succ6 lo (by omega), List.range'_zero, List.all_nil, if_pos rfl]
  | succ e ih =>
    intro k hi h hq hk
    obtain ⟨k, rfl⟩ : ∃ m, k = m + (hi + 1 - lo) + 1 + 1 := ⟨k - (hi + 3 - lo), by omega⟩
    obtain ⟨k', hk', hh⟩ := ih k (hi + 1) (by omega) (by omega) (by omega)
    refine ⟨k', by omega, ?_⟩
    have := spec_Between_l3 l ht a lo hi ha hq (by omega) (hi + 1 - lo) k lo (by omega) (by omega)
    simp only [spec_Between.l2]
    rw [if_pos (by omega)]
    refine Eq.trans this ?_
    rw [hh, show List.range' hi (e + 1) = hi :: List.range' (hi + 1) e from rfl, List.all_cons]
    cases ((List.range' lo (hi + 1 - lo)).all fun (q : Nat) => btOk l a lo hi q) <;> first | rfl | simp
theorem spec_Between_l1 (l : List Int) (ht : isTri l = true) (a : Nat) (ha : a < 6) (e : Nat) : ∀ (k lo : Nat), lo + e = a + 1 → 200 * e + 200 < k →
    ∃ k', k ≤ k' + 200 * e + 200 ∧ spec_Between.l1 k l (a : Int) (lo : Int) = if ((List.range' lo e).all fun (lo : Nat) => (List.range' lo (a + 1 - lo)).all fun (hi : Nat) => (List.range' lo (hi + 1 - lo)).all fun (q : Nat) => btOk l a lo hi q) = true then spec_Between.l0 k' l ((a + 1 : Nat) : Int) else some false := by
  induction e with
  | zero =>
    intro k lo h hk
    obtain ⟨k, rfl⟩ : ∃ m, k = m + 1 := ⟨k - 1, by omega⟩
    refine ⟨k, by omega, ?_⟩
    simp only [spec_Between.l1]
    rw [if_neg (by omega), wrap_succ6 a (by omega), List.range'_zero, List.all_nil, if_pos rfl]
  | succ e ih =>
    intro k lo h hk
    obtain ⟨k, rfl⟩ : ∃ m, k = m + 1 := ⟨k - 1, by omega⟩
    obtain ⟨k1, hk1, hh1⟩ := spec_Between_l2 l ht a lo ha (by omega) (a + 1 - lo) k lo (by omega) (by omega) (by omega)
    obtain ⟨k', hk', hh⟩ := ih k1 (lo + 1) (by omega) (by omega)
    refine ⟨k', by omega, ?_⟩
    simp only [spec_Between.l1]
    rw [if_pos (by omega)]
    refine Eq.trans hh1 ?_
    rw [hh, show List.range' lo (e + 1) = lo :: List.range' (lo + 1) e from rfl, List.all_cons]
    cases ((List.range' lo (a + 1 - lo)).all fun (hi : Nat) => (List.range' lo (hi + 1 - lo)).all fun (q : Nat) => btOk l a lo hi q) <;> first | rfl | simp
theorem spec_Between_l0 (l : List Int) (ht : isTri l = true) (e : Nat) : ∀ (k a : Nat), a + e = 6 → 2000 * e + 2000 < k →
    spec_Between.l0 k l (a : Int) = some ((List.range' a e).all fun (a : Nat) => (List.range' 0 (a + 1)).all fun (lo : Nat) => (List.range' lo (a + 1 - lo)).all fun (hi : Nat) => (List.range' lo (hi + 1 - lo)).all fun (q : Nat) => btOk l a lo hi q) := by
  induction e with
  | zero =>
    intro k a h hk
    obtain ⟨k, rfl⟩ : ∃ m, k = m + 1 := ⟨k - 1, by omega⟩
    simp only [spec_Between.l0]
    rw [if_neg (by omega), List.range'_zero, List.all_nil]
  | succ e ih =>
    intro k a h hk
    obtain ⟨k, rfl⟩ : ∃ m, k = m + 1 := ⟨k - 1, by omega⟩
    obtain ⟨k1, hk1, hh1⟩ := spec_Between_l1 l ht a (by omega) (a + 1) k 0 (by omega) (by omega)
    simp only [spec_Between.l0]
    rw [if_pos (by omega)]
    refine Eq.trans hh1 ?_
    rw [ih k1 (a + 1) (by omega) (by omega), show List.range' a (e + 1) = a :: List.range' (a + 1) e from rfl, List.all_cons]
    cases ((List.range' 0 (a + 1)).all fun (lo : Nat) => (List.range' lo (a + 1 - lo)).all fun (hi : Nat) => (List.range' lo (hi + 1 - lo)).all fun (q : Nat) => btOk l a lo hi q) <;> first | rfl | simp
/-- What holds for a number that is not greater, and for one that is not less, holds. -/
def betP (l : List Int) : Bool := (List.range 6).all fun (a : Nat) => (List.range (a + 1)).all fun (s : Nat) => !(upP l a s && downP l a s) || hd l a s
theorem betP_iff (l : List Int) : betP l = true ↔ ∀ a s : Nat, a < 6 → s ≤ a → upP l a s = true → downP l a s = true → hd l a s = true := by
  simp only [betP, List.all_eq_true, List.mem_range]
  constructor
  · intro h a s ha hs h1 h2
    have := h a ha s (by omega)
    rw [h1, h2] at this
    simpa using this
  · intro h a ha s hs
    have := h a s ha (by omega)
    revert this
    cases upP l a s <;> cases downP l a s <;> cases hd l a s <;> simp
theorem upP_iff (l : List Int) (a : Int) (s : Nat) : upP l a s = true ↔ ∃ k : Nat, k ≤ s ∧ hd l a k = true := by
  simp only [upP, List.any_eq_true, List.mem_range, Int.toNat_natCast]
  exact ⟨fun ⟨k, h1, h2⟩ => ⟨k, by omega, h2⟩, fun ⟨k, h1, h2⟩ => ⟨k, by omega, h2⟩⟩
theorem downP_iff (l : List Int) (a s : Nat) : downP l a s = true ↔ ∃ k : Nat, s ≤ k ∧ k ≤ a ∧ hd l a k = true := by
  simp only [downP, List.any_eq_true, List.mem_range, Int.toNat_natCast, Bool.and_eq_true, decide_eq_true_eq]
  exact ⟨fun ⟨k, h1, h2, h3⟩ => ⟨k, by omega, by omega, h3⟩, fun ⟨k, h1, h2, h3⟩ => ⟨k, by omega, by omega, h3⟩⟩
theorem spec_Between_all (l : List Int) : ((List.range' 0 6).all fun (a : Nat) => (List.range' 0 (a + 1)).all fun (lo : Nat) => (List.range' lo (a + 1 - lo)).all fun (hi : Nat) => (List.range' lo (hi + 1 - lo)).all fun (q : Nat) => btOk l a lo hi q) = betP l := by
  rw [Bool.eq_iff_iff, betP_iff]
  simp only [List.all_eq_true, List.mem_range'_1]
  constructor
  · intro h a s ha hs h1 h2
    obtain ⟨lo, g1, g2⟩ := (upP_iff l a s).1 h1
    obtain ⟨hi, g3, g4, g5⟩ := (downP_iff l a s).1 h2
    have := h a (by omega) lo (by omega) hi (by omega) s (by omega)
    unfold btOk at this
    rw [g2, g5] at this
    simpa using this
  · intro h a ha lo hlo hi hhi q hq
    have := h a q (by omega) (by omega)
    unfold btOk
    cases e1 : hd l a lo
    · simp
    · cases e2 : hd l a hi
      · simp
      · rw [this ((upP_iff l a q).2 ⟨lo, by omega, e1⟩) ((downP_iff l a q).2 ⟨hi, by omega, by omega, e2⟩)]
        simp
theorem spec_Between_k (l : List Int) (hl : l.length ≤ 1048576) (k : Nat) (hk : 2097153 ≤ k) : spec_Between.f k l = some (isTri l && betP l) := by
  unfold spec_Between.f
  rw [spec_TriangleOk_k l hl k (by omega), Option.bind_some]
  by_cases ht : isTri l = true
  · rw [if_pos ht, ht, Bool.true_and, ← spec_Between_all]
    exact spec_Between_l0 l ht 6 k 0 (by omega) (by omega)
  · rw [if_neg ht, Bool.eq_false_iff.mpr ht, Bool.false_and]

/-! The program's Between: by places. -/
theorem place_of (i : Nat) (h : i < 21) : ∃ a s : Nat, a < 6 ∧ s ≤ a ∧ pl (a : Int) (s : Int) = (i : Int) := by
  have hf : ∀ i : Fin 21, ∃ a : Fin 6, ∃ s : Fin 6, s.val ≤ a.val ∧ pl (a.val : Int) (s.val : Int) = (i.val : Int) := by decide +kernel
  obtain ⟨a, s, h1, h2⟩ := hf ⟨i, h⟩
  exact ⟨a, s, a.isLt, h1, h2⟩
theorem and_bits (x y : Bool) : Go.bits .and .i64 (if x = true then 1 else 0) (if y = true then 1 else 0) = if (x && y) = true then 1 else 0 := by
  cases x <;> cases y <;> decide +kernel
theorem rd_triBy (so : Int → Int → Bool) (a s : Nat) (ha : a < 6) (hs : s ≤ a) : rd (triBy so) (pl (a : Int) (s : Int)) = if so a s = true then 1 else 0 := by
  rw [triBy_eq]
  exact rd_triI (fun a s => if so a s = true then 1 else 0) a s (by omega) (by omega) (by omega) (by omega)
theorem impl_between_round (l : List Int) (hl : l.length = 21) (u v : List Int) (hu : u.length = 21) (hv : v.length = 21) (d : Nat) : ∀ (k i : Nat), i + d = 21 → d < k →
    impl_between.l0 k l u v (l.length : Int) (i : Int) = some ((List.range' i d).all fun (i : Nat) => Go.bits .and .i64 (rd u i) (rd v i) == rd l i) := by
  induction d with
  | zero =>
    intro k i h hk
    obtain ⟨k, rfl⟩ : ∃ m, k = m + 1 := ⟨k - 1, by omega⟩
    simp only [impl_between.l0]
    rw [if_neg (by omega), List.range'_zero, List.all_nil]
  | succ d ih =>
    intro k i h hk
    obtain ⟨k, rfl⟩ : ∃ m, k = m + 1 := ⟨k - 1, by omega⟩
    simp only [impl_between.l0]
    rw [if_pos (by omega), if_pos (by omega), if_pos (by omega), if_pos (by omega), if_pos (by omega), wrap_succ6 i (by omega), ih k (i + 1) (by omega) (by omega), show List.range' i (d + 1) = i :: List.range' (i + 1) d from rfl, List.all_cons]
    by_cases h0 : Go.bits .and .i64 (rd u i) (rd v i) = rd l i
    · rw [if_pos h0, beq_iff_eq.mpr h0, Bool.true_and]
    · rw [if_neg h0, beq_eq_false_iff_ne.mpr h0, Bool.false_and]
theorem impl_between_k (l : List Int) (ht : isTri l = true) (k : Nat) (hk : 100 ≤ k) : impl_between.f k l = some (betP l) := by
  have hl := isTri_length ht
  unfold impl_between.f impl_splitOf.f
  rw [if_pos (by omega), Option.bind_some]
  have := impl_between_round l hl (triBy (upP l)) (triBy (downP l)) (by rw [triBy_eq, triI_length]) (by rw [triBy_eq, triI_length]) 21 k 0 (by omega) (by omega)
  refine Eq.trans this ?_
  congr 1
  rw [Bool.eq_iff_iff, betP_iff]
  simp only [List.all_eq_true, List.mem_range'_1, beq_iff_eq]
  constructor
  · intro h a s ha hs h1 h2
    have hr := pl_range a s (by omega) (by omega) (by omega) (by omega)
    have := h (pl (a : Int) (s : Int)).toNat (by omega)
    rw [show (((pl (a : Int) (s : Int)).toNat : Nat) : Int) = pl a s from by omega, rd_triBy _ a s ha hs, rd_triBy _ a s ha hs, and_bits, h1, h2, bit_of l ht] at this
    cases e : hd l a s
    · rw [e] at this; exact absurd this (by decide)
    · rfl
  · intro h i hi
    obtain ⟨a, s, ha, hs, e⟩ := place_of i (by omega)
    rw [← e, rd_triBy _ a s ha hs, rd_triBy _ a s ha hs, and_bits, bit_of l ht]
    have := h a s ha hs
    cases e1 : hd l a s
    · rw [e1] at this
      cases e2 : upP l a s
      · rfl
      · cases e3 : downP l a s
        · rfl
        · exact absurd (this e2 e3) (by decide)
    · rw [(upP_iff l a s).2 ⟨s, by omega, e1⟩, (downP_iff l a s).2 ⟨s, by omega, by omega, e1⟩]
      rfl
theorem impl_Between_k (l : List Int) (hl : l.length ≤ 1048576) (k : Nat) (hk : 2097153 ≤ k) : impl_Between.f k l = some (isTri l && betP l) := by
  unfold impl_Between.f
  rw [impl_isTriangle_k l hl k (by omega), Option.bind_some]
  by_cases ht : isTri l = true
  · rw [if_pos ht, impl_between_k l ht k (by omega), Option.bind_some, ht, Bool.true_and]
  · rw [if_neg ht, Bool.eq_false_iff.mpr ht, Bool.false_and]

/-! SplitOf -/
/-- The greatest entry of the first k of a row that are not beyond s, not ahead of s. -/
def lowN (l : List Int) (a s : Nat) : Nat → Int
  | 0 => 0
  | k + 1 => if k ≤ s then mx (lowN l a s k) (rd l (pl a k)) else lowN l a s k
def highN (l : List Int) (a s : Nat) : Nat → Int
  | 0 => 0
  | k + 1 => if s ≤ k then mx (highN l a s k) (rd l (pl a k)) else highN l a s k
theorem mx_bits (x y : Bool) : mx (if x = true then 1 else 0) (if y = true then 1 else 0) = if (x || y) = true then 1 else 0 := by
  cases x <;> cases y <;> decide +kernel
theorem lowN_eq (l : List Int) (ht : isTri l = true) (a s : Nat) : ∀ k, lowN l a s k = if ((List.range k).any fun (j : Nat) => decide (j ≤ s) && hd l a j) = true then 1 else 0
  | 0 => rfl
  | k + 1 => by
    rw [lowN, lowN_eq l ht a s k, bit_of l ht, List.range_succ, List.any_append]
    by_cases h : k ≤ s
    · rw [if_pos h, mx_bits]
      simp [h]
    · rw [if_neg h]
      simp [h]
theorem highN_eq (l : List Int) (ht : isTri l = true) (a s : Nat) : ∀ k, highN l a s k = if ((List.range k).any fun (j : Nat) => decide (s ≤ j) && hd l a j) = true then 1 else 0
  | 0 => rfl
  | k + 1 => by
    rw [highN, highN_eq l ht a s k, bit_of l ht, List.range_succ, List.any_append]
    by_cases h : s ≤ k
    · rw [if_pos h, mx_bits]
      simp [h]
    · rw [if_neg h]
      simp [h]
theorem lowN_up (l : List Int) (ht : isTri l = true) (a s : Nat) (hs : s ≤ a) : lowN l a s (a + 1) = if upP l a s = true then 1 else 0 := by
  rw [lowN_eq l ht]
  congr 2
  rw [Bool.eq_iff_iff, upP_iff]
  simp only [List.any_eq_true, List.mem_range, Bool.and_eq_true, decide_eq_true_eq]
  exact ⟨fun ⟨k, h1, h2, h3⟩ => ⟨k, h2, h3⟩, fun ⟨k, h1, h2⟩ => ⟨k, by omega, h1, h2⟩⟩
theorem highN_down (l : List Int) (ht : isTri l = true) (a s : Nat) : highN l a s (a + 1) = if downP l a s = true then 1 else 0 := by
  rw [highN_eq l ht]
  congr 2
  rw [Bool.eq_iff_iff, downP_iff]
  simp only [List.any_eq_true, List.mem_range, Bool.and_eq_true, decide_eq_true_eq]
  exact ⟨fun ⟨k, h1, h2, h3⟩ => ⟨k, h2, by omega, h3⟩, fun ⟨k, h1, h2, h3⟩ => ⟨k, by omega, h1, h3⟩⟩
def upI (l : List Int) (a s : Int) : Int := if upP l a s = true then 1 else 0
def downI (l : List Int) (a s : Int) : Int := if downP l a s = true then 1 else 0
theorem spec_SplitOf_l2 (l : List Int) (ht : isTri l = true) (a s : Nat) (ha : a < 6) (hs : s ≤ a) (u v : List Int) (hu : u.length < 1000) (hv : v.length < 1000) (d : Nat) : ∀ (m q : Nat), q + d = a + 1 →
    spec_SplitOf.l2 (m + d + 1) l u v (a : Int) (s : Int) (lowN l a s q) (highN l a s q) (q : Int) = spec_SplitOf.l1 m l (u ++ [upI l a s]) (v ++ [downI l a s]) (a : Int) ((s + 1 : Nat) : Int) := by
  have hl := isTri_length ht
  induction d with
  | zero =>
    intro m q h
    obtain rfl : q = a + 1 := by omega
    simp only [spec_SplitOf.l2]
    rw [if_neg (by omega), if_pos (by omega), if_pos (by omega), wrap_succ6 s (by omega), lowN_up l ht a s hs, highN_down l ht a s]
    rfl
  | succ d ih =>
    intro m q h
    obtain ⟨M, hM⟩ : ∃ M, M = m + d + 1 := ⟨_, rfl⟩
    rw [show m + (d + 1) + 1 = M + 1 from by omega]
    simp only [spec_SplitOf.l2]
    have r1 := pl_range a q (by omega) (by omega) (by omega) (by omega)
    have e1 : plOr (a : Int) (q : Int) = pl a q := plOr_in _ _ (by omega) (by omega) (by omega) (by omega)
    have i1 : pl (a : Int) (q : Int) < (l.length : Int) := by omega
    have hq2 : (q : Int) ≤ (a : Int) := by omega
    simp only [spec_PlaceOf_eq, e1, Option.bind_some, r1.1, i1, hq2, if_true]
    have := ih m (q + 1) (by omega)
    rw [lowN, highN] at this
    rw [wrap_succ6 q (by omega), hM]
    by_cases c1 : q ≤ s
    · rw [if_pos (show (q : Int) ≤ (s : Int) by omega)]
      rw [if_pos c1] at this
      by_cases c2 : s ≤ q
      · rw [if_pos (show (q : Int) ≥ (s : Int) by omega)]
        rw [if_pos c2] at this
        exact this
      · rw [if_neg (show ¬ (q : Int) ≥ (s : Int) by omega)]
        rw [if_neg c2] at this
        exact this
    · rw [if_neg (show ¬ (q : Int) ≤ (s : Int) by omega)]
      rw [if_neg c1] at this
      by_cases c2 : s ≤ q
      · rw [if_pos (show (q : Int) ≥ (s : Int) by omega)]
        rw [if_pos c2] at this
        exact this
      · rw [if_neg (show ¬ (q : Int) ≥ (s : Int) by omega)]
        rw [if_neg c2] at this
        exact this
theorem spec_SplitOf_l1 (l : List Int) (ht : isTri l = true) (a : Nat) (ha : a < 6) (e : Nat) : ∀ (k s : Nat), s + e = a + 1 → 20 * e + 20 < k →
    ∃ k', k ≤ k' + 20 * e + 20 ∧ spec_SplitOf.l1 k l (rowsI (upI l) a ++ rowI (upI l) a s) (rowsI (downI l) a ++ rowI (downI l) a s) (a : Int) (s : Int) = spec_SplitOf.l0 k' l (rowsI (upI l) (a + 1)) (rowsI (downI l) (a + 1)) ((a + 1 : Nat) : Int) := by
  induction e with
  | zero =>
    intro k s h hk
    obtain ⟨k, rfl⟩ : ∃ m, k = m + 1 := ⟨k - 1, by omega⟩
    refine ⟨k, by omega, ?_⟩
    obtain rfl : s = a + 1 := by omega
    simp only [spec_SplitOf.l1]
    rw [if_neg (by omega), wrap_succ6 a (by omega), ← rowsI_succ, ← rowsI_succ]
  | succ e ih =>
    intro k s h hk
    obtain ⟨k, rfl⟩ : ∃ m, k = m + (a + 1) + 1 + 1 := ⟨k - (a + 3), by omega⟩
    obtain ⟨k', hk', hh⟩ := ih k (s + 1) (by omega) (by omega)
    refine ⟨k', by omega, ?_⟩
    have b1 := rowsI_length_le (upI l) a (by omega)
    have b2 := rowsI_length_le (downI l) a (by omega)
    have := spec_SplitOf_l2 l ht a s ha (by omega) (rowsI (upI l) a ++ rowI (upI l) a s) (rowsI (downI l) a ++ rowI (downI l) a s) (by rw [List.length_append, rowI_length]; omega) (by rw [List.length_append, rowI_length]; omega) (a + 1) k 0 (by omega)
    simp only [spec_SplitOf.l1]
    rw [if_pos (by omega)]
    refine Eq.trans this ?_
    rw [← hh, rowI_succ, rowI_succ, List.append_assoc, List.append_assoc]
theorem spec_SplitOf_l0 (l : List Int) (ht : isTri l = true) (e : Nat) : ∀ (k a : Nat), a + e = 6 → 200 * e + 200 < k →
    spec_SplitOf.l0 k l (rowsI (upI l) a) (rowsI (downI l) a) (a : Int) = some (triBy (upP l), triBy (downP l), true) := by
  induction e with
  | zero =>
    intro k a h hk
    obtain ⟨k, rfl⟩ : ∃ m, k = m + 1 := ⟨k - 1, by omega⟩
    obtain rfl : a = 6 := by omega
    simp only [spec_SplitOf.l0]
    rw [if_neg (by omega)]
    rfl
  | succ e ih =>
    intro k a h hk
    obtain ⟨k, rfl⟩ : ∃ m, k = m + 1 := ⟨k - 1, by omega⟩
    obtain ⟨k1, hk1, hh1⟩ := spec_SplitOf_l1 l ht a (by omega) (a + 1) k 0 (by omega) (by omega)
    rw [rowI_zero, rowI_zero, List.append_nil, List.append_nil] at hh1
    simp only [spec_SplitOf.l0]
    rw [if_pos (by omega)]
    refine Eq.trans hh1 ?_
    exact ih k1 (a + 1) (by omega) (by omega)
def splitP (l : List Int) : List Int × List Int × Bool := if (isTri l && betP l) = true then (triBy (upP l), triBy (downP l), true) else ([], [], false)
theorem spec_SplitOf_k (l : List Int) (hl : l.length ≤ 1048576) (k : Nat) (hk : 2097153 ≤ k) : spec_SplitOf.f k l = some (splitP l) := by
  unfold spec_SplitOf.f splitP
  rw [Option.bind_some, Option.bind_some, spec_Between_k l hl k hk, Option.bind_some]
  by_cases h : (isTri l && betP l) = true
  · rw [if_pos h, if_pos h]
    exact spec_SplitOf_l0 l (Bool.and_eq_true_iff.mp h).1 6 k 0 (by omega) (by omega)
  · rw [if_neg h, if_neg h]
theorem impl_SplitOf_k (l : List Int) (hl : l.length ≤ 1048576) (k : Nat) (hk : 2097153 ≤ k) : impl_SplitOf.f k l = some (splitP l) := by
  unfold impl_SplitOf.f splitP
  rw [impl_isTriangle_k l hl k (by omega), Option.bind_some]
  by_cases ht : isTri l = true
  · rw [if_pos ht, impl_between_k l ht k (by omega), Option.bind_some, ht, Bool.true_and]
    by_cases h : betP l = true
    · have := isTri_length ht
      rw [if_pos h, if_pos h]
      unfold impl_splitOf.f
      rw [if_pos (by omega)]
      rfl
    · rw [if_neg h, if_neg h]
  · rw [if_neg ht, Bool.eq_false_iff.mpr ht, Bool.false_and, if_neg (by decide)]
theorem splitP_length (l : List Int) : (splitP l).1.length ≤ 21 ∧ (splitP l).2.1.length ≤ 21 := by
  unfold splitP
  split
  · simp only [triBy_eq, triI_length]; omega
  · simp

end Go.Proofs.Ytpggephoienhlaa.P
