/- Plain facts: what the reference's and the program's NotOf, BothOf, EitherOf, InsideNot, DualOf come to, with enough rounds, for lists of at most 2^20 numbers. -/
import Derived.Test.YtpggephoienhlaaLem2b
import Derived.Test.YtpggephoienhlaaPx5
import Derived.Test.YtpggephoienhlaaPx8
import Derived.Test.YtpggephoienhlaaPx11
import Derived.Test.YtpggephoienhlaaPx14
import Derived.Test.YtpggephoienhlaaPx17
import Derived.Test.YtpggephoienhlaaPx6
import Derived.Test.YtpggephoienhlaaPx9
import Derived.Test.YtpggephoienhlaaPx12
import Derived.Test.YtpggephoienhlaaPx15
namespace Go.Proofs.Ytpggephoienhlaa.P
open Go.RowKit Go.Proofs.YtpggephoienhlaaW.PrintWords Go.Proofs.YtpggephoienhlaaW.PrintLast

/-! NotOf -/
def notP (l : List Int) : List Int := if isTri l = true then triBy (fun a s => !(hd l a s)) else []
theorem spec_NotOf_round (l : List Int) (hl : l.length ≤ 1048576) (ht : isTri l = true) (d : Nat) : ∀ (k i : Nat), i + d = l.length → d + 1048576 < k → spec_NotOf.l0 k l (idx (fun j => wrap64 (1 - rd l j)) i) (i : Int) = some (idx (fun j => wrap64 (1 - rd l j)) l.length) := by
  induction d with
  | zero =>
    intro k i h hk
    obtain ⟨k, rfl⟩ : ∃ m, k = m + 1 := ⟨k - 1, by omega⟩
    simp only [spec_NotOf.l0]
    rw [if_neg (by omega), show i = l.length from by omega]
  | succ d ih =>
    intro k i h hk
    obtain ⟨k, rfl⟩ : ∃ m, k = m + 1 := ⟨k - 1, by omega⟩
    simp only [spec_NotOf.l0]
    rw [if_pos (by omega), spec_TriangleOk_k l hl k (by omega), Option.bind_some, ht, if_pos rfl, if_pos (by omega), if_pos (by rw [idx_length]; omega), wrap_succ i l.length (by omega) hl, ← idx_succ]
    exact ih k (i + 1) (by omega) (by omega)
theorem spec_NotOf_k (l : List Int) (hl : l.length ≤ 1048576) (k : Nat) (hk : 2097153 ≤ k) : spec_NotOf.f k l = some (notP l) := by
  unfold spec_NotOf.f notP
  by_cases ht : isTri l = true
  · have h := spec_NotOf_round l hl ht l.length k 0 (by omega) (by omega)
    rw [isTri_length ht, idx_tri] at h
    rw [if_pos ht]
    refine Eq.trans h ?_
    rw [triBy_eq]
    congr 1
    refine triI_congr _ _ fun a s _ _ _ _ => ?_
    rw [bit_of l ht]
    cases hd l a s <;> simp [wrap64]
  · rw [if_neg ht]
    obtain ⟨k, rfl⟩ : ∃ m, k = m + 1 := ⟨k - 1, by omega⟩
    simp only [spec_NotOf.l0]
    by_cases h0 : (0 : Int) < (l.length : Int)
    · rw [if_pos h0, spec_TriangleOk_k l hl k (by omega), Option.bind_some, if_neg ht]
    · rw [if_neg h0]
theorem impl_NotOf_k (l : List Int) (hl : l.length ≤ 1048576) (k : Nat) (hk : 2097153 ≤ k) : impl_NotOf.f k l = some (notP l) := by
  unfold impl_NotOf.f notP impl_notOf.f
  rw [impl_isTriangle_k l hl k (by omega), Option.bind_some]
  by_cases ht : isTri l = true
  · rw [if_pos ht, if_pos ht, if_pos (Nat.le_of_eq (isTri_length ht).symm)]; rfl
  · rw [if_neg ht, if_neg ht]
theorem notP_length (l : List Int) : (notP l).length ≤ 21 := by
  unfold notP
  split
  · rw [triBy_eq, triI_length]; omega
  · simp

/-! BothOf, EitherOf -/
def bothP (l m : List Int) : List Int := if (isTri l && isTri m) = true then triBy (fun a s => hd l a s && hd m a s) else []
def eitherP (l m : List Int) : List Int := if (isTri l && isTri m) = true then triBy (fun a s => hd l a s || hd m a s) else []
theorem spec_BothOf_round (l m : List Int) (hl : l.length ≤ 1048576) (hm : m.length ≤ 1048576) (ht : isTri l = true) (hu : isTri m = true) (d : Nat) : ∀ (k i : Nat), i + d = l.length → d + 1048576 < k → spec_BothOf.l0 k l m (idx (fun j => wrap64 (rd l j * rd m j)) i) (i : Int) = some (idx (fun j => wrap64 (rd l j * rd m j)) l.length) := by
  induction d with
  | zero =>
    intro k i h hk
    obtain ⟨k, rfl⟩ : ∃ m, k = m + 1 := ⟨k - 1, by omega⟩
    simp only [spec_BothOf.l0]
    rw [if_neg (by omega), show i = l.length from by omega]
  | succ d ih =>
    intro k i h hk
    obtain ⟨k, rfl⟩ : ∃ m, k = m + 1 := ⟨k - 1, by omega⟩
    have h1 := isTri_length ht
    have h2 := isTri_length hu
    simp only [spec_BothOf.l0]
    rw [if_pos (by omega), spec_TriangleOk_k l hl k (by omega), Option.bind_some, ht, if_pos rfl, spec_TriangleOk_k m hm k (by omega), Option.bind_some, hu, if_pos rfl, if_pos (by omega), if_pos (by omega), if_pos (by rw [idx_length]; omega), wrap_succ i l.length (by omega) hl, ← idx_succ]
    exact ih k (i + 1) (by omega) (by omega)
theorem spec_BothOf_k (l m : List Int) (hl : l.length ≤ 1048576) (hm : m.length ≤ 1048576) (k : Nat) (hk : 2097153 ≤ k) : spec_BothOf.f k l m = some (bothP l m) := by
  unfold spec_BothOf.f bothP
  by_cases ht : isTri l = true
  · by_cases hu : isTri m = true
    · have h := spec_BothOf_round l m hl hm ht hu l.length k 0 (by omega) (by omega)
      rw [isTri_length ht, idx_tri] at h
      rw [if_pos (show (isTri l && isTri m) = true from by rw [ht, hu]; rfl)]
      refine Eq.trans h ?_
      rw [triBy_eq]
      congr 1
      refine triI_congr _ _ fun a s _ _ _ _ => ?_
      rw [bit_of l ht, bit_of m hu]
      cases hd l a s <;> cases hd m a s <;> simp [wrap64]
    · rw [if_neg (show ¬ (isTri l && isTri m) = true from by rw [ht, Bool.eq_false_iff.mpr hu]; decide)]
      obtain ⟨k, rfl⟩ : ∃ m, k = m + 1 := ⟨k - 1, by omega⟩
      simp only [spec_BothOf.l0]
      have := isTri_length ht
      rw [if_pos (by omega), spec_TriangleOk_k l hl k (by omega), Option.bind_some, ht, if_pos rfl, spec_TriangleOk_k m hm k (by omega), Option.bind_some, if_neg hu]
  · rw [if_neg (show ¬ (isTri l && isTri m) = true from by rw [Bool.eq_false_iff.mpr ht, Bool.false_and]; decide)]
    obtain ⟨k, rfl⟩ : ∃ m, k = m + 1 := ⟨k - 1, by omega⟩
    simp only [spec_BothOf.l0]
    by_cases h0 : (0 : Int) < (l.length : Int)
    · rw [if_pos h0, spec_TriangleOk_k l hl k (by omega), Option.bind_some, if_neg ht]
    · rw [if_neg h0]
theorem spec_EitherOf_round (l m : List Int) (hl : l.length ≤ 1048576) (hm : m.length ≤ 1048576) (ht : isTri l = true) (hu : isTri m = true) (d : Nat) : ∀ (k i : Nat), i + d = l.length → d + 1048576 < k → spec_EitherOf.l0 k l m (idx (fun j => wrap64 (wrap64 (rd l j + rd m j) - wrap64 (rd l j * rd m j))) i) (i : Int) = some (idx (fun j => wrap64 (wrap64 (rd l j + rd m j) - wrap64 (rd l j * rd m j))) l.length) := by
  induction d with
  | zero =>
    intro k i h hk
    obtain ⟨k, rfl⟩ : ∃ m, k = m + 1 := ⟨k - 1, by omega⟩
    simp only [spec_EitherOf.l0]
    rw [if_neg (by omega), show i = l.length from by omega]
  | succ d ih =>
    intro k i h hk
    obtain ⟨k, rfl⟩ : ∃ m, k = m + 1 := ⟨k - 1, by omega⟩
    have h1 := isTri_length ht
    have h2 := isTri_length hu
    simp only [spec_EitherOf.l0]
    rw [if_pos (by omega), spec_TriangleOk_k l hl k (by omega), Option.bind_some, ht, if_pos rfl, spec_TriangleOk_k m hm k (by omega), Option.bind_some, hu, if_pos rfl, if_pos (by omega), if_pos (by omega), if_pos (by rw [idx_length]; omega), wrap_succ i l.length (by omega) hl, ← idx_succ]
    exact ih k (i + 1) (by omega) (by omega)
theorem spec_EitherOf_k (l m : List Int) (hl : l.length ≤ 1048576) (hm : m.length ≤ 1048576) (k : Nat) (hk : 2097153 ≤ k) : spec_EitherOf.f k l m = some (eitherP l m) := by
  unfold spec_EitherOf.f eitherP
  by_cases ht : isTri l = true
  · by_cases hu : isTri m = true
    · have h := spec_EitherOf_round l m hl hm ht hu l.length k 0 (by omega) (by omega)
      rw [isTri_length ht, idx_tri] at h
      rw [if_pos (show (isTri l && isTri m) = true from by rw [ht, hu]; rfl)]
      refine Eq.trans h ?_
      rw [triBy_eq]
      congr 1
      refine triI_congr _ _ fun a s _ _ _ _ => ?_
      rw [bit_of l ht, bit_of m hu]
      cases hd l a s <;> cases hd m a s <;> simp [wrap64]
    · rw [if_neg (show ¬ (isTri l && isTri m) = true from by rw [ht, Bool.eq_false_iff.mpr hu]; decide)]
      obtain ⟨k, rfl⟩ : ∃ m, k = m + 1 := ⟨k - 1, by omega⟩
      simp only [spec_EitherOf.l0]
      have := isTri_length ht
      rw [if_pos (by omega), spec_TriangleOk_k l hl k (by omega), Option.bind_some, ht, if_pos rfl, spec_TriangleOk_k m hm k (by omega), Option.bind_some, if_neg hu]
  · rw [if_neg (show ¬ (isTri l && isTri m) = true from by rw [Bool.eq_false_iff.mpr ht, Bool.false_and]; decide)]
    obtain ⟨k, rfl⟩ : ∃ m, k = m + 1 := ⟨k - 1, by omega⟩
    simp only [spec_EitherOf.l0]
    by_cases h0 : (0 : Int) < (l.length : Int)
    · rw [if_pos h0, spec_TriangleOk_k l hl k (by omega), Option.bind_some, if_neg ht]
    · rw [if_neg h0]
theorem impl_BothOf_eq (l m : List Int) : impl_BothOf.f l m = some (bothP l m) := by
  unfold impl_BothOf.f bothP
  split <;> rfl
theorem impl_EitherOf_eq (l m : List Int) : impl_EitherOf.f l m = some (eitherP l m) := by
  unfold impl_EitherOf.f eitherP
  split <;> rfl
theorem bothP_length (l m : List Int) : (bothP l m).length ≤ 21 := by
  unfold bothP
  split
  · rw [triBy_eq, triI_length]; omega
  · simp
theorem eitherP_length (l m : List Int) : (eitherP l m).length ≤ 21 := by
  unfold eitherP
  split
  · rw [triBy_eq, triI_length]; omega
  · simp

/-! InsideNot, DualOf -/
def insP (l : List Int) : List Int := if isTri l = true then triBy (fun a s => hd l a (a - s)) else []
theorem spec_InsideNot_inner (l : List Int) (hl : l.length = 21) (a : Nat) (ha : a < 6) (d : Nat) : ∀ (m s : Nat), s + d = a + 1 →
    spec_InsideNot.l1 (m + d + 1) l (rowsI (fun a s => rd l (pl a (a - s))) a ++ rowI (fun a s => rd l (pl a (a - s))) a s) (a : Int) (s : Int) = spec_InsideNot.l0 m l (rowsI (fun a s => rd l (pl a (a - s))) (a + 1)) ((a + 1 : Nat) : Int) := by
  induction d with
  | zero =>
    intro m s h
    simp only [spec_InsideNot.l1]
    rw [if_neg (by omega), wrap_succ6 a (by omega), show s = a + 1 from by omega, ← rowsI_succ]
  | succ d ih =>
    intro m s h
    rw [show m + (d + 1) + 1 = (m + d + 1) + 1 from by omega]
    simp only [spec_InsideNot.l1]
    have hw : wrap64 ((a : Int) - s) = (a : Int) - s := by unfold wrap64; omega
    have hr := pl_range a ((a : Int) - s) (by omega) (by omega) (by omega) (by omega)
    rw [if_pos (by omega), hw, spec_PlaceOf_eq, plOr_in _ _ (by omega) (by omega) (by omega) (by omega), Option.bind_some, if_pos hr.1, if_pos (by omega), if_pos (rows_bound _ a s ha (by omega)), wrap_succ6 s (by omega), List.append_assoc, ← rowI_succ (fun a s => rd l (pl a (a - s))) a s]
    exact ih m (s + 1) (by omega)
theorem spec_InsideNot_outer (l : List Int) (ht : isTri l = true) (e : Nat) : ∀ (k a : Nat), a + e = 6 → 10 * e + 1048600 < k →
    spec_InsideNot.l0 k l (rowsI (fun a s => rd l (pl a (a - s))) a) (a : Int) = some (triI (fun a s => rd l (pl a (a - s)))) := by
  have hl := isTri_length ht
  induction e with
  | zero =>
    intro k a h hk
    obtain ⟨k, rfl⟩ : ∃ m, k = m + 2 := ⟨k - 2, by omega⟩
    obtain rfl : a = 6 := by omega
    simp only [spec_InsideNot.l0]
    rw [if_neg (by omega)]
    simp only [spec_InsideNot.j1]
    rfl
  | succ e ih =>
    intro k a h hk
    obtain ⟨k, rfl⟩ : ∃ m, k = m + (a + 1) + 1 + 2 := ⟨k - (a + 4), by omega⟩
    simp only [spec_InsideNot.l0]
    rw [if_pos (by omega), spec_TriangleOk_k l (by omega) _ (by omega), Option.bind_some, ht]
    simp only [spec_InsideNot.j1, if_true]
    have := spec_InsideNot_inner l hl a (by omega) (a + 1) k 0 (by omega)
    rw [rowI_zero, List.append_nil] at this
    refine Eq.trans this ?_
    exact ih k (a + 1) (by omega) (by omega)
theorem spec_InsideNot_k (l : List Int) (hl : l.length ≤ 1048576) (k : Nat) (hk : 2097153 ≤ k) : spec_InsideNot.f k l = some (insP l) := by
  unfold spec_InsideNot.f insP
  by_cases ht : isTri l = true
  · rw [if_pos ht]
    have := spec_InsideNot_outer l ht 6 k 0 (by omega) (by omega)
    refine Eq.trans this ?_
    rw [triBy_eq]
    congr 1
    refine triI_congr _ _ fun a s _ _ _ _ => ?_
    rw [bit_of l ht]
  · rw [if_neg ht]
    obtain ⟨k, rfl⟩ : ∃ m, k = m + 2 := ⟨k - 2, by omega⟩
    simp only [spec_InsideNot.l0]
    rw [if_pos (by omega), spec_TriangleOk_k l hl _ (by omega), Option.bind_some]
    simp only [spec_InsideNot.j1]
    rw [if_neg ht]
theorem impl_InsideNot_k (l : List Int) (hl : l.length ≤ 1048576) (k : Nat) (hk : 2097153 ≤ k) : impl_InsideNot.f k l = some (insP l) := by
  unfold impl_InsideNot.f insP impl_insideNot.f
  rw [impl_isTriangle_k l hl k (by omega), Option.bind_some]
  by_cases ht : isTri l = true
  · rw [if_pos ht, if_pos ht, if_pos (Nat.le_of_eq (isTri_length ht).symm)]; rfl
  · rw [if_neg ht, if_neg ht]
theorem insP_length (l : List Int) : (insP l).length ≤ 21 := by
  unfold insP
  split
  · rw [triBy_eq, triI_length]; omega
  · simp
def dualP (l : List Int) : List Int := notP (insP l)
theorem dualP_length (l : List Int) : (dualP l).length ≤ 21 := notP_length _
theorem spec_DualOf_k (l : List Int) (hl : l.length ≤ 1048576) (k : Nat) (hk : 2097153 ≤ k) : spec_DualOf.f k l = some (dualP l) := by
  have := insP_length l
  unfold spec_DualOf.f dualP
  rw [spec_InsideNot_k l hl k hk, Option.bind_some, spec_NotOf_k _ (by omega) k hk]
  rfl
theorem impl_DualOf_k (l : List Int) (hl : l.length ≤ 1048576) (k : Nat) (hk : 2097153 ≤ k) : impl_DualOf.f k l = some (dualP l) := by
  unfold impl_DualOf.f dualP insP notP impl_insideNot.f impl_notOf.f
  rw [impl_isTriangle_k l hl k (by omega), Option.bind_some]
  by_cases ht : isTri l = true
  · rw [if_pos ht, if_pos ht, if_pos (Nat.le_of_eq (isTri_length ht).symm), Option.bind_some, if_pos (by rw [triBy_eq, triI_length]; omega), if_pos (isTri_triBy _)]; rfl
  · rw [if_neg ht, if_neg ht, if_neg (by decide)]

end Go.Proofs.Ytpggephoienhlaa.P
