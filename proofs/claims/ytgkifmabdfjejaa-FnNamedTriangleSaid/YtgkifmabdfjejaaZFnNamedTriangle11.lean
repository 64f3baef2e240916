-- Texts of this claim, laid one behind the other by wip/gen/merge.py.
import Derived.Test.YtgkifmabdfjejaaZFnNamedTriangle9
import Derived.Test.YtgkifmabdfjejaaZFnNamedTriangle10
import Derived.Test.YtgkifmabdfjejaaZFnNamedTriangle7
import Derived.Test.YtgkifmabdfjejaaZFnNamedTriangle6
import Derived.Test.YtgkifmabdfjejaaZFnNamedTriangle4
import Derived.Lib.PathFns
import Derived.Lib.IndexBytes
import Derived.Test.YtgkifmabdfjejaaZFnNamedTriangle0
import Derived.Laws.Entries
/- Plain facts: what the reference's NotOf, BothOf, EitherOf, InsideNot, DualOf come to, with enough rounds, for lists of at most 2^20 numbers. -/
namespace Go.Proofs.Ytgkifmabdfjejaa.P
open Go.RowKit Go.Proofs.YtgkifmabdfjejaaW.PrintWords Go.Proofs.YtgkifmabdfjejaaW.PrintLast

/-! NotOf -/
def notP (l : List Int) : List Int := if isTri l = true then triBy (fun a s => !(hd l a s)) else []
theorem spec_NotOf_round (l : List Int) (hl : l.length ≤ 1048576) (ht : isTri l = true) (d : Nat) : ∀ (k i : Nat), i + d = l.length → d + 1048576 < k → spec_NotOf.l0 k l (idx (fun j => wrap64 (1 - rd l j)) i) (i : Int) = some (idx (fun j => wrap64 (1 - rd l j)) l.length) := by
  induction d with
  | zero =>
    intro k i h hk
    obtain ⟨k, rfl⟩ : ∃ m, k = m + 1 := ⟨k - 1, by omega⟩
    simp only [spec_NotOf.l0]
    rw [if_neg (by omega), show i = l.length from by omega]
  | succ d ih =>
    intro k i h hk
    obtain ⟨k, rfl⟩ : ∃ m, k = m + 1 := ⟨k - 1, by omega⟩
    simp only [spec_NotOf.l0]
    rw [if_pos (by omega), spec_TriangleOk_k l hl k (by omega), Option.bind_some, ht, if_pos rfl, if_pos (by omega), if_pos (by rw [idx_length]; omega), wrap_succ i l.length (by omega) hl, ← idx_succ]
    exact ih k (i + 1) (by omega) (by omega)
theorem spec_NotOf_k (l : List Int) (hl : l.length ≤ 1048576) (k : Nat) (hk : 2097153 ≤ k) : spec_NotOf.f k l = some (notP l) := by
  unfold spec_NotOf.f notP
  by_cases ht : isTri l = true
  · have h := spec_NotOf_round l hl ht l.length k 0 (by omega) (by omega)
    rw [isTri_length ht, idx_tri] at h
    rw [if_pos ht]
    refine Eq.trans h ?_
    rw [triBy_eq]
    congr 1
    refine triI_congr _ _ fun a s _ _ _ _ => ?_
    rw [bit_of l ht]
    cases hd l a s <;> simp [wrap64]
  · rw [if_neg ht]
    obtain ⟨k, rfl⟩ : ∃ m, k = m + 1 := ⟨k - 1, by omega⟩
    simp only [spec_NotOf.l0]
    by_cases h0 : (0 : Int) < (l.length : Int)
    · rw [if_pos h0, spec_TriangleOk_k l hl k (by omega), Option.bind_some, if_neg ht]
    · rw [if_neg h0]
theorem notP_length (l : List Int) : (notP l).length ≤ 21 := by
  unfold notP
  split
  · rw [triBy_eq, triI_length]; omega
  · simp

/-! BothOf, EitherOf -/
def bothP (l m : List Int) : List Int := if (isTri l && isTri m) = true then triBy (fun a s => hd l a s && hd m a s) else []
def eitherP (l m : List Int) : List Int := if (isTri l && isTri m) = true then triBy (fun a s => hd l a s || hd m a s) else []
theorem spec_BothOf_round (l m : List Int) (hl : l.length ≤ 1048576) (hm : m.length ≤ 1048576) (ht : isTri l = true) (hu : isTri m = true) (d : Nat) : ∀ (k i : Nat), i + d = l.length → d + 1048576 < k → spec_BothOf.l0 k l m (idx (fun j => wrap64 (rd l j * rd m j)) i) (i : Int) = some (idx (fun j => wrap64 (rd l j * rd m j)) l.length) := by
  induction d with
  | zero =>
    intro k i h hk
    obtain ⟨k, rfl⟩ : ∃ m, k = m + 1 := ⟨k - 1, by omega⟩
    simp only [spec_BothOf.l0]
    rw [if_neg (by omega), show i = l.length from by omega]
  | succ d ih =>
    intro k i h hk
    obtain ⟨k, rfl⟩ : ∃ m, k = m + 1 := ⟨k - 1, by omega⟩
    have h1 := isTri_length ht
    have h2 := isTri_length hu
    simp only [spec_BothOf.l0]
    rw [if_pos (by omega), spec_TriangleOk_k l hl k (by omega), Option.bind_some, ht, if_pos rfl, spec_TriangleOk_k m hm k (by omega), Option.bind_some, hu, if_pos rfl, if_pos (by omega), if_pos (by omega), if_pos (by rw [idx_length]; omega), wrap_succ i l.length (by omega) hl, ← idx_succ]
    exact ih k (i + 1) (by omega) (by omega)
theorem spec_BothOf_k (l m : List Int) (hl : l.length ≤ 1048576) (hm : m.length ≤ 1048576) (k : Nat) (hk : 2097153 ≤ k) : spec_BothOf.f k l m = some (bothP l m) := by
  unfold spec_BothOf.f bothP
  by_cases ht : isTri l = true
  · by_cases hu : isTri m = true
    · have h := spec_BothOf_round l m hl hm ht hu l.length k 0 (by omega) (by omega)
      rw [isTri_length ht, idx_tri] at h
      rw [if_pos (show (isTri l && isTri m) = true from by rw [ht, hu]; rfl)]
      refine Eq.trans h ?_
      rw [triBy_eq]
      congr 1
      refine triI_congr _ _ fun a s _ _ _ _ => ?_
      rw [bit_of l ht, bit_of m hu]
      cases hd l a s <;> cases hd m a s <;> simp [wrap64]
    · rw [if_neg (show ¬ (isTri l && isTri m) = true from by rw [ht, Bool.eq_false_iff.mpr hu]; decide)]
      obtain ⟨k, rfl⟩ : ∃ m, k = m + 1 := ⟨k - 1, by omega⟩
      simp only [spec_BothOf.l0]
      have := isTri_length ht
      rw [if_pos (by omega), spec_TriangleOk_k l hl k (by omega), Option.bind_some, ht, if_pos rfl, spec_TriangleOk_k m hm k (by omega), Option.bind_some, if_neg hu]
  · rw [if_neg (show ¬ (isTri l && isTri m) = true from by rw [Bool.eq_false_iff.mpr ht, Bool.false_and]; decide)]
    obtain ⟨k, rfl⟩ : ∃ m, k = m + 1 := ⟨k - 1, by omega⟩
    simp only [spec_BothOf.l0]
    by_cases h0 : (0 : Int) < (l.length : Int)
    · rw [if_pos h0, spec_TriangleOk_k l hl k (by omega), Option.bind_some, if_neg ht]
    · rw [if_neg h0]
theorem spec_EitherOf_round (l m : List Int) (hl : l.length ≤ 1048576) (hm : m.length ≤ 1048576) (ht : isTri l = true) (hu : isTri m = true) (d : Nat) : ∀ (k i : Nat), i + d = l.length → d + 1048576 < k → spec_EitherOf.l0 k l m (idx (fun j => wrap64 (wrap64 (rd l j + rd m j) - wrap64 (rd l j * rd m j))) i) (i : Int) = some (idx (fun j => wrap64 (wrap64 (rd l j + rd m j) - wrap64 (rd l j * rd m j))) l.length) := by
  induction d with
  | zero =>
    intro k i h hk
    obtain ⟨k, rfl⟩ : ∃ m, k = m + 1 := ⟨k - 1, by omega⟩
    simp only [spec_EitherOf.l0]
    rw [if_neg (by omega), show i = l.length from by omega]
  | succ d ih =>
    intro k i h hk
    obtain ⟨k, rfl⟩ : ∃ m, k = m + 1 := ⟨k - 1, by omega⟩
    have h1 := isTri_length ht
    have h2 := isTri_length hu
    simp only [spec_EitherOf.l0]
    rw [if_pos (by omega), spec_TriangleOk_k l hl k (by omega), Option.bind_some, ht, if_pos rfl, spec_TriangleOk_k m hm k (by omega), Option.bind_some, hu, if_pos rfl, if_pos (by omega), if_pos (by omega), if_pos (by rw [idx_length]; omega), wrap_succ i l.length (by omega) hl, ← idx_succ]
    exact ih k (i + 1) (by omega) (by omega)
theorem spec_EitherOf_k (l m : List Int) (hl : l.length ≤ 1048576) (hm : m.length ≤ 1048576) (k : Nat) (hk : 2097153 ≤ k) : spec_EitherOf.f k l m = some (eitherP l m) := by
  unfold spec_EitherOf.f eitherP
  by_cases ht : isTri l = true
  · by_cases hu : isTri m = true
    · have h := spec_EitherOf_round l m hl hm ht hu l.length k 0 (by omega) (by omega)
      rw [isTri_length ht, idx_tri] at h
      rw [if_pos (show (isTri l && isTri m) = true from by rw [ht, hu]; rfl)]
      refine Eq.trans h ?_
      rw [triBy_eq]
      congr 1
      refine triI_congr _ _ fun a s _ _ _ _ => ?_
      rw [bit_of l ht, bit_of m hu]
      cases hd l a s <;> cases hd m a s <;> simp [wrap64]
    · rw [if_neg (show ¬ (isTri l && isTri m) = true from by rw [ht, Bool.eq_false_iff.mpr hu]; decide)]
      obtain ⟨k, rfl⟩ : ∃ m, k = m + 1 := ⟨k - 1, by omega⟩
      simp only [spec_EitherOf.l0]
      have := isTri_length ht
      rw [if_pos (by omega), spec_TriangleOk_k l hl k (by omega), Option.bind_some, ht, if_pos rfl, spec_TriangleOk_k m hm k (by omega), Option.bind_some, if_neg hu]
  · rw [if_neg (show ¬ (isTri l && isTri m) = true from by rw [Bool.eq_false_iff.mpr ht, Bool.false_and]; decide)]
    obtain ⟨k, rfl⟩ : ∃ m, k = m + 1 := ⟨k - 1, by omega⟩
    simp only [spec_EitherOf.l0]
    by_cases h0 : (0 : Int) < (l.length : Int)
    · rw [if_pos h0, spec_TriangleOk_k l hl k (by omega), Option.bind_some, if_neg ht]
    · rw [if_neg h0]
theorem bothP_length (l m : List Int) : (bothP l m).length ≤ 21 := by
  unfold bothP
  split
  · rw [triBy_eq, triI_length]; omega
  · simp
theorem eitherP_length (l m : List Int) : (eitherP l m).length ≤ 21 := by
  unfold eitherP
  split
  · rw [triBy_eq, triI_length]; omega
  · simp

/-! InsideNot, DualOf -/
def insP (l : List Int) : List Int := if isTri l = true then triBy (fun a s => hd l a (a - s)) else []
theorem spec_InsideNot_inner (l : List Int) (hl : l.length = 21) (a : Nat) (ha : a < 6) (d : Nat) : ∀ (m s : Nat), s + d = a + 1 →
    spec_InsideNot.l1 (m + d + 1) l (rowsI (fun a s => rd l (pl a (a - s))) a ++ rowI (fun a s => rd l (pl a (a - s))) a s) (a : Int) (s : Int) = spec_InsideNot.l0 m l (rowsI (fun a s => rd l (pl a (a - s))) (a + 1)) ((a + 1 : Nat) : Int) := by
  induction d with
  | zero =>
    intro m s h
    simp only [spec_InsideNot.l1]
    rw [if_neg (by omega), wrap_succ6 a (by omega), show s = a + 1 from by omega, ← rowsI_succ]
  | succ d ih =>
    intro m s h
    rw [show m + (d + 1) + 1 = (m + d + 1) + 1 from by omega]
    simp only [spec_InsideNot.l1]
    have hw : wrap64 ((a : Int) - s) = (a : Int) - s := by unfold wrap64; omega
    have hr := pl_range a ((a : Int) - s) (by omega) (by omega) (by omega) (by omega)
    rw [if_pos (by omega), hw, spec_PlaceOf_eq, plOr_in _ _ (by omega) (by omega) (by omega) (by omega), Option.bind_some, if_pos hr.1, if_pos (by omega), if_pos (rows_bound _ a s ha (by omega)), wrap_succ6 s (by omega), List.append_assoc, ← rowI_succ (fun a s => rd l (pl a (a - s))) a s]
    exact ih m (s + 1) (by omega)
theorem spec_InsideNot_outer (l : List Int) (ht : isTri l = true) (e : Nat) : ∀ (k a : Nat), a + e = 6 → 10 * e + 1048600 < k →
    spec_InsideNot.l0 k l (rowsI (fun a s => rd l (pl a (a - s))) a) (a : Int) = some (triI (fun a s => rd l (pl a (a - s)))) := by
  have hl := isTri_length ht
  induction e with
  | zero =>
    intro k a h hk
    obtain ⟨k, rfl⟩ : ∃ m, k = m + 2 := ⟨k - 2, by omega⟩
    obtain rfl : a = 6 := by omega
    simp only [spec_InsideNot.l0]
    rw [if_neg (by omega)]
    simp only [spec_InsideNot.j1]
    rfl
  | succ e ih =>
    intro k a h hk
    obtain ⟨k, rfl⟩ : ∃ m, k = m + (a + 1) + 1 + 2 := ⟨k - (a + 4), by omega⟩
    simp only [spec_InsideNot.l0]
    rw [if_pos (by omega), spec_TriangleOk_k l (by omega) _ (by omega), Option.bind_some, ht]
    simp only [spec_InsideNot.j1, if_true]
    have := spec_InsideNot_inner l hl a (by omega) (a + 1) k 0 (by omega)
    rw [rowI_zero, List.append_nil] at this
    refine Eq.trans this ?_
    exact ih k (a + 1) (by omega) (by omega)
theorem spec_InsideNot_k (l : List Int) (hl : l.length ≤ 1048576) (k : Nat) (hk : 2097153 ≤ k) : spec_InsideNot.f k l = some (insP l) := by
  unfold spec_InsideNot.f insP
  by_cases ht : isTri l = true
  · rw [if_pos ht]
    have := spec_InsideNot_outer l ht 6 k 0 (by omega) (by omega)
    refine Eq.trans this ?_
    rw [triBy_eq]
    congr 1
    refine triI_congr _ _ fun a s _ _ _ _ => ?_
    rw [bit_of l ht]
  · rw [if_neg ht]
    obtain ⟨k, rfl⟩ : ∃ m, k = m + 2 := ⟨k - 2, by omega⟩
    simp only [spec_InsideNot.l0]
    rw [if_pos (by omega), spec_TriangleOk_k l hl _ (by omega), Option.bind_some]
    simp only [spec_InsideNot.j1]
    rw [if_neg ht]
theorem insP_length (l : List Int) : (insP l).length ≤ 21 := by
  unfold insP
  split
  · rw [triBy_eq, triI_length]; omega
  · simp
def dualP (l : List Int) : List Int := notP (insP l)
theorem dualP_length (l : List Int) : (dualP l).length ≤ 21 := notP_length _
theorem spec_DualOf_k (l : List Int) (hl : l.length ≤ 1048576) (k : Nat) (hk : 2097153 ≤ k) : spec_DualOf.f k l = some (dualP l) := by
  have := insP_length l
  unfold spec_DualOf.f dualP
  rw [spec_InsideNot_k l hl k hk, Option.bind_some, spec_NotOf_k _ (by omega) k hk]
  rfl
theorem isTri_notP (l : List Int) (h : isTri l = true) : isTri (notP l) = true := by
  unfold notP
  rw [if_pos h]
  exact isTri_triBy _
theorem isTri_insP (l : List Int) (h : isTri l = true) : isTri (insP l) = true := by
  unfold insP
  rw [if_pos h]
  exact isTri_triBy _
theorem isTri_bothP (l m : List Int) (h : isTri l = true) (h' : isTri m = true) : isTri (bothP l m) = true := by
  unfold bothP
  rw [if_pos (by rw [h, h']; rfl)]
  exact isTri_triBy _
theorem isTri_eitherP (l m : List Int) (h : isTri l = true) (h' : isTri m = true) : isTri (eitherP l m) = true := by
  unfold eitherP
  rw [if_pos (by rw [h, h']; rfl)]
  exact isTri_triBy _

end Go.Proofs.Ytgkifmabdfjejaa.P

/- Plain facts: what the program's NotOf comes to, for lists of at most 2^20 numbers. -/
namespace Go.Proofs.Ytgkifmabdfjejaa.P
open Go.RowKit Go.Proofs.YtgkifmabdfjejaaW.PrintWords Go.Proofs.YtgkifmabdfjejaaW.PrintLast

theorem impl_NotOf_k (l : List Int) (hl : l.length ≤ 1048576) (k : Nat) (hk : 2097153 ≤ k) : impl_NotOf.f k l = some (notP l) := by
  unfold impl_NotOf.f notP impl_notOf.f
  rw [impl_isTriangle_k l hl k (by omega), Option.bind_some]
  by_cases ht : isTri l = true
  · rw [if_pos ht, if_pos ht, if_pos (Nat.le_of_eq (isTri_length ht).symm)]; rfl
  · rw [if_neg ht, if_neg ht]

end Go.Proofs.Ytgkifmabdfjejaa.P

/- Plain facts: what the program's DualOf comes to, for lists of at most 2^20 numbers. -/
namespace Go.Proofs.Ytgkifmabdfjejaa.P
open Go.RowKit Go.Proofs.YtgkifmabdfjejaaW.PrintWords Go.Proofs.YtgkifmabdfjejaaW.PrintLast

theorem impl_DualOf_k (l : List Int) (hl : l.length ≤ 1048576) (k : Nat) (hk : 2097153 ≤ k) : impl_DualOf.f k l = some (dualP l) := by
  unfold impl_DualOf.f dualP insP notP impl_insideNot.f impl_notOf.f
  rw [impl_isTriangle_k l hl k (by omega), Option.bind_some]
  by_cases ht : isTri l = true
  · rw [if_pos ht, if_pos ht, if_pos (Nat.le_of_eq (isTri_length ht).symm), Option.bind_some, if_pos (by rw [triBy_eq, triI_length]; omega), if_pos (isTri_triBy _)]; rfl
  · rw [if_neg ht, if_neg ht, if_neg (by decide)]

end Go.Proofs.Ytgkifmabdfjejaa.P

/- Plain facts: what the program's TriangleOk comes to. No condition beyond those typed. -/
namespace Go.Proofs.Ytgkifmabdfjejaa.P
open Go.RowKit Go.Proofs.YtgkifmabdfjejaaW.PrintWords Go.Proofs.YtgkifmabdfjejaaW.PrintLast

theorem impl_TriangleOk_k (l : List Int) (hl : l.length ≤ 1048576) (k : Nat) (hk : 1048576 < k) : impl_TriangleOk.f k l = some (isTri l) := by
  unfold impl_TriangleOk.f
  rw [impl_isTriangle_k l hl k hk]
  rfl


end Go.Proofs.Ytgkifmabdfjejaa.P

/- Plain facts: what the reference's NamedTriangle comes to, with enough rounds, for every text. -/
namespace Go.Proofs.Ytgkifmabdfjejaa.P
open Go.RowKit Go.Proofs.YtgkifmabdfjejaaW.PrintWords Go.Proofs.YtgkifmabdfjejaaW.PrintLast

/-! The reference's rules. -/
def madeB (rule n a s : Int) : Bool :=
  if rule = 0 then s == a else if rule = 1 then decide (n ≤ s) else if rule = 2 then s == n else if rule = 3 then decide (a < 2 * s) else if rule = 4 then s % 2 == 0 else if rule = 5 then a - s == n else false
def madeI (rule n a s : Int) : Int := if madeB rule n a s = true then 1 else 0
theorem spec_l1Made_l1 (rule n : Int) (a : Nat) (ha : a < 6) (d : Nat) : ∀ (m s : Nat), s + d = a + 1 →
    spec_l1Made.l1 (m + d + 1) rule n (rowsI (madeI rule n) a ++ rowI (madeI rule n) a s) (a : Int) (s : Int) = spec_l1Made.l0 m rule n (rowsI (madeI rule n) (a + 1)) ((a + 1 : Nat) : Int) := by
  induction d with
  | zero =>
    intro m s h
    obtain ⟨M, hM⟩ : ∃ M, M = m + 0 := ⟨_, rfl⟩
    rw [← hM, show m = M from by omega]
    simp only [spec_l1Made.l1]
    rw [if_neg (by omega), wrap_succ6 a (by omega), show s = a + 1 from by omega, ← rowsI_succ]
  | succ d ih =>
    intro m s h
    obtain ⟨M, hM⟩ : ∃ M, M = m + d + 1 := ⟨_, rfl⟩
    rw [show m + (d + 1) + 1 = M + 1 from by omega]
    have hb := rows_bound (madeI rule n) a s ha (by omega)
    have w1 : wrap64 (2 * (s : Int)) = 2 * s := by unfold wrap64; omega
    have w2 : wrap64 ((a : Int) - s) = (a : Int) - s := by unfold wrap64; omega
    have hm : Int.tmod (s : Int) 2 = (s : Int) % 2 := Int.tmod_eq_emod_of_nonneg (by omega)
    have hi := ih m (s + 1) (by omega)
    have key : ∀ b : Bool, madeB rule n a s = b → spec_l1Made.l1 M rule n ((rowsI (madeI rule n) a ++ rowI (madeI rule n) a s) ++ [if b = true then 1 else 0]) (a : Int) ((s + 1 : Nat) : Int) = spec_l1Made.l0 m rule n (rowsI (madeI rule n) (a + 1)) ((a + 1 : Nat) : Int) := by
      intro b hb'
      rw [List.append_assoc, show rowI (madeI rule n) a s ++ [if b = true then 1 else 0] = rowI (madeI rule n) a (s + 1) from by rw [rowI_succ, madeI, hb'], hM]
      exact hi
    simp only [spec_l1Made.l1]
    rw [if_pos (by omega), wrap_succ6 s (by omega), w1, w2, hm]
    simp only [if_pos hb]
    have kt := key true
    have kf := key false
    simp only [if_true, Bool.false_eq_true, if_false] at kt kf
    unfold madeB at kt kf
    by_cases r0 : rule = 0
    · rw [if_pos r0]
      simp only [if_pos r0] at kt kf
      by_cases c : (s : Int) = a
      · rw [if_pos c]; exact kt (by simpa using c)
      · rw [if_neg c]; exact kf (by simpa using c)
    · rw [if_neg r0]
      simp only [if_neg r0] at kt kf
      by_cases r1 : rule = 1
      · rw [if_pos r1]
        simp only [if_pos r1] at kt kf
        by_cases c : (s : Int) ≥ n
        · rw [if_pos c]; exact kt (decide_eq_true c)
        · rw [if_neg c]; exact kf (decide_eq_false c)
      · rw [if_neg r1]
        simp only [if_neg r1] at kt kf
        by_cases r2 : rule = 2
        · rw [if_pos r2]
          simp only [if_pos r2] at kt kf
          by_cases c : (s : Int) = n
          · rw [if_pos c]; exact kt (by simpa using c)
          · rw [if_neg c]; exact kf (by simpa using c)
        · rw [if_neg r2]
          simp only [if_neg r2] at kt kf
          by_cases r3 : rule = 3
          · rw [if_pos r3]
            simp only [if_pos r3] at kt kf
            by_cases c : 2 * (s : Int) > a
            · rw [if_pos c]; exact kt (decide_eq_true c)
            · rw [if_neg c]; exact kf (decide_eq_false c)
          · rw [if_neg r3]
            simp only [if_neg r3] at kt kf
            by_cases r4 : rule = 4
            · rw [if_pos r4]
              simp only [if_pos r4] at kt kf
              by_cases c : (s : Int) % 2 = 0
              · rw [if_pos c]; exact kt (by rw [c]; rfl)
              · rw [if_neg c]; exact kf (beq_eq_false_iff_ne.mpr c)
            · rw [if_neg r4]
              simp only [if_neg r4] at kt kf
              by_cases r5 : rule = 5
              · rw [if_pos r5]
                simp only [if_pos r5] at kt kf
                by_cases c : (a : Int) - s = n
                · rw [if_pos c]; exact kt (beq_iff_eq.mpr c)
                · rw [if_neg c]; exact kf (beq_eq_false_iff_ne.mpr c)
              · rw [if_neg r5]
                simp only [if_neg r5] at kt kf
                exact kf trivial
theorem spec_l1Made_l0 (rule n : Int) (e : Nat) : ∀ (k a : Nat), a + e = 6 → 10 * e + 10 < k → spec_l1Made.l0 k rule n (rowsI (madeI rule n) a) (a : Int) = some (triI (madeI rule n)) := by
  induction e with
  | zero =>
    intro k a h hk
    obtain ⟨k, rfl⟩ : ∃ m, k = m + 1 := ⟨k - 1, by omega⟩
    obtain rfl : a = 6 := by omega
    simp only [spec_l1Made.l0]
    rw [if_neg (by omega)]
    rfl
  | succ e ih =>
    intro k a h hk
    obtain ⟨k, rfl⟩ : ∃ m, k = m + (a + 1) + 1 + 1 := ⟨k - (a + 3), by omega⟩
    have hh := spec_l1Made_l1 rule n a (by omega) (a + 1) k 0 (by omega)
    rw [rowI_zero, List.append_nil] at hh
    simp only [spec_l1Made.l0]
    rw [if_pos (by omega)]
    refine Eq.trans hh ?_
    exact ih k (a + 1) (by omega) (by omega)
theorem spec_l1Made_k (rule n : Int) (k : Nat) (hk : 100 ≤ k) : spec_l1Made.f k rule n = some (triI (madeI rule n)) := spec_l1Made_l0 rule n 6 k 0 (by omega) (by omega)

/-! The names. -/
def digitB (n : Int) : ByteArray := strOfNums [(wrap64 (48 + n)) % 256]
theorem spec_l1Number_k (n : Int) (h : n < 10) (k : Nat) (hk : 1 ≤ k) : spec_l1Number.f k n = some (digitB n) := by
  obtain ⟨k, rfl⟩ : ∃ m, k = m + 1 := ⟨k - 1, by omega⟩
  simp only [spec_l1Number.f]
  rw [if_pos h]
  rfl
theorem digit_list (n : Nat) (h : n < 6) : (digitB (n : Int)).data.toList = [UInt8.ofNat (48 + n)] ∧ (digitB (n : Int)).size = 1 := by
  have hf : ∀ i : Fin 6, (digitB (i.val : Int)).data.toList = [UInt8.ofNat (48 + i.val)] ∧ (digitB (i.val : Int)).size = 1 := by decide +kernel
  exact hf ⟨n, h⟩
def wAtleast : List UInt8 := [97, 116, 108, 101, 97, 115, 116]
def wJust : List UInt8 := [106, 117, 115, 116]
def wAllbut : List UInt8 := [97, 108, 108, 98, 117, 116]
/-- What the reference answers to a name, by its letters: from the digit i on. -/
def specDig (L : List UInt8) : Nat → Nat → List Int × Bool
  | 0, _ => ([], false)
  | e + 1, i => if L = wAtleast ++ [UInt8.ofNat (48 + i)] ∧ 0 < i then (triI (madeI 1 i), true) else if L = wJust ++ [UInt8.ofNat (48 + i)] then (triI (madeI 2 i), true) else if L = wAllbut ++ [UInt8.ofNat (48 + i)] then (triI (madeI 5 i), true) else specDig L e (i + 1)
theorem cat_list (W : List UInt8) (n : Nat) (h : n < 6) : ((⟨W.toArray⟩ : ByteArray) ++ digitB (n : Int)).toList = W ++ [UInt8.ofNat (48 + n)] := by
  rw [ByteArray.toList_eq, ByteArray.data_append, Array.toList_append, (digit_list n h).1]
theorem spec_Named_l1 (a0 : ByteArray) (e : Nat) : ∀ (k i : Nat), i + e = 6 → 300 + 3 * e ≤ k → spec_NamedTriangle.l1 k a0 (i : Int) = some (specDig a0.toList e i) := by
  induction e with
  | zero =>
    intro k i h hk
    obtain ⟨k, rfl⟩ : ∃ m, k = m + 1 := ⟨k - 1, by omega⟩
    simp only [spec_NamedTriangle.l1]
    rw [if_neg (by omega)]
    rfl
  | succ e ih =>
    intro k i h hk
    obtain ⟨k, rfl⟩ : ∃ m, k = m + 1 + 1 := ⟨k - 2, by omega⟩
    have hz := (digit_list i (by omega)).2
    have c1 := cat_list wAtleast i (by omega)
    have c2 := cat_list wJust i (by omega)
    have c3 := cat_list wAllbut i (by omega)
    simp only [spec_NamedTriangle.l1]
    rw [if_pos (by omega), spec_l1Number_k _ (by omega) _ (by omega), Option.bind_some, if_pos (by omega), show ((⟨#[97, 116, 108, 101, 97, 115, 116]⟩ : ByteArray) ++ digitB (i : Int)).toList = wAtleast ++ [UInt8.ofNat (48 + i)] from c1]
    have hj : ∀ x : Bool, (x = true → a0.toList = wAtleast ++ [UInt8.ofNat (48 + i)] ∧ 0 < i) → (x = false → ¬ (a0.toList = wAtleast ++ [UInt8.ofNat (48 + i)] ∧ 0 < i)) → spec_NamedTriangle.j2 (k + 1) a0 (i : Int) (digitB (i : Int)) x = some (specDig a0.toList (e + 1) i) := by
      intro x h1 h2
      simp only [spec_NamedTriangle.j2]
      rw [specDig]
      cases x with
      | true =>
        rw [if_pos rfl, spec_l1Made_k _ _ _ (by omega), Option.bind_some, if_pos (h1 rfl)]
      | false =>
        rw [if_neg (by decide), if_neg (h2 rfl), if_pos (by omega), show ((⟨#[106, 117, 115, 116]⟩ : ByteArray) ++ digitB (i : Int)).toList = wJust ++ [UInt8.ofNat (48 + i)] from c2]
        by_cases g2 : a0.toList = wJust ++ [UInt8.ofNat (48 + i)]
        · rw [if_pos g2, if_pos g2, spec_l1Made_k _ _ _ (by omega), Option.bind_some]
        · rw [if_neg g2, if_neg g2, if_pos (by omega), show ((⟨#[97, 108, 108, 98, 117, 116]⟩ : ByteArray) ++ digitB (i : Int)).toList = wAllbut ++ [UInt8.ofNat (48 + i)] from c3]
          by_cases g3 : a0.toList = wAllbut ++ [UInt8.ofNat (48 + i)]
          · rw [if_pos g3, if_pos g3, spec_l1Made_k _ _ _ (by omega), Option.bind_some]
          · rw [if_neg g3, if_neg g3, wrap_succ6 i (by omega)]
            exact ih k (i + 1) (by omega) (by omega)
    by_cases g1 : a0.toList = wAtleast ++ [UInt8.ofNat (48 + i)]
    · rw [if_pos g1]
      refine hj _ (fun h => ⟨g1, by have := of_decide_eq_true h; omega⟩) (fun h h' => ?_)
      have := of_decide_eq_false h
      omega
    · rw [if_neg g1]
      exact hj false (fun h => absurd h (by decide)) (fun _ h' => g1 h'.1)
def specNm (L : List UInt8) : List Int × Bool :=
  if L = [101, 118, 101, 114, 121] then (triI (madeI 0 0), true) else if L = [115, 111, 109, 101] then (triI (madeI 1 1), true) else if L = [110, 111] then (triI (madeI 2 0), true) else if L = [109, 111, 115, 116] then (triI (madeI 3 0), true) else if L = [101, 118, 101, 110] then (triI (madeI 4 0), true) else specDig L 6 0
theorem spec_NamedTriangle_k (a0 : ByteArray) (k : Nat) (hk : 1000 ≤ k) : spec_NamedTriangle.f k a0 = some (specNm a0.toList) := by
  obtain ⟨k, rfl⟩ : ∃ m, k = m + 5 + 1 := ⟨k - 6, by omega⟩
  have hl := spec_Named_l1 a0 6 k 0 (by omega) (by omega)
  have m0 := fun r n => spec_l1Made_k r n (k + 5) (by omega)
  have m1 := fun r n => spec_l1Made_k r n (k + 4) (by omega)
  have m2 := fun r n => spec_l1Made_k r n (k + 3) (by omega)
  have m3 := fun r n => spec_l1Made_k r n (k + 2) (by omega)
  have m4 := fun r n => spec_l1Made_k r n (k + 1) (by omega)
  unfold spec_NamedTriangle.f specNm
  obtain ⟨x, hx⟩ : ∃ x, specDig a0.toList 6 0 = x := ⟨_, rfl⟩
  rw [hx] at hl ⊢
  have t0 : ((⟨#[101, 118, 101, 114, 121]⟩ : ByteArray)).toList = [101, 118, 101, 114, 121] := by rw [ByteArray.toList_eq]
  have t1 : ((⟨#[115, 111, 109, 101]⟩ : ByteArray)).toList = [115, 111, 109, 101] := by rw [ByteArray.toList_eq]
  have t2 : ((⟨#[110, 111]⟩ : ByteArray)).toList = [110, 111] := by rw [ByteArray.toList_eq]
  have t3 : ((⟨#[109, 111, 115, 116]⟩ : ByteArray)).toList = [109, 111, 115, 116] := by rw [ByteArray.toList_eq]
  have t4 : ((⟨#[101, 118, 101, 110]⟩ : ByteArray)).toList = [101, 118, 101, 110] := by rw [ByteArray.toList_eq]
  obtain ⟨ns, hns⟩ : ∃ ns : List ByteArray, ns = [(⟨#[101, 118, 101, 114, 121]⟩ : ByteArray), (⟨#[115, 111, 109, 101]⟩ : ByteArray), (⟨#[110, 111]⟩ : ByteArray), (⟨#[109, 111, 115, 116]⟩ : ByteArray), (⟨#[101, 118, 101, 110]⟩ : ByteArray)] := ⟨_, rfl⟩
  rw [← hns]
  have nl : ns.length = 5 := by rw [hns]; rfl
  have r0 : (rdOf ByteArray.empty ns 0).toList = [101, 118, 101, 114, 121] := by rw [hns]; exact t0
  have r1 : (rdOf ByteArray.empty ns 1).toList = [115, 111, 109, 101] := by rw [hns]; exact t1
  have r2 : (rdOf ByteArray.empty ns 2).toList = [110, 111] := by rw [hns]; exact t2
  have r3 : (rdOf ByteArray.empty ns 3).toList = [109, 111, 115, 116] := by rw [hns]; exact t3
  have r4 : (rdOf ByteArray.empty ns 4).toList = [101, 118, 101, 110] := by rw [hns]; exact t4
  have l5 : spec_NamedTriangle.l0 (k + 1) a0 ns 5 = some x := by
    rw [spec_NamedTriangle.l0]
    rw [if_neg (by omega)]
    exact hl
  have l4 : spec_NamedTriangle.l0 (k + 2) a0 ns 4 = some (if a0.toList = [101, 118, 101, 110] then (triI (madeI 4 0), true) else x) := by
    rw [spec_NamedTriangle.l0]
    rw [if_pos (by omega), if_pos (by omega), r4]
    by_cases g : a0.toList = [101, 118, 101, 110]
    · rw [if_pos g, if_pos g, Option.bind_some, if_pos (by decide), Option.bind_some, if_pos (by decide), show rd [0, 1, 2, 3, 4] 4 = 4 from rfl, show rd [0, 1, 0, 0, 0] 4 = 0 from rfl, m4 4 0, Option.bind_some]
    · rw [if_neg g, if_neg g, show wrap64 ((4 : Int) + 1) = 5 from by unfold wrap64; omega]
      exact l5
  have l3 : spec_NamedTriangle.l0 (k + 3) a0 ns 3 = some (if a0.toList = [109, 111, 115, 116] then (triI (madeI 3 0), true) else if a0.toList = [101, 118, 101, 110] then (triI (madeI 4 0), true) else x) := by
    rw [spec_NamedTriangle.l0]
    rw [if_pos (by omega), if_pos (by omega), r3]
    by_cases g : a0.toList = [109, 111, 115, 116]
    · rw [if_pos g, if_pos g, Option.bind_some, if_pos (by decide), Option.bind_some, if_pos (by decide), show rd [0, 1, 2, 3, 4] 3 = 3 from rfl, show rd [0, 1, 0, 0, 0] 3 = 0 from rfl, m3 3 0, Option.bind_some]
    · rw [if_neg g, if_neg g, show wrap64 ((3 : Int) + 1) = 4 from by unfold wrap64; omega]
      exact l4
  have l2 : spec_NamedTriangle.l0 (k + 4) a0 ns 2 = some (if a0.toList = [110, 111] then (triI (madeI 2 0), true) else if a0.toList = [109, 111, 115, 116] then (triI (madeI 3 0), true) else if a0.toList = [101, 118, 101, 110] then (triI (madeI 4 0), true) else x) := by
    rw [spec_NamedTriangle.l0]
    rw [if_pos (by omega), if_pos (by omega), r2]
    by_cases g : a0.toList = [110, 111]
    · rw [if_pos g, if_pos g, Option.bind_some, if_pos (by decide), Option.bind_some, if_pos (by decide), show rd [0, 1, 2, 3, 4] 2 = 2 from rfl, show rd [0, 1, 0, 0, 0] 2 = 0 from rfl, m2 2 0, Option.bind_some]
    · rw [if_neg g, if_neg g, show wrap64 ((2 : Int) + 1) = 3 from by unfold wrap64; omega]
      exact l3
  have l1 : spec_NamedTriangle.l0 (k + 5) a0 ns 1 = some (if a0.toList = [115, 111, 109, 101] then (triI (madeI 1 1), true) else if a0.toList = [110, 111] then (triI (madeI 2 0), true) else if a0.toList = [109, 111, 115, 116] then (triI (madeI 3 0), true) else if a0.toList = [101, 118, 101, 110] then (triI (madeI 4 0), true) else x) := by
    rw [spec_NamedTriangle.l0]
    rw [if_pos (by omega), if_pos (by omega), r1]
    by_cases g : a0.toList = [115, 111, 109, 101]
    · rw [if_pos g, if_pos g, Option.bind_some, if_pos (by decide), Option.bind_some, if_pos (by decide), show rd [0, 1, 2, 3, 4] 1 = 1 from rfl, show rd [0, 1, 0, 0, 0] 1 = 1 from rfl, m1 1 1, Option.bind_some]
    · rw [if_neg g, if_neg g, show wrap64 ((1 : Int) + 1) = 2 from by unfold wrap64; omega]
      exact l2
  rw [spec_NamedTriangle.l0]
  rw [if_pos (by omega), if_pos (by omega), r0]
  by_cases g : a0.toList = [101, 118, 101, 114, 121]
  · rw [if_pos g, if_pos g, Option.bind_some, if_pos (by decide), Option.bind_some, if_pos (by decide), show rd [0, 1, 2, 3, 4] 0 = 0 from rfl, show rd [0, 1, 0, 0, 0] 0 = 0 from rfl, m0 0 0, Option.bind_some]
  · rw [if_neg g, if_neg g, show wrap64 ((0 : Int) + 1) = 1 from by unfold wrap64; omega]
    exact l1
theorem specDig_length (L : List UInt8) : ∀ e i, (specDig L e i).1.length ≤ 21
  | 0, _ => by simp [specDig]
  | e + 1, i => by
    rw [specDig]
    split
    · simp only [triI_length]; omega
    · split
      · simp only [triI_length]; omega
      · split
        · simp only [triI_length]; omega
        · exact specDig_length L e (i + 1)
theorem specNm_length (L : List UInt8) : (specNm L).1.length ≤ 21 := by
  unfold specNm
  repeat' split
  all_goals first | exact specDig_length L 6 0 | (simp only [triI_length]; omega)
theorem madeI_bit (r n a s : Int) : madeI r n a s = 0 ∨ madeI r n a s = 1 := by
  unfold madeI
  split
  · exact .inr rfl
  · exact .inl rfl
theorem specDig_form (L : List UInt8) : ∀ e i, (∃ r n, specDig L e i = (triI (madeI r n), true)) ∨ specDig L e i = ([], false)
  | 0, _ => .inr rfl
  | e + 1, i => by
    rw [specDig]
    split
    · exact .inl ⟨_, _, rfl⟩
    · split
      · exact .inl ⟨_, _, rfl⟩
      · split
        · exact .inl ⟨_, _, rfl⟩
        · exact specDig_form L e (i + 1)
theorem specNm_form (L : List UInt8) : (∃ r n, specNm L = (triI (madeI r n), true)) ∨ specNm L = ([], false) := by
  unfold specNm
  repeat' split
  all_goals first | exact .inl ⟨_, _, rfl⟩ | exact specDig_form L 6 0
theorem isTri_made (r n : Int) : isTri (triI (madeI r n)) = true := isTri_triI _ fun a s _ _ _ _ => madeI_bit r n a s
def l20N : List ByteArray := [(⟨#[101, 118, 101, 114, 121]⟩ : ByteArray), (⟨#[115, 111, 109, 101]⟩ : ByteArray), (⟨#[110, 111]⟩ : ByteArray), (⟨#[109, 111, 115, 116]⟩ : ByteArray), (⟨#[101, 118, 101, 110]⟩ : ByteArray), (⟨#[97, 116, 108, 101, 97, 115, 116, 50]⟩ : ByteArray), (⟨#[97, 116, 108, 101, 97, 115, 116, 51]⟩ : ByteArray), (⟨#[106, 117, 115, 116, 49]⟩ : ByteArray), (⟨#[106, 117, 115, 116, 50]⟩ : ByteArray), (⟨#[97, 108, 108, 98, 117, 116, 49]⟩ : ByteArray)]
theorem names_in (r : Int) (h0 : 0 ≤ r) (h1 : r < 10) : ∃ t, specNm (rdOf ByteArray.empty l20N r).toList = (t, true) ∧ isTri t = true := by
  have hf : ∀ i : Fin 10, (specNm (rdOf ByteArray.empty l20N (i.val : Int)).data.toList).2 = true := by decide +kernel
  have := hf ⟨r.toNat, by omega⟩
  simp only [] at this
  rw [show ((r.toNat : Nat) : Int) = r by omega, ← ByteArray.toList_eq] at this
  rcases specNm_form (rdOf ByteArray.empty l20N r).toList with ⟨a, b, e⟩ | e
  · exact ⟨_, e, isTri_made a b⟩
  · rw [e] at this
    exact absurd this Bool.false_ne_true

end Go.Proofs.Ytgkifmabdfjejaa.P

/- Plain facts: what the program's NamedTriangle comes to, for every text. -/
namespace Go.Proofs.Ytgkifmabdfjejaa.P
open Go.RowKit Go.Proofs.YtgkifmabdfjejaaW.PrintWords Go.Proofs.YtgkifmabdfjejaaW.PrintLast

/-! The program's names. -/
def B (L : List UInt8) : ByteArray := ⟨L.toArray⟩
theorem B_of (a : ByteArray) : B a.toList = a := by
  rw [ByteArray.toList_eq]
  cases a
  rfl
theorem B_toList (L : List UInt8) : (B L).toList = L := by rw [ByteArray.toList_eq]; rfl
theorem B_size (L : List UInt8) : (B L).size = L.length := rfl
theorem B_data (L : List UInt8) : (B L).data.toList = L := rfl
/-- The digit that a text bears behind W, if it is W and one letter. -/
def cntP (L W : List UInt8) (lo hi : Int) : Int × Bool :=
  if L.take W.length = W ∧ L.length = W.length + 1 then
    let c : Int := ((L.getD W.length 0).toNat : Int) - 48
    (c, decide (lo ≤ c ∧ c ≤ hi))
  else (0, false)
theorem wrap_letter (b : UInt8) : wrap64 (wrap64 (b.toNat : Int) - 48) = (b.toNat : Int) - 48 := by
  have := b.toNat_lt
  unfold wrap64
  omega
theorem countIn_eq (L W : List UInt8) (lo hi : Int) : ∃ c b, impl_countIn.f (B L) (B W) lo hi = some (c, b) ∧ (b = true → (c, b) = cntP L W lo hi) ∧ (b = false → (cntP L W lo hi).2 = false) := by
  unfold impl_countIn.f strings_CutPrefix.f stringslite_CutPrefix.f stringslite_HasPrefix.f
  rw [B_size, B_size]
  by_cases h1 : W.length ≤ L.length
  · have h1' : (W.length : Int) ≤ (L.length : Int) := by omega
    rw [if_pos (show (L.length : Int) ≥ (W.length : Int) from h1'), if_pos (show 0 ≤ (W.length : Int) by omega), if_pos h1', Option.bind_some]
    have ht : ((B L).extract 0 ((W.length : Int)).toNat).toList = L.take W.length := by
      rw [ByteArray.toList_eq, Lib.Pa.extract_upto_list, Int.toNat_natCast, B_data]
    rw [ht, B_toList]
    by_cases h2 : L.take W.length = W
    · rw [beq_iff_eq.mpr h2, if_pos rfl, if_pos (show 0 ≤ (W.length : Int) by omega), if_pos h1', Option.bind_some, Option.bind_some]
      have hx : ((B L).extract ((W.length : Int)).toNat L.length).data.toList = L.drop W.length := by
        rw [Int.toNat_natCast, ← B_size L, Lib.extract_to_end, B_data]
      obtain ⟨E, hE⟩ : ∃ E, E = (B L).extract ((W.length : Int)).toNat L.length := ⟨_, rfl⟩
      rw [← hE] at hx ⊢
      have hsz : E.size = L.length - W.length := by
        show E.data.size = _
        rw [← Array.length_toList, hx, List.length_drop]
      rw [if_pos rfl]
      by_cases h3 : L.length = W.length + 1
      · have hs1 : E.size = 1 := by omega
        have hb : bt E 0 = ((L.getD W.length 0).toNat : Int) := by
          unfold bt
          rw [dif_pos (show (0 : Int).toNat < E.size by rw [hs1]; decide)]
          have : E.data.toList[0]? = L[W.length]? := by rw [hx, List.getElem?_drop]; rfl
          have g1 : E.data.toList[0]? = some (E[(0 : Int).toNat]'(by rw [hs1]; decide)) := by
            rw [List.getElem?_eq_getElem (by rw [Array.length_toList]; show 0 < E.size; omega)]
            rfl
          rw [g1] at this
          rw [List.getD_eq_getElem?_getD, ← this]
          rfl
        rw [if_pos (show (E.size : Int) = 1 by omega), if_pos (show (0 : Int) < (E.size : Int) by omega), hb, wrap_letter]
        have hc : cntP L W lo hi = (((L.getD W.length 0).toNat : Int) - 48, decide (lo ≤ ((L.getD W.length 0).toNat : Int) - 48 ∧ ((L.getD W.length 0).toNat : Int) - 48 ≤ hi)) := by
          unfold cntP
          rw [if_pos ⟨h2, h3⟩]
        rw [hc]
        by_cases g : ((L.getD W.length 0).toNat : Int) - 48 ≥ lo
        · rw [if_pos g]
          refine ⟨_, _, rfl, ?_, ?_⟩
          · intro hd
            rw [hd]
            have := of_decide_eq_true hd
            rw [decide_eq_true (show lo ≤ ((L.getD W.length 0).toNat : Int) - 48 ∧ ((L.getD W.length 0).toNat : Int) - 48 ≤ hi from ⟨g, this⟩)]
          · intro hd
            have := of_decide_eq_false hd
            exact decide_eq_false (fun h => this h.2)
        · rw [if_neg g]
          exact ⟨_, _, rfl, fun h => absurd h (by decide), fun _ => decide_eq_false (fun h => g h.1)⟩
      · rw [if_neg (show ¬ (E.size : Int) = 1 by omega)]
        refine ⟨_, _, rfl, fun h => absurd h (by decide), fun _ => ?_⟩
        unfold cntP
        rw [if_neg (fun h => h3 h.2)]
    · rw [beq_eq_false_iff_ne.mpr h2, if_neg (by decide), Option.bind_some, Option.bind_some, if_neg (Bool.false_ne_true)]
      refine ⟨_, _, rfl, fun h => absurd h (by decide), fun _ => ?_⟩
      unfold cntP
      rw [if_neg (fun h => h2 h.1)]
  · rw [if_neg (show ¬ (L.length : Int) ≥ (W.length : Int) by omega), Option.bind_some, if_neg (by decide), Option.bind_some, Option.bind_some, if_neg (Bool.false_ne_true)]
    refine ⟨_, _, rfl, fun h => absurd h (by decide), fun _ => ?_⟩
    unfold cntP
    rw [if_neg (fun h => by have := h.2; omega)]

theorem cntP_true (L W : List UInt8) (lo hi : Int) (h0 : 0 ≤ lo) (h : (cntP L W lo hi).2 = true) : ∃ n : Nat, lo ≤ (n : Int) ∧ (n : Int) ≤ hi ∧ L = W ++ [UInt8.ofNat (48 + n)] := by
  unfold cntP at h
  by_cases g : L.take W.length = W ∧ L.length = W.length + 1
  · rw [if_pos g] at h
    have hd : lo ≤ ((L.getD W.length 0).toNat : Int) - 48 ∧ ((L.getD W.length 0).toNat : Int) - 48 ≤ hi := of_decide_eq_true h
    refine ⟨(L.getD W.length 0).toNat - 48, by omega, by omega, ?_⟩
    rw [show 48 + ((L.getD W.length 0).toNat - 48) = (L.getD W.length 0).toNat by omega, UInt8.ofNat_toNat]
    have hx : L.drop W.length = [L.getD W.length 0] := by
      apply List.ext_getElem?
      intro i
      rw [List.getElem?_drop]
      cases i with
      | zero =>
        rw [Nat.add_zero, List.getD_eq_getElem?_getD, List.getElem?_eq_getElem (show W.length < L.length by omega)]
        rfl
      | succ i =>
        rw [List.getElem?_eq_none (by omega)]
        rfl
    have := List.take_append_drop W.length L
    rw [g.1, hx] at this
    exact this.symm
  · rw [if_neg g] at h
    exact absurd h (by decide)
def names : List (List UInt8) := [[101, 118, 101, 114, 121], [115, 111, 109, 101], [110, 111], [109, 111, 115, 116], [101, 118, 101, 110]] ++ ((List.range 5).map (fun i => wAtleast ++ [UInt8.ofNat (48 + (i + 1))]) ++ ((List.range 6).map (fun i => wJust ++ [UInt8.ofNat (48 + i)]) ++ (List.range 6).map (fun i => wAllbut ++ [UInt8.ofNat (48 + i)])))
def implNm (L : List UInt8) : List Int × Bool := namedPick (plainName L) (cntP L wAtleast 1 5) (cntP L wJust 0 5) (cntP L wAllbut 0 5)
theorem names_same : ∀ L ∈ names, implNm L = specNm L := by decide +kernel
theorem specDig_none (L : List UInt8) : ∀ (e i : Nat), (∀ j, j < i + e → (0 < j → L ≠ wAtleast ++ [UInt8.ofNat (48 + j)]) ∧ L ≠ wJust ++ [UInt8.ofNat (48 + j)] ∧ L ≠ wAllbut ++ [UInt8.ofNat (48 + j)]) → specDig L e i = ([], false)
  | 0, _, _ => rfl
  | e + 1, i, h => by
    obtain ⟨h1, h2, h3⟩ := h i (by omega)
    rw [specDig, if_neg (fun g => h1 g.2 g.1), if_neg h2, if_neg h3]
    exact specDig_none L e (i + 1) (fun j hj => h j (by omega))
theorem same_names (L : List UInt8) : implNm L = specNm L := by
  by_cases h : L ∈ names
  · exact names_same L h
  · have ha : ∀ j, 0 < j → j < 6 → L ≠ wAtleast ++ [UInt8.ofNat (48 + j)] := fun j h1 h2 g => h (by
      unfold names
      refine List.mem_append_right _ (List.mem_append_left _ (List.mem_map.mpr ⟨j - 1, List.mem_range.mpr (by omega), ?_⟩))
      rw [show j - 1 + 1 = j by omega, g])
    have hj : ∀ j, j < 6 → L ≠ wJust ++ [UInt8.ofNat (48 + j)] := fun j h2 g => h (by
      unfold names
      exact List.mem_append_right _ (List.mem_append_right _ (List.mem_append_left _ (List.mem_map.mpr ⟨j, List.mem_range.mpr h2, g.symm⟩))))
    have hb : ∀ j, j < 6 → L ≠ wAllbut ++ [UInt8.ofNat (48 + j)] := fun j h2 g => h (by
      unfold names
      exact List.mem_append_right _ (List.mem_append_right _ (List.mem_append_right _ (List.mem_map.mpr ⟨j, List.mem_range.mpr h2, g.symm⟩))))
    have c1 : (cntP L wAtleast 1 5).2 = false := by
      cases g : (cntP L wAtleast 1 5).2
      · rfl
      · obtain ⟨n, g1, g2, g3⟩ := cntP_true L wAtleast 1 5 (by omega) g
        exact absurd g3 (ha n (by omega) (by omega))
    have c2 : (cntP L wJust 0 5).2 = false := by
      cases g : (cntP L wJust 0 5).2
      · rfl
      · obtain ⟨n, g1, g2, g3⟩ := cntP_true L wJust 0 5 (by omega) g
        exact absurd g3 (hj n (by omega))
    have c3 : (cntP L wAllbut 0 5).2 = false := by
      cases g : (cntP L wAllbut 0 5).2
      · rfl
      · obtain ⟨n, g1, g2, g3⟩ := cntP_true L wAllbut 0 5 (by omega) g
        exact absurd g3 (hb n (by omega))
    have p0 : L ≠ [101, 118, 101, 114, 121] := fun g => h (by rw [g]; decide +kernel)
    have p1 : L ≠ [115, 111, 109, 101] := fun g => h (by rw [g]; decide +kernel)
    have p2 : L ≠ [110, 111] := fun g => h (by rw [g]; decide +kernel)
    have p3 : L ≠ [109, 111, 115, 116] := fun g => h (by rw [g]; decide +kernel)
    have p4 : L ≠ [101, 118, 101, 110] := fun g => h (by rw [g]; decide +kernel)
    unfold implNm specNm namedPick plainName
    rw [if_neg p0, if_neg p1, if_neg p2, if_neg p3, if_neg p4, c1, c2, c3, specDig_none L 6 0 (fun j hj' => ⟨fun g => ha j g (by omega), hj j (by omega), hb j (by omega)⟩), beq_eq_false_iff_ne.mpr p0, beq_eq_false_iff_ne.mpr p1, beq_eq_false_iff_ne.mpr p2, beq_eq_false_iff_ne.mpr p3, beq_eq_false_iff_ne.mpr p4]
    rfl
theorem pick_same (i : Nat) (c1 c2 c3 d1 d2 d3 : Int × Bool) (h1 : c1.2 = d1.2) (g1 : d1.2 = true → c1 = d1) (h2 : c2.2 = d2.2) (g2 : d2.2 = true → c2 = d2) (h3 : c3.2 = d3.2) (g3 : d3.2 = true → c3 = d3) : namedPick i c1 c2 c3 = namedPick i d1 d2 d3 := by
  unfold namedPick
  rw [h1, h2, h3]
  by_cases e3 : d3.2 = true
  · rw [if_pos e3, if_pos e3, g3 e3]
  · rw [if_neg e3, if_neg e3]
    by_cases e2 : d2.2 = true
    · rw [if_pos e2, if_pos e2, g2 e2]
    · rw [if_neg e2, if_neg e2]
      by_cases e1 : d1.2 = true
      · rw [if_pos e1, if_pos e1, g1 e1]
      · rw [if_neg e1, if_neg e1]
theorem count_same (L W : List UInt8) (lo hi : Int) : ∃ c, impl_countIn.f (B L) (B W) lo hi = some c ∧ c.2 = (cntP L W lo hi).2 ∧ ((cntP L W lo hi).2 = true → c = cntP L W lo hi) := by
  obtain ⟨c, b, h, h1, h2⟩ := countIn_eq L W lo hi
  refine ⟨(c, b), h, ?_⟩
  cases b with
  | true =>
    have := h1 rfl
    rw [← this]
    exact ⟨rfl, fun _ => rfl⟩
  | false =>
    have := h2 rfl
    rw [this]
    exact ⟨rfl, fun h => absurd h (by decide)⟩
theorem impl_NamedTriangle_eq (a0 : ByteArray) : impl_NamedTriangle.f a0 = some (specNm a0.toList) := by
  unfold impl_NamedTriangle.f impl_namedTriangle.f
  obtain ⟨c1, e1, h1, g1⟩ := count_same a0.toList wAtleast 1 5
  obtain ⟨c2, e2, h2, g2⟩ := count_same a0.toList wJust 0 5
  obtain ⟨c3, e3, h3, g3⟩ := count_same a0.toList wAllbut 0 5
  rw [B_of] at e1 e2 e3
  have e1 : impl_countIn.f a0 (⟨#[97, 116, 108, 101, 97, 115, 116]⟩ : ByteArray) 1 5 = some c1 := e1
  have e2 : impl_countIn.f a0 (⟨#[106, 117, 115, 116]⟩ : ByteArray) 0 5 = some c2 := e2
  have e3 : impl_countIn.f a0 (⟨#[97, 108, 108, 98, 117, 116]⟩ : ByteArray) 0 5 = some c3 := e3
  rw [e1, Option.bind_some, e2, Option.bind_some, e3, Option.bind_some, Option.bind_some, pick_same _ c1 c2 c3 _ _ _ h1 g1 h2 g2 h3 g3]
  exact congrArg some (same_names a0.toList)

end Go.Proofs.Ytgkifmabdfjejaa.P

/- The algebra of triangles: each is its own picture; not, inside, both, either. -/
namespace Go.Proofs.Ytgkifmabdfjejaa.P
open Go.RowKit Go.Proofs.YtgkifmabdfjejaaW.PrintWords Go.Proofs.YtgkifmabdfjejaaW.PrintLast

theorem triBy_congr (f g : Int → Int → Bool) (h : ∀ a s, 0 ≤ a → a ≤ 5 → 0 ≤ s → s ≤ a → f a s = g a s) : triBy f = triBy g := by
  rw [triBy_eq, triBy_eq]
  refine triI_congr _ _ fun a s h1 h2 h3 h4 => ?_
  show (if f a s = true then (1 : Int) else 0) = if g a s = true then 1 else 0
  rw [h a s h1 h2 h3 h4]
theorem tri_hd (l : List Int) (h : isTri l = true) : triBy (hd l) = l := by
  rw [triBy_eq]
  refine Eq.trans (triI_congr _ _ fun a s _ _ _ _ => ?_) (tri_list l (isTri_length h)).symm
  exact (bit_of l h a s).symm
theorem notP_tri (l : List Int) (h : isTri l = true) : notP l = triBy fun a s => !(hd l a s) := by unfold notP; rw [if_pos h]
theorem insP_tri (l : List Int) (h : isTri l = true) : insP l = triBy fun a s => hd l a (a - s) := by unfold insP; rw [if_pos h]
theorem bothP_tri (l m : List Int) (h : isTri l = true) (h' : isTri m = true) : bothP l m = triBy fun a s => hd l a s && hd m a s := by unfold bothP; rw [if_pos (by rw [h, h']; rfl)]
theorem eitherP_tri (l m : List Int) (h : isTri l = true) (h' : isTri m = true) : eitherP l m = triBy fun a s => hd l a s || hd m a s := by unfold eitherP; rw [if_pos (by rw [h, h']; rfl)]
theorem notP_none (l : List Int) (h : ¬ isTri l = true) : notP l = [] := by unfold notP; rw [if_neg h]
theorem insP_none (l : List Int) (h : ¬ isTri l = true) : insP l = [] := by unfold insP; rw [if_neg h]
theorem bothP_none (l m : List Int) (h : ¬ (isTri l = true ∧ isTri m = true)) : bothP l m = [] := by unfold bothP; rw [if_neg (fun g => h (by simpa using g))]
theorem eitherP_none (l m : List Int) (h : ¬ (isTri l = true ∧ isTri m = true)) : eitherP l m = [] := by unfold eitherP; rw [if_neg (fun g => h (by simpa using g))]
theorem hd_not (l : List Int) (h : isTri l = true) (a s : Int) (h1 : 0 ≤ a) (h2 : a ≤ 5) (h3 : 0 ≤ s) (h4 : s ≤ a) : hd (notP l) a s = !(hd l a s) := by rw [notP_tri l h, hd_triBy _ a s h1 h2 h3 h4]
theorem hd_ins (l : List Int) (h : isTri l = true) (a s : Int) (h1 : 0 ≤ a) (h2 : a ≤ 5) (h3 : 0 ≤ s) (h4 : s ≤ a) : hd (insP l) a s = hd l a (a - s) := by rw [insP_tri l h, hd_triBy _ a s h1 h2 h3 h4]
theorem hd_both (l m : List Int) (h : isTri l = true) (h' : isTri m = true) (a s : Int) (h1 : 0 ≤ a) (h2 : a ≤ 5) (h3 : 0 ≤ s) (h4 : s ≤ a) : hd (bothP l m) a s = (hd l a s && hd m a s) := by rw [bothP_tri l m h h', hd_triBy _ a s h1 h2 h3 h4]
theorem hd_either (l m : List Int) (h : isTri l = true) (h' : isTri m = true) (a s : Int) (h1 : 0 ≤ a) (h2 : a ≤ 5) (h3 : 0 ≤ s) (h4 : s ≤ a) : hd (eitherP l m) a s = (hd l a s || hd m a s) := by rw [eitherP_tri l m h h', hd_triBy _ a s h1 h2 h3 h4]
theorem not_not (l : List Int) (h : isTri l = true) : notP (notP l) = l := by
  rw [notP_tri _ (isTri_notP l h)]
  refine Eq.trans (triBy_congr _ _ fun a s h1 h2 h3 h4 => ?_) (tri_hd l h)
  show (!(hd (notP l) a s)) = hd l a s
  rw [hd_not l h a s h1 h2 h3 h4, Bool.not_not]
theorem ins_ins (l : List Int) (h : isTri l = true) : insP (insP l) = l := by
  rw [insP_tri _ (isTri_insP l h)]
  refine Eq.trans (triBy_congr _ _ fun a s h1 h2 h3 h4 => ?_) (tri_hd l h)
  show hd (insP l) a (a - s) = hd l a s
  rw [hd_ins l h a (a - s) h1 h2 (by omega) (by omega), show a - (a - s) = s by omega]
theorem ins_not (l : List Int) (h : isTri l = true) : insP (notP l) = notP (insP l) := by
  rw [insP_tri _ (isTri_notP l h), notP_tri _ (isTri_insP l h)]
  refine triBy_congr _ _ fun a s h1 h2 h3 h4 => ?_
  show hd (notP l) a (a - s) = !(hd (insP l) a s)
  rw [hd_not l h a (a - s) h1 h2 (by omega) (by omega), hd_ins l h a s h1 h2 h3 h4]
theorem both_comm (l m : List Int) : bothP l m = bothP m l := by
  by_cases h : isTri l = true ∧ isTri m = true
  · rw [bothP_tri l m h.1 h.2, bothP_tri m l h.2 h.1]
    exact triBy_congr _ _ fun a s _ _ _ _ => Bool.and_comm _ _
  · rw [bothP_none l m h, bothP_none m l (fun g => h ⟨g.2, g.1⟩)]
theorem either_comm (l m : List Int) : eitherP l m = eitherP m l := by
  by_cases h : isTri l = true ∧ isTri m = true
  · rw [eitherP_tri l m h.1 h.2, eitherP_tri m l h.2 h.1]
    exact triBy_congr _ _ fun a s _ _ _ _ => Bool.or_comm _ _
  · rw [eitherP_none l m h, eitherP_none m l (fun g => h ⟨g.2, g.1⟩)]
theorem both_self (l : List Int) (h : isTri l = true) : bothP l l = l := by
  rw [bothP_tri l l h h]
  refine Eq.trans (triBy_congr _ _ fun a s _ _ _ _ => ?_) (tri_hd l h)
  exact Bool.and_self _
theorem both_either (l m : List Int) (h : isTri l = true) (h' : isTri m = true) : bothP l (eitherP l m) = l := by
  rw [bothP_tri l _ h (isTri_eitherP l m h h')]
  refine Eq.trans (triBy_congr _ _ fun a s h1 h2 h3 h4 => ?_) (tri_hd l h)
  show (hd l a s && hd (eitherP l m) a s) = hd l a s
  rw [hd_either l m h h' a s h1 h2 h3 h4]
  cases hd l a s <;> rfl
theorem not_either_not (l m : List Int) (h : isTri l = true) (h' : isTri m = true) : notP (eitherP (notP l) (notP m)) = bothP l m := by
  rw [notP_tri _ (isTri_eitherP _ _ (isTri_notP l h) (isTri_notP m h')), bothP_tri l m h h']
  refine triBy_congr _ _ fun a s h1 h2 h3 h4 => ?_
  show (!(hd (eitherP (notP l) (notP m)) a s)) = (hd l a s && hd m a s)
  rw [hd_either _ _ (isTri_notP l h) (isTri_notP m h') a s h1 h2 h3 h4, hd_not l h a s h1 h2 h3 h4, hd_not m h' a s h1 h2 h3 h4]
  cases hd l a s <;> cases hd m a s <;> rfl
theorem ins_both (l m : List Int) (h : isTri l = true) (h' : isTri m = true) : insP (bothP l m) = bothP (insP l) (insP m) := by
  rw [insP_tri _ (isTri_bothP l m h h'), bothP_tri _ _ (isTri_insP l h) (isTri_insP m h')]
  refine triBy_congr _ _ fun a s h1 h2 h3 h4 => ?_
  show hd (bothP l m) a (a - s) = (hd (insP l) a s && hd (insP m) a s)
  rw [hd_both l m h h' a (a - s) h1 h2 (by omega) (by omega), hd_ins l h a s h1 h2 h3 h4, hd_ins m h' a s h1 h2 h3 h4]
theorem not_both (l m : List Int) (h : isTri l = true) (h' : isTri m = true) : notP (bothP l m) = eitherP (notP l) (notP m) := by
  rw [notP_tri _ (isTri_bothP l m h h'), eitherP_tri _ _ (isTri_notP l h) (isTri_notP m h')]
  refine triBy_congr _ _ fun a s h1 h2 h3 h4 => ?_
  show (!(hd (bothP l m) a s)) = (hd (notP l) a s || hd (notP m) a s)
  rw [hd_both l m h h' a s h1 h2 h3 h4, hd_not l h a s h1 h2 h3 h4, hd_not m h' a s h1 h2 h3 h4]
  cases hd l a s <;> cases hd m a s <;> rfl
theorem tri_ne (so : Int → Int → Bool) : ¬ ((triBy so).length : Int) = 0 := by rw [triBy_eq, triI_length]; omega
theorem named_tri (L : List UInt8) (h : (specNm L).2 = true) : ∃ t, specNm L = (t, true) ∧ isTri t = true := by
  rcases specNm_form L with ⟨a, b, e⟩ | e
  · exact ⟨_, e, isTri_made a b⟩
  · rw [e] at h
    exact absurd h Bool.false_ne_true

end Go.Proofs.Ytgkifmabdfjejaa.P

-- Written by wip/gen/lay.py, a program of this session, with the kit's print as its base. Lean checks every line.
namespace Go.Proofs.Ytgkifmabdfjejaa.P
open Go.RowKit Go.Proofs.YtgkifmabdfjejaaW.PrintWords Go.Proofs.YtgkifmabdfjejaaW.PrintLast Go.Proofs.YtgkifmabdfjejaaW.PrintMore
attribute [local go_sem] max2_int min2_int max_two min_two max_three min_three max_four min_four   -- for this text's walks alone
set_option linter.unusedVariables false
set_option linter.unusedSimpArgs false

/-! ### spec_l20Rd_odd: function 64 -/
def spec_l20Rd_odd.f (k : Nat) (s0_0 : List Int) (s0_1 : Int) (a1 : Int) : Option (Bool × Int) := if a1 > 0 then ((spec_l20Rd_pick.f k s0_0 s0_1 a1).bind fun bt355 => (some ((bt355.1 == (wrap64 (a1 - 1))), bt355.2))) else (some (false, s0_1))
theorem spec_l20Rd_odd.mono : ∀ a0 a1 a2 k, LeO (spec_l20Rd_odd.f k a0 a1 a2) (spec_l20Rd_odd.f (k + 1) a0 a1 a2) := by
  intro a0 a1 a2 k
  unfold spec_l20Rd_odd.f
  repeat' first
      | (with_reducible exact spec_l20Rd_pick.mono _ _ _ _)
      | (with_reducible exact LeO.refl _)
      | (with_reducible exact LeO.none _)
      | (with_reducible refine LeO.ite ?_ ?_)
      | (with_reducible refine LeO.bind ?_ (fun _ => ?_))
      | exact spec_l20Rd_pick.mono _ _ _ _
      | exact LeO.none _
      | refine LeO.ite ?_ ?_
      | refine LeO.bind ?_ (fun _ => ?_)
set_option maxHeartbeats 8000000 in
set_option maxRecDepth 100000 in
theorem spec_l20Rd_odd.calls (k : Nat) (g : Nat) (s0_0 : List Int) (s0_1 : Int) (a1 : Int) (r1 : Bool) (r2 : Int) (w0 w : World) (hI : IsS52 w0 w g s0_0 s0_1) (hB : Below w0.heap.size w0 w) (h : spec_l20Rd_odd.f k s0_0 s0_1 a1 = some (r1, r2)) :
    Calls Try.prog 64 #[.pointer (some ⟨g, 0, none⟩), .int .i64 a1] w fun e w' => e = .returned (.bool r1) ∧ IsS52 w0 w' g s0_0 r2 ∧ Below w0.heap.size w0 w' ∧ KeepBut w w' g none := by
  have HI0 := Aside0.mk hI
  have HK := Aside0.mk (KeepBut.refl w g none)
  have HL := Aside0.mk hB.size
  clear hI
  have HW0 := Aside0.mk hB.size
  have HB := Aside0.mk hB
  clear hB
  have H : (if a1 > 0 then ((spec_l20Rd_pick.f k s0_0 s0_1 a1).bind fun bt355 => (some ((bt355.1 == (wrap64 (a1 - 1))), bt355.2))) else (some (false, s0_1))) = some (r1, r2) := h
  clear h
  by_cases c3 : a1 > 0
  · rw [if_pos c3] at H
    have c3b0 : decide (0 < a1) = true := decide_eq_true c3
    clear c3
    replace H := Option.bind_eq_some_iff.mp H
    obtain ⟨⟨t355, t356⟩, A40, H⟩ := H
    replace H : (some ((t355 == (wrap64 (a1 - 1))), t356)) = some (r1, r2) := H
    have A4 := Aside0.mk A40
    clear A40
    simp only [Option.some.injEq, Prod.mk.injEq] at H
    obtain ⟨rfl, rfl⟩ := H
    go_enter Try.func64, Try.ntmps64
    go_wp2_with (first | (go_at_call 38; (with_reducible refine (spec_l20Rd_pick.calls k g s0_0 s0_1 a1 t355 t356 w0 _ ?side1 ?side2 A4.out).mono ?_); (case side1 => repeat (first | (with_reducible first | exact HI0.out | apply IsS52.alloc | apply IsS52.drewN | apply IsS52.drew | apply IsS52.set_1) | exact HI0.out)); (case side2 => repeat (first | (with_reducible first | exact HB.out | apply below_alloc | apply pw_below_drewN | apply below_drew1 | refine below_set ?_ (IsS52.ge HI0.out)) | exact HB.out)); rintro e w5 ⟨rfl, hi, hb, hk⟩; have n0_ := Aside0.mk (KeepBut.trans (by repeat (first | (with_reducible first | exact HK.out | apply KeepBut.set_ | apply keep_drewN | apply keep_drew | apply keep_alloc) | exact HK.out)) hk (.inl rfl)); have n1_ := Aside0.mk (hb); have n2_ := Aside0.mk (hi); clear HK; clear HB; clear HI0; have HK := n0_; have HB := n1_; have HI0 := n2_; clear n0_ n1_ n2_; (try clear hb); (try clear hb2); (try clear hk); (try clear hi)))
    go_ret
    exact ⟨by first | rfl | (simp [errW_none, errW_some] <;> rfl) | (simp [*, errW_none, errW_some] <;> rfl), by repeat (first | (with_reducible first | exact HI0.out | apply IsS52.alloc | apply IsS52.drewN | apply IsS52.drew | apply IsS52.set_1) | exact HI0.out), by repeat (first | (with_reducible first | exact HB.out | apply below_alloc | apply pw_below_drewN | apply below_drew1 | refine below_set ?_ (IsS52.ge HI0.out)) | exact HB.out), by repeat (first | (with_reducible first | exact HK.out | apply KeepBut.set_ | apply keep_drewN | apply keep_drew | apply keep_alloc) | exact HK.out)⟩
  · rw [if_neg c3] at H
    have c3b0 : decide (0 < a1) = false := decide_eq_false c3
    clear c3
    simp only [Option.some.injEq, Prod.mk.injEq] at H
    obtain ⟨rfl, rfl⟩ := H
    go_enter Try.func64, Try.ntmps64
    go_wp2
    go_ret
    exact ⟨by first | rfl | (simp [errW_none, errW_some] <;> rfl) | (simp [*, errW_none, errW_some] <;> rfl), by repeat (first | (with_reducible first | exact HI0.out | apply IsS52.alloc | apply IsS52.drewN | apply IsS52.drew | apply IsS52.set_1) | exact HI0.out), by repeat (first | (with_reducible first | exact HB.out | apply below_alloc | apply pw_below_drewN | apply below_drew1 | refine below_set ?_ (IsS52.ge HI0.out)) | exact HB.out), by repeat (first | (with_reducible first | exact HK.out | apply KeepBut.set_ | apply keep_drewN | apply keep_drew | apply keep_alloc) | exact HK.out)⟩

end Go.Proofs.Ytgkifmabdfjejaa.P

/- Plain facts on the drawing of arguments: the reader, one draw. -/
namespace Go.Proofs.Ytgkifmabdfjejaa.P
open Go.RowKit Go.Proofs.YtgkifmabdfjejaaW.PrintWords Go.Proofs.YtgkifmabdfjejaaW.PrintLast

theorem wr (x : Int) (h0 : 0 ≤ x) (h1 : x < 4611686018427387904) : wrap64 x = x := by unfold wrap64; omega
theorem xor_pos (a b : Int) (h1 : 0 ≤ a) (h2 : a < 4611686018427387904) (h3 : 0 ≤ b) (h4 : b < 4611686018427387904) : 0 ≤ Go.bits .xor .i64 a b ∧ Go.bits .xor .i64 a b < 4611686018427387904 := by
  obtain ⟨x, rfl⟩ := Int.eq_ofNat_of_zero_le h1
  obtain ⟨y, rfl⟩ := Int.eq_ofNat_of_zero_le h3
  have hx : x ^^^ y < 2 ^ 62 := Nat.xor_lt_two_pow (by omega) (by omega)
  have e1 : (BitVec.ofInt 64 (x : Int)).toNat = x := by
    rw [BitVec.ofInt_natCast, BitVec.toNat_ofNat]; exact Nat.mod_eq_of_lt (by omega)
  have e2 : (BitVec.ofInt 64 (y : Int)).toNat = y := by
    rw [BitVec.ofInt_natCast, BitVec.toNat_ofNat]; exact Nat.mod_eq_of_lt (by omega)
  have h : Go.bits .xor .i64 (x : Int) (y : Int) = ((x ^^^ y : Nat) : Int) := by
    show IntKind.i64.wrap ((BitVec.ofInt 64 (x : Int) ^^^ BitVec.ofInt 64 (y : Int)).toNat : Int) = _
    rw [BitVec.toNat_xor, e1, e2]
    simp [IntKind.wrap, IntKind.bits, IntKind.signed]
    omega
  rw [h]
  omega
/-- What draws read from: bytes, not too many. -/
def Src (xs : List Int) : Prop := xs.length ≤ 2000 ∧ ∀ x ∈ xs, 0 ≤ x ∧ x ≤ 255
theorem Src.rd {xs : List Int} (h : Src xs) (i : Int) : 0 ≤ rd xs i ∧ rd xs i ≤ 255 := by
  unfold Go.Proofs.YtgkifmabdfjejaaW.PrintWords.rd
  rw [List.getD_eq_getElem?_getD]
  cases e : xs[i.toNat]? with
  | none => simp
  | some v => exact h.2 v (List.mem_of_getElem? e)
theorem src_open (l : List Int) (hw : ∀ x ∈ l, (Lit.int .u8 x).wf = true) : ∃ xs, spec_l20Open.f l = some (xs, 0) ∧ Src xs := by
  have hb : ∀ x ∈ l, 0 ≤ x ∧ x ≤ 255 := by
    intro x hx
    have h := hw x hx
    have h' : (decide (IntKind.u8.min ≤ x) && decide (x ≤ IntKind.u8.max)) = true := h
    rw [Bool.and_eq_true, decide_eq_true_eq, decide_eq_true_eq] at h'
    exact ⟨h'.1, h'.2⟩
  unfold spec_l20Open.f
  by_cases h : (l.length : Int) > 2000
  · rw [if_pos h, if_pos (by omega)]
    exact ⟨_, rfl, by rw [List.length_take]; omega, fun x hx => hb x (List.mem_of_mem_take hx)⟩
  · rw [if_neg h]
    exact ⟨_, rfl, by omega, hb⟩
theorem tmod_range (v n : Int) (hv : 0 ≤ v) (hn : 1 ≤ n) : 0 ≤ Int.tmod v n ∧ Int.tmod v n < n := by
  rw [Int.tmod_eq_emod_of_nonneg hv]
  exact ⟨Int.emod_nonneg _ (by omega), Int.emod_lt_of_pos _ (by omega)⟩
theorem pick_k (xs : List Int) (hs : Src xs) (c n : Int) (h0 : 0 ≤ c) (h1 : c ≤ 1000000) (k : Nat) (hk : 1 ≤ k) : ∃ r, spec_l20Rd_pick.f k xs c n = some (r, c + 1) ∧ 0 ≤ r ∧ (1 ≤ n → r < n) := by
  obtain ⟨k, rfl⟩ : ∃ m, k = m + 1 := ⟨k - 1, by omega⟩
  unfold spec_l20Rd_pick.f
  rw [wr (c + 1) (by omega) (by omega)]
  by_cases hn : n < 1
  · rw [if_pos hn]
    simp only [spec_l20Rd_pick.j0]
    rw [if_pos trivial]
    exact ⟨0, rfl, by omega, fun h => by omega⟩
  · rw [if_neg hn]
    simp only [spec_l20Rd_pick.j0]
    rw [show c + 1 - 1 = c by omega, wr c (by omega) (by omega)]
    by_cases hl : xs.length = 0
    · rw [if_pos (by simp [hl])]
      exact ⟨0, rfl, by omega, fun h => by omega⟩
    · rw [if_neg (by simp; intro h; exact hl (by rw [h]; rfl))]
      by_cases hc : c < (xs.length : Int)
      · rw [if_pos hc, if_pos h0, if_neg (by omega)]
        have hb := hs.rd c
        rw [wr _ hb.1 (by omega)]
        have := tmod_range _ n hb.1 (by omega)
        exact ⟨_, rfl, this.1, fun _ => this.2⟩
      · have hlen := hs.1
        have hL : (1 : Int) ≤ (xs.length : Int) := by omega
        have t1 := tmod_range c (xs.length : Int) h0 hL
        have w7 : wrap64 (wrap64 (c * 7) + 3) = c * 7 + 3 := by rw [wr (c * 7) (by omega) (by omega), wr _ (by omega) (by omega)]
        have t2 := tmod_range (c * 7 + 3) (xs.length : Int) (by omega) hL
        rw [w7, if_neg hc, if_neg (by omega), if_pos t1.1, if_pos t1.2, if_pos t2.1, if_pos t2.2, if_neg (by omega)]
        have b1 := hs.rd (Int.tmod c (xs.length : Int))
        have b2 := hs.rd (Int.tmod (c * 7 + 3) (xs.length : Int))
        have q0 : 0 ≤ Int.tdiv c (xs.length : Int) := Int.tdiv_nonneg h0 (by omega)
        have q1 : Int.tdiv c (xs.length : Int) ≤ c := by
          rw [Int.tdiv_eq_ediv_of_nonneg h0]
          exact Int.ediv_le_self _ h0
        obtain ⟨B1, e1⟩ : ∃ B, B = rd xs (Int.tmod c (xs.length : Int)) := ⟨_, rfl⟩
        obtain ⟨B2, e2⟩ : ∃ B, B = rd xs (Int.tmod (c * 7 + 3) (xs.length : Int)) := ⟨_, rfl⟩
        obtain ⟨Q, e3⟩ : ∃ B, B = Int.tdiv c (xs.length : Int) := ⟨_, rfl⟩
        rw [← e1] at b1 ⊢
        rw [← e2] at b2 ⊢
        rw [← e3] at q0 q1 ⊢
        rw [wr B1 (by omega) (by omega), wr B2 (by omega) (by omega), wr Q (by omega) (by omega), wr (B1 * 131) (by omega) (by omega), wr (B2 * 1117) (by omega) (by omega), wr (c * 29) (by omega) (by omega), wr (Q * 53) (by omega) (by omega), wr (B1 * 131 + B2 * 1117) (by omega) (by omega), wr (B1 * 131 + B2 * 1117 + c * 29) (by omega) (by omega), wr (B1 * 131 + B2 * 1117 + c * 29 + Q * 53) (by omega) (by omega)]
        obtain ⟨V, e4⟩ : ∃ V, V = B1 * 131 + B2 * 1117 + c * 29 + Q * 53 := ⟨_, rfl⟩
        rw [← e4]
        have hV : 0 ≤ V ∧ V < 4611686018427387904 := by omega
        have hd : Int.tdiv V 64 = V / 64 := Int.tdiv_eq_ediv_of_nonneg hV.1
        rw [hd, wr (V / 64) (by omega) (by omega)]
        have hx := xor_pos V (V / 64) hV.1 hV.2 (by omega) (by omega)
        have := tmod_range _ n hx.1 (by omega)
        exact ⟨_, rfl, this.1, fun _ => this.2⟩
theorem odd_k (xs : List Int) (hs : Src xs) (c n : Int) (h0 : 0 ≤ c) (h1 : c ≤ 1000000) (k : Nat) (hk : 1 ≤ k) : ∃ b c', spec_l20Rd_odd.f k xs c n = some (b, c') ∧ c ≤ c' ∧ c' ≤ c + 1 := by
  unfold spec_l20Rd_odd.f
  by_cases h : n > 0
  · obtain ⟨r, e, _, _⟩ := pick_k xs hs c n h0 h1 k hk
    rw [if_pos h, e, Option.bind_some]
    exact ⟨_, _, rfl, by omega, by omega⟩
  · rw [if_neg h]
    exact ⟨_, _, rfl, by omega, by omega⟩

end Go.Proofs.Ytgkifmabdfjejaa.P

/- Plain facts: what the program's PlaceOf comes to. No condition beyond those typed. -/
namespace Go.Proofs.Ytgkifmabdfjejaa.P
open Go.RowKit Go.Proofs.YtgkifmabdfjejaaW.PrintWords Go.Proofs.YtgkifmabdfjejaaW.PrintLast

theorem impl_PlaceOf_eq (a s : Int) : impl_PlaceOf.f a s = some (plOr a s) := by
  unfold impl_PlaceOf.f plOr impl_placeOf.f
  by_cases h1 : a < 0
  · rw [if_pos h1, if_neg (by omega)]
  · by_cases h2 : a > 5
    · rw [if_neg h1, if_pos h2, if_neg (by omega)]
    · by_cases h3 : s < 0
      · rw [if_neg h1, if_neg h2, if_pos h3, if_neg (by omega)]
      · by_cases h4 : s > a
        · rw [if_neg h1, if_neg h2, if_neg h3, if_pos h4, if_neg (by omega)]
        · rw [if_neg h1, if_neg h2, if_neg h3, if_neg h4, Option.bind_some, pl_wrap a s (by omega) (by omega) (by omega) (by omega), if_pos (by omega)]

end Go.Proofs.Ytgkifmabdfjejaa.P

/- Plain facts on the law's last word and the sameness of rows. -/
namespace Go.Proofs.Ytgkifmabdfjejaa.P
open Go.RowKit Go.Proofs.YtgkifmabdfjejaaW.PrintWords Go.Proofs.YtgkifmabdfjejaaW.PrintLast

theorem alive_eq : laws_alive.f = some true := by
  unfold laws_alive.f
  rw [impl_PlaceOf_eq, Option.bind_some, show plOr 0 0 = 0 by decide, if_pos rfl, impl_PlaceOf_eq, Option.bind_some, show plOr 0 1 = -1 by decide]
  rfl
theorem same_round (l : List Int) (hl : l.length ≤ 1048576) (d : Nat) : ∀ (k i : Nat), i + d = l.length → d < k → laws_sameInts.l0 k l l (i : Int) = some true := by
  induction d with
  | zero =>
    intro k i h hk
    obtain ⟨k, rfl⟩ : ∃ m, k = m + 1 := ⟨k - 1, by omega⟩
    simp only [laws_sameInts.l0]
    rw [if_neg (by omega)]
  | succ d ih =>
    intro k i h hk
    obtain ⟨k, rfl⟩ : ∃ m, k = m + 1 := ⟨k - 1, by omega⟩
    simp only [laws_sameInts.l0]
    rw [if_pos (by omega), if_pos (by omega), if_pos (by omega), if_pos trivial, wrap_succ i l.length (by omega) hl]
    exact ih k (i + 1) (by omega) (by omega)
theorem same_k (l : List Int) (hl : l.length ≤ 1048576) (k : Nat) (hk : 1048576 < k) : laws_sameInts.f k l l = some true := by
  unfold laws_sameInts.f
  rw [if_pos rfl]
  exact same_round l hl l.length k 0 (by omega) (by omega)

end Go.Proofs.Ytgkifmabdfjejaa.P
