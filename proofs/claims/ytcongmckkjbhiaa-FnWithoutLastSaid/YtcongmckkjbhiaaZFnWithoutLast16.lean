-- Texts of this claim, laid one behind the other by wip/gen/merge.py.
import Derived.Test.YtcongmckkjbhiaaZFnWithoutLast15
import Derived.Test.YtcongmckkjbhiaaZFnWithoutLast6
import Derived.Test.YtcongmckkjbhiaaZFnWithoutLast7
import Derived.Test.YtcongmckkjbhiaaZFnWithoutLast5
import Derived.Test.YtcongmckkjbhiaaZFnWithoutLast13
import Derived.Test.YtcongmckkjbhiaaZFnWithoutLast10
import Derived.Test.YtcongmckkjbhiaaZFnWithoutLast1
import Derived.Test.YtcongmckkjbhiaaZFnWithoutLast2
import Derived.Laws.Entries
import Derived.Test.YtcongmckkjbhiaaZFnWithoutLast8
import Derived.Test.YtcongmckkjbhiaaZFnWithoutLast9
import Derived.Test.YtcongmckkjbhiaaZFnWithoutLast14
import Derived.Test.YtcongmckkjbhiaaZFnWithoutLast0
import Derived.Test.YtcongmckkjbhiaaZFnWithoutLast12
/- Plain facts: what the reference's NotOf, BothOf, EitherOf, InsideNot, DualOf come to, with enough rounds, for lists of at most 2^20 numbers. -/
namespace Go.Proofs.Ytcongmckkjbhiaa.P
open Go.RowKit Go.Proofs.YtcongmckkjbhiaaW.PrintWords Go.Proofs.YtcongmckkjbhiaaW.PrintLast
/-! NotOf -/
def notP (l : List Int) : List Int := if isTri l = true then triBy (fun a s => !(hd l a s)) else []
theorem spec_NotOf_round (l : List Int) (hl : l.length ≤ 1048576) (ht : isTri l = true) (d : Nat) : ∀ (k i : Nat), i + d = l.length → d + 1048576 < k → spec_NotOf.l0 k l (idx (fun j => wrap64 (1 - rd l j)) i) (i : Int) = some (idx (fun j => wrap64 (1 - rd l j)) l.length) := by
 induction d with
 | zero =>
  intro k i h hk
  obtain ⟨k, rfl⟩ : ∃ m, k = m + 1 := ⟨k - 1, by omega⟩
  simp only [spec_NotOf.l0]
  rw [if_neg (by omega), show i = l.length from by omega]
 | succ d ih =>
  intro k i h hk
  obtain ⟨k, rfl⟩ : ∃ m, k = m + 1 := ⟨k - 1, by omega⟩
  simp only [spec_NotOf.l0]
  rw [if_pos (by omega), spec_TriangleOk_k l hl k (by omega), Option.bind_some, ht, if_pos rfl, if_pos (by omega), if_pos (by rw [idx_length]; omega), wrap_succ i l.length (by omega) hl, ← idx_succ]
  exact ih k (i + 1) (by omega) (by omega)
theorem spec_NotOf_k (l : List Int) (hl : l.length ≤ 1048576) (k : Nat) (hk : 2097153 ≤ k) : spec_NotOf.f k l = some (notP l) := by
 unfold spec_NotOf.f notP
 by_cases ht : isTri l = true
 ·have h := spec_NotOf_round l hl ht l.length k 0 (by omega) (by omega)
  rw [isTri_length ht, idx_tri] at h
  rw [if_pos ht]
  refine Eq.trans h ?_
  rw [triBy_eq]
  congr 1
  refine triI_congr _ _ fun a s _ _ _ _ => ?_
  rw [bit_of l ht]
  cases hd l a s <;> simp [wrap64]
 ·rw [if_neg ht]
  obtain ⟨k, rfl⟩ : ∃ m, k = m + 1 := ⟨k - 1, by omega⟩
  simp only [spec_NotOf.l0]
  by_cases h0 : (0 : Int) < (l.length : Int)
  ·rw [if_pos h0, spec_TriangleOk_k l hl k (by omega), Option.bind_some, if_neg ht]
  ·rw [if_neg h0]
/-! BothOf, EitherOf -/
def bothP (l m : List Int) : List Int := if (isTri l && isTri m) = true then triBy (fun a s => hd l a s && hd m a s) else []
def eitherP (l m : List Int) : List Int := if (isTri l && isTri m) = true then triBy (fun a s => hd l a s || hd m a s) else []
theorem spec_BothOf_round (l m : List Int) (hl : l.length ≤ 1048576) (hm : m.length ≤ 1048576) (ht : isTri l = true) (hu : isTri m = true) (d : Nat) : ∀ (k i : Nat), i + d = l.length → d + 1048576 < k → spec_BothOf.l0 k l m (idx (fun j => wrap64 (rd l j * rd m j)) i) (i : Int) = some (idx (fun j => wrap64 (rd l j * rd m j)) l.length) := by
 induction d with
 | zero =>
  intro k i h hk
  obtain ⟨k, rfl⟩ : ∃ m, k = m + 1 := ⟨k - 1, by omega⟩
  simp only [spec_BothOf.l0]
  rw [if_neg (by omega), show i = l.length from by omega]
 | succ d ih =>
  intro k i h hk
  obtain ⟨k, rfl⟩ : ∃ m, k = m + 1 := ⟨k - 1, by omega⟩
  have h1 := isTri_length ht
  have h2 := isTri_length hu
  simp only [spec_BothOf.l0]
  rw [if_pos (by omega), spec_TriangleOk_k l hl k (by omega), Option.bind_some, ht, if_pos rfl, spec_TriangleOk_k m hm k (by omega), Option.bind_some, hu, if_pos rfl, if_pos (by omega), if_pos (by omega), if_pos (by rw [idx_length]; omega), wrap_succ i l.length (by omega) hl, ← idx_succ]
  exact ih k (i + 1) (by omega) (by omega)
theorem spec_BothOf_k (l m : List Int) (hl : l.length ≤ 1048576) (hm : m.length ≤ 1048576) (k : Nat) (hk : 2097153 ≤ k) : spec_BothOf.f k l m = some (bothP l m) := by
 unfold spec_BothOf.f bothP
 by_cases ht : isTri l = true
 ·by_cases hu : isTri m = true
  ·have h := spec_BothOf_round l m hl hm ht hu l.length k 0 (by omega) (by omega)
   rw [isTri_length ht, idx_tri] at h
   rw [if_pos (show (isTri l && isTri m) = true from by rw [ht, hu]; rfl)]
   refine Eq.trans h ?_
   rw [triBy_eq]
   congr 1
   refine triI_congr _ _ fun a s _ _ _ _ => ?_
   rw [bit_of l ht, bit_of m hu]
   cases hd l a s <;> cases hd m a s <;> simp [wrap64]
  ·rw [if_neg (show ¬ (isTri l && isTri m) = true from by rw [ht, Bool.eq_false_iff.mpr hu]; decide)]
   obtain ⟨k, rfl⟩ : ∃ m, k = m + 1 := ⟨k - 1, by omega⟩
   simp only [spec_BothOf.l0]
   have := isTri_length ht
   rw [if_pos (by omega), spec_TriangleOk_k l hl k (by omega), Option.bind_some, ht, if_pos rfl, spec_TriangleOk_k m hm k (by omega), Option.bind_some, if_neg hu]
 ·rw [if_neg (show ¬ (isTri l && isTri m) = true from by rw [Bool.eq_false_iff.mpr ht, Bool.false_and]; decide)]
  obtain ⟨k, rfl⟩ : ∃ m, k = m + 1 := ⟨k - 1, by omega⟩
  simp only [spec_BothOf.l0]
  by_cases h0 : (0 : Int) < (l.length : Int)
  ·rw [if_pos h0, spec_TriangleOk_k l hl k (by omega), Option.bind_some, if_neg ht]
  ·rw [if_neg h0]
theorem spec_EitherOf_round (l m : List Int) (hl : l.length ≤ 1048576) (hm : m.length ≤ 1048576) (ht : isTri l = true) (hu : isTri m = true) (d : Nat) : ∀ (k i : Nat), i + d = l.length → d + 1048576 < k → spec_EitherOf.l0 k l m (idx (fun j => wrap64 (wrap64 (rd l j + rd m j) - wrap64 (rd l j * rd m j))) i) (i : Int) = some (idx (fun j => wrap64 (wrap64 (rd l j + rd m j) - wrap64 (rd l j * rd m j))) l.length) := by
 induction d with
 | zero =>
  intro k i h hk
  obtain ⟨k, rfl⟩ : ∃ m, k = m + 1 := ⟨k - 1, by omega⟩
  simp only [spec_EitherOf.l0]
  rw [if_neg (by omega), show i = l.length from by omega]
 | succ d ih =>
  intro k i h hk
  obtain ⟨k, rfl⟩ : ∃ m, k = m + 1 := ⟨k - 1, by omega⟩
  have h1 := isTri_length ht
  have h2 := isTri_length hu
  simp only [spec_EitherOf.l0]
  rw [if_pos (by omega), spec_TriangleOk_k l hl k (by omega), Option.bind_some, ht, if_pos rfl, spec_TriangleOk_k m hm k (by omega), Option.bind_some, hu, if_pos rfl, if_pos (by omega), if_pos (by omega), if_pos (by rw [idx_length]; omega), wrap_succ i l.length (by omega) hl, ← idx_succ]
  exact ih k (i + 1) (by omega) (by omega)
theorem spec_EitherOf_k (l m : List Int) (hl : l.length ≤ 1048576) (hm : m.length ≤ 1048576) (k : Nat) (hk : 2097153 ≤ k) : spec_EitherOf.f k l m = some (eitherP l m) := by
 unfold spec_EitherOf.f eitherP
 by_cases ht : isTri l = true
 ·by_cases hu : isTri m = true
  ·have h := spec_EitherOf_round l m hl hm ht hu l.length k 0 (by omega) (by omega)
   rw [isTri_length ht, idx_tri] at h
   rw [if_pos (show (isTri l && isTri m) = true from by rw [ht, hu]; rfl)]
   refine Eq.trans h ?_
   rw [triBy_eq]
   congr 1
   refine triI_congr _ _ fun a s _ _ _ _ => ?_
   rw [bit_of l ht, bit_of m hu]
   cases hd l a s <;> cases hd m a s <;> simp [wrap64]
  ·rw [if_neg (show ¬ (isTri l && isTri m) = true from by rw [ht, Bool.eq_false_iff.mpr hu]; decide)]
   obtain ⟨k, rfl⟩ : ∃ m, k = m + 1 := ⟨k - 1, by omega⟩
   simp only [spec_EitherOf.l0]
   have := isTri_length ht
   rw [if_pos (by omega), spec_TriangleOk_k l hl k (by omega), Option.bind_some, ht, if_pos rfl, spec_TriangleOk_k m hm k (by omega), Option.bind_some, if_neg hu]
 ·rw [if_neg (show ¬ (isTri l && isTri m) = true from by rw [Bool.eq_false_iff.mpr ht, Bool.false_and]; decide)]
  obtain ⟨k, rfl⟩ : ∃ m, k = m + 1 := ⟨k - 1, by omega⟩
  simp only [spec_EitherOf.l0]
  by_cases h0 : (0 : Int) < (l.length : Int)
  ·rw [if_pos h0, spec_TriangleOk_k l hl k (by omega), Option.bind_some, if_neg ht]
  ·rw [if_neg h0]
/-! InsideNot, DualOf -/
def insP (l : List Int) : List Int := if isTri l = true then triBy (fun a s => hd l a (a - s)) else []
theorem spec_InsideNot_inner (l : List Int) (hl : l.length = 21) (a : Nat) (ha : a < 6) (d : Nat) : ∀ (m s : Nat), s + d = a + 1 →
  spec_InsideNot.l1 (m + d + 1) l (rowsI (fun a s => rd l (pl a (a - s))) a ++ rowI (fun a s => rd l (pl a (a - s))) a s) (a : Int) (s : Int) = spec_InsideNot.l0 m l (rowsI (fun a s => rd l (pl a (a - s))) (a + 1)) ((a + 1 : Nat) : Int) := by
 induction d with
 | zero =>
  intro m s h
  simp only [spec_InsideNot.l1]
  rw [if_neg (by omega), wrap_succ6 a (by omega), show s = a + 1 from by omega, ← rowsI_succ]
 | succ d ih =>
  intro m s h
  rw [show m + (d + 1) + 1 = (m + d + 1) + 1 from by omega]
  simp only [spec_InsideNot.l1]
  have hw : wrap64 ((a : Int) - s) = (a : Int) - s := by unfold wrap64; omega
  have hr := pl_range a ((a : Int) - s) (by omega) (by omega) (by omega) (by omega)
  rw [if_pos (by omega), hw, spec_PlaceOf_eq, plOr_in _ _ (by omega) (by omega) (by omega) (by omega), Option.bind_some, if_pos hr.1, if_pos (by omega), if_pos (rows_bound _ a s ha (by omega)), wrap_succ6 s (by omega), List.append_assoc, ← rowI_succ (fun a s => rd l (pl a (a - s))) a s]
  exact ih m (s + 1) (by omega)
theorem spec_InsideNot_outer (l : List Int) (ht : isTri l = true) (e : Nat) : ∀ (k a : Nat), a + e = 6 → 10 * e + 1048600 < k →
  spec_InsideNot.l0 k l (rowsI (fun a s => rd l (pl a (a - s))) a) (a : Int) = some (triI (fun a s => rd l (pl a (a - s)))) := by
 have hl := isTri_length ht
 induction e with
 | zero =>
  intro k a h hk
  obtain ⟨k, rfl⟩ : ∃ m, k = m + 2 := ⟨k - 2, by omega⟩
  obtain rfl : a = 6 := by omega
  simp only [spec_InsideNot.l0]
  rw [if_neg (by omega)]
  simp only [spec_InsideNot.j1]
  rfl
 | succ e ih =>
  intro k a h hk
  obtain ⟨k, rfl⟩ : ∃ m, k = m + (a + 1) + 1 + 2 := ⟨k - (a + 4), by omega⟩
  simp only [spec_InsideNot.l0]
  rw [if_pos (by omega), spec_TriangleOk_k l (by omega) _ (by omega), Option.bind_some, ht]
  simp only [spec_InsideNot.j1, if_true]
  have := spec_InsideNot_inner l hl a (by omega) (a + 1) k 0 (by omega)
  rw [rowI_zero, List.append_nil] at this
  refine Eq.trans this ?_
  exact ih k (a + 1) (by omega) (by omega)
theorem spec_InsideNot_k (l : List Int) (hl : l.length ≤ 1048576) (k : Nat) (hk : 2097153 ≤ k) : spec_InsideNot.f k l = some (insP l) := by
 unfold spec_InsideNot.f insP
 by_cases ht : isTri l = true
 ·rw [if_pos ht]
  have := spec_InsideNot_outer l ht 6 k 0 (by omega) (by omega)
  refine Eq.trans this ?_
  rw [triBy_eq]
  congr 1
  refine triI_congr _ _ fun a s _ _ _ _ => ?_
  rw [bit_of l ht]
 ·rw [if_neg ht]
  obtain ⟨k, rfl⟩ : ∃ m, k = m + 2 := ⟨k - 2, by omega⟩
  simp only [spec_InsideNot.l0]
  rw [if_pos (by omega), spec_TriangleOk_k l hl _ (by omega), Option.bind_some]
  simp only [spec_InsideNot.j1]
  rw [if_neg ht]
theorem isTri_notP (l : List Int) (h : isTri l = true) : isTri (notP l) = true := by
 unfold notP
 rw [if_pos h]
 exact isTri_triBy _
theorem isTri_insP (l : List Int) (h : isTri l = true) : isTri (insP l) = true := by
 unfold insP
 rw [if_pos h]
 exact isTri_triBy _
theorem isTri_bothP (l m : List Int) (h : isTri l = true) (h' : isTri m = true) : isTri (bothP l m) = true := by
 unfold bothP
 rw [if_pos (by rw [h, h']; rfl)]
 exact isTri_triBy _
theorem isTri_eitherP (l m : List Int) (h : isTri l = true) (h' : isTri m = true) : isTri (eitherP l m) = true := by
 unfold eitherP
 rw [if_pos (by rw [h, h']; rfl)]
 exact isTri_triBy _
/- Plain facts: what the reference's NamedTriangle comes to, with enough rounds, for every text. -/
/-! The reference's rules. -/
def madeB (rule n a s : Int) : Bool :=
 if rule = 0 then s == a else if rule = 1 then decide (n ≤ s) else if rule = 2 then s == n else if rule = 3 then decide (a < 2 * s) else if rule = 4 then s % 2 == 0 else if rule = 5 then a - s == n else false
def madeI (rule n a s : Int) : Int := if madeB rule n a s = true then 1 else 0
theorem spec_l1Made_l1 (rule n : Int) (a : Nat) (ha : a < 6) (d : Nat) : ∀ (m s : Nat), s + d = a + 1 →
  spec_l1Made.l1 (m + d + 1) rule n (rowsI (madeI rule n) a ++ rowI (madeI rule n) a s) (a : Int) (s : Int) = spec_l1Made.l0 m rule n (rowsI (madeI rule n) (a + 1)) ((a + 1 : Nat) : Int) := by
 induction d with
 | zero =>
  intro m s h
  obtain ⟨M, hM⟩ : ∃ M, M = m + 0 := ⟨_, rfl⟩
  rw [← hM, show m = M from by omega]
  simp only [spec_l1Made.l1]
  rw [if_neg (by omega), wrap_succ6 a (by omega), show s = a + 1 from by omega, ← rowsI_succ]
 | succ d ih =>
  intro m s h
  obtain ⟨M, hM⟩ : ∃ M, M = m + d + 1 := ⟨_, rfl⟩
  rw [show m + (d + 1) + 1 = M + 1 from by omega]
  have hb := rows_bound (madeI rule n) a s ha (by omega)
  have w1 : wrap64 (2 * (s : Int)) = 2 * s := by unfold wrap64; omega
  have w2 : wrap64 ((a : Int) - s) = (a : Int) - s := by unfold wrap64; omega
  have hm : Int.tmod (s : Int) 2 = (s : Int) % 2 := Int.tmod_eq_emod_of_nonneg (by omega)
  have hi := ih m (s + 1) (by omega)
  have key : ∀ b : Bool, madeB rule n a s = b → spec_l1Made.l1 M rule n ((rowsI (madeI rule n) a ++ rowI (madeI rule n) a s) ++ [if b = true then 1 else 0]) (a : Int) ((s + 1 : Nat) : Int) = spec_l1Made.l0 m rule n (rowsI (madeI rule n) (a + 1)) ((a + 1 : Nat) : Int) := by
   intro b hb'
   rw [List.append_assoc, show rowI (madeI rule n) a s ++ [if b = true then 1 else 0] = rowI (madeI rule n) a (s + 1) from by rw [rowI_succ, madeI, hb'], hM]
   exact hi
  simp only [spec_l1Made.l1]
  rw [if_pos (by omega), wrap_succ6 s (by omega), w1, w2, hm]
  simp only [if_pos hb]
  have kt := key true
  have kf := key false
  simp only [if_true, Bool.false_eq_true, if_false] at kt kf
  unfold madeB at kt kf
  by_cases r0 : rule = 0
  ·rw [if_pos r0]
   simp only [if_pos r0] at kt kf
   by_cases c : (s : Int) = a
   ·rw [if_pos c]; exact kt (by simpa using c)
   ·rw [if_neg c]; exact kf (by simpa using c)
  ·rw [if_neg r0]
   simp only [if_neg r0] at kt kf
   by_cases r1 : rule = 1
   ·rw [if_pos r1]
    simp only [if_pos r1] at kt kf
    by_cases c : (s : Int) ≥ n
    ·rw [if_pos c]; exact kt (decide_eq_true c)
    ·rw [if_neg c]; exact kf (decide_eq_false c)
   ·rw [if_neg r1]
    simp only [if_neg r1] at kt kf
    by_cases r2 : rule = 2
    ·rw [if_pos r2]
     simp only [if_pos r2] at kt kf
     by_cases c : (s : Int) = n
     ·rw [if_pos c]; exact kt (by simpa using c)
     ·rw [if_neg c]; exact kf (by simpa using c)
    ·rw [if_neg r2]
     simp only [if_neg r2] at kt kf
     by_cases r3 : rule = 3
     ·rw [if_pos r3]
      simp only [if_pos r3] at kt kf
      by_cases c : 2 * (s : Int) > a
      ·rw [if_pos c]; exact kt (decide_eq_true c)
      ·rw [if_neg c]; exact kf (decide_eq_false c)
     ·rw [if_neg r3]
      simp only [if_neg r3] at kt kf
      by_cases r4 : rule = 4
      ·rw [if_pos r4]
       simp only [if_pos r4] at kt kf
       by_cases c : (s : Int) % 2 = 0
       ·rw [if_pos c]; exact kt (by rw [c]; rfl)
       ·rw [if_neg c]; exact kf (beq_eq_false_iff_ne.mpr c)
      ·rw [if_neg r4]
       simp only [if_neg r4] at kt kf
       by_cases r5 : rule = 5
       ·rw [if_pos r5]
        simp only [if_pos r5] at kt kf
        by_cases c : (a : Int) - s = n
        ·rw [if_pos c]; exact kt (beq_iff_eq.mpr c)
        ·rw [if_neg c]; exact kf (beq_eq_false_iff_ne.mpr c)
       ·rw [if_neg r5]
        simp only [if_neg r5] at kt kf
        exact kf trivial
theorem spec_l1Made_l0 (rule n : Int) (e : Nat) : ∀ (k a : Nat), a + e = 6 → 10 * e + 10 < k → spec_l1Made.l0 k rule n (rowsI (madeI rule n) a) (a : Int) = some (triI (madeI rule n)) := by
 induction e with
 | zero =>
  intro k a h hk
  obtain ⟨k, rfl⟩ : ∃ m, k = m + 1 := ⟨k - 1, by omega⟩
  obtain rfl : a = 6 := by omega
  simp only [spec_l1Made.l0]
  rw [if_neg (by omega)]
  rfl
 | succ e ih =>
  intro k a h hk
  obtain ⟨k, rfl⟩ : ∃ m, k = m + (a + 1) + 1 + 1 := ⟨k - (a + 3), by omega⟩
  have hh := spec_l1Made_l1 rule n a (by omega) (a + 1) k 0 (by omega)
  rw [rowI_zero, List.append_nil] at hh
  simp only [spec_l1Made.l0]
  rw [if_pos (by omega)]
  refine Eq.trans hh ?_
  exact ih k (a + 1) (by omega) (by omega)
theorem spec_l1Made_k (rule n : Int) (k : Nat) (hk : 100 ≤ k) : spec_l1Made.f k rule n = some (triI (madeI rule n)) := spec_l1Made_l0 rule n 6 k 0 (by omega) (by omega)
/-! The names. -/
def digitB (n : Int) : ByteArray := strOfNums [(wrap64 (48 + n)) % 256]
theorem spec_l1Number_k (n : Int) (h : n < 10) (k : Nat) (hk : 1 ≤ k) : spec_l1Number.f k n = some (digitB n) := by
 obtain ⟨k, rfl⟩ : ∃ m, k = m + 1 := ⟨k - 1, by omega⟩
 simp only [spec_l1Number.f]
 rw [if_pos h]
 rfl
theorem digit_list (n : Nat) (h : n < 6) : (digitB (n : Int)).data.toList = [UInt8.ofNat (48 + n)] ∧ (digitB (n : Int)).size = 1 := by
 have hf : ∀ i : Fin 6, (digitB (i.val : Int)).data.toList = [UInt8.ofNat (48 + i.val)] ∧ (digitB (i.val : Int)).size = 1 := by decide +kernel
 exact hf ⟨n, h⟩
def wAtleast : List UInt8 := [97, 116, 108, 101, 97, 115, 116]
def wJust : List UInt8 := [106, 117, 115, 116]
def wAllbut : List UInt8 := [97, 108, 108, 98, 117, 116]
/-- What the reference answers to a name, by its letters: from the digit i on. -/
def specDig (L : List UInt8) : Nat → Nat → List Int × Bool
 | 0, _ => ([], false)
 | e + 1, i => if L = wAtleast ++ [UInt8.ofNat (48 + i)] ∧ 0 < i then (triI (madeI 1 i), true) else if L = wJust ++ [UInt8.ofNat (48 + i)] then (triI (madeI 2 i), true) else if L = wAllbut ++ [UInt8.ofNat (48 + i)] then (triI (madeI 5 i), true) else specDig L e (i + 1)
theorem cat_list (W : List UInt8) (n : Nat) (h : n < 6) : ((⟨W.toArray⟩ : ByteArray) ++ digitB (n : Int)).toList = W ++ [UInt8.ofNat (48 + n)] := by
 rw [ByteArray.toList_eq, ByteArray.data_append, Array.toList_append, (digit_list n h).1]
theorem spec_Named_l1 (a0 : ByteArray) (e : Nat) : ∀ (k i : Nat), i + e = 6 → 300 + 3 * e ≤ k → spec_NamedTriangle.l1 k a0 (i : Int) = some (specDig a0.toList e i) := by
 induction e with
 | zero =>
  intro k i h hk
  obtain ⟨k, rfl⟩ : ∃ m, k = m + 1 := ⟨k - 1, by omega⟩
  simp only [spec_NamedTriangle.l1]
  rw [if_neg (by omega)]
  rfl
 | succ e ih =>
  intro k i h hk
  obtain ⟨k, rfl⟩ : ∃ m, k = m + 1 + 1 := ⟨k - 2, by omega⟩
  have hz := (digit_list i (by omega)).2
  have c1 := cat_list wAtleast i (by omega)
  have c2 := cat_list wJust i (by omega)
  have c3 := cat_list wAllbut i (by omega)
  simp only [spec_NamedTriangle.l1]
  rw [if_pos (by omega), spec_l1Number_k _ (by omega) _ (by omega), Option.bind_some, if_pos (by omega), show ((⟨#[97, 116, 108, 101, 97, 115, 116]⟩ : ByteArray) ++ digitB (i : Int)).toList = wAtleast ++ [UInt8.ofNat (48 + i)] from c1]
  have hj : ∀ x : Bool, (x = true → a0.toList = wAtleast ++ [UInt8.ofNat (48 + i)] ∧ 0 < i) → (x = false → ¬ (a0.toList = wAtleast ++ [UInt8.ofNat (48 + i)] ∧ 0 < i)) → spec_NamedTriangle.j2 (k + 1) a0 (i : Int) (digitB (i : Int)) x = some (specDig a0.toList (e + 1) i) := by
   intro x h1 h2
   simp only [spec_NamedTriangle.j2]
   rw [specDig]
   cases x with
   | true =>
    rw [if_pos rfl, spec_l1Made_k _ _ _ (by omega), Option.bind_some, if_pos (h1 rfl)]
   | false =>
    rw [if_neg (by decide), if_neg (h2 rfl), if_pos (by omega), show ((⟨#[106, 117, 115, 116]⟩ : ByteArray) ++ digitB (i : Int)).toList = wJust ++ [UInt8.ofNat (48 + i)] from c2]
    by_cases g2 : a0.toList = wJust ++ [UInt8.ofNat (48 + i)]
    ·rw [if_pos g2, if_pos g2, spec_l1Made_k _ _ _ (by omega), Option.bind_some]
    ·rw [if_neg g2, if_neg g2, if_pos (by omega), show ((⟨#[97, 108, 108, 98, 117, 116]⟩ : ByteArray) ++ digitB (i : Int)).toList = wAllbut ++ [UInt8.ofNat (48 + i)] from c3]
     by_cases g3 : a0.toList = wAllbut ++ [UInt8.ofNat (48 + i)]
     ·rw [if_pos g3, if_pos g3, spec_l1Made_k _ _ _ (by omega), Option.bind_some]
     ·rw [if_neg g3, if_neg g3, wrap_succ6 i (by omega)]
      exact ih k (i + 1) (by omega) (by omega)
  by_cases g1 : a0.toList = wAtleast ++ [UInt8.ofNat (48 + i)]
  ·rw [if_pos g1]
   refine hj _ (fun h => ⟨g1, by have := of_decide_eq_true h; omega⟩) (fun h h' => ?_)
   have := of_decide_eq_false h
   omega
  ·rw [if_neg g1]
   exact hj false (fun h => absurd h (by decide)) (fun _ h' => g1 h'.1)
def specNm (L : List UInt8) : List Int × Bool :=
 if L = [101, 118, 101, 114, 121] then (triI (madeI 0 0), true) else if L = [115, 111, 109, 101] then (triI (madeI 1 1), true) else if L = [110, 111] then (triI (madeI 2 0), true) else if L = [109, 111, 115, 116] then (triI (madeI 3 0), true) else if L = [101, 118, 101, 110] then (triI (madeI 4 0), true) else specDig L 6 0
theorem spec_NamedTriangle_k (a0 : ByteArray) (k : Nat) (hk : 1000 ≤ k) : spec_NamedTriangle.f k a0 = some (specNm a0.toList) := by
 obtain ⟨k, rfl⟩ : ∃ m, k = m + 5 + 1 := ⟨k - 6, by omega⟩
 have hl := spec_Named_l1 a0 6 k 0 (by omega) (by omega)
 have m0 := fun r n => spec_l1Made_k r n (k + 5) (by omega)
 have m1 := fun r n => spec_l1Made_k r n (k + 4) (by omega)
 have m2 := fun r n => spec_l1Made_k r n (k + 3) (by omega)
 have m3 := fun r n => spec_l1Made_k r n (k + 2) (by omega)
 have m4 := fun r n => spec_l1Made_k r n (k + 1) (by omega)
 unfold spec_NamedTriangle.f specNm
 obtain ⟨x, hx⟩ : ∃ x, specDig a0.toList 6 0 = x := ⟨_, rfl⟩
 rw [hx] at hl ⊢
 have t0 : ((⟨#[101, 118, 101, 114, 121]⟩ : ByteArray)).toList = [101, 118, 101, 114, 121] := by rw [ByteArray.toList_eq]
 have t1 : ((⟨#[115, 111, 109, 101]⟩ : ByteArray)).toList = [115, 111, 109, 101] := by rw [ByteArray.toList_eq]
 have t2 : ((⟨#[110, 111]⟩ : ByteArray)).toList = [110, 111] := by rw [ByteArray.toList_eq]
 have t3 : ((⟨#[109, 111, 115, 116]⟩ : ByteArray)).toList = [109, 111, 115, 116] := by rw [ByteArray.toList_eq]
 have t4 : ((⟨#[101, 118, 101, 110]⟩ : ByteArray)).toList = [101, 118, 101, 110] := by rw [ByteArray.toList_eq]
 obtain ⟨ns, hns⟩ : ∃ ns : List ByteArray, ns = [(⟨#[101, 118, 101, 114, 121]⟩ : ByteArray), (⟨#[115, 111, 109, 101]⟩ : ByteArray), (⟨#[110, 111]⟩ : ByteArray), (⟨#[109, 111, 115, 116]⟩ : ByteArray), (⟨#[101, 118, 101, 110]⟩ : ByteArray)] := ⟨_, rfl⟩
 rw [← hns]
 have nl : ns.length = 5 := by rw [hns]; rfl
 have r0 : (rdOf ByteArray.empty ns 0).toList = [101, 118, 101, 114, 121] := by rw [hns]; exact t0
 have r1 : (rdOf ByteArray.empty ns 1).toList = [115, 111, 109, 101] := by rw [hns]; exact t1
 have r2 : (rdOf ByteArray.empty ns 2).toList = [110, 111] := by rw [hns]; exact t2
 have r3 : (rdOf ByteArray.empty ns 3).toList = [109, 111, 115, 116] := by rw [hns]; exact t3
 have r4 : (rdOf ByteArray.empty ns 4).toList = [101, 118, 101, 110] := by rw [hns]; exact t4
 have l5 : spec_NamedTriangle.l0 (k + 1) a0 ns 5 = some x := by
  rw [spec_NamedTriangle.l0]
  rw [if_neg (by omega)]
  exact hl
 have l4 : spec_NamedTriangle.l0 (k + 2) a0 ns 4 = some (if a0.toList = [101, 118, 101, 110] then (triI (madeI 4 0), true) else x) := by
  rw [spec_NamedTriangle.l0]
  rw [if_pos (by omega), if_pos (by omega), r4]
  by_cases g : a0.toList = [101, 118, 101, 110]
  ·rw [if_pos g, if_pos g, Option.bind_some, if_pos (by decide), Option.bind_some, if_pos (by decide), show rd [0, 1, 2, 3, 4] 4 = 4 from rfl, show rd [0, 1, 0, 0, 0] 4 = 0 from rfl, m4 4 0, Option.bind_some]
  ·rw [if_neg g, if_neg g, show wrap64 ((4 : Int) + 1) = 5 from by unfold wrap64; omega]
   exact l5
 have l3 : spec_NamedTriangle.l0 (k + 3) a0 ns 3 = some (if a0.toList = [109, 111, 115, 116] then (triI (madeI 3 0), true) else if a0.toList = [101, 118, 101, 110] then (triI (madeI 4 0), true) else x) := by
  rw [spec_NamedTriangle.l0]
  rw [if_pos (by omega), if_pos (by omega), r3]
  by_cases g : a0.toList = [109, 111, 115, 116]
  ·rw [if_pos g, if_pos g, Option.bind_some, if_pos (by decide), Option.bind_some, if_pos (by decide), show rd [0, 1, 2, 3, 4] 3 = 3 from rfl, show rd [0, 1, 0, 0, 0] 3 = 0 from rfl, m3 3 0, Option.bind_some]
  ·rw [if_neg g, if_neg g, show wrap64 ((3 : Int) + 1) = 4 from by unfold wrap64; omega]
   exact l4
 have l2 : spec_NamedTriangle.l0 (k + 4) a0 ns 2 = some (if a0.toList = [110, 111] then (triI (madeI 2 0), true) else if a0.toList = [109, 111, 115, 116] then (triI (madeI 3 0), true) else if a0.toList = [101, 118, 101, 110] then (triI (madeI 4 0), true) else x) := by
  rw [spec_NamedTriangle.l0]
  rw [if_pos (by omega), if_pos (by omega), r2]
  by_cases g : a0.toList = [110, 111]
  ·rw [if_pos g, if_pos g, Option.bind_some, if_pos (by decide), Option.bind_some, if_pos (by decide), show rd [0, 1, 2, 3, 4] 2 = 2 from rfl, show rd [0, 1, 0, 0, 0] 2 = 0 from rfl, m2 2 0, Option.bind_some]
  ·rw [if_neg g, if_neg g, show wrap64 ((2 : Int) + 1) = 3 from by unfold wrap64; omega]
   exact l3
 have l1 : spec_NamedTriangle.l0 (k + 5) a0 ns 1 = some (if a0.toList = [115, 111, 109, 101] then (triI (madeI 1 1), true) else if a0.toList = [110, 111] then (triI (madeI 2 0), true) else if a0.toList = [109, 111, 115, 116] then (triI (madeI 3 0), true) else if a0.toList = [101, 118, 101, 110] then (triI (madeI 4 0), true) else x) := by
  rw [spec_NamedTriangle.l0]
  rw [if_pos (by omega), if_pos (by omega), r1]
  by_cases g : a0.toList = [115, 111, 109, 101]
  ·rw [if_pos g, if_pos g, Option.bind_some, if_pos (by decide), Option.bind_some, if_pos (by decide), show rd [0, 1, 2, 3, 4] 1 = 1 from rfl, show rd [0, 1, 0, 0, 0] 1 = 1 from rfl, m1 1 1, Option.bind_some]
  ·rw [if_neg g, if_neg g, show wrap64 ((1 : Int) + 1) = 2 from by unfold wrap64; omega]
   exact l2
 rw [spec_NamedTriangle.l0]
 rw [if_pos (by omega), if_pos (by omega), r0]
 by_cases g : a0.toList = [101, 118, 101, 114, 121]
 ·rw [if_pos g, if_pos g, Option.bind_some, if_pos (by decide), Option.bind_some, if_pos (by decide), show rd [0, 1, 2, 3, 4] 0 = 0 from rfl, show rd [0, 1, 0, 0, 0] 0 = 0 from rfl, m0 0 0, Option.bind_some]
 ·rw [if_neg g, if_neg g, show wrap64 ((0 : Int) + 1) = 1 from by unfold wrap64; omega]
  exact l1
theorem madeI_bit (r n a s : Int) : madeI r n a s = 0 ∨ madeI r n a s = 1 := by
 unfold madeI
 split
 ·exact .inr rfl
 ·exact .inl rfl
theorem specDig_form (L : List UInt8) : ∀ e i, (∃ r n, specDig L e i = (triI (madeI r n), true)) ∨ specDig L e i = ([], false)
 | 0, _ => .inr rfl
 | e + 1, i => by
  rw [specDig]
  split
  ·exact .inl ⟨_, _, rfl⟩
  ·split
   ·exact .inl ⟨_, _, rfl⟩
   ·split
    ·exact .inl ⟨_, _, rfl⟩
    ·exact specDig_form L e (i + 1)
theorem specNm_form (L : List UInt8) : (∃ r n, specNm L = (triI (madeI r n), true)) ∨ specNm L = ([], false) := by
 unfold specNm
 repeat' split
 all_goals first | exact .inl ⟨_, _, rfl⟩ | exact specDig_form L 6 0
theorem isTri_made (r n : Int) : isTri (triI (madeI r n)) = true := isTri_triI _ fun a s _ _ _ _ => madeI_bit r n a s
def l20N : List ByteArray := [(⟨#[101, 118, 101, 114, 121]⟩ : ByteArray), (⟨#[115, 111, 109, 101]⟩ : ByteArray), (⟨#[110, 111]⟩ : ByteArray), (⟨#[109, 111, 115, 116]⟩ : ByteArray), (⟨#[101, 118, 101, 110]⟩ : ByteArray), (⟨#[97, 116, 108, 101, 97, 115, 116, 50]⟩ : ByteArray), (⟨#[97, 116, 108, 101, 97, 115, 116, 51]⟩ : ByteArray), (⟨#[106, 117, 115, 116, 49]⟩ : ByteArray), (⟨#[106, 117, 115, 116, 50]⟩ : ByteArray), (⟨#[97, 108, 108, 98, 117, 116, 49]⟩ : ByteArray)]
theorem names_in (r : Int) (h0 : 0 ≤ r) (h1 : r < 10) : ∃ t, specNm (rdOf ByteArray.empty l20N r).toList = (t, true) ∧ isTri t = true := by
 have hf : ∀ i : Fin 10, (specNm (rdOf ByteArray.empty l20N (i.val : Int)).data.toList).2 = true := by decide +kernel
 have := hf ⟨r.toNat, by omega⟩
 simp only [] at this
 rw [show ((r.toNat : Nat) : Int) = r by omega, ← ByteArray.toList_eq] at this
 rcases specNm_form (rdOf ByteArray.empty l20N r).toList with ⟨a, b, e⟩ | e
 ·exact ⟨_, e, isTri_made a b⟩
 ·rw [e] at this
  exact absurd this Bool.false_ne_true
/- Plain facts on the drawing of arguments: the reader, one draw. -/
theorem wr (x : Int) (h0 : 0 ≤ x) (h1 : x < 4611686018427387904) : wrap64 x = x := by unfold wrap64; omega
theorem xor_pos (a b : Int) (h1 : 0 ≤ a) (h2 : a < 4611686018427387904) (h3 : 0 ≤ b) (h4 : b < 4611686018427387904) : 0 ≤ Go.bits .xor .i64 a b ∧ Go.bits .xor .i64 a b < 4611686018427387904 := by
 obtain ⟨x, rfl⟩ := Int.eq_ofNat_of_zero_le h1
 obtain ⟨y, rfl⟩ := Int.eq_ofNat_of_zero_le h3
 have hx : x ^^^ y < 2 ^ 62 := Nat.xor_lt_two_pow (by omega) (by omega)
 have e1 : (BitVec.ofInt 64 (x : Int)).toNat = x := by
  rw [BitVec.ofInt_natCast, BitVec.toNat_ofNat]; exact Nat.mod_eq_of_lt (by omega)
 have e2 : (BitVec.ofInt 64 (y : Int)).toNat = y := by
  rw [BitVec.ofInt_natCast, BitVec.toNat_ofNat]; exact Nat.mod_eq_of_lt (by omega)
 have h : Go.bits .xor .i64 (x : Int) (y : Int) = ((x ^^^ y : Nat) : Int) := by
  show IntKind.i64.wrap ((BitVec.ofInt 64 (x : Int) ^^^ BitVec.ofInt 64 (y : Int)).toNat : Int) = _
  rw [BitVec.toNat_xor, e1, e2]
  simp [IntKind.wrap, IntKind.bits, IntKind.signed]
  omega
 rw [h]
 omega
/-- What draws read from: bytes, not too many. -/
def Src (xs : List Int) : Prop := xs.length ≤ 2000 ∧ ∀ x ∈ xs, 0 ≤ x ∧ x ≤ 255
theorem Src.rd {xs : List Int} (h : Src xs) (i : Int) : 0 ≤ rd xs i ∧ rd xs i ≤ 255 := by
 unfold Go.Proofs.YtcongmckkjbhiaaW.PrintWords.rd
 rw [List.getD_eq_getElem?_getD]
 cases e : xs[i.toNat]? with
 | none => simp
 | some v => exact h.2 v (List.mem_of_getElem? e)
theorem src_open (l : List Int) (hw : ∀ x ∈ l, (Lit.int .u8 x).wf = true) : ∃ xs, spec_l20Open.f l = some (xs, 0) ∧ Src xs := by
 have hb : ∀ x ∈ l, 0 ≤ x ∧ x ≤ 255 := by
  intro x hx
  have h := hw x hx
  have h' : (decide (IntKind.u8.min ≤ x) && decide (x ≤ IntKind.u8.max)) = true := h
  rw [Bool.and_eq_true, decide_eq_true_eq, decide_eq_true_eq] at h'
  exact ⟨h'.1, h'.2⟩
 unfold spec_l20Open.f
 by_cases h : (l.length : Int) > 2000
 ·rw [if_pos h, if_pos (by omega)]
  exact ⟨_, rfl, by rw [List.length_take]; omega, fun x hx => hb x (List.mem_of_mem_take hx)⟩
 ·rw [if_neg h]
  exact ⟨_, rfl, by omega, hb⟩
theorem tmod_range (v n : Int) (hv : 0 ≤ v) (hn : 1 ≤ n) : 0 ≤ Int.tmod v n ∧ Int.tmod v n < n := by
 rw [Int.tmod_eq_emod_of_nonneg hv]
 exact ⟨Int.emod_nonneg _ (by omega), Int.emod_lt_of_pos _ (by omega)⟩
theorem pick_k (xs : List Int) (hs : Src xs) (c n : Int) (h0 : 0 ≤ c) (h1 : c ≤ 1000000) (k : Nat) (hk : 1 ≤ k) : ∃ r, spec_l20Rd_pick.f k xs c n = some (r, c + 1) ∧ 0 ≤ r ∧ (1 ≤ n → r < n) := by
 obtain ⟨k, rfl⟩ : ∃ m, k = m + 1 := ⟨k - 1, by omega⟩
 unfold spec_l20Rd_pick.f
 rw [wr (c + 1) (by omega) (by omega)]
 by_cases hn : n < 1
 ·rw [if_pos hn]
  simp only [spec_l20Rd_pick.j0]
  rw [if_pos trivial]
  exact ⟨0, rfl, by omega, fun h => by omega⟩
 ·rw [if_neg hn]
  simp only [spec_l20Rd_pick.j0]
  rw [show c + 1 - 1 = c by omega, wr c (by omega) (by omega)]
  by_cases hl : xs.length = 0
  ·rw [if_pos (by simp [hl])]
   exact ⟨0, rfl, by omega, fun h => by omega⟩
  ·rw [if_neg (by simp; intro h; exact hl (by rw [h]; rfl))]
   by_cases hc : c < (xs.length : Int)
   ·rw [if_pos hc, if_pos h0, if_neg (by omega)]
    have hb := hs.rd c
    rw [wr _ hb.1 (by omega)]
    have := tmod_range _ n hb.1 (by omega)
    exact ⟨_, rfl, this.1, fun _ => this.2⟩
   ·have hlen := hs.1
    have hL : (1 : Int) ≤ (xs.length : Int) := by omega
    have t1 := tmod_range c (xs.length : Int) h0 hL
    have w7 : wrap64 (wrap64 (c * 7) + 3) = c * 7 + 3 := by rw [wr (c * 7) (by omega) (by omega), wr _ (by omega) (by omega)]
    have t2 := tmod_range (c * 7 + 3) (xs.length : Int) (by omega) hL
    rw [w7, if_neg hc, if_neg (by omega), if_pos t1.1, if_pos t1.2, if_pos t2.1, if_pos t2.2, if_neg (by omega)]
    have b1 := hs.rd (Int.tmod c (xs.length : Int))
    have b2 := hs.rd (Int.tmod (c * 7 + 3) (xs.length : Int))
    have q0 : 0 ≤ Int.tdiv c (xs.length : Int) := Int.tdiv_nonneg h0 (by omega)
    have q1 : Int.tdiv c (xs.length : Int) ≤ c := by
     rw [Int.tdiv_eq_ediv_of_nonneg h0]
     exact Int.ediv_le_self _ h0
    obtain ⟨B1, e1⟩ : ∃ B, B = rd xs (Int.tmod c (xs.length : Int)) := ⟨_, rfl⟩
    obtain ⟨B2, e2⟩ : ∃ B, B = rd xs (Int.tmod (c * 7 + 3) (xs.length : Int)) := ⟨_, rfl⟩
    obtain ⟨Q, e3⟩ : ∃ B, B = Int.tdiv c (xs.length : Int) := ⟨_, rfl⟩
    rw [← e1] at b1 ⊢
    rw [← e2] at b2 ⊢
    rw [← e3] at q0 q1 ⊢
    rw [wr B1 (by omega) (by omega), wr B2 (by omega) (by omega), wr Q (by omega) (by omega), wr (B1 * 131) (by omega) (by omega), wr (B2 * 1117) (by omega) (by omega), wr (c * 29) (by omega) (by omega), wr (Q * 53) (by omega) (by omega), wr (B1 * 131 + B2 * 1117) (by omega) (by omega), wr (B1 * 131 + B2 * 1117 + c * 29) (by omega) (by omega), wr (B1 * 131 + B2 * 1117 + c * 29 + Q * 53) (by omega) (by omega)]
    obtain ⟨V, e4⟩ : ∃ V, V = B1 * 131 + B2 * 1117 + c * 29 + Q * 53 := ⟨_, rfl⟩
    rw [← e4]
    have hV : 0 ≤ V ∧ V < 4611686018427387904 := by omega
    have hd : Int.tdiv V 64 = V / 64 := Int.tdiv_eq_ediv_of_nonneg hV.1
    rw [hd, wr (V / 64) (by omega) (by omega)]
    have hx := xor_pos V (V / 64) hV.1 hV.2 (by omega) (by omega)
    have := tmod_range _ n hx.1 (by omega)
    exact ⟨_, rfl, this.1, fun _ => this.2⟩
theorem odd_k (xs : List Int) (hs : Src xs) (c n : Int) (h0 : 0 ≤ c) (h1 : c ≤ 1000000) (k : Nat) (hk : 1 ≤ k) : ∃ b c', spec_l20Rd_odd.f k xs c n = some (b, c') ∧ c ≤ c' ∧ c' ≤ c + 1 := by
 unfold spec_l20Rd_odd.f
 by_cases h : n > 0
 ·obtain ⟨r, e, _, _⟩ := pick_k xs hs c n h0 h1 k hk
  rw [if_pos h, e, Option.bind_some]
  exact ⟨_, _, rfl, by omega, by omega⟩
 ·rw [if_neg h]
  exact ⟨_, _, rfl, by omega, by omega⟩
/- Plain facts on the drawing of arguments: a drawn triangle; every draw ends, with a result of bounded size. -/
/- Plain facts on the drawing of triangles that are always good ones. -/
theorem tri0_j1 (xs : List Int) (l : List Int) (c : Int) (k : Nat) (hk : 1 ≤ k) : spec_l20Tri.j1 k 0 l xs c = some (l, c) := by
 obtain ⟨k, rfl⟩ : ∃ m, k = m + 1 := ⟨k - 1, by omega⟩
 simp only [spec_l20Tri.j1]
 unfold spec_l20Rd_odd.f
 rw [if_neg (by omega), Option.bind_some, if_neg Bool.false_ne_true]
theorem tri0_l0 (xs : List Int) (hs : Src xs) (d : Nat) : ∀ (k : Nat) (l : List Int) (i : Nat) (c : Int), i + d = 21 → l.length = i → (∀ x ∈ l, x = 0 ∨ x = 1) → 0 ≤ c → c + d ≤ 400000 → d + 10 ≤ k →
  ∃ r c', spec_l20Tri.l0 k 0 l (i : Int) xs c = some (r, c') ∧ c ≤ c' ∧ c' ≤ c + d ∧ isTri r = true := by
 induction d with
 | zero =>
  intro k l i c h hl hx h0 h1 hk
  obtain ⟨k, rfl⟩ : ∃ m, k = m + 1 := ⟨k - 1, by omega⟩
  simp only [spec_l20Tri.l0]
  rw [if_neg (by omega), tri0_j1 xs l c k (by omega)]
  exact ⟨_, _, rfl, by omega, by omega, isTri_of l (by omega) hx⟩
 | succ d ih =>
  intro k l i c h hl hx h0 h1 hk
  obtain ⟨k, rfl⟩ : ∃ m, k = m + 1 := ⟨k - 1, by omega⟩
  obtain ⟨r, e, p1, p2⟩ := pick_k xs hs c 2 h0 (by omega) k (by omega)
  have p3 := p2 (by omega)
  obtain ⟨r', c', e', g1, g2, g3⟩ := ih k (l ++ [r]) (i + 1) (c + 1) (by omega) (by rw [List.length_append, hl]; rfl) (by
   intro x hm
   rcases List.mem_append.mp hm with q | q
   ·exact hx x q
   ·have := List.mem_singleton.mp q
    omega) (by omega) (by omega) (by omega)
  simp only [spec_l20Tri.l0]
  rw [if_pos (by omega), e, Option.bind_some, if_pos (by omega), wrap_succ6 i (by omega), e']
  exact ⟨_, _, rfl, by omega, by omega, g3⟩
theorem l20Tri0_k (xs : List Int) (hs : Src xs) (c : Int) (h0 : 0 ≤ c) (h1 : c ≤ 300000) (k : Nat) (hk : 2097200 ≤ k) : ∃ l c', spec_l20Tri.f k xs c 0 = some (l, c') ∧ c ≤ c' ∧ c' ≤ c + 30 ∧ isTri l = true := by
 unfold spec_l20Tri.f
 obtain ⟨r1, e1, g1, g2⟩ := pick_k xs hs c 4 h0 (by omega) k (by omega)
 rw [e1, Option.bind_some]
 by_cases z : r1 = 0
 ·rw [if_pos z]
  obtain ⟨l, c', e, g3, g4, g5⟩ := tri0_l0 xs hs 21 k [] 0 (c + 1) (by omega) rfl (by simp) (by omega) (by omega) (by omega)
  exact ⟨l, c', e, by omega, by omega, g5⟩
 ·rw [if_neg z, show spec_l20Names.f = some l20N from rfl]
  obtain ⟨r2, e2, g3, g4⟩ := pick_k xs hs (c + 1) 10 (by omega) (by omega) k (by omega)
  obtain ⟨r3, e3, g5, g6⟩ := pick_k xs hs (c + 1 + 1) 10 (by omega) (by omega) k (by omega)
  obtain ⟨r4, e4, g7, g8⟩ := pick_k xs hs (c + 1 + 1 + 1) 7 (by omega) (by omega) k (by omega)
  obtain ⟨t, t1, t2⟩ := names_in r2 g3 (g4 (by omega))
  obtain ⟨u, u1, u2⟩ := names_in r3 g5 (g6 (by omega))
  have i2 : r2 < (l20N.length : Int) := g4 (by omega)
  have i3 : r3 < (l20N.length : Int) := g6 (by omega)
  rw [Option.bind_some, e2, Option.bind_some, if_pos g3, if_pos i2, spec_NamedTriangle_k _ k (by omega), t1, Option.bind_some, Option.bind_some, e3, Option.bind_some, if_pos g5, if_pos i3, spec_NamedTriangle_k _ k (by omega), u1, Option.bind_some, e4, Option.bind_some]
  have ht := isTri_length t2
  have hu := isTri_length u2
  have fin : ∀ l : List Int, isTri l = true → ∃ r c', spec_l20Tri.j1 k 0 l xs (c + 1 + 1 + 1 + 1) = some (r, c') ∧ c ≤ c' ∧ c' ≤ c + 30 ∧ isTri r = true := by
   intro l h
   exact ⟨l, _, tri0_j1 xs l _ k (by omega), by omega, by omega, h⟩
  by_cases z0 : r4 = 0
  ·rw [if_pos z0, spec_NotOf_k t (by omega) k (by omega), Option.bind_some]
   exact fin _ (isTri_notP t t2)
  ·rw [if_neg z0]
   by_cases z1 : r4 = 1
   ·rw [if_pos z1, spec_InsideNot_k t (by omega) k (by omega), Option.bind_some]
    exact fin _ (isTri_insP t t2)
   ·rw [if_neg z1]
    by_cases z2 : r4 = 2
    ·rw [if_pos z2, spec_BothOf_k t u (by omega) (by omega) k (by omega), Option.bind_some]
     exact fin _ (isTri_bothP t u t2 u2)
    ·rw [if_neg z2]
     by_cases z3 : r4 = 3
     ·rw [if_pos z3, spec_EitherOf_k t u (by omega) (by omega) k (by omega), Option.bind_some]
      exact fin _ (isTri_eitherP t u t2 u2)
     ·rw [if_neg z3]
      exact fin t t2
/- Plain facts on the drawing of relations: every draw ends, with a result of bounded size. -/
theorem rfP_len (t : Int) (l : List Int) (h1 : 0 ≤ t) (h2 : t ≤ 3) (h : isTri l = true) : 1 ≤ (rfP t l).length ∧ (rfP t l).length ≤ 64 := by
 unfold rfP
 rw [if_pos (by rw [h, decide_eq_true (show 0 ≤ t ∧ t ≤ 3 from ⟨h1, h2⟩)]; rfl), rowsB_length]
 rcases three t h1 h2 with rfl | rfl | rfl | rfl <;> decide
theorem rel_j3 (xs : List Int) (hs : Src xs) (n t : Int) (l : List Int) (hl : 1 ≤ l.length) (hl2 : l.length ≤ 64) (c : Int) (h0 : 0 ≤ c) (h1 : c ≤ 500000) (k : Nat) (hk : 2 ≤ k) : ∃ r c', spec_l20Relation.j3 k n t l xs c = some (t, r, c') ∧ c ≤ c' ∧ c' ≤ c + 2 ∧ r.length ≤ 65 := by
 obtain ⟨k, rfl⟩ : ∃ m, k = m + 1 := ⟨k - 1, by omega⟩
 obtain ⟨b, c1, e1, g1, g2⟩ := odd_k xs hs c n h0 (by omega) k (by omega)
 simp only [spec_l20Relation.j3]
 rw [e1, Option.bind_some]
 cases b with
 | false =>
  rw [if_neg Bool.false_ne_true]
  exact ⟨_, _, rfl, by omega, by omega, by omega⟩
 | true =>
  obtain ⟨r, e2, g3, g4⟩ := pick_k xs hs c1 2 (by omega) (by omega) k (by omega)
  rw [if_pos rfl, e2, Option.bind_some]
  by_cases k1 : r = 0
  ·rw [if_pos k1, if_pos (by omega)]
   exact ⟨_, _, rfl, by omega, by omega, by rw [List.length_append]; simp; omega⟩
  ·rw [if_neg k1, if_pos (by omega)]
   exact ⟨_, _, rfl, by omega, by omega, by rw [List.length_set]; omega⟩
theorem rel_l0 (xs : List Int) (hs : Src xs) (n t : Int) (L : Nat) (hL : 1 ≤ L) (hL2 : L ≤ 64) (d : Nat) : ∀ (k : Nat) (l : List Int) (i : Nat) (c : Int), i + d = L → l.length = L → 0 ≤ c → c + d ≤ 400000 → d + 10 ≤ k →
  ∃ r c', spec_l20Relation.l0 k n t l (i : Int) xs c = some (t, r, c') ∧ c ≤ c' ∧ c' ≤ c + d + 2 ∧ r.length ≤ 65 := by
 induction d with
 | zero =>
  intro k l i c h hl h0 h1 hk
  obtain ⟨k, rfl⟩ : ∃ m, k = m + 1 := ⟨k - 1, by omega⟩
  obtain ⟨r, c', e, g1, g2, g3⟩ := rel_j3 xs hs n t l (by omega) (by omega) c h0 (by omega) k (by omega)
  simp only [spec_l20Relation.l0]
  rw [if_neg (by omega), e]
  exact ⟨_, _, rfl, by omega, by omega, g3⟩
 | succ d ih =>
  intro k l i c h hl h0 h1 hk
  obtain ⟨k, rfl⟩ : ∃ m, k = m + 1 := ⟨k - 1, by omega⟩
  obtain ⟨r, e, _, _⟩ := pick_k xs hs c 2 h0 (by omega) k (by omega)
  obtain ⟨r', c', e', g1, g2, g3⟩ := ih k (l.set (i : Int).toNat r) (i + 1) (c + 1) (by omega) (by rw [List.length_set, hl]) (by omega) (by omega) (by omega)
  simp only [spec_l20Relation.l0]
  rw [if_pos (by omega), e, Option.bind_some, if_pos (by omega), wrap_succ6 i (by omega), e']
  exact ⟨_, _, rfl, by omega, by omega, g3⟩
theorem rel_l2 (xs : List Int) (n t : Int) (ht : 0 ≤ t) (B : Nat) (hB : shl .i64 1 t = (B : Int)) (hB8 : B ≤ 8) (a s : Nat) (ha : a < 8) (hs : s ≤ 64) (c : Int) (d : Nat) : ∀ (m b : Nat) (l : List Int), b + d = B → l.length = s + b → 20 ≤ m →
  ∃ r, spec_l20Relation.l2 (m + d + 1) n t l (a : Int) (b : Int) xs c = spec_l20Relation.l1 m n t r ((a + 1 : Nat) : Int) xs c ∧ r.length = s + B := by
 induction d with
 | zero =>
  intro m b l h hl hm
  refine ⟨l, ?_, by omega⟩
  obtain ⟨M, hM⟩ : ∃ M, M = m + 0 := ⟨_, rfl⟩
  rw [← hM, show m = M from by omega]
  simp only [spec_l20Relation.l2]
  rw [if_pos ht, hB, if_neg (by omega), wrap_succ6 a (by omega)]
 | succ d ih =>
  intro m b l h hl hm
  obtain ⟨M, hM⟩ : ∃ M, M = m + d + 1 := ⟨_, rfl⟩
  rw [show m + (d + 1) + 1 = M + 1 from by omega]
  obtain ⟨r, e, g⟩ := ih m (b + 1) (l ++ [Int.tmod (wrap64 (szI (a : Int) + szI (b : Int))) 2]) (by omega) (by rw [List.length_append, hl]; rfl) hm
  refine ⟨r, ?_, g⟩
  rw [← e, ← hM]
  simp only [spec_l20Relation.l2]
  rw [if_pos ht, hB, if_pos (by omega), l2Size_k (a : Int) (by omega) (by omega) M (by omega), Option.bind_some, l2Size_k (b : Int) (by omega) (by omega) M (by omega), Option.bind_some, if_pos (by omega), wrap_succ6 b (by omega)]
theorem rel_l1 (xs : List Int) (hsrc : Src xs) (n t : Int) (ht : 0 ≤ t) (B : Nat) (hB : shl .i64 1 t = (B : Int)) (hB1 : 1 ≤ B) (hB8 : B ≤ 8) (c : Int) (h0 : 0 ≤ c) (h1 : c ≤ 400000) (e : Nat) : ∀ (k a : Nat) (l : List Int), a + e = B → a ≤ l.length → l.length ≤ 8 * a → 20 * e + 50 ≤ k →
  ∃ r c', spec_l20Relation.l1 k n t l (a : Int) xs c = some (t, r, c') ∧ c ≤ c' ∧ c' ≤ c + 2 ∧ r.length ≤ 65 := by
 induction e with
 | zero =>
  intro k a l h g1 g2 hk
  obtain ⟨k, rfl⟩ : ∃ m, k = m + 1 := ⟨k - 1, by omega⟩
  simp only [spec_l20Relation.l1]
  rw [if_pos ht, hB, if_neg (by omega)]
  exact rel_j3 xs hsrc n t l (by omega) (by omega) c h0 (by omega) k (by omega)
 | succ e ih =>
  intro k a l h g1 g2 hk
  obtain ⟨k, rfl⟩ : ∃ m, k = m + B + 1 + 1 := ⟨k - (B + 2), by omega⟩
  obtain ⟨r, er, hr⟩ := rel_l2 xs n t ht B hB hB8 a l.length (by omega) (by omega) c B k 0 l (by omega) (by omega) (by omega)
  obtain ⟨r', c', er', q⟩ := ih k (a + 1) r (by omega) (by omega) (by omega) (by omega)
  refine ⟨r', c', ?_, q⟩
  simp only [spec_l20Relation.l1]
  rw [if_pos ht, hB, if_pos (by omega)]
  refine Eq.trans er er'
theorem l20Relation_k (xs : List Int) (hs : Src xs) (c n : Int) (h0 : 0 ≤ c) (h1 : c ≤ 200000) (k : Nat) (hk : 2097200 ≤ k) : ∃ t l c', spec_l20Relation.f k xs c n = some (t, l, c') ∧ 0 ≤ t ∧ t ≤ 3 ∧ l.length ≤ 65 ∧ c ≤ c' ∧ c' ≤ c + 200 := by
 unfold spec_l20Relation.f
 obtain ⟨t, e1, g1, g2⟩ := pick_k xs hs c 4 h0 (by omega) k (by omega)
 have g2' : t ≤ 3 := by have := g2 (by omega); omega
 obtain ⟨u, c2, e2, g3, g4, hu⟩ := l20Tri0_k xs hs (c + 1) (by omega) (by omega) k hk
 have hul := isTri_length hu
 obtain ⟨q1, q2⟩ := rfP_len t u g1 g2' hu
 obtain ⟨r, e3, g5, g6⟩ := pick_k xs hs c2 5 (by omega) (by omega) k (by omega)
 rw [e1, Option.bind_some, e2, Option.bind_some, spec_RelationFrom_k t u (by omega) k (by omega), Option.bind_some, e3, Option.bind_some]
 obtain ⟨R, hR⟩ : ∃ R, R = rfP t u := ⟨_, rfl⟩
 rw [← hR] at q1 q2 ⊢
 by_cases z0 : r = 0
 ·obtain ⟨i, e4, g7, g8⟩ := pick_k xs hs (c2 + 1) (R.length : Int) (by omega) (by omega) k (by omega)
  obtain ⟨v, e5, _, _⟩ := pick_k xs hs (c2 + 1 + 1) 2 (by omega) (by omega) k (by omega)
  obtain ⟨w, c', e6, g9, g10, g11⟩ := rel_j3 xs hs n t (R.set (i : Int).toNat v) (by rw [List.length_set]; exact q1) (by rw [List.length_set]; exact q2) (c2 + 1 + 1 + 1) (by omega) (by omega) k (by omega)
  rw [if_pos z0, e4, Option.bind_some, e5, Option.bind_some, if_pos g7, if_pos (g8 (by omega)), e6]
  exact ⟨_, _, _, rfl, g1, g2', g11, by omega, by omega⟩
 ·rw [if_neg z0]
  by_cases z1 : r = 1
  ·obtain ⟨w, c', e6, g9, g10, g11⟩ := rel_l0 xs hs n t R.length q1 q2 R.length k R 0 (c2 + 1) (by omega) rfl (by omega) (by omega) (by omega)
   rw [if_pos z1, show spec_l20Relation.l0 k n t R 0 xs (c2 + 1) = some (t, w, c') from e6]
   exact ⟨_, _, _, rfl, g1, g2', g11, by omega, by omega⟩
  ·rw [if_neg z1]
   by_cases z2 : r = 2
   ·obtain ⟨b1, b2⟩ := two_nat t g1 g2'
    obtain ⟨w, c', e6, g9, g10, g11⟩ := rel_l1 xs hs n t g1 (2 ^ t.toNat) b1 (Nat.one_le_two_pow) b2 (c2 + 1) (by omega) (by omega) (2 ^ t.toNat) k 0 [] (by omega) (by simp) (by simp) (by omega)
    rw [if_pos z2, show spec_l20Relation.l1 k n t [] 0 xs (c2 + 1) = some (t, w, c') from e6]
    exact ⟨_, _, _, rfl, g1, g2', g11, by omega, by omega⟩
   ·obtain ⟨w, c', e6, g9, g10, g11⟩ := rel_j3 xs hs n t R q1 q2 (c2 + 1) (by omega) (by omega) k (by omega)
    rw [if_neg z2, e6]
    exact ⟨_, _, _, rfl, g1, g2', g11, by omega, by omega⟩
/- Plain facts: what the program's PlaceOf comes to. No condition beyond those typed. -/
theorem impl_PlaceOf_eq (a s : Int) : impl_PlaceOf.f a s = some (plOr a s) := by
 unfold impl_PlaceOf.f plOr impl_placeOf.f
 by_cases h1 : a < 0
 ·rw [if_pos h1, if_neg (by omega)]
 ·by_cases h2 : a > 5
  ·rw [if_neg h1, if_pos h2, if_neg (by omega)]
  ·by_cases h3 : s < 0
   ·rw [if_neg h1, if_neg h2, if_pos h3, if_neg (by omega)]
   ·by_cases h4 : s > a
    ·rw [if_neg h1, if_neg h2, if_neg h3, if_pos h4, if_neg (by omega)]
    ·rw [if_neg h1, if_neg h2, if_neg h3, if_neg h4, Option.bind_some, pl_wrap a s (by omega) (by omega) (by omega) (by omega), if_pos (by omega)]
/- Plain facts on the law's last word and the sameness of rows. -/
theorem alive_eq : laws_alive.f = some true := by
 unfold laws_alive.f
 rw [impl_PlaceOf_eq, Option.bind_some, show plOr 0 0 = 0 by decide, if_pos rfl, impl_PlaceOf_eq, Option.bind_some, show plOr 0 1 = -1 by decide]
 rfl
theorem same_round (l : List Int) (hl : l.length ≤ 1048576) (d : Nat) : ∀ (k i : Nat), i + d = l.length → d < k → laws_sameInts.l0 k l l (i : Int) = some true := by
 induction d with
 | zero =>
  intro k i h hk
  obtain ⟨k, rfl⟩ : ∃ m, k = m + 1 := ⟨k - 1, by omega⟩
  simp only [laws_sameInts.l0]
  rw [if_neg (by omega)]
 | succ d ih =>
  intro k i h hk
  obtain ⟨k, rfl⟩ : ∃ m, k = m + 1 := ⟨k - 1, by omega⟩
  simp only [laws_sameInts.l0]
  rw [if_pos (by omega), if_pos (by omega), if_pos (by omega), if_pos trivial, wrap_succ i l.length (by omega) hl]
  exact ih k (i + 1) (by omega) (by omega)
theorem same_k (l : List Int) (hl : l.length ≤ 1048576) (k : Nat) (hk : 1048576 < k) : laws_sameInts.f k l l = some true := by
 unfold laws_sameInts.f
 rw [if_pos rfl]
 exact same_round l hl l.length k 0 (by omega) (by omega)
end Go.Proofs.Ytcongmckkjbhiaa.P
/- Smaller worlds have smaller relations: the pure statement of the law FnWithoutLast. No condition. -/
namespace Go.Proofs.Ytcongmckkjbhiaa.Pure
open Go.RowKit Go.Proofs.Ytcongmckkjbhiaa.P Go.Proofs.YtcongmckkjbhiaaW.PrintWords Go.Proofs.YtcongmckkjbhiaaW.PrintLast
theorem drawWithoutLast (l : List Int) (hw : ∀ x ∈ l, (Lit.int .u8 x).wf = true) (k : Nat) (hk : 2097200 ≤ k) : ∃ t r, spec_DrawWithoutLast.f k l = some (t, r) ∧ 0 ≤ t ∧ t ≤ 3 ∧ r.length ≤ 65 := by
 obtain ⟨xs, eo, hs⟩ := src_open l hw
 obtain ⟨t, r, c, e, h1, h2, h3, _, _⟩ := l20Relation_k xs hs 0 12 (by omega) (by omega) k hk
 unfold spec_DrawWithoutLast.f
 rw [eo, Option.bind_some, e]
 exact ⟨t, r, rfl, h1, h2, h3⟩
theorem wo_inside (t : Int) (l : List Int) (h : isRel t l = true) (h1 : 1 ≤ t) (g : insideP t l = true) : insideP (t - 1) (woP t l) = true := by
 obtain ⟨t0, t3, _⟩ := isRel_range h
 have hp := pw_half t h1 t3
 unfold insideP at g ⊢
 rw [Bool.and_eq_true, forAllP_iff] at g ⊢
 refine ⟨woP_rel t l h h1, fun a b a0 a1 b0 b1 => ?_⟩
 have := g.2 a b a0 (by omega) b0 (by omega)
 obtain ⟨c0, c1⟩ := and_range (t - 1) a b (by omega) (by omega) a0 a1 b0 b1
 unfold impl_LooksInside.so at this ⊢
 rw [woP_hr t l h h1 a b a0 a1 b0 b1, woP_hr t l h h1 a _ a0 a1 c0 c1]
 exact this
theorem wo_knows (t : Int) (l : List Int) (h : isRel t l = true) (h1 : 1 ≤ t) (g : kntAllP t l = true) : kntAllP (t - 1) (woP t l) = true := by
 obtain ⟨t0, t3, _⟩ := isRel_range h
 have hp := pw_half t h1 t3
 unfold kntAllP at g ⊢
 rw [Bool.and_eq_true, forAllP_iff] at g ⊢
 refine ⟨woP_rel t l h h1, fun a b a0 a1 b0 b1 => ?_⟩
 have := g.2 a b a0 (by omega) b0 (by omega)
 unfold impl_KnowsNoThing.so at this ⊢
 refine kntP_true _ _ _ _ fun i k hi hk => ?_
 simp only [kntP, List.all_eq_true, List.mem_range] at this
 have q := this i (by omega) k hk
 have x1 := exch_here (t - 1) a i k (by omega) (by omega) a0 a1 (by omega) (by omega) (by omega)
 have x2 := exch_here (t - 1) b i k (by omega) (by omega) b0 b1 (by omega) (by omega) (by omega)
 unfold kntAt at q ⊢
 rw [woP_hr t l h h1 a b a0 a1 b0 b1, woP_hr t l h h1 _ _ x1.2.1 x1.2.2 x2.2.1 x2.2.2]
 exact q
theorem FnWithoutLast : laws_FnWithoutLast.Pure := by
 intro l _ _ hw
 obtain ⟨K, hK⟩ : ∃ K, K = 2107300 := ⟨_, rfl⟩
 refine ⟨K + 1, ?_⟩
 unfold laws_FnWithoutLast.f
 by_cases hl : (l.length : Int) > 1048576
 ·rw [if_pos hl]
 ·obtain ⟨t, r, et, t0, t3, hr⟩ := drawWithoutLast l hw (K + 1) (by omega)
  have n1 := woP_length t r
  rw [if_neg hl, et, Option.bind_some, impl_WithoutLast_k t r (by omega) (K + 1) (by omega), Option.bind_some, spec_WithoutLast_k t r (by omega) (K + 1) (by omega), Option.bind_some, same_k _ (by omega) (K + 1) (by omega), Option.bind_some, if_pos rfl, alive_eq]
  have wt : wrap64 (t - 1) = t - 1 := by unfold wrap64; omega
  by_cases g : isRel t r = true ∧ 1 ≤ t
  ·obtain ⟨h, h1⟩ := g
   have hw := woP_rel t r h h1
   have hlen := (isRel_range hw).2.2
   have hne : ¬ ((woP t r).length : Int) = 0 := by
    rw [hlen]
    have : 0 < 4 ^ (t - 1).toNat := Nat.pow_pos (by decide)
    omega
   rw [if_neg hne, wt, impl_RelationOk_k (t - 1) (woP t r) (by omega) (K + 1) (by omega), Option.bind_some, if_pos hw, impl_LooksInside_k t r (by omega) (K + 1) (by omega), Option.bind_some, impl_LooksInside_k (t - 1) (woP t r) (by omega) (K + 1) (by omega), Option.bind_some, impl_KnowsNoThing_k t r (by omega) (K + 1) (by omega), Option.bind_some, impl_KnowsNoThing_k (t - 1) (woP t r) (by omega) (K + 1) (by omega), Option.bind_some]
   have kn : (if kntAllP t r = true then some (kntAllP (t - 1) (woP t r)) else some true) = some true := by
    by_cases g2 : kntAllP t r = true
    ·rw [if_pos g2, wo_knows t r h h1 g2]
    ·rw [if_neg g2]
   by_cases g1 : insideP t r = true
   ·rw [if_pos g1, if_pos (wo_inside t r h h1 g1)]
    exact kn
   ·rw [if_neg g1]
    exact kn
  ·have : woP t r = [] := by
    unfold woP
    rw [if_neg (fun e => g (by simpa using e))]
   rw [this, if_pos (by rfl)]
   rfl
end Go.Proofs.Ytcongmckkjbhiaa.Pure
