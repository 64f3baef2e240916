-- Texts of this claim, laid one behind the other by wip/gen/merge.py.
import Derived.Test.YtcongmckkjbhiaaZFnLooksInside14
import Derived.Test.YtcongmckkjbhiaaZFnLooksInside10
import Derived.Test.YtcongmckkjbhiaaZFnLooksInside0
import Derived.Test.YtcongmckkjbhiaaZFnLooksInside11
import Derived.Test.YtcongmckkjbhiaaZFnLooksInside13
import Derived.Test.YtcongmckkjbhiaaZFnLooksInside1
import Derived.Test.YtcongmckkjbhiaaZFnLooksInside12
/- Plain facts on the drawing of relations: every draw ends, with a result of bounded size. -/
namespace Go.Proofs.Ytcongmckkjbhiaa.P
open Go.RowKit Go.Proofs.YtcongmckkjbhiaaW.PrintWords Go.Proofs.YtcongmckkjbhiaaW.PrintLast
theorem rfP_len (t : Int) (l : List Int) (h1 : 0 ≤ t) (h2 : t ≤ 3) (h : isTri l = true) : 1 ≤ (rfP t l).length ∧ (rfP t l).length ≤ 64 := by
 unfold rfP
 rw [if_pos (by rw [h, decide_eq_true (show 0 ≤ t ∧ t ≤ 3 from ⟨h1, h2⟩)]; rfl), rowsB_length]
 rcases three t h1 h2 with rfl | rfl | rfl | rfl <;> decide
theorem rel_j3 (xs : List Int) (hs : Src xs) (n t : Int) (l : List Int) (hl : 1 ≤ l.length) (hl2 : l.length ≤ 64) (c : Int) (h0 : 0 ≤ c) (h1 : c ≤ 500000) (k : Nat) (hk : 2 ≤ k) : ∃ r c', spec_l20Relation.j3 k n t l xs c = some (t, r, c') ∧ c ≤ c' ∧ c' ≤ c + 2 ∧ r.length ≤ 65 := by
 obtain ⟨k, rfl⟩ : ∃ m, k = m + 1 := ⟨k - 1, by omega⟩
 obtain ⟨b, c1, e1, g1, g2⟩ := odd_k xs hs c n h0 (by omega) k (by omega)
 simp only [spec_l20Relation.j3]
 rw [e1, Option.bind_some]
 cases b with
 | false =>
  rw [if_neg Bool.false_ne_true]
  exact ⟨_, _, rfl, by omega, by omega, by omega⟩
 | true =>
  obtain ⟨r, e2, g3, g4⟩ := pick_k xs hs c1 2 (by omega) (by omega) k (by omega)
  rw [if_pos rfl, e2, Option.bind_some]
  by_cases k1 : r = 0
  ·rw [if_pos k1, if_pos (by omega)]
   exact ⟨_, _, rfl, by omega, by omega, by rw [List.length_append]; simp; omega⟩
  ·rw [if_neg k1, if_pos (by omega)]
   exact ⟨_, _, rfl, by omega, by omega, by rw [List.length_set]; omega⟩
theorem rel_l0 (xs : List Int) (hs : Src xs) (n t : Int) (L : Nat) (hL : 1 ≤ L) (hL2 : L ≤ 64) (d : Nat) : ∀ (k : Nat) (l : List Int) (i : Nat) (c : Int), i + d = L → l.length = L → 0 ≤ c → c + d ≤ 400000 → d + 10 ≤ k →
  ∃ r c', spec_l20Relation.l0 k n t l (i : Int) xs c = some (t, r, c') ∧ c ≤ c' ∧ c' ≤ c + d + 2 ∧ r.length ≤ 65 := by
 induction d with
 | zero =>
  intro k l i c h hl h0 h1 hk
  obtain ⟨k, rfl⟩ : ∃ m, k = m + 1 := ⟨k - 1, by omega⟩
  obtain ⟨r, c', e, g1, g2, g3⟩ := rel_j3 xs hs n t l (by omega) (by omega) c h0 (by omega) k (by omega)
  simp only [spec_l20Relation.l0]
  rw [if_neg (by omega), e]
  exact ⟨_, _, rfl, by omega, by omega, g3⟩
 | succ d ih =>
  intro k l i c h hl h0 h1 hk
  obtain ⟨k, rfl⟩ : ∃ m, k = m + 1 := ⟨k - 1, by omega⟩
  obtain ⟨r, e, _, _⟩ := pick_k xs hs c 2 h0 (by omega) k (by omega)
  obtain ⟨r', c', e', g1, g2, g3⟩ := ih k (l.set (i : Int).toNat r) (i + 1) (c + 1) (by omega) (by rw [List.length_set, hl]) (by omega) (by omega) (by omega)
  simp only [spec_l20Relation.l0]
  rw [if_pos (by omega), e, Option.bind_some, if_pos (by omega), wrap_succ6 i (by omega), e']
  exact ⟨_, _, rfl, by omega, by omega, g3⟩
theorem rel_l2 (xs : List Int) (n t : Int) (ht : 0 ≤ t) (B : Nat) (hB : shl .i64 1 t = (B : Int)) (hB8 : B ≤ 8) (a s : Nat) (ha : a < 8) (hs : s ≤ 64) (c : Int) (d : Nat) : ∀ (m b : Nat) (l : List Int), b + d = B → l.length = s + b → 20 ≤ m →
  ∃ r, spec_l20Relation.l2 (m + d + 1) n t l (a : Int) (b : Int) xs c = spec_l20Relation.l1 m n t r ((a + 1 : Nat) : Int) xs c ∧ r.length = s + B := by
 induction d with
 | zero =>
  intro m b l h hl hm
  refine ⟨l, ?_, by omega⟩
  obtain ⟨M, hM⟩ : ∃ M, M = m + 0 := ⟨_, rfl⟩
  rw [← hM, show m = M from by omega]
  simp only [spec_l20Relation.l2]
  rw [if_pos ht, hB, if_neg (by omega), wrap_succ6 a (by omega)]
 | succ d ih =>
  intro m b l h hl hm
  obtain ⟨M, hM⟩ : ∃ M, M = m + d + 1 := ⟨_, rfl⟩
  rw [show m + (d + 1) + 1 = M + 1 from by omega]
  obtain ⟨r, e, g⟩ := ih m (b + 1) (l ++ [Int.tmod (wrap64 (szI (a : Int) + szI (b : Int))) 2]) (by omega) (by rw [List.length_append, hl]; rfl) hm
  refine ⟨r, ?_, g⟩
  rw [← e, ← hM]
  simp only [spec_l20Relation.l2]
  rw [if_pos ht, hB, if_pos (by omega), l2Size_k (a : Int) (by omega) (by omega) M (by omega), Option.bind_some, l2Size_k (b : Int) (by omega) (by omega) M (by omega), Option.bind_some, if_pos (by omega), wrap_succ6 b (by omega)]
theorem rel_l1 (xs : List Int) (hsrc : Src xs) (n t : Int) (ht : 0 ≤ t) (B : Nat) (hB : shl .i64 1 t = (B : Int)) (hB1 : 1 ≤ B) (hB8 : B ≤ 8) (c : Int) (h0 : 0 ≤ c) (h1 : c ≤ 400000) (e : Nat) : ∀ (k a : Nat) (l : List Int), a + e = B → a ≤ l.length → l.length ≤ 8 * a → 20 * e + 50 ≤ k →
  ∃ r c', spec_l20Relation.l1 k n t l (a : Int) xs c = some (t, r, c') ∧ c ≤ c' ∧ c' ≤ c + 2 ∧ r.length ≤ 65 := by
 induction e with
 | zero =>
  intro k a l h g1 g2 hk
  obtain ⟨k, rfl⟩ : ∃ m, k = m + 1 := ⟨k - 1, by omega⟩
  simp only [spec_l20Relation.l1]
  rw [if_pos ht, hB, if_neg (by omega)]
  exact rel_j3 xs hsrc n t l (by omega) (by omega) c h0 (by omega) k (by omega)
 | succ e ih =>
  intro k a l h g1 g2 hk
  obtain ⟨k, rfl⟩ : ∃ m, k = m + B + 1 + 1 := ⟨k - (B + 2), by omega⟩
  obtain ⟨r, er, hr⟩ := rel_l2 xs n t ht B hB hB8 a l.length (by omega) (by omega) c B k 0 l (by omega) (by omega) (by omega)
  obtain ⟨r', c', er', q⟩ := ih k (a + 1) r (by omega) (by omega) (by omega) (by omega)
  refine ⟨r', c', ?_, q⟩
  simp only [spec_l20Relation.l1]
  rw [if_pos ht, hB, if_pos (by omega)]
  refine Eq.trans er er'
theorem l20Relation_k (xs : List Int) (hs : Src xs) (c n : Int) (h0 : 0 ≤ c) (h1 : c ≤ 200000) (k : Nat) (hk : 2097200 ≤ k) : ∃ t l c', spec_l20Relation.f k xs c n = some (t, l, c') ∧ 0 ≤ t ∧ t ≤ 3 ∧ l.length ≤ 65 ∧ c ≤ c' ∧ c' ≤ c + 200 := by
 unfold spec_l20Relation.f
 obtain ⟨t, e1, g1, g2⟩ := pick_k xs hs c 4 h0 (by omega) k (by omega)
 have g2' : t ≤ 3 := by have := g2 (by omega); omega
 obtain ⟨u, c2, e2, g3, g4, hu⟩ := l20Tri0_k xs hs (c + 1) (by omega) (by omega) k hk
 have hul := isTri_length hu
 obtain ⟨q1, q2⟩ := rfP_len t u g1 g2' hu
 obtain ⟨r, e3, g5, g6⟩ := pick_k xs hs c2 5 (by omega) (by omega) k (by omega)
 rw [e1, Option.bind_some, e2, Option.bind_some, spec_RelationFrom_k t u (by omega) k (by omega), Option.bind_some, e3, Option.bind_some]
 obtain ⟨R, hR⟩ : ∃ R, R = rfP t u := ⟨_, rfl⟩
 rw [← hR] at q1 q2 ⊢
 by_cases z0 : r = 0
 ·obtain ⟨i, e4, g7, g8⟩ := pick_k xs hs (c2 + 1) (R.length : Int) (by omega) (by omega) k (by omega)
  obtain ⟨v, e5, _, _⟩ := pick_k xs hs (c2 + 1 + 1) 2 (by omega) (by omega) k (by omega)
  obtain ⟨w, c', e6, g9, g10, g11⟩ := rel_j3 xs hs n t (R.set (i : Int).toNat v) (by rw [List.length_set]; exact q1) (by rw [List.length_set]; exact q2) (c2 + 1 + 1 + 1) (by omega) (by omega) k (by omega)
  rw [if_pos z0, e4, Option.bind_some, e5, Option.bind_some, if_pos g7, if_pos (g8 (by omega)), e6]
  exact ⟨_, _, _, rfl, g1, g2', g11, by omega, by omega⟩
 ·rw [if_neg z0]
  by_cases z1 : r = 1
  ·obtain ⟨w, c', e6, g9, g10, g11⟩ := rel_l0 xs hs n t R.length q1 q2 R.length k R 0 (c2 + 1) (by omega) rfl (by omega) (by omega) (by omega)
   rw [if_pos z1, show spec_l20Relation.l0 k n t R 0 xs (c2 + 1) = some (t, w, c') from e6]
   exact ⟨_, _, _, rfl, g1, g2', g11, by omega, by omega⟩
  ·rw [if_neg z1]
   by_cases z2 : r = 2
   ·obtain ⟨b1, b2⟩ := two_nat t g1 g2'
    obtain ⟨w, c', e6, g9, g10, g11⟩ := rel_l1 xs hs n t g1 (2 ^ t.toNat) b1 (Nat.one_le_two_pow) b2 (c2 + 1) (by omega) (by omega) (2 ^ t.toNat) k 0 [] (by omega) (by simp) (by simp) (by omega)
    rw [if_pos z2, show spec_l20Relation.l1 k n t [] 0 xs (c2 + 1) = some (t, w, c') from e6]
    exact ⟨_, _, _, rfl, g1, g2', g11, by omega, by omega⟩
   ·obtain ⟨w, c', e6, g9, g10, g11⟩ := rel_j3 xs hs n t R q1 q2 (c2 + 1) (by omega) (by omega) k (by omega)
    rw [if_neg z2, e6]
    exact ⟨_, _, _, rfl, g1, g2', g11, by omega, by omega⟩
end Go.Proofs.Ytcongmckkjbhiaa.P
namespace Go.Proofs.Ytcongmckkjbhiaa.P
open Go.RowKit Go.Proofs.YtcongmckkjbhiaaW.PrintWords Go.Proofs.YtcongmckkjbhiaaW.PrintLast Go.Proofs.YtcongmckkjbhiaaW.PrintMore
attribute [local go_sem] max2_int min2_int max_two min_two max_three min_three max_four min_four
set_option linter.unusedVariables false
set_option linter.unusedSimpArgs false
/-! ### laws_sizeOf: function 33 -/
def laws_sizeOf.l0 : Nat → Int → Int → Int → Option (Int)
 | 0, _, _, _ => none
 | k + 1, x0, x3, x4 => if x4 < 3 then (if 0 ≤ x4 then (laws_sizeOf.l0 k x0 (wrap64 (x3 + (Int.tmod (shr .i64 x0 x4) 2))) (wrap64 (x4 + 1))) else (none)) else (some x3)
def laws_sizeOf.f (k : Nat) (a0 : Int) : Option (Int) := laws_sizeOf.l0 k a0 0 0
theorem laws_sizeOf.mono_l : ∀ k, (∀ y0 y1 y2, LeO (laws_sizeOf.l0 k y0 y1 y2) (laws_sizeOf.l0 (k + 1) y0 y1 y2))
 | 0 => fun _ _ _ r h => by simp [laws_sizeOf.l0] at h
 | k + 1 => by
  have ih0 := laws_sizeOf.mono_l k
  ·intro y0 y1 y2
   unfold laws_sizeOf.l0
   repeat' first
   | (with_reducible exact ih0 _ _ _)
   | (with_reducible exact LeO.refl _)
   | (with_reducible exact LeO.none _)
   | (with_reducible refine LeO.ite ?_ ?_)
   | (with_reducible refine LeO.bind ?_ (fun _ => ?_))
theorem laws_sizeOf.mono : ∀ a0 k, LeO (laws_sizeOf.f k a0) (laws_sizeOf.f (k + 1) a0) := by
 intro a0 k
 have ih0 := laws_sizeOf.mono_l k
 unfold laws_sizeOf.f
 repeat' first
   | (with_reducible exact ih0 _ _ _)
   | (with_reducible exact LeO.refl _)
   | (with_reducible exact LeO.none _)
   | (with_reducible refine LeO.ite ?_ ?_)
   | (with_reducible refine LeO.bind ?_ (fun _ => ?_))
set_option maxHeartbeats 8000000 in
set_option maxRecDepth 100000 in
theorem laws_sizeOf.calls (k : Nat) (a0 : Int) (r : Int) (w : World) (h : laws_sizeOf.f k a0 = some r) :
  Calls Try.prog 33 #[.int .i64 a0] w fun e w' => e = .returned (.int .i64 r) ∧ Drawn0 w w' := by
 have H : (laws_sizeOf.l0 k a0 0 0) = some r := h
 clear h
 have H' := Aside0.mk H
 clear H
 go_enter Try.func33, Try.ntmps33
 go_wp2
 go_loopg [3, 4] k (fun kq v3 v4 w' => ∃ (x3_1 : Int) (x4_1 : Int), v3 = .int .i64 x3_1 ∧ v4 = .int .i64 x4_1 ∧ Aside0 (laws_sizeOf.l0 kq a0 x3_1 x4_1 = some r) ∧ Aside0 (kq ≤ k) ∧ Drawn0 w w')
 case atStart => exact ⟨(0), (0), (by first | rfl | (simp; done) | (simp [*]; done)), (by first | rfl | (simp; done) | (simp [*]; done)), H', ⟨Nat.le_refl _⟩, by repeat (first | exact Drawn0.refl _ | apply Drawn0.step)⟩
 case round =>
  clear H'
  obtain ⟨x3_1, x4_1, rfl, rfl, HA, HK1, ⟨m1, rfl⟩⟩ := hrel
  cases gk with
  | zero => exact absurd HA.out (by simp [laws_sizeOf.l0])
  | succ k1 =>
   have H := HA.out
   clear HA
   simp only [laws_sizeOf.l0] at H
   by_cases c2 : x4_1 < 3
   ·rw [if_pos c2] at H
    have c2b0 : decide (x4_1 < 3) = true := decide_eq_true c2
    clear c2
    by_cases c3 : 0 ≤ x4_1
    ·rw [if_pos c3] at H
     have c3b0 := eq_true c3
     have c3b1 : decide (0 ≤ x4_1) = true := decide_eq_true c3
     clear c3
     obtain ⟨ji4, hji4⟩ : ∃ j_ : Int, (shr .i64 a0 x4_1) = j_ := ⟨_, rfl⟩
     replace H : (laws_sizeOf.l0 k1 a0 (wrap64 (x3_1 + (Int.tmod (ji4) 2))) (wrap64 (x4_1 + 1))) = some r := by first | (rw [hji4] at H; exact H) | (simp only [hji4] at H ⊢; exact H)
     have hji4_ : (a0 / 2 ^ min x4_1.toNat 64) = ji4 := hji4
     have hji4z : x4_1 ≤ 64 → (a0 / 2 ^ x4_1.toNat) = ji4 := shr_small hji4
     have H' := Aside0.mk H
     clear H
     go_wp2
     go_roundg k1
     case measure => have := HK1.out; omega
     case rel => exact ⟨(wrap64 (x3_1 + (Int.tmod (ji4) 2))), (wrap64 (x4_1 + 1)), (by first | rfl | (simp; done) | (simp only [← hji4] <;> (first | rfl | simp)) | (simp [*]; done)), (by first | rfl | (simp; done) | (simp [*]; done)), H', ⟨by have := HK1.out; omega⟩, by repeat (first | exact Drawn0.refl _ | apply Drawn0.step)⟩
    ·rw [if_neg c3] at H
     exact absurd H (by simp)
   ·rw [if_neg c2] at H
    have c2b0 : decide (x4_1 < 3) = false := decide_eq_false c2
    clear c2
    obtain rfl := Option.some.inj H
    go_wp2
    go_ret
    exact ⟨by first | rfl | (simp; done) | (simp [*]; done), by repeat (first | exact Drawn0.refl _ | apply Drawn0.step)⟩
end Go.Proofs.Ytcongmckkjbhiaa.P
/- What is common to two sets, and how many things a set has, by the laws' own rounds (sets of at most three things). -/
namespace Go.Proofs.Ytcongmckkjbhiaa.P
open Go.RowKit Go.Proofs.YtcongmckkjbhiaaW.PrintWords Go.Proofs.YtcongmckkjbhiaaW.PrintLast
theorem common_k (a b : Int) (h1 : 0 ≤ a) (h2 : a < 8) (h3 : 0 ≤ b) (h4 : b < 8) (k : Nat) (hk : 20 ≤ k) : laws_common.f k a b = some (Go.bits .and .i64 a b) := by
 unfold laws_common.f
 obtain ⟨k, rfl⟩ : ∃ m, k = m + 20 := ⟨k - 20, by omega⟩
 clear hk
 have hf : ∀ x y : Fin 8, laws_common.l0 20 (x.val : Int) (y.val : Int) 0 0 = some (Go.bits .and .i64 (x.val : Int) (y.val : Int)) := by decide +kernel
 obtain ⟨x, rfl⟩ := Int.eq_ofNat_of_zero_le h1
 obtain ⟨y, rfl⟩ := Int.eq_ofNat_of_zero_le h3
 induction k with
 | zero => exact hf ⟨x, by omega⟩ ⟨y, by omega⟩
 | succ k ih =>
  have := laws_common.mono_l (k + 20) (x : Int) (y : Int) 0 0
  rw [show k + 1 + 20 = k + 20 + 1 from by omega]
  exact this _ ih
/- Plain facts: what the program's PlaceOf comes to. No condition beyond those typed. -/
theorem impl_PlaceOf_eq (a s : Int) : impl_PlaceOf.f a s = some (plOr a s) := by
 unfold impl_PlaceOf.f plOr impl_placeOf.f
 by_cases h1 : a < 0
 ·rw [if_pos h1, if_neg (by omega)]
 ·by_cases h2 : a > 5
  ·rw [if_neg h1, if_pos h2, if_neg (by omega)]
  ·by_cases h3 : s < 0
   ·rw [if_neg h1, if_neg h2, if_pos h3, if_neg (by omega)]
   ·by_cases h4 : s > a
    ·rw [if_neg h1, if_neg h2, if_neg h3, if_pos h4, if_neg (by omega)]
    ·rw [if_neg h1, if_neg h2, if_neg h3, if_neg h4, Option.bind_some, pl_wrap a s (by omega) (by omega) (by omega) (by omega), if_pos (by omega)]
end Go.Proofs.Ytcongmckkjbhiaa.P
namespace Go.Proofs.Ytcongmckkjbhiaa.P
open Go.RowKit Go.Proofs.YtcongmckkjbhiaaW.PrintWords Go.Proofs.YtcongmckkjbhiaaW.PrintLast Go.Proofs.YtcongmckkjbhiaaW.PrintMore
attribute [local go_sem] max2_int min2_int max_two min_two max_three min_three max_four min_four
set_option linter.unusedVariables false
set_option linter.unusedSimpArgs false
/-! ### laws_sameInts: function 14 -/
def laws_sameInts.l0 : Nat → List Int → List Int → Int → Option (Bool)
 | 0, _, _, _ => none
 | k + 1, x0, x1, x5 => if x5 < (x0.length : Int) then (if 0 ≤ x5 then (if x5 < (x1.length : Int) then (if (rd x0 x5) = (rd x1 x5) then (laws_sameInts.l0 k x0 x1 (wrap64 (x5 + 1))) else (some false)) else (none)) else (none)) else (some true)
def laws_sameInts.f (k : Nat) (l0 : List Int) (l1 : List Int) : Option (Bool) := if (l0.length : Int) = (l1.length : Int) then (laws_sameInts.l0 k l0 l1 0) else (some false)
theorem laws_sameInts.mono_l : ∀ k, (∀ y0 y1 y2, LeO (laws_sameInts.l0 k y0 y1 y2) (laws_sameInts.l0 (k + 1) y0 y1 y2))
 | 0 => fun _ _ _ r h => by simp [laws_sameInts.l0] at h
 | k + 1 => by
  have ih0 := laws_sameInts.mono_l k
  ·intro y0 y1 y2
   unfold laws_sameInts.l0
   repeat' first
   | (with_reducible exact ih0 _ _ _)
   | (with_reducible exact LeO.refl _)
   | (with_reducible exact LeO.none _)
   | (with_reducible refine LeO.ite ?_ ?_)
   | (with_reducible refine LeO.bind ?_ (fun _ => ?_))
theorem laws_sameInts.mono : ∀ a0 a1 k, LeO (laws_sameInts.f k a0 a1) (laws_sameInts.f (k + 1) a0 a1) := by
 intro a0 a1 k
 have ih0 := laws_sameInts.mono_l k
 unfold laws_sameInts.f
 repeat' first
   | (with_reducible exact ih0 _ _ _)
   | (with_reducible exact LeO.refl _)
   | (with_reducible exact LeO.none _)
   | (with_reducible refine LeO.ite ?_ ?_)
   | (with_reducible refine LeO.bind ?_ (fun _ => ?_))
set_option maxHeartbeats 8000000 in
set_option maxRecDepth 100000 in
theorem laws_sameInts.calls (k : Nat) (A0 : Option Addr) (c0 : Nat) (l0 : List Int) (A1 : Option Addr) (c1 : Nat) (l1 : List Int) (r : Bool) (w : World) (hr0 : Kd.C (Kd.int .i64) w A0 l0.length l0) (hc0 : l0.length ≤ c0) (hr1 : Kd.C (Kd.int .i64) w A1 l1.length l1) (hc1 : l1.length ≤ c1) (h : laws_sameInts.f k l0 l1 = some r) :
  Calls Try.prog 14 #[.slice A0 l0.length c0, .slice A1 l1.length c1] w fun e w' => e = .returned (.bool r) ∧ Drawn0 w w' := by
 have HR0 := Aside0.mk hr0
 have HC0 := Aside0.mk hc0
 clear hr0 hc0
 have HR1 := Aside0.mk hr1
 have HC1 := Aside0.mk hc1
 clear hr1 hc1
 have H : (if (l0.length : Int) = (l1.length : Int) then (laws_sameInts.l0 k l0 l1 0) else (some false)) = some r := h
 clear h
 by_cases c3 : (l0.length : Int) = (l1.length : Int)
 ·rw [if_pos c3] at H
  have c3b0 : ((l0.length : Int) == (l1.length : Int)) = true := beq_iff_eq.mpr c3
  have c3b1 : ((l0.length : Int) != (l1.length : Int)) = false := bne_eq_false_iff_eq.mpr c3
  have c3b2 : (l0.length == l1.length) = true := by first | simpa using c3 | (simp at c3 ⊢; omega)
  clear c3
  have H' := Aside0.mk H
  clear H
  go_enter Try.func14, Try.ntmps14
  go_wp2
  repeat (go_quiet (fail); try go_wp2)
  go_loopg [5] k (fun kq v5 w' => ∃ (x5_1 : Int), v5 = .int .i64 x5_1 ∧ Aside0 (laws_sameInts.l0 kq l0 l1 x5_1 = some r) ∧ Aside0 (kq ≤ k) ∧ Drawn0 w w')
  case atStart => exact ⟨(0), (by first | rfl | (simp; done) | (simp [*]; done)), H', ⟨Nat.le_refl _⟩, by repeat (first | exact Drawn0.refl _ | apply Drawn0.step)⟩
  case round =>
   clear H'
   try clear c1
   try clear p2
   try clear c3
   try clear c3b0
   try clear c3b1
   try clear c3b2
   obtain ⟨x5_1, rfl, HA, HK1, ⟨m1, rfl⟩⟩ := hrel
   cases gk with
   | zero => exact absurd HA.out (by simp [laws_sameInts.l0])
   | succ k1 =>
    have H := HA.out
    clear HA
    simp only [laws_sameInts.l0] at H
    by_cases c4 : x5_1 < (l0.length : Int)
    ·rw [if_pos c4] at H
     have c4b0 : decide (x5_1 < (l0.length : Int)) = true := decide_eq_true c4
     clear c4
     by_cases c5 : 0 ≤ x5_1
     ·rw [if_pos c5] at H
      have c5b0 : decide (0 ≤ x5_1) = true := decide_eq_true c5
      clear c5
      by_cases c6 : x5_1 < (l1.length : Int)
      ·rw [if_pos c6] at H
       have c6b0 : decide (x5_1 < (l1.length : Int)) = true := decide_eq_true c6
       clear c6
       by_cases c7 : (rd l0 x5_1) = (rd l1 x5_1)
       ·rw [if_pos c7] at H
        have c7b0 : ((rd l0 x5_1) == (rd l1 x5_1)) = true := beq_iff_eq.mpr c7
        have c7b1 : ((rd l0 x5_1) != (rd l1 x5_1)) = false := bne_eq_false_iff_eq.mpr c7
        clear c7
        have H' := Aside0.mk H
        clear H
        have p370 : 0 ≤ (x5_1 : Int) := of_decide_eq_true (by first | (with_reducible assumption) | assumption)
        have q370 : x5_1 < (l0.length : Int) := of_decide_eq_true (by first | (with_reducible assumption) | assumption)
        obtain ⟨ad370, e370, hx370_0⟩ := Kd.at_int HR0.out x5_1 p370 q370
        cases e370
        replace p370 := eq_true p370
        replace q370 := eq_true q370
        have p371 : 0 ≤ (x5_1 : Int) := of_decide_eq_true (by first | (with_reducible assumption) | assumption)
        have q371 : x5_1 < (l1.length : Int) := of_decide_eq_true (by first | (with_reducible assumption) | assumption)
        obtain ⟨ad371, e371, hx371_0⟩ := Kd.at_int HR1.out x5_1 p371 q371
        cases e371
        replace p371 := eq_true p371
        replace q371 := eq_true q371
        go_wp2
        repeat (go_quiet (fail); try go_wp2)
        go_roundg k1
        case measure => have := HK1.out; omega
        case rel => exact ⟨(wrap64 (x5_1 + 1)), (by first | rfl | (simp; done) | (simp [*]; done)), H', ⟨by have := HK1.out; omega⟩, by repeat (first | exact Drawn0.refl _ | apply Drawn0.step)⟩
       ·rw [if_neg c7] at H
        have c7b0 : ((rd l0 x5_1) == (rd l1 x5_1)) = false := beq_eq_false_iff_ne.mpr c7
        have c7b1 : ((rd l0 x5_1) != (rd l1 x5_1)) = true := bne_iff_ne.mpr c7
        obtain rfl := Option.some.inj H
        have p370 : 0 ≤ (x5_1 : Int) := of_decide_eq_true (by first | (with_reducible assumption) | assumption)
        have q370 : x5_1 < (l0.length : Int) := of_decide_eq_true (by first | (with_reducible assumption) | assumption)
        obtain ⟨ad370, e370, hx370_0⟩ := Kd.at_int HR0.out x5_1 p370 q370
        cases e370
        replace p370 := eq_true p370
        replace q370 := eq_true q370
        have p371 : 0 ≤ (x5_1 : Int) := of_decide_eq_true (by first | (with_reducible assumption) | assumption)
        have q371 : x5_1 < (l1.length : Int) := of_decide_eq_true (by first | (with_reducible assumption) | assumption)
        obtain ⟨ad371, e371, hx371_0⟩ := Kd.at_int HR1.out x5_1 p371 q371
        cases e371
        replace p371 := eq_true p371
        replace q371 := eq_true q371
        go_wp2
        repeat (go_quiet (fail); try go_wp2)
        go_ret
        exact ⟨by first | rfl | (simp; done) | (simp [*]; done), by repeat (first | exact Drawn0.refl _ | apply Drawn0.step)⟩
      ·rw [if_neg c6] at H
       exact absurd H (by simp)
     ·rw [if_neg c5] at H
      exact absurd H (by simp)
    ·rw [if_neg c4] at H
     have c4b0 : decide (x5_1 < (l0.length : Int)) = false := decide_eq_false c4
     clear c4
     obtain rfl := Option.some.inj H
     go_wp2
     repeat (go_quiet (fail); try go_wp2)
     go_ret
     exact ⟨by first | rfl | (simp; done) | (simp [*]; done), by repeat (first | exact Drawn0.refl _ | apply Drawn0.step)⟩
 ·rw [if_neg c3] at H
  have c3b0 : ((l0.length : Int) == (l1.length : Int)) = false := beq_eq_false_iff_ne.mpr c3
  have c3b1 : ((l0.length : Int) != (l1.length : Int)) = true := bne_iff_ne.mpr c3
  have c3b2 : (l0.length == l1.length) = false := by first | simpa using c3 | (simp at c3 ⊢; omega)
  obtain rfl := Option.some.inj H
  go_enter Try.func14, Try.ntmps14
  go_wp2
  repeat (go_quiet (fail); try go_wp2)
  go_ret
  exact ⟨by first | rfl | (simp; done) | (simp [*]; done), by repeat (first | exact Drawn0.refl _ | apply Drawn0.step)⟩
end Go.Proofs.Ytcongmckkjbhiaa.P
/- Plain facts on the law's last word and the sameness of rows. -/
namespace Go.Proofs.Ytcongmckkjbhiaa.P
open Go.RowKit Go.Proofs.YtcongmckkjbhiaaW.PrintWords Go.Proofs.YtcongmckkjbhiaaW.PrintLast
theorem alive_eq : laws_alive.f = some true := by
 unfold laws_alive.f
 rw [impl_PlaceOf_eq, Option.bind_some, show plOr 0 0 = 0 by decide, if_pos rfl, impl_PlaceOf_eq, Option.bind_some, show plOr 0 1 = -1 by decide]
 rfl
end Go.Proofs.Ytcongmckkjbhiaa.P
/- Inside is enough: the pure statement of the law FnLooksInside. No condition. -/
namespace Go.Proofs.Ytcongmckkjbhiaa.Pure
open Go.RowKit Go.Proofs.Ytcongmckkjbhiaa.P Go.Proofs.YtcongmckkjbhiaaW.PrintWords Go.Proofs.YtcongmckkjbhiaaW.PrintLast
theorem drawLooksInside (l : List Int) (hw : ∀ x ∈ l, (Lit.int .u8 x).wf = true) (k : Nat) (hk : 2097200 ≤ k) : ∃ t r, spec_DrawLooksInside.f k l = some (t, r) ∧ 0 ≤ t ∧ t ≤ 3 ∧ r.length ≤ 65 := by
 obtain ⟨xs, eo, hs⟩ := src_open l hw
 obtain ⟨t, r, c, e, h1, h2, h3, _, _⟩ := l20Relation_k xs hs 0 12 (by omega) (by omega) k hk
 unfold spec_DrawLooksInside.f
 rw [eo, Option.bind_some, e]
 exact ⟨t, r, rfl, h1, h2, h3⟩
/-- At three sets: alike, if they have the same in common with the first one. -/
def insAt (t : Int) (l : List Int) (a b q : Int) : Bool := !(Go.bits .and .i64 a b == Go.bits .and .i64 a q) || decide (rd l (a * pw t + b) = rd l (a * pw t + q))
theorem walk_l2 (t : Int) (l : List Int) (h : isRel t l = true) (B : Nat) (hp : pw t = (B : Int)) (hB : B ≤ 8) (x : Bool) (a b : Nat) (ha : a < B) (hb : b < B) (d : Nat) : ∀ (m q : Nat) (ok : Bool), q + d = b → 40 ≤ m →
  laws_FnLooksInside.l2 (m + d + 1) t l x ok (a : Int) (b : Int) (q : Int) = laws_FnLooksInside.l1 m t l x (ok && (List.range' q d).all fun (q : Nat) => insAt t l a b q) (a : Int) ((b + 1 : Nat) : Int) := by
 obtain ⟨t0, t3, hlen⟩ := isRel_range h
 induction d with
 | zero =>
  intro m q ok e hm
  obtain ⟨M, hM⟩ : ∃ M, M = m + 0 := ⟨_, rfl⟩
  rw [← hM, show m = M from by omega]
  simp only [laws_FnLooksInside.l2]
  rw [if_neg (by omega), List.range'_zero, List.all_nil, Bool.and_true, wrap_succ6 b (by omega)]
 | succ d ih =>
  intro m q ok e hm
  obtain ⟨M, hM⟩ : ∃ M, M = m + d + 1 := ⟨_, rfl⟩
  rw [show m + (d + 1) + 1 = M + 1 from by omega]
  have i1 := index_range t a b t0 t3 (by omega) (by omega) (by omega) (by omega)
  have i2 := index_range t a q t0 t3 (by omega) (by omega) (by omega) (by omega)
  have w1 := idx_wrap t a b t0 t3 (by omega) (by omega) (by omega) (by omega)
  have w2 := idx_wrap t a q t0 t3 (by omega) (by omega) (by omega) (by omega)
  have c1 := common_k a b (by omega) (by omega) (by omega) (by omega) M (by omega)
  have c2 := common_k a q (by omega) (by omega) (by omega) (by omega) M (by omega)
  have hL : (l.length : Int) = ((4 ^ t.toNat : Nat) : Int) := by rw [hlen]
  have j1 : (a : Int) * pw t + (b : Int) < (l.length : Int) := by rw [hL]; exact i1.2.1
  have j2 : (a : Int) * pw t + (q : Int) < (l.length : Int) := by rw [hL]; exact i2.2.1
  have hqb : (q : Int) < (b : Int) := by omega
  have ws := wrap_succ6 q (by omega)
  have hi := fun ok => ih m (q + 1) ok (by omega) hm
  rw [← hM] at hi
  simp only [laws_FnLooksInside.l2]
  rw [if_pos hqb, c1, Option.bind_some, c2, Option.bind_some, ws, List.range'_succ, List.all_cons]
  by_cases g : Go.bits .and .i64 (a : Int) (b : Int) = Go.bits .and .i64 (a : Int) (q : Int)
  ·rw [if_pos g, if_pos t0, w1, w2, if_pos i1.1, if_pos j1, if_pos i2.1, if_pos j2]
   by_cases g2 : rd l ((a : Int) * pw t + (b : Int)) = rd l ((a : Int) * pw t + (q : Int))
   ·have : insAt t l a b q = true := by unfold insAt; rw [decide_eq_true g2]; simp
    rw [if_pos g2, hi, this, Bool.true_and]
   ·have : insAt t l a b q = false := by unfold insAt; rw [decide_eq_false g2, beq_iff_eq.mpr g]; rfl
    rw [if_neg g2, hi, this, Bool.false_and, Bool.and_false]
  ·have : insAt t l a b q = true := by unfold insAt; rw [beq_eq_false_iff_ne.mpr g]; rfl
   rw [if_neg g, hi, this, Bool.true_and]
theorem walk_l1 (t : Int) (l : List Int) (h : isRel t l = true) (B : Nat) (hp : pw t = (B : Int)) (hB : B ≤ 8) (x : Bool) (a : Nat) (ha : a < B) (e : Nat) : ∀ (k b : Nat) (ok : Bool), b + e = B → 20 * e + 100 ≤ k →
  ∃ k', k ≤ k' + 20 * e + 1 ∧ laws_FnLooksInside.l1 k t l x ok (a : Int) (b : Int) = laws_FnLooksInside.l0 k' t l x (ok && (List.range' b e).all fun (b : Nat) => (List.range' 0 b).all fun (q : Nat) => insAt t l a b q) ((a + 1 : Nat) : Int) := by
 obtain ⟨t0, t3, hlen⟩ := isRel_range h
 induction e with
 | zero =>
  intro k b ok hb hk
  obtain ⟨k, rfl⟩ : ∃ m, k = m + 1 := ⟨k - 1, by omega⟩
  refine ⟨k, by omega, ?_⟩
  simp only [laws_FnLooksInside.l1]
  rw [if_pos t0, shl_one t t0 t3, hp, if_neg (by omega), List.range'_zero, List.all_nil, Bool.and_true, wrap_succ6 a (by omega)]
 | succ e ih =>
  intro k b ok hb hk
  obtain ⟨k, rfl⟩ : ∃ m, k = m + b + 1 + 1 := ⟨k - (b + 2), by omega⟩
  have hw := walk_l2 t l h B hp hB x a b ha (by omega) b k 0 ok (by omega) (by omega)
  obtain ⟨k', hk', hh⟩ := ih k (b + 1) (ok && (List.range' 0 b).all fun (q : Nat) => insAt t l a b q) (by omega) (by omega)
  refine ⟨k', by omega, ?_⟩
  rw [List.range'_succ, List.all_cons, ← Bool.and_assoc, ← hh]
  simp only [laws_FnLooksInside.l1]
  rw [if_pos t0, shl_one t t0 t3, hp, if_pos (by omega)]
  exact hw
theorem walk_l0 (t : Int) (l : List Int) (h : isRel t l = true) (B : Nat) (hp : pw t = (B : Int)) (hB : B ≤ 8) (x : Bool) (e : Nat) : ∀ (k a : Nat) (ok : Bool), a + e = B → 200 * e + 200 ≤ k →
  laws_FnLooksInside.l0 k t l x ok (a : Int) = some ((ok && (List.range' a e).all fun (a : Nat) => (List.range' 0 B).all fun (b : Nat) => (List.range' 0 b).all fun (q : Nat) => insAt t l a b q) == x) := by
 obtain ⟨t0, t3, hlen⟩ := isRel_range h
 induction e with
 | zero =>
  intro k a ok ha hk
  obtain ⟨k, rfl⟩ : ∃ m, k = m + 1 := ⟨k - 1, by omega⟩
  simp only [laws_FnLooksInside.l0]
  rw [if_pos t0, shl_one t t0 t3, hp, if_neg (by omega), List.range'_zero, List.all_nil, Bool.and_true]
 | succ e ih =>
  intro k a ok ha hk
  obtain ⟨k, rfl⟩ : ∃ m, k = m + 1 := ⟨k - 1, by omega⟩
  obtain ⟨k', hk', hh⟩ := walk_l1 t l h B hp hB x a (by omega) B k 0 ok (by omega) (by omega)
  rw [List.range'_succ, List.all_cons, ← Bool.and_assoc, ← ih k' (a + 1) _ (by omega) (by omega), ← hh]
  simp only [laws_FnLooksInside.l0]
  rw [if_pos t0, shl_one t t0 t3, hp, if_pos (by omega)]
  rfl
theorem and_and (a b : Int) (h1 : 0 ≤ a) (h2 : a < 8) (h3 : 0 ≤ b) (h4 : b < 8) : Go.bits .and .i64 a (Go.bits .and .i64 a b) = Go.bits .and .i64 a b ∧ Go.bits .and .i64 a b ≤ b := by
 have hf : ∀ x y : Fin 8, Go.bits .and .i64 (x.val : Int) (Go.bits .and .i64 (x.val : Int) (y.val : Int)) = Go.bits .and .i64 (x.val : Int) (y.val : Int) ∧ Go.bits .and .i64 (x.val : Int) (y.val : Int) ≤ (y.val : Int) := by decide +kernel
 obtain ⟨x, rfl⟩ := Int.eq_ofNat_of_zero_le h1
 obtain ⟨y, rfl⟩ := Int.eq_ofNat_of_zero_le h3
 exact hf ⟨x, by omega⟩ ⟨y, by omega⟩
theorem inside_same (t : Int) (l : List Int) (h : isRel t l = true) (B : Nat) (hp : pw t = (B : Int)) (hB : B ≤ 8) :
  ((List.range' 0 B).all fun (a : Nat) => (List.range' 0 B).all fun (b : Nat) => (List.range' 0 b).all fun (q : Nat) => insAt t l a b q) = insideP t l := by
 obtain ⟨t0, t3, hlen⟩ := isRel_range h
 unfold insideP
 rw [h, Bool.true_and, Bool.eq_iff_iff, forAllP_iff]
 simp only [List.all_eq_true, List.mem_range'_1, impl_LooksInside.so]
 constructor
 ·intro g a b a0 a1 b0 b1
  obtain ⟨c1, c2⟩ := and_range t a b t0 t3 a0 a1 b0 b1
  obtain ⟨d1, d2⟩ := and_and a b a0 (by omega) b0 (by omega)
  by_cases hq : Go.bits .and .i64 a b = b
  ·rw [hq]
   simp
  ·have := g a.toNat (by omega) b.toNat (by omega) (Go.bits .and .i64 a b).toNat (by omega)
   unfold insAt at this
   rw [show ((a.toNat : Nat) : Int) = a by omega, show ((b.toNat : Nat) : Int) = b by omega, show (((Go.bits .and .i64 a b).toNat : Nat) : Int) = Go.bits .and .i64 a b by omega, d1] at this
   simp only [beq_self_eq_true, Bool.not_true, Bool.false_or, decide_eq_true_eq] at this
   exact (rel_same t l h a b a _).1 this
 ·intro g a ha b hb q hq
  unfold insAt
  by_cases e : Go.bits .and .i64 (a : Int) (b : Int) = Go.bits .and .i64 (a : Int) (q : Int)
  ·have g1 := g a b (by omega) (by omega) (by omega) (by omega)
   have g2 := g a q (by omega) (by omega) (by omega) (by omega)
   rw [beq_iff_eq] at g1 g2
   have : rd l ((a : Int) * pw t + (b : Int)) = rd l ((a : Int) * pw t + (q : Int)) := (rel_same t l h a b a q).2 (by rw [g1, g2, e]; simp)
   rw [decide_eq_true this]
   simp
  ·rw [beq_eq_false_iff_ne.mpr e]
   rfl
theorem FnLooksInside : laws_FnLooksInside.Pure := by
 intro l _ _ hw
 obtain ⟨K, hK⟩ : ∃ K, K = 2107300 := ⟨_, rfl⟩
 refine ⟨K + 1, ?_⟩
 unfold laws_FnLooksInside.f
 by_cases hl : (l.length : Int) > 1048576
 ·rw [if_pos hl]
 ·obtain ⟨t, r, et, t0, t3, hr⟩ := drawLooksInside l hw (K + 1) (by omega)
  rw [if_neg hl, et, Option.bind_some]
  rw [impl_LooksInside_k t r (by omega) (K + 1) (by omega), Option.bind_some, spec_LooksInside_k t r (by omega) (K + 1) (by omega), Option.bind_some, bne_self_eq_false, if_neg Bool.false_ne_true, spec_RelationOk_k t r (by omega) (K + 1) (by omega), Option.bind_some, alive_eq]
  by_cases g : isRel t r = true
  ·obtain ⟨B, hp, hB, _⟩ := pw_nat t t0 t3
   have := walk_l0 t r g B hp hB (insideP t r) B (K + 1) 0 true (by omega) (by omega)
   rw [inside_same t r g B hp hB] at this
   rw [if_pos g]
   refine Eq.trans this ?_
   simp
  ·have : insideP t r = false := by unfold insideP; rw [Bool.eq_false_iff.mpr g, Bool.false_and]
   rw [if_neg g, this, if_neg Bool.false_ne_true]
   rfl
end Go.Proofs.Ytcongmckkjbhiaa.Pure
