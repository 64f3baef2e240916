-- Texts of this claim, laid one behind the other by wip/gen/merge.py.
import Derived.Test.YtcongmckkjbhiaaZFnBothWays14
import Derived.Test.YtcongmckkjbhiaaZFnBothWays1
import Derived.Test.YtcongmckkjbhiaaZFnBothWays13
import Derived.Test.YtcongmckkjbhiaaZFnBothWays0
import Derived.Test.YtcongmckkjbhiaaZFnBothWays11
import Derived.Test.YtcongmckkjbhiaaZFnBothWays12
/- What is common to two sets, and how many things a set has, by the laws' own rounds (sets of at most three things). -/
namespace Go.Proofs.Ytcongmckkjbhiaa.P
open Go.RowKit Go.Proofs.YtcongmckkjbhiaaW.PrintWords Go.Proofs.YtcongmckkjbhiaaW.PrintLast
theorem common_k (a b : Int) (h1 : 0 ≤ a) (h2 : a < 8) (h3 : 0 ≤ b) (h4 : b < 8) (k : Nat) (hk : 20 ≤ k) : laws_common.f k a b = some (Go.bits .and .i64 a b) := by
 unfold laws_common.f
 obtain ⟨k, rfl⟩ : ∃ m, k = m + 20 := ⟨k - 20, by omega⟩
 clear hk
 have hf : ∀ x y : Fin 8, laws_common.l0 20 (x.val : Int) (y.val : Int) 0 0 = some (Go.bits .and .i64 (x.val : Int) (y.val : Int)) := by decide +kernel
 obtain ⟨x, rfl⟩ := Int.eq_ofNat_of_zero_le h1
 obtain ⟨y, rfl⟩ := Int.eq_ofNat_of_zero_le h3
 induction k with
 | zero => exact hf ⟨x, by omega⟩ ⟨y, by omega⟩
 | succ k ih =>
  have := laws_common.mono_l (k + 20) (x : Int) (y : Int) 0 0
  rw [show k + 1 + 20 = k + 20 + 1 from by omega]
  exact this _ ih
/- Plain facts: what the program's PlaceOf comes to. No condition beyond those typed. -/
theorem impl_PlaceOf_eq (a s : Int) : impl_PlaceOf.f a s = some (plOr a s) := by
 unfold impl_PlaceOf.f plOr impl_placeOf.f
 by_cases h1 : a < 0
 ·rw [if_pos h1, if_neg (by omega)]
 ·by_cases h2 : a > 5
  ·rw [if_neg h1, if_pos h2, if_neg (by omega)]
  ·by_cases h3 : s < 0
   ·rw [if_neg h1, if_neg h2, if_pos h3, if_neg (by omega)]
   ·by_cases h4 : s > a
    ·rw [if_neg h1, if_neg h2, if_neg h3, if_pos h4, if_neg (by omega)]
    ·rw [if_neg h1, if_neg h2, if_neg h3, if_neg h4, Option.bind_some, pl_wrap a s (by omega) (by omega) (by omega) (by omega), if_pos (by omega)]
end Go.Proofs.Ytcongmckkjbhiaa.P
namespace Go.Proofs.Ytcongmckkjbhiaa.P
open Go.RowKit Go.Proofs.YtcongmckkjbhiaaW.PrintWords Go.Proofs.YtcongmckkjbhiaaW.PrintLast Go.Proofs.YtcongmckkjbhiaaW.PrintMore
attribute [local go_sem] max2_int min2_int max_two min_two max_three min_three max_four min_four
set_option linter.unusedVariables false
set_option linter.unusedSimpArgs false
/-! ### laws_sameInts: function 14 -/
def laws_sameInts.l0 : Nat → List Int → List Int → Int → Option (Bool)
 | 0, _, _, _ => none
 | k + 1, x0, x1, x5 => if x5 < (x0.length : Int) then (if 0 ≤ x5 then (if x5 < (x1.length : Int) then (if (rd x0 x5) = (rd x1 x5) then (laws_sameInts.l0 k x0 x1 (wrap64 (x5 + 1))) else (some false)) else (none)) else (none)) else (some true)
def laws_sameInts.f (k : Nat) (l0 : List Int) (l1 : List Int) : Option (Bool) := if (l0.length : Int) = (l1.length : Int) then (laws_sameInts.l0 k l0 l1 0) else (some false)
theorem laws_sameInts.mono_l : ∀ k, (∀ y0 y1 y2, LeO (laws_sameInts.l0 k y0 y1 y2) (laws_sameInts.l0 (k + 1) y0 y1 y2))
 | 0 => fun _ _ _ r h => by simp [laws_sameInts.l0] at h
 | k + 1 => by
  have ih0 := laws_sameInts.mono_l k
  ·intro y0 y1 y2
   unfold laws_sameInts.l0
   repeat' first
   | (with_reducible exact ih0 _ _ _)
   | (with_reducible exact LeO.refl _)
   | (with_reducible exact LeO.none _)
   | (with_reducible refine LeO.ite ?_ ?_)
   | (with_reducible refine LeO.bind ?_ (fun _ => ?_))
theorem laws_sameInts.mono : ∀ a0 a1 k, LeO (laws_sameInts.f k a0 a1) (laws_sameInts.f (k + 1) a0 a1) := by
 intro a0 a1 k
 have ih0 := laws_sameInts.mono_l k
 unfold laws_sameInts.f
 repeat' first
   | (with_reducible exact ih0 _ _ _)
   | (with_reducible exact LeO.refl _)
   | (with_reducible exact LeO.none _)
   | (with_reducible refine LeO.ite ?_ ?_)
   | (with_reducible refine LeO.bind ?_ (fun _ => ?_))
set_option maxHeartbeats 8000000 in
set_option maxRecDepth 100000 in
theorem laws_sameInts.calls (k : Nat) (A0 : Option Addr) (c0 : Nat) (l0 : List Int) (A1 : Option Addr) (c1 : Nat) (l1 : List Int) (r : Bool) (w : World) (hr0 : Kd.C (Kd.int .i64) w A0 l0.length l0) (hc0 : l0.length ≤ c0) (hr1 : Kd.C (Kd.int .i64) w A1 l1.length l1) (hc1 : l1.length ≤ c1) (h : laws_sameInts.f k l0 l1 = some r) :
  Calls Try.prog 14 #[.slice A0 l0.length c0, .slice A1 l1.length c1] w fun e w' => e = .returned (.bool r) ∧ Drawn0 w w' := by
 have HR0 := Aside0.mk hr0
 have HC0 := Aside0.mk hc0
 clear hr0 hc0
 have HR1 := Aside0.mk hr1
 have HC1 := Aside0.mk hc1
 clear hr1 hc1
 have H : (if (l0.length : Int) = (l1.length : Int) then (laws_sameInts.l0 k l0 l1 0) else (some false)) = some r := h
 clear h
 by_cases c3 : (l0.length : Int) = (l1.length : Int)
 ·rw [if_pos c3] at H
  have c3b0 : ((l0.length : Int) == (l1.length : Int)) = true := beq_iff_eq.mpr c3
  have c3b1 : ((l0.length : Int) != (l1.length : Int)) = false := bne_eq_false_iff_eq.mpr c3
  have c3b2 : (l0.length == l1.length) = true := by first | simpa using c3 | (simp at c3 ⊢; omega)
  clear c3
  have H' := Aside0.mk H
  clear H
  go_enter Try.func14, Try.ntmps14
  go_wp2
  repeat (go_quiet (fail); try go_wp2)
  go_loopg [5] k (fun kq v5 w' => ∃ (x5_1 : Int), v5 = .int .i64 x5_1 ∧ Aside0 (laws_sameInts.l0 kq l0 l1 x5_1 = some r) ∧ Aside0 (kq ≤ k) ∧ Drawn0 w w')
  case atStart => exact ⟨(0), (by first | rfl | (simp; done) | (simp [*]; done)), H', ⟨Nat.le_refl _⟩, by repeat (first | exact Drawn0.refl _ | apply Drawn0.step)⟩
  case round =>
   clear H'
   try clear c1
   try clear p2
   try clear c3
   try clear c3b0
   try clear c3b1
   try clear c3b2
   obtain ⟨x5_1, rfl, HA, HK1, ⟨m1, rfl⟩⟩ := hrel
   cases gk with
   | zero => exact absurd HA.out (by simp [laws_sameInts.l0])
   | succ k1 =>
    have H := HA.out
    clear HA
    simp only [laws_sameInts.l0] at H
    by_cases c4 : x5_1 < (l0.length : Int)
    ·rw [if_pos c4] at H
     have c4b0 : decide (x5_1 < (l0.length : Int)) = true := decide_eq_true c4
     clear c4
     by_cases c5 : 0 ≤ x5_1
     ·rw [if_pos c5] at H
      have c5b0 : decide (0 ≤ x5_1) = true := decide_eq_true c5
      clear c5
      by_cases c6 : x5_1 < (l1.length : Int)
      ·rw [if_pos c6] at H
       have c6b0 : decide (x5_1 < (l1.length : Int)) = true := decide_eq_true c6
       clear c6
       by_cases c7 : (rd l0 x5_1) = (rd l1 x5_1)
       ·rw [if_pos c7] at H
        have c7b0 : ((rd l0 x5_1) == (rd l1 x5_1)) = true := beq_iff_eq.mpr c7
        have c7b1 : ((rd l0 x5_1) != (rd l1 x5_1)) = false := bne_eq_false_iff_eq.mpr c7
        clear c7
        have H' := Aside0.mk H
        clear H
        have p370 : 0 ≤ (x5_1 : Int) := of_decide_eq_true (by first | (with_reducible assumption) | assumption)
        have q370 : x5_1 < (l0.length : Int) := of_decide_eq_true (by first | (with_reducible assumption) | assumption)
        obtain ⟨ad370, e370, hx370_0⟩ := Kd.at_int HR0.out x5_1 p370 q370
        cases e370
        replace p370 := eq_true p370
        replace q370 := eq_true q370
        have p371 : 0 ≤ (x5_1 : Int) := of_decide_eq_true (by first | (with_reducible assumption) | assumption)
        have q371 : x5_1 < (l1.length : Int) := of_decide_eq_true (by first | (with_reducible assumption) | assumption)
        obtain ⟨ad371, e371, hx371_0⟩ := Kd.at_int HR1.out x5_1 p371 q371
        cases e371
        replace p371 := eq_true p371
        replace q371 := eq_true q371
        go_wp2
        repeat (go_quiet (fail); try go_wp2)
        go_roundg k1
        case measure => have := HK1.out; omega
        case rel => exact ⟨(wrap64 (x5_1 + 1)), (by first | rfl | (simp; done) | (simp [*]; done)), H', ⟨by have := HK1.out; omega⟩, by repeat (first | exact Drawn0.refl _ | apply Drawn0.step)⟩
       ·rw [if_neg c7] at H
        have c7b0 : ((rd l0 x5_1) == (rd l1 x5_1)) = false := beq_eq_false_iff_ne.mpr c7
        have c7b1 : ((rd l0 x5_1) != (rd l1 x5_1)) = true := bne_iff_ne.mpr c7
        obtain rfl := Option.some.inj H
        have p370 : 0 ≤ (x5_1 : Int) := of_decide_eq_true (by first | (with_reducible assumption) | assumption)
        have q370 : x5_1 < (l0.length : Int) := of_decide_eq_true (by first | (with_reducible assumption) | assumption)
        obtain ⟨ad370, e370, hx370_0⟩ := Kd.at_int HR0.out x5_1 p370 q370
        cases e370
        replace p370 := eq_true p370
        replace q370 := eq_true q370
        have p371 : 0 ≤ (x5_1 : Int) := of_decide_eq_true (by first | (with_reducible assumption) | assumption)
        have q371 : x5_1 < (l1.length : Int) := of_decide_eq_true (by first | (with_reducible assumption) | assumption)
        obtain ⟨ad371, e371, hx371_0⟩ := Kd.at_int HR1.out x5_1 p371 q371
        cases e371
        replace p371 := eq_true p371
        replace q371 := eq_true q371
        go_wp2
        repeat (go_quiet (fail); try go_wp2)
        go_ret
        exact ⟨by first | rfl | (simp; done) | (simp [*]; done), by repeat (first | exact Drawn0.refl _ | apply Drawn0.step)⟩
      ·rw [if_neg c6] at H
       exact absurd H (by simp)
     ·rw [if_neg c5] at H
      exact absurd H (by simp)
    ·rw [if_neg c4] at H
     have c4b0 : decide (x5_1 < (l0.length : Int)) = false := decide_eq_false c4
     clear c4
     obtain rfl := Option.some.inj H
     go_wp2
     repeat (go_quiet (fail); try go_wp2)
     go_ret
     exact ⟨by first | rfl | (simp; done) | (simp [*]; done), by repeat (first | exact Drawn0.refl _ | apply Drawn0.step)⟩
 ·rw [if_neg c3] at H
  have c3b0 : ((l0.length : Int) == (l1.length : Int)) = false := beq_eq_false_iff_ne.mpr c3
  have c3b1 : ((l0.length : Int) != (l1.length : Int)) = true := bne_iff_ne.mpr c3
  have c3b2 : (l0.length == l1.length) = false := by first | simpa using c3 | (simp at c3 ⊢; omega)
  obtain rfl := Option.some.inj H
  go_enter Try.func14, Try.ntmps14
  go_wp2
  repeat (go_quiet (fail); try go_wp2)
  go_ret
  exact ⟨by first | rfl | (simp; done) | (simp [*]; done), by repeat (first | exact Drawn0.refl _ | apply Drawn0.step)⟩
end Go.Proofs.Ytcongmckkjbhiaa.P
/- Plain facts on the law's last word and the sameness of rows. -/
namespace Go.Proofs.Ytcongmckkjbhiaa.P
open Go.RowKit Go.Proofs.YtcongmckkjbhiaaW.PrintWords Go.Proofs.YtcongmckkjbhiaaW.PrintLast
theorem alive_eq : laws_alive.f = some true := by
 unfold laws_alive.f
 rw [impl_PlaceOf_eq, Option.bind_some, show plOr 0 0 = 0 by decide, if_pos rfl, impl_PlaceOf_eq, Option.bind_some, show plOr 0 1 = -1 by decide]
 rfl
end Go.Proofs.Ytcongmckkjbhiaa.P
/- Both ways is what is in both: the pure statement of the law FnBothWays. No condition. -/
namespace Go.Proofs.Ytcongmckkjbhiaa.Pure
open Go.RowKit Go.Proofs.Ytcongmckkjbhiaa.P Go.Proofs.YtcongmckkjbhiaaW.PrintWords Go.Proofs.YtcongmckkjbhiaaW.PrintLast
theorem drawBothWays (l : List Int) (hw : ∀ x ∈ l, (Lit.int .u8 x).wf = true) (k : Nat) (hk : 2097200 ≤ k) : ∃ t r, spec_DrawBothWays.f k l = some (t, r) ∧ 0 ≤ t ∧ t ≤ 3 ∧ r.length ≤ 100 := by
 obtain ⟨xs, eo, hs⟩ := src_open l hw
 unfold spec_DrawBothWays.f
 obtain ⟨p, e1, g1, g2⟩ := pick_k xs hs 0 3 (by omega) (by omega) k (by omega)
 rw [eo, Option.bind_some, e1, Option.bind_some]
 by_cases z : p = 0
 ·obtain ⟨q, e2, g3, g4⟩ := pick_k xs hs (0 + 1) 5 (by omega) (by omega) k (by omega)
  obtain ⟨t, e3, g5, g6⟩ := pick_k xs hs (0 + 1 + 1) 4 (by omega) (by omega) k (by omega)
  have g7 := g6 (by omega)
  rw [if_pos z, Option.bind_some, e2, Option.bind_some, if_pos g3, if_pos (by exact g4 (by omega)), spec_NamedTriangle_k _ k (by omega), Option.bind_some, e3, Option.bind_some, spec_RelationFrom_k _ _ (by have := specNm_length (rdOf ByteArray.empty [(⟨#[115, 111, 109, 101]⟩ : ByteArray), (⟨#[110, 111]⟩ : ByteArray), (⟨#[101, 118, 101, 110]⟩ : ByteArray), (⟨#[106, 117, 115, 116, 49]⟩ : ByteArray), (⟨#[97, 116, 108, 101, 97, 115, 116, 50]⟩ : ByteArray)] q).toList; exact Nat.le_trans this (by decide)) k (by omega)]
  exact ⟨_, _, rfl, g5, by omega, rfP_length _ _⟩
 ·obtain ⟨t, r, c, e, h1, h2, h3, _, _⟩ := l20Relation_k xs hs (0 + 1) 12 (by omega) (by omega) k hk
  rw [if_neg z, e]
  exact ⟨t, r, rfl, h1, h2, by omega⟩
/-- At two sets: it holds of them just if it does of what is in both, and the same again. -/
def bwAt (t : Int) (l : List Int) (a b : Int) : Bool := hr t l a b == hr t l (Go.bits .and .i64 a b) (Go.bits .and .i64 a b)
theorem holds_in (t : Int) (l : List Int) (h : isRel t l = true) (a b : Int) (a0 : 0 ≤ a) (a1 : a < pw t) (b0 : 0 ≤ b) (b1 : b < pw t) : holdsP t l a b = hr t l a b := by
 unfold holdsP
 rw [h, decide_eq_true (show 0 ≤ a ∧ a < pw t from ⟨a0, a1⟩), decide_eq_true (show 0 ≤ b ∧ b < pw t from ⟨b0, b1⟩)]
 rfl
theorem walk_l1 (t : Int) (l : List Int) (h : isRel t l = true) (hl : l.length ≤ 100) (B : Nat) (hp : pw t = (B : Int)) (hB : B ≤ 8) (x : Bool) (a : Nat) (ha : a < B) (d : Nat) : ∀ (m b : Nat) (ok : Bool), b + d = B → 1048700 ≤ m →
  laws_FnBothWays.l1 (m + d + 1) t l x ok (a : Int) (b : Int) = laws_FnBothWays.l0 m t l x (ok && (List.range' b d).all fun (b : Nat) => bwAt t l a b) ((a + 1 : Nat) : Int) := by
 obtain ⟨t0, t3, hlen⟩ := isRel_range h
 induction d with
 | zero =>
  intro m b ok e hm
  obtain ⟨M, hM⟩ : ∃ M, M = m + 0 := ⟨_, rfl⟩
  rw [← hM, show m = M from by omega]
  simp only [laws_FnBothWays.l1]
  rw [if_pos t0, shl_one t t0 t3, hp, if_neg (by omega), List.range'_zero, List.all_nil, Bool.and_true, wrap_succ6 a (by omega)]
 | succ d ih =>
  intro m b ok e hm
  obtain ⟨M, hM⟩ : ∃ M, M = m + d + 1 := ⟨_, rfl⟩
  rw [show m + (d + 1) + 1 = M + 1 from by omega]
  have hi := fun ok => ih m (b + 1) ok (by omega) hm
  rw [← hM] at hi
  have c1 := common_k a b (by omega) (by omega) (by omega) (by omega) M (by omega)
  obtain ⟨r1, r2⟩ := and_range t a b t0 t3 (by omega) (by omega) (by omega) (by omega)
  have q1 := impl_HoldsOf_k t l a b (by omega) M (by omega)
  have q2 := impl_HoldsOf_k t l (Go.bits .and .i64 a b) (Go.bits .and .i64 a b) (by omega) M (by omega)
  rw [holds_in t l h a b (by omega) (by omega) (by omega) (by omega)] at q1
  rw [holds_in t l h _ _ r1 r2 r1 r2] at q2
  have hb : (b : Int) < (B : Int) := by omega
  have ws := wrap_succ6 b (by omega)
  simp only [laws_FnBothWays.l1]
  rw [if_pos t0, shl_one t t0 t3, hp, if_pos hb, c1, Option.bind_some, q1, Option.bind_some, q2, Option.bind_some, ws, List.range'_succ, List.all_cons]
  obtain ⟨u, hu⟩ : ∃ u, u = bwAt t l a b := ⟨_, rfl⟩
  rw [← hu]
  unfold bwAt at hu
  cases u with
  | true =>
   have : (hr t l a b != hr t l (Go.bits .and .i64 a b) (Go.bits .and .i64 a b)) = false := by unfold bne; rw [← hu]; rfl
   rw [this, if_neg Bool.false_ne_true, hi, Bool.true_and]
  | false =>
   have : (hr t l a b != hr t l (Go.bits .and .i64 a b) (Go.bits .and .i64 a b)) = true := by unfold bne; rw [← hu]; rfl
   rw [this, if_pos rfl, hi]
   simp
theorem walk_l0 (t : Int) (l : List Int) (h : isRel t l = true) (hl : l.length ≤ 100) (B : Nat) (hp : pw t = (B : Int)) (hB : B ≤ 8) (x : Bool) (e : Nat) : ∀ (k a : Nat) (ok : Bool), a + e = B → 20 * e + 1048800 ≤ k →
  laws_FnBothWays.l0 k t l x ok (a : Int) = some ((ok && (List.range' a e).all fun (a : Nat) => (List.range' 0 B).all fun (b : Nat) => bwAt t l a b) == x) := by
 obtain ⟨t0, t3, hlen⟩ := isRel_range h
 induction e with
 | zero =>
  intro k a ok ha hk
  obtain ⟨k, rfl⟩ : ∃ m, k = m + 1 := ⟨k - 1, by omega⟩
  simp only [laws_FnBothWays.l0]
  rw [if_pos t0, shl_one t t0 t3, hp, if_neg (by omega), List.range'_zero, List.all_nil, Bool.and_true]
 | succ e ih =>
  intro k a ok ha hk
  obtain ⟨k, rfl⟩ : ∃ m, k = m + B + 1 + 1 := ⟨k - (B + 2), by omega⟩
  have hw := walk_l1 t l h hl B hp hB x a (by omega) B k 0 ok (by omega) (by omega)
  rw [List.range'_succ, List.all_cons, ← Bool.and_assoc, ← ih k (a + 1) _ (by omega) (by omega), ← hw]
  simp only [laws_FnBothWays.l0]
  rw [if_pos t0, shl_one t t0 t3, hp, if_pos (by omega)]
  rfl
theorem and_laws (a b : Int) (h1 : 0 ≤ a) (h2 : a < 8) (h3 : 0 ≤ b) (h4 : b < 8) : Go.bits .and .i64 (Go.bits .and .i64 a b) a = Go.bits .and .i64 a b ∧ Go.bits .and .i64 a b = Go.bits .and .i64 b a := by
 have hf : ∀ x y : Fin 8, Go.bits .and .i64 (Go.bits .and .i64 (x.val : Int) (y.val : Int)) (x.val : Int) = Go.bits .and .i64 (x.val : Int) (y.val : Int) ∧ Go.bits .and .i64 (x.val : Int) (y.val : Int) = Go.bits .and .i64 (y.val : Int) (x.val : Int) := by decide +kernel
 obtain ⟨x, rfl⟩ := Int.eq_ofNat_of_zero_le h1
 obtain ⟨y, rfl⟩ := Int.eq_ofNat_of_zero_le h3
 exact hf ⟨x, by omega⟩ ⟨y, by omega⟩
theorem both_same (t : Int) (l : List Int) (hin : insideP t l = true) (B : Nat) (hp : pw t = (B : Int)) (hB : B ≤ 8) :
  ((List.range' 0 B).all fun (a : Nat) => (List.range' 0 B).all fun (b : Nat) => bwAt t l a b) = bothWaysP t l := by
 unfold insideP at hin
 rw [Bool.and_eq_true, forAllP_iff] at hin
 obtain ⟨h, hin⟩ := hin
 obtain ⟨t0, t3, hlen⟩ := isRel_range h
 have hi : ∀ a b : Int, 0 ≤ a → a < pw t → 0 ≤ b → b < pw t → hr t l a b = hr t l a (Go.bits .and .i64 a b) := fun a b h1 h2 h3 h4 => beq_iff_eq.mp (hin a b h1 h2 h3 h4)
 unfold bothWaysP
 rw [h, Bool.true_and, Bool.eq_iff_iff, forAllP_iff]
 simp only [List.all_eq_true, List.mem_range'_1, impl_BothWays.so, bwAt, beq_iff_eq]
 constructor
 ·intro g a b a0 a1 b0 b1
  have g1 := g a.toNat (by omega) b.toNat (by omega)
  have g2 := g b.toNat (by omega) a.toNat (by omega)
  rw [show ((a.toNat : Nat) : Int) = a by omega, show ((b.toNat : Nat) : Int) = b by omega] at g1 g2
  rw [g1, g2, (and_laws a b a0 (by omega) b0 (by omega)).2]
 ·intro g a ha b hb
  obtain ⟨c0, c1⟩ := and_range t a b t0 t3 (by omega) (by omega) (by omega) (by omega)
  have e1 := hi a b (by omega) (by omega) (by omega) (by omega)
  have e2 := g a (Go.bits .and .i64 a b) (by omega) (by omega) c0 c1
  have e3 := hi (Go.bits .and .i64 a b) a c0 c1 (by omega) (by omega)
  rw [(and_laws a b (by omega) (by omega) (by omega) (by omega)).1] at e3
  rw [e1, e2, e3]
theorem FnBothWays : laws_FnBothWays.Pure := by
 intro l _ _ hw
 obtain ⟨K, hK⟩ : ∃ K, K = 2107300 := ⟨_, rfl⟩
 refine ⟨K + 1, ?_⟩
 unfold laws_FnBothWays.f
 by_cases hl : (l.length : Int) > 1048576
 ·rw [if_pos hl]
 ·obtain ⟨t, r, et, t0, t3, hr⟩ := drawBothWays l hw (K + 1) (by omega)
  rw [if_neg hl, et, Option.bind_some]
  rw [impl_BothWays_k t r (by omega) (K + 1) (by omega), Option.bind_some, spec_BothWays_k t r (by omega) (K + 1) (by omega), Option.bind_some, bne_self_eq_false, if_neg Bool.false_ne_true, impl_LooksInside_k t r (by omega) (K + 1) (by omega), Option.bind_some, alive_eq]
  by_cases g : insideP t r = true
  ·obtain ⟨B, hp, hB, _⟩ := pw_nat t t0 t3
   have hrel : isRel t r = true := by unfold insideP at g; exact (Bool.and_eq_true_iff.mp g).1
   have := walk_l0 t r hrel hr B hp hB (bothWaysP t r) B (K + 1) 0 true (by omega) (by omega)
   rw [both_same t r g B hp hB] at this
   rw [if_pos g]
   refine Eq.trans this ?_
   simp
  ·rw [if_neg g]
   rfl
end Go.Proofs.Ytcongmckkjbhiaa.Pure
