-- Texts of this claim, laid one behind the other by wip/gen/merge.py.
import Derived.Test.YtcongmckkjbhiaaZFnRelationFrom12
import Derived.Test.YtcongmckkjbhiaaZFnRelationFrom11
import Derived.Test.YtcongmckkjbhiaaZFnRelationFrom4
import Derived.Test.YtcongmckkjbhiaaZFnRelationFrom8
import Derived.Laws.Entries
import Derived.Test.YtcongmckkjbhiaaZFnRelationFrom15
import Derived.Test.YtcongmckkjbhiaaZFnRelationFrom10
import Derived.Test.YtcongmckkjbhiaaZFnRelationFrom2
import Derived.Test.YtcongmckkjbhiaaZFnRelationFrom1
import Derived.Test.YtcongmckkjbhiaaZFnRelationFrom14
/- Plain facts on the drawing of arguments: the reader, one draw. -/
namespace Go.Proofs.Ytcongmckkjbhiaa.P
open Go.RowKit Go.Proofs.YtcongmckkjbhiaaW.PrintWords Go.Proofs.YtcongmckkjbhiaaW.PrintLast
theorem wr (x : Int) (h0 : 0 ≤ x) (h1 : x < 4611686018427387904) : wrap64 x = x := by unfold wrap64; omega
theorem xor_pos (a b : Int) (h1 : 0 ≤ a) (h2 : a < 4611686018427387904) (h3 : 0 ≤ b) (h4 : b < 4611686018427387904) : 0 ≤ Go.bits .xor .i64 a b ∧ Go.bits .xor .i64 a b < 4611686018427387904 := by
 obtain ⟨x, rfl⟩ := Int.eq_ofNat_of_zero_le h1
 obtain ⟨y, rfl⟩ := Int.eq_ofNat_of_zero_le h3
 have hx : x ^^^ y < 2 ^ 62 := Nat.xor_lt_two_pow (by omega) (by omega)
 have e1 : (BitVec.ofInt 64 (x : Int)).toNat = x := by
  rw [BitVec.ofInt_natCast, BitVec.toNat_ofNat]; exact Nat.mod_eq_of_lt (by omega)
 have e2 : (BitVec.ofInt 64 (y : Int)).toNat = y := by
  rw [BitVec.ofInt_natCast, BitVec.toNat_ofNat]; exact Nat.mod_eq_of_lt (by omega)
 have h : Go.bits .xor .i64 (x : Int) (y : Int) = ((x ^^^ y : Nat) : Int) := by
  show IntKind.i64.wrap ((BitVec.ofInt 64 (x : Int) ^^^ BitVec.ofInt 64 (y : Int)).toNat : Int) = _
  rw [BitVec.toNat_xor, e1, e2]
  simp [IntKind.wrap, IntKind.bits, IntKind.signed]
  omega
 rw [h]
 omega
/-- What draws read from: bytes, not too many. -/
def Src (xs : List Int) : Prop := xs.length ≤ 2000 ∧ ∀ x ∈ xs, 0 ≤ x ∧ x ≤ 255
theorem Src.rd {xs : List Int} (h : Src xs) (i : Int) : 0 ≤ rd xs i ∧ rd xs i ≤ 255 := by
 unfold Go.Proofs.YtcongmckkjbhiaaW.PrintWords.rd
 rw [List.getD_eq_getElem?_getD]
 cases e : xs[i.toNat]? with
 | none => simp
 | some v => exact h.2 v (List.mem_of_getElem? e)
theorem src_open (l : List Int) (hw : ∀ x ∈ l, (Lit.int .u8 x).wf = true) : ∃ xs, spec_l20Open.f l = some (xs, 0) ∧ Src xs := by
 have hb : ∀ x ∈ l, 0 ≤ x ∧ x ≤ 255 := by
  intro x hx
  have h := hw x hx
  have h' : (decide (IntKind.u8.min ≤ x) && decide (x ≤ IntKind.u8.max)) = true := h
  rw [Bool.and_eq_true, decide_eq_true_eq, decide_eq_true_eq] at h'
  exact ⟨h'.1, h'.2⟩
 unfold spec_l20Open.f
 by_cases h : (l.length : Int) > 2000
 ·rw [if_pos h, if_pos (by omega)]
  exact ⟨_, rfl, by rw [List.length_take]; omega, fun x hx => hb x (List.mem_of_mem_take hx)⟩
 ·rw [if_neg h]
  exact ⟨_, rfl, by omega, hb⟩
theorem tmod_range (v n : Int) (hv : 0 ≤ v) (hn : 1 ≤ n) : 0 ≤ Int.tmod v n ∧ Int.tmod v n < n := by
 rw [Int.tmod_eq_emod_of_nonneg hv]
 exact ⟨Int.emod_nonneg _ (by omega), Int.emod_lt_of_pos _ (by omega)⟩
theorem pick_k (xs : List Int) (hs : Src xs) (c n : Int) (h0 : 0 ≤ c) (h1 : c ≤ 1000000) (k : Nat) (hk : 1 ≤ k) : ∃ r, spec_l20Rd_pick.f k xs c n = some (r, c + 1) ∧ 0 ≤ r ∧ (1 ≤ n → r < n) := by
 obtain ⟨k, rfl⟩ : ∃ m, k = m + 1 := ⟨k - 1, by omega⟩
 unfold spec_l20Rd_pick.f
 rw [wr (c + 1) (by omega) (by omega)]
 by_cases hn : n < 1
 ·rw [if_pos hn]
  simp only [spec_l20Rd_pick.j0]
  rw [if_pos trivial]
  exact ⟨0, rfl, by omega, fun h => by omega⟩
 ·rw [if_neg hn]
  simp only [spec_l20Rd_pick.j0]
  rw [show c + 1 - 1 = c by omega, wr c (by omega) (by omega)]
  by_cases hl : xs.length = 0
  ·rw [if_pos (by simp [hl])]
   exact ⟨0, rfl, by omega, fun h => by omega⟩
  ·rw [if_neg (by simp; intro h; exact hl (by rw [h]; rfl))]
   by_cases hc : c < (xs.length : Int)
   ·rw [if_pos hc, if_pos h0, if_neg (by omega)]
    have hb := hs.rd c
    rw [wr _ hb.1 (by omega)]
    have := tmod_range _ n hb.1 (by omega)
    exact ⟨_, rfl, this.1, fun _ => this.2⟩
   ·have hlen := hs.1
    have hL : (1 : Int) ≤ (xs.length : Int) := by omega
    have t1 := tmod_range c (xs.length : Int) h0 hL
    have w7 : wrap64 (wrap64 (c * 7) + 3) = c * 7 + 3 := by rw [wr (c * 7) (by omega) (by omega), wr _ (by omega) (by omega)]
    have t2 := tmod_range (c * 7 + 3) (xs.length : Int) (by omega) hL
    rw [w7, if_neg hc, if_neg (by omega), if_pos t1.1, if_pos t1.2, if_pos t2.1, if_pos t2.2, if_neg (by omega)]
    have b1 := hs.rd (Int.tmod c (xs.length : Int))
    have b2 := hs.rd (Int.tmod (c * 7 + 3) (xs.length : Int))
    have q0 : 0 ≤ Int.tdiv c (xs.length : Int) := Int.tdiv_nonneg h0 (by omega)
    have q1 : Int.tdiv c (xs.length : Int) ≤ c := by
     rw [Int.tdiv_eq_ediv_of_nonneg h0]
     exact Int.ediv_le_self _ h0
    obtain ⟨B1, e1⟩ : ∃ B, B = rd xs (Int.tmod c (xs.length : Int)) := ⟨_, rfl⟩
    obtain ⟨B2, e2⟩ : ∃ B, B = rd xs (Int.tmod (c * 7 + 3) (xs.length : Int)) := ⟨_, rfl⟩
    obtain ⟨Q, e3⟩ : ∃ B, B = Int.tdiv c (xs.length : Int) := ⟨_, rfl⟩
    rw [← e1] at b1 ⊢
    rw [← e2] at b2 ⊢
    rw [← e3] at q0 q1 ⊢
    rw [wr B1 (by omega) (by omega), wr B2 (by omega) (by omega), wr Q (by omega) (by omega), wr (B1 * 131) (by omega) (by omega), wr (B2 * 1117) (by omega) (by omega), wr (c * 29) (by omega) (by omega), wr (Q * 53) (by omega) (by omega), wr (B1 * 131 + B2 * 1117) (by omega) (by omega), wr (B1 * 131 + B2 * 1117 + c * 29) (by omega) (by omega), wr (B1 * 131 + B2 * 1117 + c * 29 + Q * 53) (by omega) (by omega)]
    obtain ⟨V, e4⟩ : ∃ V, V = B1 * 131 + B2 * 1117 + c * 29 + Q * 53 := ⟨_, rfl⟩
    rw [← e4]
    have hV : 0 ≤ V ∧ V < 4611686018427387904 := by omega
    have hd : Int.tdiv V 64 = V / 64 := Int.tdiv_eq_ediv_of_nonneg hV.1
    rw [hd, wr (V / 64) (by omega) (by omega)]
    have hx := xor_pos V (V / 64) hV.1 hV.2 (by omega) (by omega)
    have := tmod_range _ n hx.1 (by omega)
    exact ⟨_, rfl, this.1, fun _ => this.2⟩
theorem odd_k (xs : List Int) (hs : Src xs) (c n : Int) (h0 : 0 ≤ c) (h1 : c ≤ 1000000) (k : Nat) (hk : 1 ≤ k) : ∃ b c', spec_l20Rd_odd.f k xs c n = some (b, c') ∧ c ≤ c' ∧ c' ≤ c + 1 := by
 unfold spec_l20Rd_odd.f
 by_cases h : n > 0
 ·obtain ⟨r, e, _, _⟩ := pick_k xs hs c n h0 h1 k hk
  rw [if_pos h, e, Option.bind_some]
  exact ⟨_, _, rfl, by omega, by omega⟩
 ·rw [if_neg h]
  exact ⟨_, _, rfl, by omega, by omega⟩
/- Plain facts on the drawing of arguments: a drawn triangle; every draw ends, with a result of bounded size. -/
theorem tri_j1 (xs : List Int) (hs : Src xs) (n : Int) (l : List Int) (hl : l.length = 21) (c : Int) (h0 : 0 ≤ c) (h1 : c ≤ 500000) (k : Nat) (hk : 2 ≤ k) : ∃ r c', spec_l20Tri.j1 k n l xs c = some (r, c') ∧ c ≤ c' ∧ c' ≤ c + 3 ∧ r.length ≤ 22 := by
 obtain ⟨k, rfl⟩ : ∃ m, k = m + 1 := ⟨k - 1, by omega⟩
 obtain ⟨b, c1, e1, g1, g2⟩ := odd_k xs hs c n h0 (by omega) k (by omega)
 simp only [spec_l20Tri.j1]
 rw [e1, Option.bind_some]
 cases b with
 | false =>
  rw [if_neg Bool.false_ne_true]
  exact ⟨_, _, rfl, by omega, by omega, by omega⟩
 | true =>
  obtain ⟨r, e2, g3, g4⟩ := pick_k xs hs c1 3 (by omega) (by omega) k (by omega)
  rw [if_pos rfl, e2, Option.bind_some]
  by_cases k1 : r = 0
  ·rw [if_pos k1]
   exact ⟨_, _, rfl, by omega, by omega, by simp⟩
  ·rw [if_neg k1]
   by_cases k2 : r = 1
   ·rw [if_pos k2, if_pos (by omega)]
    exact ⟨_, _, rfl, by omega, by omega, by rw [List.length_append, hl]; decide⟩
   ·obtain ⟨q, e3, g5, g6⟩ := pick_k xs hs (c1 + 1) 21 (by omega) (by omega) k (by omega)
    rw [if_neg k2, e3, Option.bind_some, if_pos g5, if_pos (by have := g6 (by omega); omega)]
    exact ⟨_, _, rfl, by omega, by omega, by rw [List.length_set]; omega⟩
theorem tri_l0 (xs : List Int) (hs : Src xs) (n : Int) (d : Nat) : ∀ (k : Nat) (l : List Int) (i : Nat) (c : Int), i + d = 21 → l.length = i → 0 ≤ c → c + d ≤ 400000 → d + 10 ≤ k →
  ∃ r c', spec_l20Tri.l0 k n l (i : Int) xs c = some (r, c') ∧ c ≤ c' ∧ c' ≤ c + d + 3 ∧ r.length ≤ 22 := by
 induction d with
 | zero =>
  intro k l i c h hl h0 h1 hk
  obtain ⟨k, rfl⟩ : ∃ m, k = m + 1 := ⟨k - 1, by omega⟩
  obtain ⟨r, c', e, g1, g2, g3⟩ := tri_j1 xs hs n l (by omega) c h0 (by omega) k (by omega)
  simp only [spec_l20Tri.l0]
  rw [if_neg (by omega), e]
  exact ⟨_, _, rfl, by omega, by omega, g3⟩
 | succ d ih =>
  intro k l i c h hl h0 h1 hk
  obtain ⟨k, rfl⟩ : ∃ m, k = m + 1 := ⟨k - 1, by omega⟩
  obtain ⟨r, e, _, _⟩ := pick_k xs hs c 2 h0 (by omega) k (by omega)
  obtain ⟨r', c', e', g1, g2, g3⟩ := ih k (l ++ [r]) (i + 1) (c + 1) (by omega) (by rw [List.length_append, hl]; rfl) (by omega) (by omega) (by omega)
  simp only [spec_l20Tri.l0]
  rw [if_pos (by omega), e, Option.bind_some, if_pos (by omega), wrap_succ6 i (by omega), e']
  exact ⟨_, _, rfl, by omega, by omega, g3⟩
theorem l20Tri_k (xs : List Int) (hs : Src xs) (c n : Int) (h0 : 0 ≤ c) (h1 : c ≤ 300000) (k : Nat) (hk : 2097200 ≤ k) : ∃ l c', spec_l20Tri.f k xs c n = some (l, c') ∧ c ≤ c' ∧ c' ≤ c + 30 ∧ l.length ≤ 22 := by
 unfold spec_l20Tri.f
 obtain ⟨r1, e1, g1, g2⟩ := pick_k xs hs c 4 h0 (by omega) k (by omega)
 rw [e1, Option.bind_some]
 by_cases z : r1 = 0
 ·rw [if_pos z]
  obtain ⟨l, c', e, g3, g4, g5⟩ := tri_l0 xs hs n 21 k [] 0 (c + 1) (by omega) rfl (by omega) (by omega) (by omega)
  exact ⟨l, c', e, by omega, by omega, g5⟩
 ·rw [if_neg z, show spec_l20Names.f = some l20N from rfl]
  obtain ⟨r2, e2, g3, g4⟩ := pick_k xs hs (c + 1) 10 (by omega) (by omega) k (by omega)
  obtain ⟨r3, e3, g5, g6⟩ := pick_k xs hs (c + 1 + 1) 10 (by omega) (by omega) k (by omega)
  obtain ⟨r4, e4, g7, g8⟩ := pick_k xs hs (c + 1 + 1 + 1) 7 (by omega) (by omega) k (by omega)
  obtain ⟨t, t1, t2⟩ := names_in r2 g3 (g4 (by omega))
  obtain ⟨u, u1, u2⟩ := names_in r3 g5 (g6 (by omega))
  have i2 : r2 < (l20N.length : Int) := g4 (by omega)
  have i3 : r3 < (l20N.length : Int) := g6 (by omega)
  rw [Option.bind_some, e2, Option.bind_some, if_pos g3, if_pos i2, spec_NamedTriangle_k _ k (by omega), t1, Option.bind_some, Option.bind_some, e3, Option.bind_some, if_pos g5, if_pos i3, spec_NamedTriangle_k _ k (by omega), u1, Option.bind_some, e4, Option.bind_some]
  have ht := isTri_length t2
  have hu := isTri_length u2
  have fin : ∀ l : List Int, isTri l = true → ∃ r c', spec_l20Tri.j1 k n l xs (c + 1 + 1 + 1 + 1) = some (r, c') ∧ c ≤ c' ∧ c' ≤ c + 30 ∧ r.length ≤ 22 := by
   intro l h
   obtain ⟨r, c', e, a1, a2, a3⟩ := tri_j1 xs hs n l (isTri_length h) (c + 1 + 1 + 1 + 1) (by omega) (by omega) k (by omega)
   exact ⟨r, c', e, by omega, by omega, a3⟩
  by_cases z0 : r4 = 0
  ·rw [if_pos z0, spec_NotOf_k t (by omega) k (by omega), Option.bind_some]
   exact fin _ (isTri_notP t t2)
  ·rw [if_neg z0]
   by_cases z1 : r4 = 1
   ·rw [if_pos z1, spec_InsideNot_k t (by omega) k (by omega), Option.bind_some]
    exact fin _ (isTri_insP t t2)
   ·rw [if_neg z1]
    by_cases z2 : r4 = 2
    ·rw [if_pos z2, spec_BothOf_k t u (by omega) (by omega) k (by omega), Option.bind_some]
     exact fin _ (isTri_bothP t u t2 u2)
    ·rw [if_neg z2]
     by_cases z3 : r4 = 3
     ·rw [if_pos z3, spec_EitherOf_k t u (by omega) (by omega) k (by omega), Option.bind_some]
      exact fin _ (isTri_eitherP t u t2 u2)
     ·rw [if_neg z3]
      exact fin t t2
/- Plain facts: what the program's PlaceOf comes to. No condition beyond those typed. -/
theorem impl_PlaceOf_eq (a s : Int) : impl_PlaceOf.f a s = some (plOr a s) := by
 unfold impl_PlaceOf.f plOr impl_placeOf.f
 by_cases h1 : a < 0
 ·rw [if_pos h1, if_neg (by omega)]
 ·by_cases h2 : a > 5
  ·rw [if_neg h1, if_pos h2, if_neg (by omega)]
  ·by_cases h3 : s < 0
   ·rw [if_neg h1, if_neg h2, if_pos h3, if_neg (by omega)]
   ·by_cases h4 : s > a
    ·rw [if_neg h1, if_neg h2, if_neg h3, if_pos h4, if_neg (by omega)]
    ·rw [if_neg h1, if_neg h2, if_neg h3, if_neg h4, Option.bind_some, pl_wrap a s (by omega) (by omega) (by omega) (by omega), if_pos (by omega)]
/- Plain facts on the law's last word and the sameness of rows. -/
theorem alive_eq : laws_alive.f = some true := by
 unfold laws_alive.f
 rw [impl_PlaceOf_eq, Option.bind_some, show plOr 0 0 = 0 by decide, if_pos rfl, impl_PlaceOf_eq, Option.bind_some, show plOr 0 1 = -1 by decide]
 rfl
theorem same_round (l : List Int) (hl : l.length ≤ 1048576) (d : Nat) : ∀ (k i : Nat), i + d = l.length → d < k → laws_sameInts.l0 k l l (i : Int) = some true := by
 induction d with
 | zero =>
  intro k i h hk
  obtain ⟨k, rfl⟩ : ∃ m, k = m + 1 := ⟨k - 1, by omega⟩
  simp only [laws_sameInts.l0]
  rw [if_neg (by omega)]
 | succ d ih =>
  intro k i h hk
  obtain ⟨k, rfl⟩ : ∃ m, k = m + 1 := ⟨k - 1, by omega⟩
  simp only [laws_sameInts.l0]
  rw [if_pos (by omega), if_pos (by omega), if_pos (by omega), if_pos trivial, wrap_succ i l.length (by omega) hl]
  exact ih k (i + 1) (by omega) (by omega)
theorem same_k (l : List Int) (hl : l.length ≤ 1048576) (k : Nat) (hk : 1048576 < k) : laws_sameInts.f k l l = some true := by
 unfold laws_sameInts.f
 rw [if_pos rfl]
 exact same_round l hl l.length k 0 (by omega) (by omega)
end Go.Proofs.Ytcongmckkjbhiaa.P
/- Triangles look inside and know no thing: the pure statement of the law FnRelationFrom. No condition. -/
namespace Go.Proofs.Ytcongmckkjbhiaa.Pure
open Go.RowKit Go.Proofs.Ytcongmckkjbhiaa.P Go.Proofs.YtcongmckkjbhiaaW.PrintWords Go.Proofs.YtcongmckkjbhiaaW.PrintLast
theorem drawRelationFrom (l : List Int) (hw : ∀ x ∈ l, (Lit.int .u8 x).wf = true) (k : Nat) (hk : 2097200 ≤ k) : ∃ t r, spec_DrawRelationFrom.f k l = some (t, r) ∧ r.length ≤ 22 := by
 obtain ⟨xs, eo, hs⟩ := src_open l hw
 obtain ⟨p, e1, _, _⟩ := pick_k xs hs 0 4 (by omega) (by omega) k (by omega)
 obtain ⟨q, e2, _, _⟩ := pick_k xs hs (0 + 1) 20 (by omega) (by omega) k (by omega)
 obtain ⟨r, c, e3, _, _, h3⟩ := l20Tri_k xs hs (0 + 1 + 1) 14 (by omega) (by omega) k hk
 unfold spec_DrawRelationFrom.f
 rw [eo, Option.bind_some, e1, Option.bind_some, e2, Option.bind_some, e3]
 exact ⟨_, r, rfl, h3⟩
theorem and_again (a b : Int) (h1 : 0 ≤ a) (h2 : a < 8) (h3 : 0 ≤ b) (h4 : b < 8) : Go.bits .and .i64 a (Go.bits .and .i64 a b) = Go.bits .and .i64 a b := by
 have hf : ∀ x y : Fin 8, Go.bits .and .i64 (x.val : Int) (Go.bits .and .i64 (x.val : Int) (y.val : Int)) = Go.bits .and .i64 (x.val : Int) (y.val : Int) := by decide +kernel
 obtain ⟨x, rfl⟩ := Int.eq_ofNat_of_zero_le h1
 obtain ⟨y, rfl⟩ := Int.eq_ofNat_of_zero_le h3
 exact hf ⟨x, by omega⟩ ⟨y, by omega⟩
theorem exch_sizes (t a b : Int) (i k : Nat) (h1 : 0 ≤ t) (h2 : t ≤ 3) (a0 : 0 ≤ a) (a1 : a < pw t) (b0 : 0 ≤ b) (b1 : b < pw t) (h6 : k < i) (h7 : (i : Int) < t) : szI (exch a i k) = szI a ∧ szI (Go.bits .and .i64 (exch a i k) (exch b i k)) = szI (Go.bits .and .i64 a b) := by
 have hf : ∀ T : Fin 4, ∀ x y : Fin 8, ∀ p q : Fin 3, (x.val : Int) < pw T.val → (y.val : Int) < pw T.val → q.val < p.val → p.val < T.val → szI (exch x.val p.val q.val) = szI x.val ∧ szI (Go.bits .and .i64 (exch x.val p.val q.val) (exch y.val p.val q.val)) = szI (Go.bits .and .i64 x.val y.val) := by decide +kernel
 have hp := pw_range t h1 h2
 obtain ⟨T, rfl⟩ := Int.eq_ofNat_of_zero_le h1
 obtain ⟨x, rfl⟩ := Int.eq_ofNat_of_zero_le a0
 obtain ⟨y, rfl⟩ := Int.eq_ofNat_of_zero_le b0
 exact hf ⟨T, by omega⟩ ⟨x, by omega⟩ ⟨y, by omega⟩ ⟨i, by omega⟩ ⟨k, by omega⟩ a1 b1 h6 (show i < T by omega)
theorem rf_inside (t : Int) (l : List Int) (h : isTri l = true) (h1 : 0 ≤ t) (h2 : t ≤ 3) : insideP t (rfP t l) = true := by
 have hp := pw_range t h1 h2
 unfold insideP
 rw [Bool.and_eq_true, forAllP_iff]
 refine ⟨rfP_rel t l h h1 h2, fun a b a0 a1 b0 b1 => ?_⟩
 obtain ⟨c0, c1⟩ := and_range t a b h1 h2 a0 a1 b0 b1
 unfold impl_LooksInside.so
 rw [rfP_hr t l h h1 h2 a b a0 a1 b0 b1, rfP_hr t l h h1 h2 a _ a0 a1 c0 c1, and_again a b a0 (by omega) b0 (by omega)]
 simp
theorem rf_knows (t : Int) (l : List Int) (h : isTri l = true) (h1 : 0 ≤ t) (h2 : t ≤ 3) : kntAllP t (rfP t l) = true := by
 unfold kntAllP
 rw [Bool.and_eq_true, forAllP_iff]
 refine ⟨rfP_rel t l h h1 h2, fun a b a0 a1 b0 b1 => ?_⟩
 unfold impl_KnowsNoThing.so
 refine kntP_true _ _ _ _ fun i k hi hk => ?_
 have x1 := exch_here t a i k h1 h2 a0 a1 (by omega) (by omega) (by omega)
 have x2 := exch_here t b i k h1 h2 b0 b1 (by omega) (by omega) (by omega)
 obtain ⟨s1, s2⟩ := exch_sizes t a b i k h1 h2 a0 a1 b0 b1 hk (by omega)
 unfold kntAt
 rw [rfP_hr t l h h1 h2 a b a0 a1 b0 b1, rfP_hr t l h h1 h2 _ _ x1.2.1 x1.2.2 x2.2.1 x2.2.2, s1, s2]
 simp
theorem FnRelationFrom : laws_FnRelationFrom.Pure := by
 intro l _ _ hw
 obtain ⟨K, hK⟩ : ∃ K, K = 2107300 := ⟨_, rfl⟩
 refine ⟨K + 1, ?_⟩
 unfold laws_FnRelationFrom.f
 by_cases hl : (l.length : Int) > 1048576
 ·rw [if_pos hl]
 ·obtain ⟨t, r, et, hr⟩ := drawRelationFrom l hw (K + 1) (by omega)
  have n1 := rfP_length t r
  rw [if_neg hl, et, Option.bind_some, impl_RelationFrom_k t r (by omega) (K + 1) (by omega), Option.bind_some, spec_RelationFrom_k t r (by omega) (K + 1) (by omega), Option.bind_some, same_k _ (by omega) (K + 1) (by omega), Option.bind_some, if_pos rfl, alive_eq]
  by_cases g : (0 ≤ t ∧ t ≤ 3) ∧ isTri r = true
  ·obtain ⟨⟨t0, t3⟩, h⟩ := g
   have hlen := (isRel_range (rfP_rel t r h t0 t3)).2.2
   have hne : ¬ ((rfP t r).length : Int) = 0 := by
    rw [hlen]
    have : 0 < 4 ^ t.toNat := Nat.pow_pos (by decide)
    omega
   rw [if_neg hne, impl_LooksInside_k t (rfP t r) (by omega) (K + 1) (by omega), Option.bind_some, if_pos (rf_inside t r h t0 t3), impl_KnowsNoThing_k t (rfP t r) (by omega) (K + 1) (by omega), Option.bind_some, if_pos (rf_knows t r h t0 t3)]
   by_cases z : t = 0
   ·rw [if_pos z]
   ·have wt : wrap64 (t - 1) = t - 1 := by unfold wrap64; omega
    have n2 := rfP_length (t - 1) r
    rw [if_neg z, impl_WithoutLast_k t (rfP t r) (by omega) (K + 1) (by omega), Option.bind_some, wt, impl_RelationFrom_k (t - 1) r (by omega) (K + 1) (by omega), Option.bind_some, wo_rf t r h (by omega) t3, same_k _ (by omega) (K + 1) (by omega)]
    rfl
  ·have : rfP t r = [] := by
    unfold rfP
    rw [if_neg (fun e => g (by simpa using e))]
   rw [this, if_pos (by rfl)]
   rfl
end Go.Proofs.Ytcongmckkjbhiaa.Pure
