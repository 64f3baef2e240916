-- Texts of this claim, laid one behind the other by wip/gen/merge.py.
import Derived.Test.YtdmlofkhanpjoaaZFnBothWays11
import Derived.Test.YtdmlofkhanpjoaaZFnBothWays14
import Derived.Test.YtdmlofkhanpjoaaZFnBothWays0
import Derived.Test.YtdmlofkhanpjoaaZFnBothWays12
/- Plain facts on the law's last word and the sameness of rows. -/
namespace Go.Proofs.Ytdmlofkhanpjoaa.P
open Go.RowKit Go.Proofs.YtdmlofkhanpjoaaW.PrintWords Go.Proofs.YtdmlofkhanpjoaaW.PrintLast

theorem alive_eq : laws_alive.f = some true := by
  unfold laws_alive.f
  rw [impl_PlaceOf_eq, Option.bind_some, show plOr 0 0 = 0 by decide, if_pos rfl, impl_PlaceOf_eq, Option.bind_some, show plOr 0 1 = -1 by decide]
  rfl
theorem same_round (l : List Int) (hl : l.length ≤ 1048576) (d : Nat) : ∀ (k i : Nat), i + d = l.length → d < k → laws_sameInts.l0 k l l (i : Int) = some true := by
  induction d with
  | zero =>
    intro k i h hk
    obtain ⟨k, rfl⟩ : ∃ m, k = m + 1 := ⟨k - 1, by omega⟩
    simp only [laws_sameInts.l0]
    rw [if_neg (by omega)]
  | succ d ih =>
    intro k i h hk
    obtain ⟨k, rfl⟩ : ∃ m, k = m + 1 := ⟨k - 1, by omega⟩
    simp only [laws_sameInts.l0]
    rw [if_pos (by omega), if_pos (by omega), if_pos (by omega), if_pos trivial, wrap_succ i l.length (by omega) hl]
    exact ih k (i + 1) (by omega) (by omega)
theorem same_k (l : List Int) (hl : l.length ≤ 1048576) (k : Nat) (hk : 1048576 < k) : laws_sameInts.f k l l = some true := by
  unfold laws_sameInts.f
  rw [if_pos rfl]
  exact same_round l hl l.length k 0 (by omega) (by omega)

end Go.Proofs.Ytdmlofkhanpjoaa.P

/- Both ways is what is in both: the pure statement of the law FnBothWays. No condition. -/
namespace Go.Proofs.Ytdmlofkhanpjoaa.Pure
open Go.RowKit Go.Proofs.Ytdmlofkhanpjoaa.P Go.Proofs.YtdmlofkhanpjoaaW.PrintWords Go.Proofs.YtdmlofkhanpjoaaW.PrintLast

theorem drawBothWays (l : List Int) (hw : ∀ x ∈ l, (Lit.int .u8 x).wf = true) (k : Nat) (hk : 2097200 ≤ k) : ∃ t r, spec_DrawBothWays.f k l = some (t, r) ∧ 0 ≤ t ∧ t ≤ 3 ∧ r.length ≤ 100 := by
  obtain ⟨xs, eo, hs⟩ := src_open l hw
  unfold spec_DrawBothWays.f
  obtain ⟨p, e1, g1, g2⟩ := pick_k xs hs 0 3 (by omega) (by omega) k (by omega)
  rw [eo, Option.bind_some, e1, Option.bind_some]
  by_cases z : p = 0
  · obtain ⟨q, e2, g3, g4⟩ := pick_k xs hs (0 + 1) 5 (by omega) (by omega) k (by omega)
    obtain ⟨t, e3, g5, g6⟩ := pick_k xs hs (0 + 1 + 1) 4 (by omega) (by omega) k (by omega)
    have g7 := g6 (by omega)
    rw [if_pos z, Option.bind_some, e2, Option.bind_some, if_pos g3, if_pos (by exact g4 (by omega)), spec_NamedTriangle_k _ k (by omega), Option.bind_some, e3, Option.bind_some, spec_RelationFrom_k _ _ (by have := specNm_length (rdOf ByteArray.empty [(⟨#[115, 111, 109, 101]⟩ : ByteArray), (⟨#[110, 111]⟩ : ByteArray), (⟨#[101, 118, 101, 110]⟩ : ByteArray), (⟨#[106, 117, 115, 116, 49]⟩ : ByteArray), (⟨#[97, 116, 108, 101, 97, 115, 116, 50]⟩ : ByteArray)] q).toList; exact Nat.le_trans this (by decide)) k (by omega)]
    exact ⟨_, _, rfl, g5, by omega, rfP_length _ _⟩
  · obtain ⟨t, r, c, e, h1, h2, h3, _, _⟩ := l20Relation_k xs hs (0 + 1) 12 (by omega) (by omega) k hk
    rw [if_neg z, e]
    exact ⟨t, r, rfl, h1, h2, by omega⟩
/-- At two sets: it holds of them just if it does of what is in both, and the same again. -/
def bwAt (t : Int) (l : List Int) (a b : Int) : Bool := hr t l a b == hr t l (Go.bits .and .i64 a b) (Go.bits .and .i64 a b)
theorem holds_in (t : Int) (l : List Int) (h : isRel t l = true) (a b : Int) (a0 : 0 ≤ a) (a1 : a < pw t) (b0 : 0 ≤ b) (b1 : b < pw t) : holdsP t l a b = hr t l a b := by
  unfold holdsP
  rw [h, decide_eq_true (show 0 ≤ a ∧ a < pw t from ⟨a0, a1⟩), decide_eq_true (show 0 ≤ b ∧ b < pw t from ⟨b0, b1⟩)]
  rfl
theorem walk_l1 (t : Int) (l : List Int) (h : isRel t l = true) (hl : l.length ≤ 100) (B : Nat) (hp : pw t = (B : Int)) (hB : B ≤ 8) (x : Bool) (a : Nat) (ha : a < B) (d : Nat) : ∀ (m b : Nat) (ok : Bool), b + d = B → 1048700 ≤ m →
    laws_FnBothWays.l1 (m + d + 1) t l x ok (a : Int) (b : Int) = laws_FnBothWays.l0 m t l x (ok && (List.range' b d).all fun (b : Nat) => bwAt t l a b) ((a + 1 : Nat) : Int) := by
  obtain ⟨t0, t3, hlen⟩ := isRel_range h
  induction d with
  | zero =>
    intro m b ok e hm
    obtain ⟨M, hM⟩ : ∃ M, M = m + 0 := ⟨_, rfl⟩
    rw [← hM, show m = M from by omega]
    simp only [laws_FnBothWays.l1]
    rw [if_pos t0, shl_one t t0 t3, hp, if_neg (by omega), List.range'_zero, List.all_nil, Bool.and_true, wrap_succ6 a (by omega)]
  | succ d ih =>
    intro m b ok e hm
    obtain ⟨M, hM⟩ : ∃ M, M = m + d + 1 := ⟨_, rfl⟩
    rw [show m + (d + 1) + 1 = M + 1 from by omega]
    have hi := fun ok => ih m (b + 1) ok (by omega) hm
    rw [← hM] at hi
    have c1 := common_k a b (by omega) (by omega) (by omega) (by omega) M (by omega)
    obtain ⟨r1, r2⟩ := and_range t a b t0 t3 (by omega) (by omega) (by omega) (by omega)
    have q1 := impl_HoldsOf_k t l a b (by omega) M (by omega)
    have q2 := impl_HoldsOf_k t l (Go.bits .and .i64 a b) (Go.bits .and .i64 a b) (by omega) M (by omega)
    rw [holds_in t l h a b (by omega) (by omega) (by omega) (by omega)] at q1
    rw [holds_in t l h _ _ r1 r2 r1 r2] at q2
    have hb : (b : Int) < (B : Int) := by omega
    have ws := wrap_succ6 b (by omega)
    simp only [laws_FnBothWays.l1]
    rw [if_pos t0, shl_one t t0 t3, hp, if_pos hb, c1, Option.bind_some, q1, Option.bind_some, q2, Option.bind_some, ws, List.range'_succ, List.all_cons]
    obtain ⟨u, hu⟩ : ∃ u, u = bwAt t l a b := ⟨_, rfl⟩
    rw [← hu]
    unfold bwAt at hu
    cases u with
    | true =>
      have : (hr t l a b != hr t l (Go.bits .and .i64 a b) (Go.bits .and .i64 a b)) = false := by unfold bne; rw [← hu]; rfl
      rw [this, if_neg Bool.false_ne_true, hi, Bool.true_and]
    | false =>
      have : (hr t l a b != hr t l (Go.bits .and .i64 a b) (Go.bits .and .i64 a b)) = true := by unfold bne; rw [← hu]; rfl
      rw [this, if_pos rfl, hi]
      simp
theorem walk_l0 (t : Int) (l : List Int) (h : isRel t l = true) (hl : l.length ≤ 100) (B : Nat) (hp : pw t = (B : Int)) (hB : B ≤ 8) (x : Bool) (e : Nat) : ∀ (k a : Nat) (ok : Bool), a + e = B → 20 * e + 1048800 ≤ k →
    laws_FnBothWays.l0 k t l x ok (a : Int) = some ((ok && (List.range' a e).all fun (a : Nat) => (List.range' 0 B).all fun (b : Nat) => bwAt t l a b) == x) := by
  obtain ⟨t0, t3, hlen⟩ := isRel_range h
  induction e with
  | zero =>
    intro k a ok ha hk
    obtain ⟨k, rfl⟩ : ∃ m, k = m + 1 := ⟨k - 1, by omega⟩
    simp only [laws_FnBothWays.l0]
    rw [if_pos t0, shl_one t t0 t3, hp, if_neg (by omega), List.range'_zero, List.all_nil, Bool.and_true]
  | succ e ih =>
    intro k a ok ha hk
    obtain ⟨k, rfl⟩ : ∃ m, k = m + B + 1 + 1 := ⟨k - (B + 2), by omega⟩
    have hw := walk_l1 t l h hl B hp hB x a (by omega) B k 0 ok (by omega) (by omega)
    rw [List.range'_succ, List.all_cons, ← Bool.and_assoc, ← ih k (a + 1) _ (by omega) (by omega), ← hw]
    simp only [laws_FnBothWays.l0]
    rw [if_pos t0, shl_one t t0 t3, hp, if_pos (by omega)]
    rfl
theorem and_laws (a b : Int) (h1 : 0 ≤ a) (h2 : a < 8) (h3 : 0 ≤ b) (h4 : b < 8) : Go.bits .and .i64 (Go.bits .and .i64 a b) a = Go.bits .and .i64 a b ∧ Go.bits .and .i64 a b = Go.bits .and .i64 b a := by
  have hf : ∀ x y : Fin 8, Go.bits .and .i64 (Go.bits .and .i64 (x.val : Int) (y.val : Int)) (x.val : Int) = Go.bits .and .i64 (x.val : Int) (y.val : Int) ∧ Go.bits .and .i64 (x.val : Int) (y.val : Int) = Go.bits .and .i64 (y.val : Int) (x.val : Int) := by decide +kernel
  obtain ⟨x, rfl⟩ := Int.eq_ofNat_of_zero_le h1
  obtain ⟨y, rfl⟩ := Int.eq_ofNat_of_zero_le h3
  exact hf ⟨x, by omega⟩ ⟨y, by omega⟩
theorem both_same (t : Int) (l : List Int) (hin : insideP t l = true) (B : Nat) (hp : pw t = (B : Int)) (hB : B ≤ 8) :
    ((List.range' 0 B).all fun (a : Nat) => (List.range' 0 B).all fun (b : Nat) => bwAt t l a b) = bothWaysP t l := by
  unfold insideP at hin
  rw [Bool.and_eq_true, forAllP_iff] at hin
  obtain ⟨h, hin⟩ := hin
  obtain ⟨t0, t3, hlen⟩ := isRel_range h
  have hi : ∀ a b : Int, 0 ≤ a → a < pw t → 0 ≤ b → b < pw t → hr t l a b = hr t l a (Go.bits .and .i64 a b) := fun a b h1 h2 h3 h4 => beq_iff_eq.mp (hin a b h1 h2 h3 h4)
  unfold bothWaysP
  rw [h, Bool.true_and, Bool.eq_iff_iff, forAllP_iff]
  simp only [List.all_eq_true, List.mem_range'_1, impl_BothWays.so, bwAt, beq_iff_eq]
  constructor
  · intro g a b a0 a1 b0 b1
    have g1 := g a.toNat (by omega) b.toNat (by omega)
    have g2 := g b.toNat (by omega) a.toNat (by omega)
    rw [show ((a.toNat : Nat) : Int) = a by omega, show ((b.toNat : Nat) : Int) = b by omega] at g1 g2
    rw [g1, g2, (and_laws a b a0 (by omega) b0 (by omega)).2]
  · intro g a ha b hb
    obtain ⟨c0, c1⟩ := and_range t a b t0 t3 (by omega) (by omega) (by omega) (by omega)
    have e1 := hi a b (by omega) (by omega) (by omega) (by omega)
    have e2 := g a (Go.bits .and .i64 a b) (by omega) (by omega) c0 c1
    have e3 := hi (Go.bits .and .i64 a b) a c0 c1 (by omega) (by omega)
    rw [(and_laws a b (by omega) (by omega) (by omega) (by omega)).1] at e3
    rw [e1, e2, e3]
theorem FnBothWays : laws_FnBothWays.Pure := by
  intro l _ _ hw
  obtain ⟨K, hK⟩ : ∃ K, K = 2107300 := ⟨_, rfl⟩
  refine ⟨K + 1, ?_⟩
  unfold laws_FnBothWays.f
  by_cases hl : (l.length : Int) > 1048576
  · rw [if_pos hl]
  · obtain ⟨t, r, et, t0, t3, hr⟩ := drawBothWays l hw (K + 1) (by omega)
    rw [if_neg hl, et, Option.bind_some]
    rw [impl_BothWays_k t r (by omega) (K + 1) (by omega), Option.bind_some, spec_BothWays_k t r (by omega) (K + 1) (by omega), Option.bind_some, bne_self_eq_false, if_neg Bool.false_ne_true, impl_LooksInside_k t r (by omega) (K + 1) (by omega), Option.bind_some, alive_eq]
    by_cases g : insideP t r = true
    · obtain ⟨B, hp, hB, _⟩ := pw_nat t t0 t3
      have hrel : isRel t r = true := by unfold insideP at g; exact (Bool.and_eq_true_iff.mp g).1
      have := walk_l0 t r hrel hr B hp hB (bothWaysP t r) B (K + 1) 0 true (by omega) (by omega)
      rw [both_same t r g B hp hB] at this
      rw [if_pos g]
      refine Eq.trans this ?_
      simp
    · rw [if_neg g]
      rfl

end Go.Proofs.Ytdmlofkhanpjoaa.Pure
