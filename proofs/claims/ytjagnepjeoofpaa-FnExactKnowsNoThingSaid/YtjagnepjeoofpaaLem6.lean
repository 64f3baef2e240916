/- Plain facts: what the reference's and the program's RelationOk, HoldsOf, BothWays, LooksInside, KnowsNoThing come to, with enough rounds, for relations of at most 2^20 numbers. -/
import Derived.Test.YtjagnepjeoofpaaLem1
import Derived.Test.YtjagnepjeoofpaaPx9
import Derived.Test.YtjagnepjeoofpaaPx1
import Derived.Test.YtjagnepjeoofpaaPx4
import Derived.Test.YtjagnepjeoofpaaPx6
import Derived.Test.YtjagnepjeoofpaaPx7
import Derived.Test.YtjagnepjeoofpaaPx8
import Derived.Test.YtjagnepjeoofpaaPx10
import Derived.Test.YtjagnepjeoofpaaPx12
import Derived.Test.YtjagnepjeoofpaaPx13
import Derived.Test.YtjagnepjeoofpaaPx15
import Derived.Test.YtjagnepjeoofpaaPx17
namespace Go.Proofs.Ytjagnepjeoofpaa.P
open Go.RowKit Go.Proofs.YtjagnepjeoofpaaW.PrintWords Go.Proofs.YtjagnepjeoofpaaW.PrintLast

theorem l1In_eqR (n a b : Int) : spec_l1In.f n a b = some (decide (a ≤ n ∧ n ≤ b)) := by
  unfold spec_l1In.f
  by_cases h : n ≥ a
  · rw [if_pos h]; congr 1; rw [decide_eq_decide]; omega
  · rw [if_neg h]; congr 1; symm; rw [decide_eq_false_iff_not]; omega
theorem shl_four (t : Int) (h1 : 0 ≤ t) (h2 : t ≤ 3) : shl .i64 1 (wrap64 (2 * t)) = ((4 ^ t.toNat : Nat) : Int) := by
  rcases three t h1 h2 with rfl | rfl | rfl | rfl <;> decide +kernel
theorem spec_RelationOk_round (t : Int) (l : List Int) (hl : l.length ≤ 1048576) (d : Nat) : ∀ (k i : Nat), i + d = l.length → d < k → spec_RelationOk.l0 k t l (i : Int) = some ((l.drop i).all (fun x => x == 0 || x == 1) && (decide (0 ≤ t ∧ t ≤ 3) && l.length == 4 ^ t.toNat)) := by
  induction d with
  | zero =>
    intro k i h hk
    obtain ⟨k, rfl⟩ : ∃ m, k = m + 1 := ⟨k - 1, by omega⟩
    simp only [spec_RelationOk.l0]
    rw [if_neg (by omega), List.drop_of_length_le (by omega), List.all_nil, Bool.true_and, l1In_eqR, Option.bind_some]
    by_cases h3 : 0 ≤ t ∧ t ≤ 3
    · rw [if_pos (decide_eq_true h3), decide_eq_true h3, Bool.true_and, shl_four t h3.1 h3.2, if_pos (by unfold wrap64; omega)]
      congr 1
      rw [Bool.eq_iff_iff, beq_iff_eq, beq_iff_eq]
      omega
    · rw [if_neg (by rw [decide_eq_true_eq]; exact h3), decide_eq_false h3, Bool.false_and]
  | succ d ih =>
    intro k i h hk
    obtain ⟨k, rfl⟩ : ∃ m, k = m + 1 := ⟨k - 1, by omega⟩
    have hi : i < l.length := by omega
    have hd_ : l.drop i = l[i] :: l.drop (i + 1) := List.drop_eq_getElem_cons hi
    simp only [spec_RelationOk.l0]
    rw [if_pos (by omega), if_pos (by omega), rd_get l i hi, l1In_eqR, Option.bind_some, wrap_succ i l.length hi hl, ih k (i + 1) (by omega) (by omega), hd_, List.all_cons]
    by_cases h0 : l[i] = 0 ∨ l[i] = 1
    · rw [if_pos (decide_eq_true (by omega)), show (l[i] == 0 || l[i] == 1) = true from by simpa using h0, Bool.true_and]
    · rw [if_neg (by rw [decide_eq_true_eq]; omega), show (l[i] == 0 || l[i] == 1) = false from by simpa using h0, Bool.false_and, Bool.false_and]
theorem spec_RelationOk_k (t : Int) (l : List Int) (hl : l.length ≤ 1048576) (k : Nat) (hk : 1048600 ≤ k) : spec_RelationOk.f k t l = some (isRel t l) := by
  unfold spec_RelationOk.f isRel
  have h := spec_RelationOk_round t l hl l.length k 0 (by omega) (by omega)
  rw [List.drop_zero] at h
  refine Eq.trans h ?_
  congr 1
  cases decide (0 ≤ t ∧ t ≤ 3) <;> cases l.length == 4 ^ t.toNat <;> cases l.all (fun x => x == 0 || x == 1) <;> rfl
theorem impl_isRelation_k (t : Int) (l : List Int) (hl : l.length ≤ 1048576) (k : Nat) (hk : 1048600 ≤ k) : impl_isRelation.f k t l = some (isRel t l) := isRelation_k t l (by omega) k (by omega)
theorem impl_RelationOk_k (t : Int) (l : List Int) (hl : l.length ≤ 1048576) (k : Nat) (hk : 1048600 ≤ k) : impl_RelationOk.f k t l = some (isRel t l) := by
  unfold impl_RelationOk.f
  rw [impl_isRelation_k t l hl k hk]
  rfl

/-! HoldsOf -/
theorem shl_one (t : Int) (h1 : 0 ≤ t) (h2 : t ≤ 3) : shl .i64 1 t = pw t := by
  rw [shl_at 1 t h1 h2 (by omega) (by omega), Int.one_mul]
theorem idx_wrap (t a b : Int) (h1 : 0 ≤ t) (h2 : t ≤ 3) (h3 : 0 ≤ a) (h4 : a < pw t) (h5 : 0 ≤ b) (h6 : b < pw t) : wrap64 (shl .i64 a t + b) = a * pw t + b := by
  have hp := pw_range t h1 h2
  have hi := index_range t a b h1 h2 h3 h4 h5 h6
  rw [shl_at a t h1 h2 h3 (by omega)]
  unfold wrap64
  omega
def holdsP (t : Int) (l : List Int) (a b : Int) : Bool := isRel t l && (decide (0 ≤ a ∧ a < pw t) && (decide (0 ≤ b ∧ b < pw t) && hr t l a b))
theorem spec_HoldsOf_k (t : Int) (l : List Int) (a b : Int) (hl : l.length ≤ 1048576) (k : Nat) (hk : 1048600 ≤ k) : spec_HoldsOf.f k t l a b = some (holdsP t l a b) := by
  unfold spec_HoldsOf.f holdsP
  rw [spec_RelationOk_k t l hl k hk, Option.bind_some]
  by_cases h : isRel t l = true
  · obtain ⟨h1, h2, h3⟩ := isRel_range h
    have hp := pw_range t h1 h2
    have hw : wrap64 (pw t - 1) = pw t - 1 := by unfold wrap64; omega
    rw [if_pos h, if_pos h1, h, Bool.true_and, shl_one t h1 h2, hw, l1In_eqR, Option.bind_some]
    by_cases ha : 0 ≤ a ∧ a ≤ pw t - 1
    · rw [if_pos (decide_eq_true ha), decide_eq_true (show 0 ≤ a ∧ a < pw t by omega), Bool.true_and, l1In_eqR, Option.bind_some]
      by_cases hb : 0 ≤ b ∧ b ≤ pw t - 1
      · have hi := index_range t a b h1 h2 ha.1 (by omega) hb.1 (by omega)
        rw [if_pos (decide_eq_true hb), decide_eq_true (show 0 ≤ b ∧ b < pw t by omega), Bool.true_and, idx_wrap t a b h1 h2 ha.1 (by omega) hb.1 (by omega), if_pos hi.1, if_pos (by rw [h3]; exact hi.2.1)]
        rfl
      · rw [if_neg (by rw [decide_eq_true_eq]; exact hb), decide_eq_false (show ¬ (0 ≤ b ∧ b < pw t) by omega), Bool.false_and]
    · rw [if_neg (by rw [decide_eq_true_eq]; exact ha), decide_eq_false (show ¬ (0 ≤ a ∧ a < pw t) by omega), Bool.false_and]
  · rw [if_neg h, Bool.eq_false_iff.mpr h, Bool.false_and]
theorem impl_HoldsOf_k (t : Int) (l : List Int) (a b : Int) (hl : l.length ≤ 1048576) (k : Nat) (hk : 1048600 ≤ k) : impl_HoldsOf.f k t l a b = some (holdsP t l a b) := by
  unfold impl_HoldsOf.f holdsP
  rw [impl_isRelation_k t l hl k hk, Option.bind_some]
  by_cases h : isRel t l = true
  · obtain ⟨h1, h2, h3⟩ := isRel_range h
    rw [if_pos h, h, Bool.true_and, shl_one t h1 h2]
    by_cases a1 : a < 0
    · rw [if_pos a1, decide_eq_false (show ¬ (0 ≤ a ∧ a < pw t) by omega), Bool.false_and]
    · rw [if_neg a1, if_pos h1]
      by_cases a2 : a ≥ pw t
      · rw [if_pos a2, decide_eq_false (show ¬ (0 ≤ a ∧ a < pw t) by omega), Bool.false_and]
      · rw [if_neg a2, decide_eq_true (show 0 ≤ a ∧ a < pw t by omega), Bool.true_and]
        by_cases b1 : b < 0
        · rw [if_pos b1, decide_eq_false (show ¬ (0 ≤ b ∧ b < pw t) by omega), Bool.false_and]
        · rw [if_neg b1]
          by_cases b2 : b ≥ pw t
          · rw [if_pos b2, decide_eq_false (show ¬ (0 ≤ b ∧ b < pw t) by omega), Bool.false_and]
          · rw [if_neg b2, decide_eq_true (show 0 ≤ b ∧ b < pw t by omega), Bool.true_and, holdsOf_here t l a b h1 h2 h3 (by omega) (by omega) (by omega) (by omega)]
            rfl
  · rw [if_neg h, Bool.eq_false_iff.mpr h, Bool.false_and]

/-! What is asked for all two sets. -/
theorem rel_bit (t : Int) (l : List Int) (h : isRel t l = true) (i : Int) : rd l i = 0 ∨ rd l i = 1 := by
  unfold rd
  rw [List.getD_eq_getElem?_getD]
  by_cases hi : i.toNat < l.length
  · rw [List.getElem?_eq_getElem hi, Option.getD_some]
    simp only [isRel, Bool.and_eq_true, List.all_eq_true] at h
    have := h.2.2 _ (List.getElem_mem hi)
    simpa using this
  · rw [List.getElem?_eq_none (by omega)]
    exact .inl rfl
theorem rel_same (t : Int) (l : List Int) (h : isRel t l = true) (a b c d : Int) : (rd l (a * pw t + b) = rd l (c * pw t + d)) ↔ (hr t l a b == hr t l c d) = true := by
  unfold hr
  rcases rel_bit t l h (a * pw t + b) with e | e <;> rcases rel_bit t l h (c * pw t + d) with f | f <;> rw [e, f] <;> decide
theorem pw_nat (t : Int) (h1 : 0 ≤ t) (h2 : t ≤ 3) : ∃ B : Nat, pw t = (B : Int) ∧ B ≤ 8 ∧ 2 ^ t.toNat = B := by
  refine ⟨2 ^ t.toNat, ?_, ?_, rfl⟩
  · unfold pw; simp
  · rcases three t h1 h2 with rfl | rfl | rfl | rfl <;> decide
theorem forAll_range (t : Int) (B : Nat) (hB : 2 ^ t.toNat = B) (so : Int → Int → Bool) : ((List.range' 0 B).all fun (a : Nat) => (List.range' 0 B).all fun (b : Nat) => so a b) = forAllP t so := by
  unfold forAllP
  rw [hB, List.range_eq_range']
/-! BothWays -/
theorem spec_BothWays_l1 (t : Int) (l : List Int) (h : isRel t l = true) (B : Nat) (hp : pw t = (B : Int)) (hb8 : B ≤ 8) (a : Nat) (ha : a < B) (d : Nat) : ∀ (m b : Nat), 0 ≤ m → b + d = B →
    spec_BothWays.l1 (m + d + 1) t l (a : Int) (b : Int) = if ((List.range' b d).all fun (b : Nat) => impl_BothWays.so t l a b) = true then spec_BothWays.l0 m t l ((a + 1 : Nat) : Int) else some false := by
  obtain ⟨h1, h2, h3⟩ := isRel_range h
  induction d with
  | zero =>
    intro m b hm g
    simp only [spec_BothWays.l1]
    rw [if_pos h1, shl_one t h1 h2, hp, if_neg (by omega), wrap_succ a 100 (by omega) (by omega), List.range'_zero, List.all_nil, if_pos rfl]
  | succ d ih =>
    intro m b hm g
    obtain ⟨M, hM⟩ : ∃ M, M = m + d + 1 := ⟨_, rfl⟩
    rw [show m + (d + 1) + 1 = M + 1 from by omega]
    simp only [spec_BothWays.l1]
    have j1 := index_range t a b h1 h2 (by omega) (by omega) (by omega) (by omega)
    have j2 := index_range t b a h1 h2 (by omega) (by omega) (by omega) (by omega)
    rw [if_pos h1, shl_one t h1 h2, if_pos (show (b : Int) < pw t by omega), idx_wrap t a b h1 h2 (by omega) (by omega) (by omega) (by omega), if_pos j1.1, if_pos (by rw [h3]; exact j1.2.1), idx_wrap t b a h1 h2 (by omega) (by omega) (by omega) (by omega), if_pos j2.1, if_pos (by rw [h3]; exact j2.2.1), wrap_succ b 100 (by omega) (by omega), hM, ih m (b + 1) hm (by omega), show List.range' b (d + 1) = b :: List.range' (b + 1) d from rfl, List.all_cons]
    have hs := rel_same t l h a b ↑b ↑a
    by_cases c : rd l (↑a * pw t + ↑b) = rd l (↑b * pw t + ↑a)
    · rw [if_pos c, show impl_BothWays.so t l a b = true from hs.1 c, Bool.true_and]
    · rw [if_neg c, show impl_BothWays.so t l a b = false from Bool.eq_false_iff.mpr (fun g => c (hs.2 g)), Bool.false_and, if_neg (by decide)]
theorem spec_BothWays_l0 (t : Int) (l : List Int) (h : isRel t l = true) (B : Nat) (hp : pw t = (B : Int)) (hb8 : B ≤ 8) (e : Nat) : ∀ (k a : Nat), a + e = B → 100 * e + 200 < k →
    spec_BothWays.l0 k t l (a : Int) = some ((List.range' a e).all fun (a : Nat) => (List.range' 0 B).all fun (b : Nat) => impl_BothWays.so t l a b) := by
  obtain ⟨h1, h2, h3⟩ := isRel_range h
  induction e with
  | zero =>
    intro k a g hk
    obtain ⟨k, rfl⟩ : ∃ m, k = m + 1 := ⟨k - 1, by omega⟩
    simp only [spec_BothWays.l0]
    rw [if_pos h1, shl_one t h1 h2, hp, if_neg (by omega), List.range'_zero, List.all_nil]
  | succ e ih =>
    intro k a g hk
    obtain ⟨k, rfl⟩ : ∃ m, k = m + B + 1 + 1 := ⟨k - (B + 2), by omega⟩
    have hh1 := spec_BothWays_l1 t l h B hp hb8 a (by omega) B k 0 (by omega) (by omega)
    simp only [spec_BothWays.l0]
    rw [if_pos h1, shl_one t h1 h2, hp, if_pos (by omega)]
    refine Eq.trans hh1 ?_
    rw [ih k (a + 1) (by omega) (by omega), show List.range' a (e + 1) = a :: List.range' (a + 1) e from rfl, List.all_cons]
    cases ((List.range' 0 B).all fun (b : Nat) => impl_BothWays.so t l a b) <;> first | rfl | simp
def bothWaysP (t : Int) (l : List Int) : Bool := isRel t l && forAllP t (impl_BothWays.so t l)
theorem spec_BothWays_k (t : Int) (l : List Int) (hl : l.length ≤ 1048576) (k : Nat) (hk : 1048600 ≤ k) : spec_BothWays.f k t l = some (bothWaysP t l) := by
  unfold spec_BothWays.f bothWaysP
  rw [spec_RelationOk_k t l hl k hk, Option.bind_some]
  by_cases h : isRel t l = true
  · obtain ⟨h1, h2, h3⟩ := isRel_range h
    obtain ⟨B, hp, hb8, hB⟩ := pw_nat t h1 h2
    rw [if_pos h, h, Bool.true_and, ← forAll_range t B hB]
    exact spec_BothWays_l0 t l h B hp hb8 B k 0 (by omega) (by omega)
  · rw [if_neg h, Bool.eq_false_iff.mpr h, Bool.false_and]
theorem impl_BothWays_k (t : Int) (l : List Int) (_hl : l.length ≤ 1048576) (k : Nat) (_hk : 1048600 ≤ k) : impl_BothWays.f t l = some (bothWaysP t l) := rfl

theorem spec_l2Both_k (a b : Int) (h1 : 0 ≤ a) (h2 : a < 8) (h3 : 0 ≤ b) (h4 : b < 8) (k : Nat) (hk : 20 ≤ k) : spec_l2Both.f k a b = some (Go.bits .and .i64 a b) := by
  obtain ⟨k, rfl⟩ : ∃ m, k = m + 20 := ⟨k - 20, by omega⟩
  clear hk
  have hf : ∀ x y : Fin 8, spec_l2Both.f 20 (x.val : Int) (y.val : Int) = some (Go.bits .and .i64 (x.val : Int) (y.val : Int)) := by decide +kernel
  obtain ⟨x, rfl⟩ := Int.eq_ofNat_of_zero_le h1
  obtain ⟨y, rfl⟩ := Int.eq_ofNat_of_zero_le h3
  have h0 := hf ⟨x, by omega⟩ ⟨y, by omega⟩
  induction k with
  | zero => exact h0
  | succ k ih =>
    have := spec_l2Both.mono (x : Int) (y : Int) (k + 20)
    rw [show k + 1 + 20 = k + 20 + 1 from by omega]
    exact this _ ih
/-! LooksInside -/
theorem spec_LooksInside_l1 (t : Int) (l : List Int) (h : isRel t l = true) (B : Nat) (hp : pw t = (B : Int)) (hb8 : B ≤ 8) (a : Nat) (ha : a < B) (d : Nat) : ∀ (m b : Nat), 40 ≤ m → b + d = B →
    spec_LooksInside.l1 (m + d + 1) t l (a : Int) (b : Int) = if ((List.range' b d).all fun (b : Nat) => impl_LooksInside.so t l a b) = true then spec_LooksInside.l0 m t l ((a + 1 : Nat) : Int) else some false := by
  obtain ⟨h1, h2, h3⟩ := isRel_range h
  induction d with
  | zero =>
    intro m b hm g
    simp only [spec_LooksInside.l1]
    rw [if_pos h1, shl_one t h1 h2, hp, if_neg (by omega), wrap_succ a 100 (by omega) (by omega), List.range'_zero, List.all_nil, if_pos rfl]
  | succ d ih =>
    intro m b hm g
    obtain ⟨M, hM⟩ : ∃ M, M = m + d + 1 := ⟨_, rfl⟩
    rw [show m + (d + 1) + 1 = M + 1 from by omega]
    simp only [spec_LooksInside.l1]
    have j1 := index_range t a b h1 h2 (by omega) (by omega) (by omega) (by omega)
    have x2 := and_range t a b h1 h2 (by omega) (by omega) (by omega) (by omega)
    have j2 := index_range t a (Go.bits .and .i64 a b) h1 h2 (by omega) (by omega) x2.1 x2.2
    have hq := spec_l2Both_k a b (by omega) (by omega) (by omega) (by omega) M (by omega)
    rw [if_pos h1, shl_one t h1 h2, if_pos (show (b : Int) < pw t by omega), idx_wrap t a b h1 h2 (by omega) (by omega) (by omega) (by omega), if_pos j1.1, if_pos (by rw [h3]; exact j1.2.1), hq, Option.bind_some, idx_wrap t a _ h1 h2 (by omega) (by omega) x2.1 x2.2, if_pos j2.1, if_pos (by rw [h3]; exact j2.2.1), wrap_succ b 100 (by omega) (by omega), hM, ih m (b + 1) hm (by omega), show List.range' b (d + 1) = b :: List.range' (b + 1) d from rfl, List.all_cons]
    have hs := rel_same t l h a b a (Go.bits .and .i64 a b)
    by_cases c : rd l (↑a * pw t + ↑b) = rd l (↑a * pw t + Go.bits .and .i64 ↑a ↑b)
    · rw [if_pos c, show impl_LooksInside.so t l a b = true from hs.1 c, Bool.true_and]
    · rw [if_neg c, show impl_LooksInside.so t l a b = false from Bool.eq_false_iff.mpr (fun g => c (hs.2 g)), Bool.false_and, if_neg (by decide)]
theorem spec_LooksInside_l0 (t : Int) (l : List Int) (h : isRel t l = true) (B : Nat) (hp : pw t = (B : Int)) (hb8 : B ≤ 8) (e : Nat) : ∀ (k a : Nat), a + e = B → 100 * e + 200 < k →
    spec_LooksInside.l0 k t l (a : Int) = some ((List.range' a e).all fun (a : Nat) => (List.range' 0 B).all fun (b : Nat) => impl_LooksInside.so t l a b) := by
  obtain ⟨h1, h2, h3⟩ := isRel_range h
  induction e with
  | zero =>
    intro k a g hk
    obtain ⟨k, rfl⟩ : ∃ m, k = m + 1 := ⟨k - 1, by omega⟩
    simp only [spec_LooksInside.l0]
    rw [if_pos h1, shl_one t h1 h2, hp, if_neg (by omega), List.range'_zero, List.all_nil]
  | succ e ih =>
    intro k a g hk
    obtain ⟨k, rfl⟩ : ∃ m, k = m + B + 1 + 1 := ⟨k - (B + 2), by omega⟩
    have hh1 := spec_LooksInside_l1 t l h B hp hb8 a (by omega) B k 0 (by omega) (by omega)
    simp only [spec_LooksInside.l0]
    rw [if_pos h1, shl_one t h1 h2, hp, if_pos (by omega)]
    refine Eq.trans hh1 ?_
    rw [ih k (a + 1) (by omega) (by omega), show List.range' a (e + 1) = a :: List.range' (a + 1) e from rfl, List.all_cons]
    cases ((List.range' 0 B).all fun (b : Nat) => impl_LooksInside.so t l a b) <;> first | rfl | simp
def insideP (t : Int) (l : List Int) : Bool := isRel t l && forAllP t (impl_LooksInside.so t l)
theorem spec_LooksInside_k (t : Int) (l : List Int) (hl : l.length ≤ 1048576) (k : Nat) (hk : 1048600 ≤ k) : spec_LooksInside.f k t l = some (insideP t l) := by
  unfold spec_LooksInside.f insideP
  rw [spec_RelationOk_k t l hl k hk, Option.bind_some]
  by_cases h : isRel t l = true
  · obtain ⟨h1, h2, h3⟩ := isRel_range h
    obtain ⟨B, hp, hb8, hB⟩ := pw_nat t h1 h2
    rw [if_pos h, h, Bool.true_and, ← forAll_range t B hB]
    exact spec_LooksInside_l0 t l h B hp hb8 B k 0 (by omega) (by omega)
  · rw [if_neg h, Bool.eq_false_iff.mpr h, Bool.false_and]
theorem impl_LooksInside_k (t : Int) (l : List Int) (_hl : l.length ≤ 1048576) (k : Nat) (_hk : 1048600 ≤ k) : impl_LooksInside.f t l = some (insideP t l) := rfl

/-! KnowsNoThing -/
theorem swap_here (t s i k : Int) (h1 : 0 ≤ t) (h2 : t ≤ 3) (h3 : 0 ≤ s) (h4 : s < pw t) (h5 : 0 ≤ k) (h6 : k < i) (h7 : i < t) : spec_l2Swap.f s i k = some (exch s i k) := by
  have hf : ∀ T : Fin 4, ∀ x : Fin 8, ∀ p q : Fin 3, (x.val : Int) < pw T.val → q.val < p.val → p.val < T.val → spec_l2Swap.f x.val p.val q.val = some (exch x.val p.val q.val) := by decide +kernel
  have hp := pw_range t h1 h2
  obtain ⟨T, rfl⟩ := Int.eq_ofNat_of_zero_le h1
  obtain ⟨x, rfl⟩ := Int.eq_ofNat_of_zero_le h3
  obtain ⟨q, rfl⟩ := Int.eq_ofNat_of_zero_le h5
  obtain ⟨p, rfl⟩ := Int.eq_ofNat_of_zero_le (show 0 ≤ i by omega)
  exact hf ⟨T, by omega⟩ ⟨x, by omega⟩ ⟨p, by omega⟩ ⟨q, by omega⟩ h4 (show q < p by omega) (show p < T by omega)
theorem spec_KnowsNoThing_l3 (t : Int) (l : List Int) (h : isRel t l = true) (B : Nat) (hp : pw t = (B : Int)) (a b i : Nat) (ha : a < B) (hb : b < B) (hi : (i : Int) < t) (d : Nat) : ∀ (m q : Nat), q + d = i →
    spec_KnowsNoThing.l3 (m + d + 1) t l (a : Int) (b : Int) (i : Int) (q : Int) = if ((List.range' q d).all fun (q : Nat) => kntAt t l a b i q) = true then spec_KnowsNoThing.l2 m t l (a : Int) (b : Int) ((i + 1 : Nat) : Int) else some false := by
  obtain ⟨h1, h2, h3⟩ := isRel_range h
  induction d with
  | zero =>
    intro m q g
    simp only [spec_KnowsNoThing.l3]
    rw [if_neg (by omega), wrap_succ i 100 (by omega) (by omega), List.range'_zero, List.all_nil, if_pos rfl]
  | succ d ih =>
    intro m q g
    obtain ⟨M, hM⟩ : ∃ M, M = m + d + 1 := ⟨_, rfl⟩
    rw [show m + (d + 1) + 1 = M + 1 from by omega]
    simp only [spec_KnowsNoThing.l3]
    have e1 := swap_here t a i q h1 h2 (by omega) (by omega) (by omega) (by omega) hi
    have e2 := swap_here t b i q h1 h2 (by omega) (by omega) (by omega) (by omega) hi
    have x1 := exch_here t a i q h1 h2 (by omega) (by omega) (by omega) (by omega) hi
    have x2 := exch_here t b i q h1 h2 (by omega) (by omega) (by omega) (by omega) hi
    have j1 := index_range t a b h1 h2 (by omega) (by omega) (by omega) (by omega)
    have j2 := index_range t (exch a i q) (exch b i q) h1 h2 x1.2.1 x1.2.2 x2.2.1 x2.2.2
    rw [if_pos (by omega), if_pos h1, e1, e2, Option.bind_some, Option.bind_some, idx_wrap t a b h1 h2 (by omega) (by omega) (by omega) (by omega), idx_wrap t _ _ h1 h2 x1.2.1 x1.2.2 x2.2.1 x2.2.2, if_pos j1.1, if_pos (by rw [h3]; exact j1.2.1), if_pos j2.1, if_pos (by rw [h3]; exact j2.2.1), wrap_succ q 100 (by omega) (by omega), hM, ih m (q + 1) (by omega), show List.range' q (d + 1) = q :: List.range' (q + 1) d from rfl, List.all_cons]
    have hs := rel_same t l h a b (exch a i q) (exch b i q)
    by_cases c : rd l (↑a * pw t + ↑b) = rd l (exch ↑a ↑i ↑q * pw t + exch ↑b ↑i ↑q)
    · rw [if_pos c, show kntAt t l a b i q = true from hs.1 c, Bool.true_and]
    · rw [if_neg c, show kntAt t l a b i q = false from Bool.eq_false_iff.mpr (fun g => c (hs.2 g)), Bool.false_and, if_neg (by decide)]
theorem spec_KnowsNoThing_l2 (t : Int) (l : List Int) (h : isRel t l = true) (B T : Nat) (hp : pw t = (B : Int)) (hT : t = (T : Int)) (a b : Nat) (ha : a < B) (hb : b < B) (hb8 : B ≤ 8) (e : Nat) : ∀ (k i : Nat), i + e = T → 20 * e + 20 < k →
    ∃ k', k ≤ k' + 20 * e + 20 ∧ spec_KnowsNoThing.l2 k t l (a : Int) (b : Int) (i : Int) = if ((List.range' i e).all fun (i : Nat) => (List.range' 0 i).all fun (q : Nat) => kntAt t l a b i q) = true then spec_KnowsNoThing.l1 k' t l (a : Int) ((b + 1 : Nat) : Int) else some false := by
  obtain ⟨h1, h2, h3⟩ := isRel_range h
  induction e with
  | zero =>
    intro k i g hk
    obtain ⟨k, rfl⟩ : ∃ m, k = m + 1 := ⟨k - 1, by omega⟩
    refine ⟨k, by omega, ?_⟩
    simp only [spec_KnowsNoThing.l2]
    rw [if_neg (by omega), wrap_succ b 100 (by omega) (by omega), List.range'_zero, List.all_nil, if_pos rfl]
  | succ e ih =>
    intro k i g hk
    obtain ⟨k, rfl⟩ : ∃ m, k = m + i + 1 + 1 := ⟨k - (i + 2), by omega⟩
    obtain ⟨k', hk', hh⟩ := ih k (i + 1) (by omega) (by omega)
    refine ⟨k', by omega, ?_⟩
    have := spec_KnowsNoThing_l3 t l h B hp a b i ha hb (by omega) i k 0 (by omega)
    simp only [spec_KnowsNoThing.l2]
    rw [if_pos (by omega)]
    refine Eq.trans this ?_
    rw [hh, show List.range' i (e + 1) = i :: List.range' (i + 1) e from rfl, List.all_cons]
    cases ((List.range' 0 i).all fun (q : Nat) => kntAt t l a b i q) <;> first | rfl | simp
theorem knt_all (t : Int) (l : List Int) (T : Nat) (hT : t = (T : Int)) (a b : Int) : ((List.range' 0 T).all fun (i : Nat) => (List.range' 0 i).all fun (q : Nat) => kntAt t l a b i q) = kntP t l a b := by
  unfold kntP
  rw [show t.toNat = T from by omega]
  simp only [List.range_eq_range']
theorem spec_KnowsNoThing_l1 (t : Int) (l : List Int) (h : isRel t l = true) (B T : Nat) (hp : pw t = (B : Int)) (hT : t = (T : Int)) (hb8 : B ≤ 8) (a : Nat) (ha : a < B) (e : Nat) : ∀ (k b : Nat), b + e = B → 100 * e + 100 < k →
    ∃ k', k ≤ k' + 100 * e + 100 ∧ spec_KnowsNoThing.l1 k t l (a : Int) (b : Int) = if ((List.range' b e).all fun (b : Nat) => kntP t l a b) = true then spec_KnowsNoThing.l0 k' t l ((a + 1 : Nat) : Int) else some false := by
  obtain ⟨h1, h2, h3⟩ := isRel_range h
  induction e with
  | zero =>
    intro k b g hk
    obtain ⟨k, rfl⟩ : ∃ m, k = m + 1 := ⟨k - 1, by omega⟩
    refine ⟨k, by omega, ?_⟩
    simp only [spec_KnowsNoThing.l1]
    rw [if_pos h1, shl_one t h1 h2, hp, if_neg (by omega), wrap_succ a 100 (by omega) (by omega), List.range'_zero, List.all_nil, if_pos rfl]
  | succ e ih =>
    intro k b g hk
    obtain ⟨k, rfl⟩ : ∃ m, k = m + 1 := ⟨k - 1, by omega⟩
    obtain ⟨k1, hk1, hh1⟩ := spec_KnowsNoThing_l2 t l h B T hp hT a b ha (by omega) hb8 T k 0 (by omega) (by omega)
    obtain ⟨k', hk', hh⟩ := ih k1 (b + 1) (by omega) (by omega)
    refine ⟨k', by omega, ?_⟩
    rw [knt_all t l T hT] at hh1
    simp only [spec_KnowsNoThing.l1]
    rw [if_pos h1, shl_one t h1 h2, hp, if_pos (by omega)]
    refine Eq.trans hh1 ?_
    rw [hh, show List.range' b (e + 1) = b :: List.range' (b + 1) e from rfl, List.all_cons]
    cases kntP t l a b <;> first | rfl | simp
theorem spec_KnowsNoThing_l0 (t : Int) (l : List Int) (h : isRel t l = true) (B T : Nat) (hp : pw t = (B : Int)) (hT : t = (T : Int)) (hb8 : B ≤ 8) (e : Nat) : ∀ (k a : Nat), a + e = B → 1000 * e + 1000 < k →
    spec_KnowsNoThing.l0 k t l (a : Int) = some ((List.range' a e).all fun (a : Nat) => (List.range' 0 B).all fun (b : Nat) => kntP t l a b) := by
  obtain ⟨h1, h2, h3⟩ := isRel_range h
  induction e with
  | zero =>
    intro k a g hk
    obtain ⟨k, rfl⟩ : ∃ m, k = m + 1 := ⟨k - 1, by omega⟩
    simp only [spec_KnowsNoThing.l0]
    rw [if_pos h1, shl_one t h1 h2, hp, if_neg (by omega), List.range'_zero, List.all_nil]
  | succ e ih =>
    intro k a g hk
    obtain ⟨k, rfl⟩ : ∃ m, k = m + 1 := ⟨k - 1, by omega⟩
    obtain ⟨k1, hk1, hh1⟩ := spec_KnowsNoThing_l1 t l h B T hp hT hb8 a (by omega) B k 0 (by omega) (by omega)
    simp only [spec_KnowsNoThing.l0]
    rw [if_pos h1, shl_one t h1 h2, hp, if_pos (by omega)]
    refine Eq.trans hh1 ?_
    rw [ih k1 (a + 1) (by omega) (by omega), show List.range' a (e + 1) = a :: List.range' (a + 1) e from rfl, List.all_cons]
    cases ((List.range' 0 B).all fun (b : Nat) => kntP t l a b) <;> first | rfl | simp
def kntAllP (t : Int) (l : List Int) : Bool := isRel t l && forAllP t (impl_KnowsNoThing.so t l)
theorem spec_KnowsNoThing_k (t : Int) (l : List Int) (hl : l.length ≤ 1048576) (k : Nat) (hk : 1048600 ≤ k) : spec_KnowsNoThing.f k t l = some (kntAllP t l) := by
  unfold spec_KnowsNoThing.f kntAllP
  rw [spec_RelationOk_k t l hl k hk, Option.bind_some]
  by_cases h : isRel t l = true
  · obtain ⟨h1, h2, h3⟩ := isRel_range h
    obtain ⟨B, hp, hb8, hB⟩ := pw_nat t h1 h2
    obtain ⟨T, hT⟩ := Int.eq_ofNat_of_zero_le h1
    rw [if_pos h, h, Bool.true_and, ← forAll_range t B hB]
    exact spec_KnowsNoThing_l0 t l h B T hp hT hb8 B k 0 (by omega) (by omega)
  · rw [if_neg h, Bool.eq_false_iff.mpr h, Bool.false_and]
theorem impl_KnowsNoThing_k (t : Int) (l : List Int) (_hl : l.length ≤ 1048576) (k : Nat) (_hk : 1048600 ≤ k) : impl_KnowsNoThing.f t l = some (kntAllP t l) := rfl

end Go.Proofs.Ytjagnepjeoofpaa.P
