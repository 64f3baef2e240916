/- Plain facts: what the reference's and the program's MoreDo, FewerDo, MoreAre, FewerAre come to, with enough rounds, for lists of at most 2^20 numbers. -/
import Derived.Test.YtjagnepjeoofpaaLem2b
import Derived.Test.YtjagnepjeoofpaaPx37
import Derived.Test.YtjagnepjeoofpaaPx33
import Derived.Test.YtjagnepjeoofpaaPx43
import Derived.Test.YtjagnepjeoofpaaPx40
import Derived.Test.YtjagnepjeoofpaaPx39
import Derived.Test.YtjagnepjeoofpaaPx45
import Derived.Test.YtjagnepjeoofpaaPx42
namespace Go.Proofs.Ytjagnepjeoofpaa.P
open Go.RowKit Go.Proofs.YtjagnepjeoofpaaW.PrintWords Go.Proofs.YtjagnepjeoofpaaW.PrintLast

theorem plOr_range (a s : Int) : plOr a s = -1 ∨ (0 ≤ plOr a s ∧ plOr a s < 21) := by
  unfold plOr
  split
  · rename_i h
    exact .inr (pl_range a s h.1 h.2.1 h.2.2.1 h.2.2.2)
  · exact .inl rfl
theorem plOr_out (a s : Int) (h : ¬ (0 ≤ a ∧ a ≤ 5 ∧ 0 ≤ s ∧ s ≤ a)) : plOr a s = -1 := if_neg h
/-- What holds at a place holds a step further, if there is such a place. -/
def stP (l : List Int) (da ds a s : Int) : Bool := if plOr (a + da) (s + ds) < 0 then true else decide (rd l (pl a s) ≤ rd l (plOr (a + da) (s + ds)))
theorem spec_l3Stays_eq (l : List Int) (hl : l.length = 21) (da ds a s : Int) (h1 : 0 ≤ a) (h2 : a ≤ 5) (h3 : 0 ≤ s) (h4 : s ≤ a) (d1 : -1 ≤ da) (d2 : da ≤ 1) (d3 : -1 ≤ ds) (d4 : ds ≤ 1) : spec_l3Stays.f l a s da ds = some (stP l da ds a s) := by
  have hr := pl_range a s h1 h2 h3 h4
  have w1 : wrap64 (a + da) = a + da := by unfold wrap64; omega
  have w2 : wrap64 (s + ds) = s + ds := by unfold wrap64; omega
  unfold spec_l3Stays.f stP
  rw [spec_PlaceOf_eq, plOr_in a s h1 h2 h3 h4, Option.bind_some, w1, w2, spec_PlaceOf_eq, Option.bind_some, if_neg (by omega)]
  rcases plOr_range (a + da) (s + ds) with e | e
  · rw [if_pos (by omega), if_pos (by omega)]
  · rw [if_neg (by omega), if_pos hr.1, if_pos (by omega), if_pos e.1, if_pos (by omega), if_neg (by omega)]
theorem spec_l3Each_inner (l : List Int) (hl : l.length = 21) (da ds : Int) (d1 : -1 ≤ da) (d2 : da ≤ 1) (d3 : -1 ≤ ds) (d4 : ds ≤ 1) (a : Nat) (ha : a < 6) (d : Nat) : ∀ (m s : Nat), s + d = a + 1 →
    spec_l3Each.l1 (m + d + 1) l da ds (a : Int) (s : Int) = if ((List.range' s d).all fun (s : Nat) => stP l da ds a s) = true then spec_l3Each.l0 m l da ds ((a + 1 : Nat) : Int) else some false := by
  induction d with
  | zero =>
    intro m s h
    simp only [spec_l3Each.l1]
    rw [if_neg (by omega), wrap_succ6 a (by omega), List.range'_zero, List.all_nil, if_pos rfl]
  | succ d ih =>
    intro m s h
    obtain ⟨M, hM⟩ : ∃ M, M = m + d + 1 := ⟨_, rfl⟩
    rw [show m + (d + 1) + 1 = M + 1 from by omega]
    simp only [spec_l3Each.l1]
    rw [if_pos (by omega), spec_l3Stays_eq l hl da ds a s (by omega) (by omega) (by omega) (by omega) d1 d2 d3 d4, Option.bind_some, wrap_succ6 s (by omega), hM, ih m (s + 1) (by omega), List.range'_succ, List.all_cons]
    cases stP l da ds a s <;> rfl
/-- A step everywhere. -/
def eachP (l : List Int) (da ds : Int) : Bool := (List.range' 0 6).all fun (a : Nat) => (List.range' 0 (a + 1)).all fun (s : Nat) => stP l da ds a s
theorem spec_l3Each_outer (l : List Int) (hl : l.length = 21) (da ds : Int) (d1 : -1 ≤ da) (d2 : da ≤ 1) (d3 : -1 ≤ ds) (d4 : ds ≤ 1) (e : Nat) : ∀ (k a : Nat), a + e = 6 → 10 * e + 10 < k →
    spec_l3Each.l0 k l da ds (a : Int) = some ((List.range' a e).all fun (a : Nat) => (List.range' 0 (a + 1)).all fun (s : Nat) => stP l da ds a s) := by
  induction e with
  | zero =>
    intro k a h hk
    obtain ⟨k, rfl⟩ : ∃ m, k = m + 1 := ⟨k - 1, by omega⟩
    simp only [spec_l3Each.l0]
    rw [if_neg (by omega), List.range'_zero, List.all_nil]
  | succ e ih =>
    intro k a h hk
    obtain ⟨k, rfl⟩ : ∃ m, k = m + (a + 1) + 1 + 1 := ⟨k - (a + 3), by omega⟩
    simp only [spec_l3Each.l0]
    have := spec_l3Each_inner l hl da ds d1 d2 d3 d4 a (by omega) (a + 1) k 0 (by omega)
    rw [if_pos (by omega)]
    refine Eq.trans this ?_
    rw [ih k (a + 1) (by omega) (by omega), show List.range' a (e + 1) = a :: List.range' (a + 1) e from rfl, List.all_cons]
    cases ((List.range' 0 (a + 1)).all fun (s : Nat) => stP l da ds a s) <;> rfl
theorem spec_l3Each_k (l : List Int) (hl : l.length = 21) (da ds : Int) (d1 : -1 ≤ da) (d2 : da ≤ 1) (d3 : -1 ≤ ds) (d4 : ds ≤ 1) (k : Nat) (hk : 100 ≤ k) : spec_l3Each.f k l da ds = some (eachP l da ds) :=
  spec_l3Each_outer l hl da ds d1 d2 d3 d4 6 k 0 (by omega) (by omega)
theorem eachP_iff (l : List Int) (da ds : Int) : eachP l da ds = true ↔ ∀ a s : Nat, a < 6 → s ≤ a → stP l da ds a s = true := by
  simp only [eachP, List.all_eq_true, List.mem_range'_1]
  exact ⟨fun h a s ha hs => h a (by omega) s (by omega), fun h a ha s hs => h a s (by omega) (by omega)⟩
theorem staysP_iff (l : List Int) (so : Int → Int → Bool) : staysP l so = true ↔ ∀ a s : Nat, a < 6 → s ≤ a → okAt l so a s = true := by
  simp only [staysP, List.all_eq_true, List.mem_range]
  exact ⟨fun h a s ha hs => h a ha s (by omega), fun h a ha s hs => h a s ha (by omega)⟩
theorem stP_in (l : List Int) (ht : isTri l = true) (da ds a s : Int) (h1 : 0 ≤ a + da) (h2 : a + da ≤ 5) (h3 : 0 ≤ s + ds) (h4 : s + ds ≤ a + da) : stP l da ds a s = (!(hd l a s) || hd l (a + da) (s + ds)) := by
  have hr := pl_range (a + da) (s + ds) h1 h2 h3 h4
  unfold stP
  rw [plOr_in _ _ h1 h2 h3 h4, if_neg (by omega), bit_of l ht, bit_of l ht]
  cases hd l a s <;> cases hd l (a + da) (s + ds) <;> rfl
theorem stP_out (l : List Int) (da ds a s : Int) (h : ¬ (0 ≤ a + da ∧ a + da ≤ 5 ∧ 0 ≤ s + ds ∧ s + ds ≤ a + da)) : stP l da ds a s = true := by
  unfold stP
  rw [plOr_out _ _ h]
  rfl

theorem fewerDo_at (l : List Int) (ht : isTri l = true) (a s : Nat) (ha : a < 6) (hs : s ≤ a) : stP l 0 (-1) a s = okAt l (impl_fewerDo.so l) a s := by
  unfold okAt impl_fewerDo.so
  by_cases h : (s : Int) = 0
  · rw [stP_out _ _ _ _ _ (by omega), decide_eq_true h, Bool.true_or, Bool.or_true]
  · rw [stP_in l ht _ _ _ _ (by omega) (by omega) (by omega) (by omega), decide_eq_false h, Bool.false_or, Int.add_zero]
    rfl
theorem moreDo_at (l : List Int) (ht : isTri l = true) (a s : Nat) (ha : a < 6) (hs : s ≤ a) : stP l 0 1 a s = okAt l (impl_moreDo.so l) a s := by
  unfold okAt impl_moreDo.so
  by_cases h : (s : Int) = a
  · rw [stP_out _ _ _ _ _ (by omega), decide_eq_true h, Bool.true_or, Bool.or_true]
  · rw [stP_in l ht _ _ _ _ (by omega) (by omega) (by omega) (by omega), decide_eq_false h, Bool.false_or, Int.add_zero]
theorem moreAre_at (l : List Int) (ht : isTri l = true) (a s : Nat) (ha : a < 6) (hs : s ≤ a) : (stP l 1 0 a s && stP l 1 1 a s) = okAt l (impl_moreAre.so l) a s := by
  unfold okAt impl_moreAre.so
  by_cases h : (a : Int) = 5
  · rw [stP_out _ _ _ _ _ (by omega), stP_out _ _ _ _ _ (by omega), decide_eq_true h, Bool.true_or, Bool.or_true]
    rfl
  · rw [stP_in l ht _ _ _ _ (by omega) (by omega) (by omega) (by omega), stP_in l ht _ _ _ _ (by omega) (by omega) (by omega) (by omega), decide_eq_false h, Bool.false_or, Int.add_zero]
    cases hd l a s <;> cases hd l (↑a + 1) s <;> cases hd l (↑a + 1) (↑s + 1) <;> rfl
theorem fewerAre_at (l : List Int) (ht : isTri l = true) (a s : Nat) (ha : a < 6) (hs : s ≤ a) : (stP l (-1) 0 a s && stP l (-1) (-1) a s) = okAt l (impl_fewerAre.so l) a s := by
  unfold okAt impl_fewerAre.so
  have e1 : (a : Int) + -1 = a - 1 := rfl
  have e2 : (s : Int) + -1 = s - 1 := rfl
  by_cases h : (s : Int) = 0
  · rw [stP_out l (-1) (-1) _ _ (by omega), decide_eq_true h, Bool.true_or, Bool.true_and, Bool.and_true]
    by_cases h' : (s : Int) = a
    · rw [stP_out _ _ _ _ _ (by omega), decide_eq_true h', Bool.true_or, Bool.or_true]
    · rw [stP_in l ht _ _ _ _ (by omega) (by omega) (by omega) (by omega), decide_eq_false h', Bool.false_or, Int.add_zero, e1]
  · rw [stP_in l ht (-1) (-1) _ _ (by omega) (by omega) (by omega) (by omega), decide_eq_false h, Bool.false_or, e1, e2]
    by_cases h' : (s : Int) = a
    · rw [stP_out _ _ _ _ _ (by omega), decide_eq_true h', Bool.true_or, Bool.true_and, Bool.and_true]
    · rw [stP_in l ht _ _ _ _ (by omega) (by omega) (by omega) (by omega), decide_eq_false h', Bool.false_or, Int.add_zero, e1]
      cases hd l a s <;> cases hd l (↑a - 1) s <;> cases hd l (↑a - 1) (↑s - 1) <;> rfl

def fewerDoP (l : List Int) : Bool := isTri l && staysP l (impl_fewerDo.so l)
def moreDoP (l : List Int) : Bool := isTri l && staysP l (impl_moreDo.so l)
def fewerAreP (l : List Int) : Bool := isTri l && staysP l (impl_fewerAre.so l)
def moreAreP (l : List Int) : Bool := isTri l && staysP l (impl_moreAre.so l)
theorem one_each (l : List Int) (da ds : Int) (so : Int → Int → Bool) (h : ∀ a s : Nat, a < 6 → s ≤ a → stP l da ds a s = okAt l so a s) : eachP l da ds = staysP l so := by
  rw [Bool.eq_iff_iff, eachP_iff, staysP_iff]
  exact ⟨fun g a s ha hs => (h a s ha hs).symm.trans (g a s ha hs), fun g a s ha hs => (h a s ha hs).trans (g a s ha hs)⟩
theorem two_each (l : List Int) (da ds da' ds' : Int) (so : Int → Int → Bool) (h : ∀ a s : Nat, a < 6 → s ≤ a → (stP l da ds a s && stP l da' ds' a s) = okAt l so a s) : (eachP l da ds && eachP l da' ds') = staysP l so := by
  rw [Bool.eq_iff_iff, Bool.and_eq_true, eachP_iff, eachP_iff, staysP_iff]
  constructor
  · intro g a s ha hs
    rw [← h a s ha hs, g.1 a s ha hs, g.2 a s ha hs]
    rfl
  · intro g
    constructor <;> intro a s ha hs
    · have := g a s ha hs
      rw [← h a s ha hs, Bool.and_eq_true] at this
      exact this.1
    · have := g a s ha hs
      rw [← h a s ha hs, Bool.and_eq_true] at this
      exact this.2
theorem spec_FewerDo_k (l : List Int) (hl : l.length ≤ 1048576) (k : Nat) (hk : 2097153 ≤ k) : spec_FewerDo.f k l = some (fewerDoP l) := by
  unfold spec_FewerDo.f fewerDoP
  rw [spec_TriangleOk_k l hl k (by omega), Option.bind_some]
  by_cases ht : isTri l = true
  · rw [if_pos ht, spec_l3Each_k l (isTri_length ht) 0 (-1) (by omega) (by omega) (by omega) (by omega) k (by omega), Option.bind_some, one_each l 0 (-1) _ (fewerDo_at l ht), ht, Bool.true_and]
  · rw [if_neg ht, Bool.eq_false_iff.mpr ht, Bool.false_and]
theorem spec_MoreDo_k (l : List Int) (hl : l.length ≤ 1048576) (k : Nat) (hk : 2097153 ≤ k) : spec_MoreDo.f k l = some (moreDoP l) := by
  unfold spec_MoreDo.f moreDoP
  rw [spec_TriangleOk_k l hl k (by omega), Option.bind_some]
  by_cases ht : isTri l = true
  · rw [if_pos ht, spec_l3Each_k l (isTri_length ht) 0 1 (by omega) (by omega) (by omega) (by omega) k (by omega), Option.bind_some, one_each l 0 1 _ (moreDo_at l ht), ht, Bool.true_and]
  · rw [if_neg ht, Bool.eq_false_iff.mpr ht, Bool.false_and]
theorem spec_MoreAre_k (l : List Int) (hl : l.length ≤ 1048576) (k : Nat) (hk : 2097153 ≤ k) : spec_MoreAre.f k l = some (moreAreP l) := by
  unfold spec_MoreAre.f moreAreP
  rw [spec_TriangleOk_k l hl k (by omega), Option.bind_some]
  by_cases ht : isTri l = true
  · rw [if_pos ht, spec_l3Each_k l (isTri_length ht) 1 0 (by omega) (by omega) (by omega) (by omega) k (by omega), Option.bind_some, spec_l3Each_k l (isTri_length ht) 1 1 (by omega) (by omega) (by omega) (by omega) k (by omega), ← two_each l 1 0 1 1 _ (moreAre_at l ht), ht, Bool.true_and]
    cases eachP l 1 0 <;> rfl
  · rw [if_neg ht, Bool.eq_false_iff.mpr ht, Bool.false_and]
theorem spec_FewerAre_k (l : List Int) (hl : l.length ≤ 1048576) (k : Nat) (hk : 2097153 ≤ k) : spec_FewerAre.f k l = some (fewerAreP l) := by
  unfold spec_FewerAre.f fewerAreP
  rw [spec_TriangleOk_k l hl k (by omega), Option.bind_some]
  by_cases ht : isTri l = true
  · rw [if_pos ht, spec_l3Each_k l (isTri_length ht) (-1) 0 (by omega) (by omega) (by omega) (by omega) k (by omega), Option.bind_some, spec_l3Each_k l (isTri_length ht) (-1) (-1) (by omega) (by omega) (by omega) (by omega) k (by omega), ← two_each l (-1) 0 (-1) (-1) _ (fewerAre_at l ht), ht, Bool.true_and]
    cases eachP l (-1) 0 <;> rfl
  · rw [if_neg ht, Bool.eq_false_iff.mpr ht, Bool.false_and]
theorem impl_FewerDo_k (l : List Int) (hl : l.length ≤ 1048576) (k : Nat) (hk : 2097153 ≤ k) : impl_FewerDo.f k l = some (fewerDoP l) := by
  unfold impl_FewerDo.f fewerDoP impl_fewerDo.f
  rw [impl_isTriangle_k l hl k (by omega), Option.bind_some]
  by_cases ht : isTri l = true
  · rw [if_pos ht, if_pos (Nat.le_of_eq (isTri_length ht).symm), Option.bind_some, ht, Bool.true_and]
  · rw [if_neg ht, Bool.eq_false_iff.mpr ht, Bool.false_and]
theorem impl_MoreDo_k (l : List Int) (hl : l.length ≤ 1048576) (k : Nat) (hk : 2097153 ≤ k) : impl_MoreDo.f k l = some (moreDoP l) := by
  unfold impl_MoreDo.f moreDoP impl_moreDo.f
  rw [impl_isTriangle_k l hl k (by omega), Option.bind_some]
  by_cases ht : isTri l = true
  · rw [if_pos ht, if_pos (Nat.le_of_eq (isTri_length ht).symm), Option.bind_some, ht, Bool.true_and]
  · rw [if_neg ht, Bool.eq_false_iff.mpr ht, Bool.false_and]
theorem impl_FewerAre_k (l : List Int) (hl : l.length ≤ 1048576) (k : Nat) (hk : 2097153 ≤ k) : impl_FewerAre.f k l = some (fewerAreP l) := by
  unfold impl_FewerAre.f fewerAreP impl_fewerAre.f
  rw [impl_isTriangle_k l hl k (by omega), Option.bind_some]
  by_cases ht : isTri l = true
  · rw [if_pos ht, if_pos (Nat.le_of_eq (isTri_length ht).symm), Option.bind_some, ht, Bool.true_and]
  · rw [if_neg ht, Bool.eq_false_iff.mpr ht, Bool.false_and]
theorem impl_MoreAre_k (l : List Int) (hl : l.length ≤ 1048576) (k : Nat) (hk : 2097153 ≤ k) : impl_MoreAre.f k l = some (moreAreP l) := by
  unfold impl_MoreAre.f moreAreP impl_moreAre.f
  rw [impl_isTriangle_k l hl k (by omega), Option.bind_some]
  by_cases ht : isTri l = true
  · rw [if_pos ht, if_pos (Nat.le_of_eq (isTri_length ht).symm), Option.bind_some, ht, Bool.true_and]
  · rw [if_neg ht, Bool.eq_false_iff.mpr ht, Bool.false_and]

end Go.Proofs.Ytjagnepjeoofpaa.P
