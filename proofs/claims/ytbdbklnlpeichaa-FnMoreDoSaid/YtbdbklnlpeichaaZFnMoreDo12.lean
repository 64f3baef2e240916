-- Texts of this claim, laid one behind the other by wip/gen/merge.py.
import Derived.Test.YtbdbklnlpeichaaZFnMoreDo11
import Derived.Test.YtbdbklnlpeichaaZFnMoreDo9
import Derived.Test.YtbdbklnlpeichaaZFnMoreDo1
import Derived.Test.YtbdbklnlpeichaaZFnMoreDo0
import Derived.Test.YtbdbklnlpeichaaZFnMoreDo5
import Derived.Test.YtbdbklnlpeichaaWLast
import Derived.Test.YtbdbklnlpeichaaZFnMoreDo2
import Derived.Test.YtbdbklnlpeichaaZFnMoreDo7
import Derived.Laws.Entries
/- Plain facts: what the reference's and the program's MoreDo, FewerDo, MoreAre, FewerAre come to, with enough rounds, for lists of at most 2^20 numbers. -/
namespace Go.Proofs.Ytbdbklnlpeichaa.P
open Go.RowKit Go.Proofs.YtbdbklnlpeichaaW.PrintWords Go.Proofs.YtbdbklnlpeichaaW.PrintLast

theorem plOr_range (a s : Int) : plOr a s = -1 ∨ (0 ≤ plOr a s ∧ plOr a s < 21) := by
  unfold plOr
  split
  · rename_i h
    exact .inr (pl_range a s h.1 h.2.1 h.2.2.1 h.2.2.2)
  · exact .inl rfl
theorem plOr_out (a s : Int) (h : ¬ (0 ≤ a ∧ a ≤ 5 ∧ 0 ≤ s ∧ s ≤ a)) : plOr a s = -1 := if_neg h
/-- What holds at a place holds a step further, if there is such a place. -/
def stP (l : List Int) (da ds a s : Int) : Bool := if plOr (a + da) (s + ds) < 0 then true else decide (rd l (pl a s) ≤ rd l (plOr (a + da) (s + ds)))
theorem spec_l3Stays_eq (l : List Int) (hl : l.length = 21) (da ds a s : Int) (h1 : 0 ≤ a) (h2 : a ≤ 5) (h3 : 0 ≤ s) (h4 : s ≤ a) (d1 : -1 ≤ da) (d2 : da ≤ 1) (d3 : -1 ≤ ds) (d4 : ds ≤ 1) : spec_l3Stays.f l a s da ds = some (stP l da ds a s) := by
  have hr := pl_range a s h1 h2 h3 h4
  have w1 : wrap64 (a + da) = a + da := by unfold wrap64; omega
  have w2 : wrap64 (s + ds) = s + ds := by unfold wrap64; omega
  unfold spec_l3Stays.f stP
  rw [spec_PlaceOf_eq, plOr_in a s h1 h2 h3 h4, Option.bind_some, w1, w2, spec_PlaceOf_eq, Option.bind_some, if_neg (by omega)]
  rcases plOr_range (a + da) (s + ds) with e | e
  · rw [if_pos (by omega), if_pos (by omega)]
  · rw [if_neg (by omega), if_pos hr.1, if_pos (by omega), if_pos e.1, if_pos (by omega), if_neg (by omega)]
theorem spec_l3Each_inner (l : List Int) (hl : l.length = 21) (da ds : Int) (d1 : -1 ≤ da) (d2 : da ≤ 1) (d3 : -1 ≤ ds) (d4 : ds ≤ 1) (a : Nat) (ha : a < 6) (d : Nat) : ∀ (m s : Nat), s + d = a + 1 →
    spec_l3Each.l1 (m + d + 1) l da ds (a : Int) (s : Int) = if ((List.range' s d).all fun (s : Nat) => stP l da ds a s) = true then spec_l3Each.l0 m l da ds ((a + 1 : Nat) : Int) else some false := by
  induction d with
  | zero =>
    intro m s h
    simp only [spec_l3Each.l1]
    rw [if_neg (by omega), wrap_succ6 a (by omega), List.range'_zero, List.all_nil, if_pos rfl]
  | succ d ih =>
    intro m s h
    obtain ⟨M, hM⟩ : ∃ M, M = m + d + 1 := ⟨_, rfl⟩
    rw [show m + (d + 1) + 1 = M + 1 from by omega]
    simp only [spec_l3Each.l1]
    rw [if_pos (by omega), spec_l3Stays_eq l hl da ds a s (by omega) (by omega) (by omega) (by omega) d1 d2 d3 d4, Option.bind_some, wrap_succ6 s (by omega), hM, ih m (s + 1) (by omega), List.range'_succ, List.all_cons]
    cases stP l da ds a s <;> rfl
/-- A step everywhere. -/
def eachP (l : List Int) (da ds : Int) : Bool := (List.range' 0 6).all fun (a : Nat) => (List.range' 0 (a + 1)).all fun (s : Nat) => stP l da ds a s
theorem spec_l3Each_outer (l : List Int) (hl : l.length = 21) (da ds : Int) (d1 : -1 ≤ da) (d2 : da ≤ 1) (d3 : -1 ≤ ds) (d4 : ds ≤ 1) (e : Nat) : ∀ (k a : Nat), a + e = 6 → 10 * e + 10 < k →
    spec_l3Each.l0 k l da ds (a : Int) = some ((List.range' a e).all fun (a : Nat) => (List.range' 0 (a + 1)).all fun (s : Nat) => stP l da ds a s) := by
  induction e with
  | zero =>
    intro k a h hk
    obtain ⟨k, rfl⟩ : ∃ m, k = m + 1 := ⟨k - 1, by omega⟩
    simp only [spec_l3Each.l0]
    rw [if_neg (by omega), List.range'_zero, List.all_nil]
  | succ e ih =>
    intro k a h hk
    obtain ⟨k, rfl⟩ : ∃ m, k = m + (a + 1) + 1 + 1 := ⟨k - (a + 3), by omega⟩
    simp only [spec_l3Each.l0]
    have := spec_l3Each_inner l hl da ds d1 d2 d3 d4 a (by omega) (a + 1) k 0 (by omega)
    rw [if_pos (by omega)]
    refine Eq.trans this ?_
    rw [ih k (a + 1) (by omega) (by omega), show List.range' a (e + 1) = a :: List.range' (a + 1) e from rfl, List.all_cons]
    cases ((List.range' 0 (a + 1)).all fun (s : Nat) => stP l da ds a s) <;> rfl
theorem spec_l3Each_k (l : List Int) (hl : l.length = 21) (da ds : Int) (d1 : -1 ≤ da) (d2 : da ≤ 1) (d3 : -1 ≤ ds) (d4 : ds ≤ 1) (k : Nat) (hk : 100 ≤ k) : spec_l3Each.f k l da ds = some (eachP l da ds) :=
  spec_l3Each_outer l hl da ds d1 d2 d3 d4 6 k 0 (by omega) (by omega)
theorem eachP_iff (l : List Int) (da ds : Int) : eachP l da ds = true ↔ ∀ a s : Nat, a < 6 → s ≤ a → stP l da ds a s = true := by
  simp only [eachP, List.all_eq_true, List.mem_range'_1]
  exact ⟨fun h a s ha hs => h a (by omega) s (by omega), fun h a ha s hs => h a s (by omega) (by omega)⟩
theorem staysP_iff (l : List Int) (so : Int → Int → Bool) : staysP l so = true ↔ ∀ a s : Nat, a < 6 → s ≤ a → okAt l so a s = true := by
  simp only [staysP, List.all_eq_true, List.mem_range]
  exact ⟨fun h a s ha hs => h a ha s (by omega), fun h a ha s hs => h a s ha (by omega)⟩
theorem stP_in (l : List Int) (ht : isTri l = true) (da ds a s : Int) (h1 : 0 ≤ a + da) (h2 : a + da ≤ 5) (h3 : 0 ≤ s + ds) (h4 : s + ds ≤ a + da) : stP l da ds a s = (!(hd l a s) || hd l (a + da) (s + ds)) := by
  have hr := pl_range (a + da) (s + ds) h1 h2 h3 h4
  unfold stP
  rw [plOr_in _ _ h1 h2 h3 h4, if_neg (by omega), bit_of l ht, bit_of l ht]
  cases hd l a s <;> cases hd l (a + da) (s + ds) <;> rfl
theorem stP_out (l : List Int) (da ds a s : Int) (h : ¬ (0 ≤ a + da ∧ a + da ≤ 5 ∧ 0 ≤ s + ds ∧ s + ds ≤ a + da)) : stP l da ds a s = true := by
  unfold stP
  rw [plOr_out _ _ h]
  rfl

theorem fewerDo_at (l : List Int) (ht : isTri l = true) (a s : Nat) (ha : a < 6) (hs : s ≤ a) : stP l 0 (-1) a s = okAt l (impl_fewerDo.so l) a s := by
  unfold okAt impl_fewerDo.so
  by_cases h : (s : Int) = 0
  · rw [stP_out _ _ _ _ _ (by omega), decide_eq_true h, Bool.true_or, Bool.or_true]
  · rw [stP_in l ht _ _ _ _ (by omega) (by omega) (by omega) (by omega), decide_eq_false h, Bool.false_or, Int.add_zero]
    rfl
theorem moreDo_at (l : List Int) (ht : isTri l = true) (a s : Nat) (ha : a < 6) (hs : s ≤ a) : stP l 0 1 a s = okAt l (impl_moreDo.so l) a s := by
  unfold okAt impl_moreDo.so
  by_cases h : (s : Int) = a
  · rw [stP_out _ _ _ _ _ (by omega), decide_eq_true h, Bool.true_or, Bool.or_true]
  · rw [stP_in l ht _ _ _ _ (by omega) (by omega) (by omega) (by omega), decide_eq_false h, Bool.false_or, Int.add_zero]
theorem moreAre_at (l : List Int) (ht : isTri l = true) (a s : Nat) (ha : a < 6) (hs : s ≤ a) : (stP l 1 0 a s && stP l 1 1 a s) = okAt l (impl_moreAre.so l) a s := by
  unfold okAt impl_moreAre.so
  by_cases h : (a : Int) = 5
  · rw [stP_out _ _ _ _ _ (by omega), stP_out _ _ _ _ _ (by omega), decide_eq_true h, Bool.true_or, Bool.or_true]
    rfl
  · rw [stP_in l ht _ _ _ _ (by omega) (by omega) (by omega) (by omega), stP_in l ht _ _ _ _ (by omega) (by omega) (by omega) (by omega), decide_eq_false h, Bool.false_or, Int.add_zero]
    cases hd l a s <;> cases hd l (↑a + 1) s <;> cases hd l (↑a + 1) (↑s + 1) <;> rfl
theorem fewerAre_at (l : List Int) (ht : isTri l = true) (a s : Nat) (ha : a < 6) (hs : s ≤ a) : (stP l (-1) 0 a s && stP l (-1) (-1) a s) = okAt l (impl_fewerAre.so l) a s := by
  unfold okAt impl_fewerAre.so
  have e1 : (a : Int) + -1 = a - 1 := rfl
  have e2 : (s : Int) + -1 = s - 1 := rfl
  by_cases h : (s : Int) = 0
  · rw [stP_out l (-1) (-1) _ _ (by omega), decide_eq_true h, Bool.true_or, Bool.true_and, Bool.and_true]
    by_cases h' : (s : Int) = a
    · rw [stP_out _ _ _ _ _ (by omega), decide_eq_true h', Bool.true_or, Bool.or_true]
    · rw [stP_in l ht _ _ _ _ (by omega) (by omega) (by omega) (by omega), decide_eq_false h', Bool.false_or, Int.add_zero, e1]
  · rw [stP_in l ht (-1) (-1) _ _ (by omega) (by omega) (by omega) (by omega), decide_eq_false h, Bool.false_or, e1, e2]
    by_cases h' : (s : Int) = a
    · rw [stP_out _ _ _ _ _ (by omega), decide_eq_true h', Bool.true_or, Bool.true_and, Bool.and_true]
    · rw [stP_in l ht _ _ _ _ (by omega) (by omega) (by omega) (by omega), decide_eq_false h', Bool.false_or, Int.add_zero, e1]
      cases hd l a s <;> cases hd l (↑a - 1) s <;> cases hd l (↑a - 1) (↑s - 1) <;> rfl

def fewerDoP (l : List Int) : Bool := isTri l && staysP l (impl_fewerDo.so l)
def moreDoP (l : List Int) : Bool := isTri l && staysP l (impl_moreDo.so l)
def fewerAreP (l : List Int) : Bool := isTri l && staysP l (impl_fewerAre.so l)
def moreAreP (l : List Int) : Bool := isTri l && staysP l (impl_moreAre.so l)
theorem one_each (l : List Int) (da ds : Int) (so : Int → Int → Bool) (h : ∀ a s : Nat, a < 6 → s ≤ a → stP l da ds a s = okAt l so a s) : eachP l da ds = staysP l so := by
  rw [Bool.eq_iff_iff, eachP_iff, staysP_iff]
  exact ⟨fun g a s ha hs => (h a s ha hs).symm.trans (g a s ha hs), fun g a s ha hs => (h a s ha hs).trans (g a s ha hs)⟩
theorem two_each (l : List Int) (da ds da' ds' : Int) (so : Int → Int → Bool) (h : ∀ a s : Nat, a < 6 → s ≤ a → (stP l da ds a s && stP l da' ds' a s) = okAt l so a s) : (eachP l da ds && eachP l da' ds') = staysP l so := by
  rw [Bool.eq_iff_iff, Bool.and_eq_true, eachP_iff, eachP_iff, staysP_iff]
  constructor
  · intro g a s ha hs
    rw [← h a s ha hs, g.1 a s ha hs, g.2 a s ha hs]
    rfl
  · intro g
    constructor <;> intro a s ha hs
    · have := g a s ha hs
      rw [← h a s ha hs, Bool.and_eq_true] at this
      exact this.1
    · have := g a s ha hs
      rw [← h a s ha hs, Bool.and_eq_true] at this
      exact this.2
theorem spec_FewerDo_k (l : List Int) (hl : l.length ≤ 1048576) (k : Nat) (hk : 2097153 ≤ k) : spec_FewerDo.f k l = some (fewerDoP l) := by
  unfold spec_FewerDo.f fewerDoP
  rw [spec_TriangleOk_k l hl k (by omega), Option.bind_some]
  by_cases ht : isTri l = true
  · rw [if_pos ht, spec_l3Each_k l (isTri_length ht) 0 (-1) (by omega) (by omega) (by omega) (by omega) k (by omega), Option.bind_some, one_each l 0 (-1) _ (fewerDo_at l ht), ht, Bool.true_and]
  · rw [if_neg ht, Bool.eq_false_iff.mpr ht, Bool.false_and]
theorem spec_MoreDo_k (l : List Int) (hl : l.length ≤ 1048576) (k : Nat) (hk : 2097153 ≤ k) : spec_MoreDo.f k l = some (moreDoP l) := by
  unfold spec_MoreDo.f moreDoP
  rw [spec_TriangleOk_k l hl k (by omega), Option.bind_some]
  by_cases ht : isTri l = true
  · rw [if_pos ht, spec_l3Each_k l (isTri_length ht) 0 1 (by omega) (by omega) (by omega) (by omega) k (by omega), Option.bind_some, one_each l 0 1 _ (moreDo_at l ht), ht, Bool.true_and]
  · rw [if_neg ht, Bool.eq_false_iff.mpr ht, Bool.false_and]
theorem spec_MoreAre_k (l : List Int) (hl : l.length ≤ 1048576) (k : Nat) (hk : 2097153 ≤ k) : spec_MoreAre.f k l = some (moreAreP l) := by
  unfold spec_MoreAre.f moreAreP
  rw [spec_TriangleOk_k l hl k (by omega), Option.bind_some]
  by_cases ht : isTri l = true
  · rw [if_pos ht, spec_l3Each_k l (isTri_length ht) 1 0 (by omega) (by omega) (by omega) (by omega) k (by omega), Option.bind_some, spec_l3Each_k l (isTri_length ht) 1 1 (by omega) (by omega) (by omega) (by omega) k (by omega), ← two_each l 1 0 1 1 _ (moreAre_at l ht), ht, Bool.true_and]
    cases eachP l 1 0 <;> rfl
  · rw [if_neg ht, Bool.eq_false_iff.mpr ht, Bool.false_and]
theorem impl_FewerDo_k (l : List Int) (hl : l.length ≤ 1048576) (k : Nat) (hk : 2097153 ≤ k) : impl_FewerDo.f k l = some (fewerDoP l) := by
  unfold impl_FewerDo.f fewerDoP impl_fewerDo.f
  rw [impl_isTriangle_k l hl k (by omega), Option.bind_some]
  by_cases ht : isTri l = true
  · rw [if_pos ht, if_pos (Nat.le_of_eq (isTri_length ht).symm), Option.bind_some, ht, Bool.true_and]
  · rw [if_neg ht, Bool.eq_false_iff.mpr ht, Bool.false_and]
theorem impl_MoreDo_k (l : List Int) (hl : l.length ≤ 1048576) (k : Nat) (hk : 2097153 ≤ k) : impl_MoreDo.f k l = some (moreDoP l) := by
  unfold impl_MoreDo.f moreDoP impl_moreDo.f
  rw [impl_isTriangle_k l hl k (by omega), Option.bind_some]
  by_cases ht : isTri l = true
  · rw [if_pos ht, if_pos (Nat.le_of_eq (isTri_length ht).symm), Option.bind_some, ht, Bool.true_and]
  · rw [if_neg ht, Bool.eq_false_iff.mpr ht, Bool.false_and]
theorem impl_FewerAre_k (l : List Int) (hl : l.length ≤ 1048576) (k : Nat) (hk : 2097153 ≤ k) : impl_FewerAre.f k l = some (fewerAreP l) := by
  unfold impl_FewerAre.f fewerAreP impl_fewerAre.f
  rw [impl_isTriangle_k l hl k (by omega), Option.bind_some]
  by_cases ht : isTri l = true
  · rw [if_pos ht, if_pos (Nat.le_of_eq (isTri_length ht).symm), Option.bind_some, ht, Bool.true_and]
  · rw [if_neg ht, Bool.eq_false_iff.mpr ht, Bool.false_and]
theorem impl_MoreAre_k (l : List Int) (hl : l.length ≤ 1048576) (k : Nat) (hk : 2097153 ≤ k) : impl_MoreAre.f k l = some (moreAreP l) := by
  unfold impl_MoreAre.f moreAreP impl_moreAre.f
  rw [impl_isTriangle_k l hl k (by omega), Option.bind_some]
  by_cases ht : isTri l = true
  · rw [if_pos ht, if_pos (Nat.le_of_eq (isTri_length ht).symm), Option.bind_some, ht, Bool.true_and]
  · rw [if_neg ht, Bool.eq_false_iff.mpr ht, Bool.false_and]

end Go.Proofs.Ytbdbklnlpeichaa.P

/- Plain facts: what the reference's NamedTriangle comes to, with enough rounds, for every text. -/
namespace Go.Proofs.Ytbdbklnlpeichaa.P
open Go.RowKit Go.Proofs.YtbdbklnlpeichaaW.PrintWords Go.Proofs.YtbdbklnlpeichaaW.PrintLast

/-! The reference's rules. -/
def madeB (rule n a s : Int) : Bool :=
  if rule = 0 then s == a else if rule = 1 then decide (n ≤ s) else if rule = 2 then s == n else if rule = 3 then decide (a < 2 * s) else if rule = 4 then s % 2 == 0 else if rule = 5 then a - s == n else false
def madeI (rule n a s : Int) : Int := if madeB rule n a s = true then 1 else 0
theorem spec_l1Made_l1 (rule n : Int) (a : Nat) (ha : a < 6) (d : Nat) : ∀ (m s : Nat), s + d = a + 1 →
    spec_l1Made.l1 (m + d + 1) rule n (rowsI (madeI rule n) a ++ rowI (madeI rule n) a s) (a : Int) (s : Int) = spec_l1Made.l0 m rule n (rowsI (madeI rule n) (a + 1)) ((a + 1 : Nat) : Int) := by
  induction d with
  | zero =>
    intro m s h
    obtain ⟨M, hM⟩ : ∃ M, M = m + 0 := ⟨_, rfl⟩
    rw [← hM, show m = M from by omega]
    simp only [spec_l1Made.l1]
    rw [if_neg (by omega), wrap_succ6 a (by omega), show s = a + 1 from by omega, ← rowsI_succ]
  | succ d ih =>
    intro m s h
    obtain ⟨M, hM⟩ : ∃ M, M = m + d + 1 := ⟨_, rfl⟩
    rw [show m + (d + 1) + 1 = M + 1 from by omega]
    have hb := rows_bound (madeI rule n) a s ha (by omega)
    have w1 : wrap64 (2 * (s : Int)) = 2 * s := by unfold wrap64; omega
    have w2 : wrap64 ((a : Int) - s) = (a : Int) - s := by unfold wrap64; omega
    have hm : Int.tmod (s : Int) 2 = (s : Int) % 2 := Int.tmod_eq_emod_of_nonneg (by omega)
    have hi := ih m (s + 1) (by omega)
    have key : ∀ b : Bool, madeB rule n a s = b → spec_l1Made.l1 M rule n ((rowsI (madeI rule n) a ++ rowI (madeI rule n) a s) ++ [if b = true then 1 else 0]) (a : Int) ((s + 1 : Nat) : Int) = spec_l1Made.l0 m rule n (rowsI (madeI rule n) (a + 1)) ((a + 1 : Nat) : Int) := by
      intro b hb'
      rw [List.append_assoc, show rowI (madeI rule n) a s ++ [if b = true then 1 else 0] = rowI (madeI rule n) a (s + 1) from by rw [rowI_succ, madeI, hb'], hM]
      exact hi
    simp only [spec_l1Made.l1]
    rw [if_pos (by omega), wrap_succ6 s (by omega), w1, w2, hm]
    simp only [if_pos hb]
    have kt := key true
    have kf := key false
    simp only [if_true, Bool.false_eq_true, if_false] at kt kf
    unfold madeB at kt kf
    by_cases r0 : rule = 0
    · rw [if_pos r0]
      simp only [if_pos r0] at kt kf
      by_cases c : (s : Int) = a
      · rw [if_pos c]; exact kt (by simpa using c)
      · rw [if_neg c]; exact kf (by simpa using c)
    · rw [if_neg r0]
      simp only [if_neg r0] at kt kf
      by_cases r1 : rule = 1
      · rw [if_pos r1]
        simp only [if_pos r1] at kt kf
        by_cases c : (s : Int) ≥ n
        · rw [if_pos c]; exact kt (decide_eq_true c)
        · rw [if_neg c]; exact kf (decide_eq_false c)
      · rw [if_neg r1]
        simp only [if_neg r1] at kt kf
        by_cases r2 : rule = 2
        · rw [if_pos r2]
          simp only [if_pos r2] at kt kf
          by_cases c : (s : Int) = n
          · rw [if_pos c]; exact kt (by simpa using c)
          · rw [if_neg c]; exact kf (by simpa using c)
        · rw [if_neg r2]
          simp only [if_neg r2] at kt kf
          by_cases r3 : rule = 3
          · rw [if_pos r3]
            simp only [if_pos r3] at kt kf
            by_cases c : 2 * (s : Int) > a
            · rw [if_pos c]; exact kt (decide_eq_true c)
            · rw [if_neg c]; exact kf (decide_eq_false c)
          · rw [if_neg r3]
            simp only [if_neg r3] at kt kf
            by_cases r4 : rule = 4
            · rw [if_pos r4]
              simp only [if_pos r4] at kt kf
              by_cases c : (s : Int) % 2 = 0
              · rw [if_pos c]; exact kt (by rw [c]; rfl)
              · rw [if_neg c]; exact kf (beq_eq_false_iff_ne.mpr c)
            · rw [if_neg r4]
              simp only [if_neg r4] at kt kf
              by_cases r5 : rule = 5
              · rw [if_pos r5]
                simp only [if_pos r5] at kt kf
                by_cases c : (a : Int) - s = n
                · rw [if_pos c]; exact kt (beq_iff_eq.mpr c)
                · rw [if_neg c]; exact kf (beq_eq_false_iff_ne.mpr c)
              · rw [if_neg r5]
                simp only [if_neg r5] at kt kf
                exact kf trivial
theorem spec_l1Made_l0 (rule n : Int) (e : Nat) : ∀ (k a : Nat), a + e = 6 → 10 * e + 10 < k → spec_l1Made.l0 k rule n (rowsI (madeI rule n) a) (a : Int) = some (triI (madeI rule n)) := by
  induction e with
  | zero =>
    intro k a h hk
    obtain ⟨k, rfl⟩ : ∃ m, k = m + 1 := ⟨k - 1, by omega⟩
    obtain rfl : a = 6 := by omega
    simp only [spec_l1Made.l0]
    rw [if_neg (by omega)]
    rfl
  | succ e ih =>
    intro k a h hk
    obtain ⟨k, rfl⟩ : ∃ m, k = m + (a + 1) + 1 + 1 := ⟨k - (a + 3), by omega⟩
    have hh := spec_l1Made_l1 rule n a (by omega) (a + 1) k 0 (by omega)
    rw [rowI_zero, List.append_nil] at hh
    simp only [spec_l1Made.l0]
    rw [if_pos (by omega)]
    refine Eq.trans hh ?_
    exact ih k (a + 1) (by omega) (by omega)
theorem spec_l1Made_k (rule n : Int) (k : Nat) (hk : 100 ≤ k) : spec_l1Made.f k rule n = some (triI (madeI rule n)) := spec_l1Made_l0 rule n 6 k 0 (by omega) (by omega)

/-! The names. -/
def digitB (n : Int) : ByteArray := strOfNums [(wrap64 (48 + n)) % 256]
theorem spec_l1Number_k (n : Int) (h : n < 10) (k : Nat) (hk : 1 ≤ k) : spec_l1Number.f k n = some (digitB n) := by
  obtain ⟨k, rfl⟩ : ∃ m, k = m + 1 := ⟨k - 1, by omega⟩
  simp only [spec_l1Number.f]
  rw [if_pos h]
  rfl
theorem digit_list (n : Nat) (h : n < 6) : (digitB (n : Int)).data.toList = [UInt8.ofNat (48 + n)] ∧ (digitB (n : Int)).size = 1 := by
  have hf : ∀ i : Fin 6, (digitB (i.val : Int)).data.toList = [UInt8.ofNat (48 + i.val)] ∧ (digitB (i.val : Int)).size = 1 := by decide +kernel
  exact hf ⟨n, h⟩
def wAtleast : List UInt8 := [97, 116, 108, 101, 97, 115, 116]
def wJust : List UInt8 := [106, 117, 115, 116]
def wAllbut : List UInt8 := [97, 108, 108, 98, 117, 116]
/-- What the reference answers to a name, by its letters: from the digit i on. -/
def specDig (L : List UInt8) : Nat → Nat → List Int × Bool
  | 0, _ => ([], false)
  | e + 1, i => if L = wAtleast ++ [UInt8.ofNat (48 + i)] ∧ 0 < i then (triI (madeI 1 i), true) else if L = wJust ++ [UInt8.ofNat (48 + i)] then (triI (madeI 2 i), true) else if L = wAllbut ++ [UInt8.ofNat (48 + i)] then (triI (madeI 5 i), true) else specDig L e (i + 1)
theorem cat_list (W : List UInt8) (n : Nat) (h : n < 6) : ((⟨W.toArray⟩ : ByteArray) ++ digitB (n : Int)).toList = W ++ [UInt8.ofNat (48 + n)] := by
  rw [ByteArray.toList_eq, ByteArray.data_append, Array.toList_append, (digit_list n h).1]
theorem spec_Named_l1 (a0 : ByteArray) (e : Nat) : ∀ (k i : Nat), i + e = 6 → 300 + 3 * e ≤ k → spec_NamedTriangle.l1 k a0 (i : Int) = some (specDig a0.toList e i) := by
  induction e with
  | zero =>
    intro k i h hk
    obtain ⟨k, rfl⟩ : ∃ m, k = m + 1 := ⟨k - 1, by omega⟩
    simp only [spec_NamedTriangle.l1]
    rw [if_neg (by omega)]
    rfl
  | succ e ih =>
    intro k i h hk
    obtain ⟨k, rfl⟩ : ∃ m, k = m + 1 + 1 := ⟨k - 2, by omega⟩
    have hz := (digit_list i (by omega)).2
    have c1 := cat_list wAtleast i (by omega)
    have c2 := cat_list wJust i (by omega)
    have c3 := cat_list wAllbut i (by omega)
    simp only [spec_NamedTriangle.l1]
    rw [if_pos (by omega), spec_l1Number_k _ (by omega) _ (by omega), Option.bind_some, if_pos (by omega), show ((⟨#[97, 116, 108, 101, 97, 115, 116]⟩ : ByteArray) ++ digitB (i : Int)).toList = wAtleast ++ [UInt8.ofNat (48 + i)] from c1]
    have hj : ∀ x : Bool, (x = true → a0.toList = wAtleast ++ [UInt8.ofNat (48 + i)] ∧ 0 < i) → (x = false → ¬ (a0.toList = wAtleast ++ [UInt8.ofNat (48 + i)] ∧ 0 < i)) → spec_NamedTriangle.j2 (k + 1) a0 (i : Int) (digitB (i : Int)) x = some (specDig a0.toList (e + 1) i) := by
      intro x h1 h2
      simp only [spec_NamedTriangle.j2]
      rw [specDig]
      cases x with
      | true =>
        rw [if_pos rfl, spec_l1Made_k _ _ _ (by omega), Option.bind_some, if_pos (h1 rfl)]
      | false =>
        rw [if_neg (by decide), if_neg (h2 rfl), if_pos (by omega), show ((⟨#[106, 117, 115, 116]⟩ : ByteArray) ++ digitB (i : Int)).toList = wJust ++ [UInt8.ofNat (48 + i)] from c2]
        by_cases g2 : a0.toList = wJust ++ [UInt8.ofNat (48 + i)]
        · rw [if_pos g2, if_pos g2, spec_l1Made_k _ _ _ (by omega), Option.bind_some]
        · rw [if_neg g2, if_neg g2, if_pos (by omega), show ((⟨#[97, 108, 108, 98, 117, 116]⟩ : ByteArray) ++ digitB (i : Int)).toList = wAllbut ++ [UInt8.ofNat (48 + i)] from c3]
          by_cases g3 : a0.toList = wAllbut ++ [UInt8.ofNat (48 + i)]
          · rw [if_pos g3, if_pos g3, spec_l1Made_k _ _ _ (by omega), Option.bind_some]
          · rw [if_neg g3, if_neg g3, wrap_succ6 i (by omega)]
            exact ih k (i + 1) (by omega) (by omega)
    by_cases g1 : a0.toList = wAtleast ++ [UInt8.ofNat (48 + i)]
    · rw [if_pos g1]
      refine hj _ (fun h => ⟨g1, by have := of_decide_eq_true h; omega⟩) (fun h h' => ?_)
      have := of_decide_eq_false h
      omega
    · rw [if_neg g1]
      exact hj false (fun h => absurd h (by decide)) (fun _ h' => g1 h'.1)
def specNm (L : List UInt8) : List Int × Bool :=
  if L = [101, 118, 101, 114, 121] then (triI (madeI 0 0), true) else if L = [115, 111, 109, 101] then (triI (madeI 1 1), true) else if L = [110, 111] then (triI (madeI 2 0), true) else if L = [109, 111, 115, 116] then (triI (madeI 3 0), true) else if L = [101, 118, 101, 110] then (triI (madeI 4 0), true) else specDig L 6 0
theorem spec_NamedTriangle_k (a0 : ByteArray) (k : Nat) (hk : 1000 ≤ k) : spec_NamedTriangle.f k a0 = some (specNm a0.toList) := by
  obtain ⟨k, rfl⟩ : ∃ m, k = m + 5 + 1 := ⟨k - 6, by omega⟩
  have hl := spec_Named_l1 a0 6 k 0 (by omega) (by omega)
  have m0 := fun r n => spec_l1Made_k r n (k + 5) (by omega)
  have m1 := fun r n => spec_l1Made_k r n (k + 4) (by omega)
  have m2 := fun r n => spec_l1Made_k r n (k + 3) (by omega)
  have m3 := fun r n => spec_l1Made_k r n (k + 2) (by omega)
  have m4 := fun r n => spec_l1Made_k r n (k + 1) (by omega)
  unfold spec_NamedTriangle.f specNm
  obtain ⟨x, hx⟩ : ∃ x, specDig a0.toList 6 0 = x := ⟨_, rfl⟩
  rw [hx] at hl ⊢
  have t0 : ((⟨#[101, 118, 101, 114, 121]⟩ : ByteArray)).toList = [101, 118, 101, 114, 121] := by rw [ByteArray.toList_eq]
  have t1 : ((⟨#[115, 111, 109, 101]⟩ : ByteArray)).toList = [115, 111, 109, 101] := by rw [ByteArray.toList_eq]
  have t2 : ((⟨#[110, 111]⟩ : ByteArray)).toList = [110, 111] := by rw [ByteArray.toList_eq]
  have t3 : ((⟨#[109, 111, 115, 116]⟩ : ByteArray)).toList = [109, 111, 115, 116] := by rw [ByteArray.toList_eq]
  have t4 : ((⟨#[101, 118, 101, 110]⟩ : ByteArray)).toList = [101, 118, 101, 110] := by rw [ByteArray.toList_eq]
  obtain ⟨ns, hns⟩ : ∃ ns : List ByteArray, ns = [(⟨#[101, 118, 101, 114, 121]⟩ : ByteArray), (⟨#[115, 111, 109, 101]⟩ : ByteArray), (⟨#[110, 111]⟩ : ByteArray), (⟨#[109, 111, 115, 116]⟩ : ByteArray), (⟨#[101, 118, 101, 110]⟩ : ByteArray)] := ⟨_, rfl⟩
  rw [← hns]
  have nl : ns.length = 5 := by rw [hns]; rfl
  have r0 : (rdOf ByteArray.empty ns 0).toList = [101, 118, 101, 114, 121] := by rw [hns]; exact t0
  have r1 : (rdOf ByteArray.empty ns 1).toList = [115, 111, 109, 101] := by rw [hns]; exact t1
  have r2 : (rdOf ByteArray.empty ns 2).toList = [110, 111] := by rw [hns]; exact t2
  have r3 : (rdOf ByteArray.empty ns 3).toList = [109, 111, 115, 116] := by rw [hns]; exact t3
  have r4 : (rdOf ByteArray.empty ns 4).toList = [101, 118, 101, 110] := by rw [hns]; exact t4
  have l5 : spec_NamedTriangle.l0 (k + 1) a0 ns 5 = some x := by
    rw [spec_NamedTriangle.l0]
    rw [if_neg (by omega)]
    exact hl
  have l4 : spec_NamedTriangle.l0 (k + 2) a0 ns 4 = some (if a0.toList = [101, 118, 101, 110] then (triI (madeI 4 0), true) else x) := by
    rw [spec_NamedTriangle.l0]
    rw [if_pos (by omega), if_pos (by omega), r4]
    by_cases g : a0.toList = [101, 118, 101, 110]
    · rw [if_pos g, if_pos g, Option.bind_some, if_pos (by decide), Option.bind_some, if_pos (by decide), show rd [0, 1, 2, 3, 4] 4 = 4 from rfl, show rd [0, 1, 0, 0, 0] 4 = 0 from rfl, m4 4 0, Option.bind_some]
    · rw [if_neg g, if_neg g, show wrap64 ((4 : Int) + 1) = 5 from by unfold wrap64; omega]
      exact l5
  have l3 : spec_NamedTriangle.l0 (k + 3) a0 ns 3 = some (if a0.toList = [109, 111, 115, 116] then (triI (madeI 3 0), true) else if a0.toList = [101, 118, 101, 110] then (triI (madeI 4 0), true) else x) := by
    rw [spec_NamedTriangle.l0]
    rw [if_pos (by omega), if_pos (by omega), r3]
    by_cases g : a0.toList = [109, 111, 115, 116]
    · rw [if_pos g, if_pos g, Option.bind_some, if_pos (by decide), Option.bind_some, if_pos (by decide), show rd [0, 1, 2, 3, 4] 3 = 3 from rfl, show rd [0, 1, 0, 0, 0] 3 = 0 from rfl, m3 3 0, Option.bind_some]
    · rw [if_neg g, if_neg g, show wrap64 ((3 : Int) + 1) = 4 from by unfold wrap64; omega]
      exact l4
  have l2 : spec_NamedTriangle.l0 (k + 4) a0 ns 2 = some (if a0.toList = [110, 111] then (triI (madeI 2 0), true) else if a0.toList = [109, 111, 115, 116] then (triI (madeI 3 0), true) else if a0.toList = [101, 118, 101, 110] then (triI (madeI 4 0), true) else x) := by
    rw [spec_NamedTriangle.l0]
    rw [if_pos (by omega), if_pos (by omega), r2]
    by_cases g : a0.toList = [110, 111]
    · rw [if_pos g, if_pos g, Option.bind_some, if_pos (by decide), Option.bind_some, if_pos (by decide), show rd [0, 1, 2, 3, 4] 2 = 2 from rfl, show rd [0, 1, 0, 0, 0] 2 = 0 from rfl, m2 2 0, Option.bind_some]
    · rw [if_neg g, if_neg g, show wrap64 ((2 : Int) + 1) = 3 from by unfold wrap64; omega]
      exact l3
  have l1 : spec_NamedTriangle.l0 (k + 5) a0 ns 1 = some (if a0.toList = [115, 111, 109, 101] then (triI (madeI 1 1), true) else if a0.toList = [110, 111] then (triI (madeI 2 0), true) else if a0.toList = [109, 111, 115, 116] then (triI (madeI 3 0), true) else if a0.toList = [101, 118, 101, 110] then (triI (madeI 4 0), true) else x) := by
    rw [spec_NamedTriangle.l0]
    rw [if_pos (by omega), if_pos (by omega), r1]
    by_cases g : a0.toList = [115, 111, 109, 101]
    · rw [if_pos g, if_pos g, Option.bind_some, if_pos (by decide), Option.bind_some, if_pos (by decide), show rd [0, 1, 2, 3, 4] 1 = 1 from rfl, show rd [0, 1, 0, 0, 0] 1 = 1 from rfl, m1 1 1, Option.bind_some]
    · rw [if_neg g, if_neg g, show wrap64 ((1 : Int) + 1) = 2 from by unfold wrap64; omega]
      exact l2
  rw [spec_NamedTriangle.l0]
  rw [if_pos (by omega), if_pos (by omega), r0]
  by_cases g : a0.toList = [101, 118, 101, 114, 121]
  · rw [if_pos g, if_pos g, Option.bind_some, if_pos (by decide), Option.bind_some, if_pos (by decide), show rd [0, 1, 2, 3, 4] 0 = 0 from rfl, show rd [0, 1, 0, 0, 0] 0 = 0 from rfl, m0 0 0, Option.bind_some]
  · rw [if_neg g, if_neg g, show wrap64 ((0 : Int) + 1) = 1 from by unfold wrap64; omega]
    exact l1
theorem specDig_length (L : List UInt8) : ∀ e i, (specDig L e i).1.length ≤ 21
  | 0, _ => by simp [specDig]
  | e + 1, i => by
    rw [specDig]
    split
    · simp only [triI_length]; omega
    · split
      · simp only [triI_length]; omega
      · split
        · simp only [triI_length]; omega
        · exact specDig_length L e (i + 1)
theorem specNm_length (L : List UInt8) : (specNm L).1.length ≤ 21 := by
  unfold specNm
  repeat' split
  all_goals first | exact specDig_length L 6 0 | (simp only [triI_length]; omega)
theorem madeI_bit (r n a s : Int) : madeI r n a s = 0 ∨ madeI r n a s = 1 := by
  unfold madeI
  split
  · exact .inr rfl
  · exact .inl rfl
theorem specDig_form (L : List UInt8) : ∀ e i, (∃ r n, specDig L e i = (triI (madeI r n), true)) ∨ specDig L e i = ([], false)
  | 0, _ => .inr rfl
  | e + 1, i => by
    rw [specDig]
    split
    · exact .inl ⟨_, _, rfl⟩
    · split
      · exact .inl ⟨_, _, rfl⟩
      · split
        · exact .inl ⟨_, _, rfl⟩
        · exact specDig_form L e (i + 1)
theorem specNm_form (L : List UInt8) : (∃ r n, specNm L = (triI (madeI r n), true)) ∨ specNm L = ([], false) := by
  unfold specNm
  repeat' split
  all_goals first | exact .inl ⟨_, _, rfl⟩ | exact specDig_form L 6 0
theorem isTri_made (r n : Int) : isTri (triI (madeI r n)) = true := isTri_triI _ fun a s _ _ _ _ => madeI_bit r n a s
def l20N : List ByteArray := [(⟨#[101, 118, 101, 114, 121]⟩ : ByteArray), (⟨#[115, 111, 109, 101]⟩ : ByteArray), (⟨#[110, 111]⟩ : ByteArray), (⟨#[109, 111, 115, 116]⟩ : ByteArray), (⟨#[101, 118, 101, 110]⟩ : ByteArray), (⟨#[97, 116, 108, 101, 97, 115, 116, 50]⟩ : ByteArray), (⟨#[97, 116, 108, 101, 97, 115, 116, 51]⟩ : ByteArray), (⟨#[106, 117, 115, 116, 49]⟩ : ByteArray), (⟨#[106, 117, 115, 116, 50]⟩ : ByteArray), (⟨#[97, 108, 108, 98, 117, 116, 49]⟩ : ByteArray)]
theorem names_in (r : Int) (h0 : 0 ≤ r) (h1 : r < 10) : ∃ t, specNm (rdOf ByteArray.empty l20N r).toList = (t, true) ∧ isTri t = true := by
  have hf : ∀ i : Fin 10, (specNm (rdOf ByteArray.empty l20N (i.val : Int)).data.toList).2 = true := by decide +kernel
  have := hf ⟨r.toNat, by omega⟩
  simp only [] at this
  rw [show ((r.toNat : Nat) : Int) = r by omega, ← ByteArray.toList_eq] at this
  rcases specNm_form (rdOf ByteArray.empty l20N r).toList with ⟨a, b, e⟩ | e
  · exact ⟨_, e, isTri_made a b⟩
  · rw [e] at this
    exact absurd this Bool.false_ne_true

end Go.Proofs.Ytbdbklnlpeichaa.P

/- The algebra of triangles: each is its own picture; not, inside, both, either. -/
namespace Go.Proofs.Ytbdbklnlpeichaa.P
open Go.RowKit Go.Proofs.YtbdbklnlpeichaaW.PrintWords Go.Proofs.YtbdbklnlpeichaaW.PrintLast

theorem triBy_congr (f g : Int → Int → Bool) (h : ∀ a s, 0 ≤ a → a ≤ 5 → 0 ≤ s → s ≤ a → f a s = g a s) : triBy f = triBy g := by
  rw [triBy_eq, triBy_eq]
  refine triI_congr _ _ fun a s h1 h2 h3 h4 => ?_
  show (if f a s = true then (1 : Int) else 0) = if g a s = true then 1 else 0
  rw [h a s h1 h2 h3 h4]
theorem tri_hd (l : List Int) (h : isTri l = true) : triBy (hd l) = l := by
  rw [triBy_eq]
  refine Eq.trans (triI_congr _ _ fun a s _ _ _ _ => ?_) (tri_list l (isTri_length h)).symm
  exact (bit_of l h a s).symm
theorem notP_tri (l : List Int) (h : isTri l = true) : notP l = triBy fun a s => !(hd l a s) := by unfold notP; rw [if_pos h]
theorem insP_tri (l : List Int) (h : isTri l = true) : insP l = triBy fun a s => hd l a (a - s) := by unfold insP; rw [if_pos h]
theorem bothP_tri (l m : List Int) (h : isTri l = true) (h' : isTri m = true) : bothP l m = triBy fun a s => hd l a s && hd m a s := by unfold bothP; rw [if_pos (by rw [h, h']; rfl)]
theorem eitherP_tri (l m : List Int) (h : isTri l = true) (h' : isTri m = true) : eitherP l m = triBy fun a s => hd l a s || hd m a s := by unfold eitherP; rw [if_pos (by rw [h, h']; rfl)]
theorem notP_none (l : List Int) (h : ¬ isTri l = true) : notP l = [] := by unfold notP; rw [if_neg h]
theorem insP_none (l : List Int) (h : ¬ isTri l = true) : insP l = [] := by unfold insP; rw [if_neg h]
theorem bothP_none (l m : List Int) (h : ¬ (isTri l = true ∧ isTri m = true)) : bothP l m = [] := by unfold bothP; rw [if_neg (fun g => h (by simpa using g))]
theorem eitherP_none (l m : List Int) (h : ¬ (isTri l = true ∧ isTri m = true)) : eitherP l m = [] := by unfold eitherP; rw [if_neg (fun g => h (by simpa using g))]
theorem hd_not (l : List Int) (h : isTri l = true) (a s : Int) (h1 : 0 ≤ a) (h2 : a ≤ 5) (h3 : 0 ≤ s) (h4 : s ≤ a) : hd (notP l) a s = !(hd l a s) := by rw [notP_tri l h, hd_triBy _ a s h1 h2 h3 h4]
theorem hd_ins (l : List Int) (h : isTri l = true) (a s : Int) (h1 : 0 ≤ a) (h2 : a ≤ 5) (h3 : 0 ≤ s) (h4 : s ≤ a) : hd (insP l) a s = hd l a (a - s) := by rw [insP_tri l h, hd_triBy _ a s h1 h2 h3 h4]
theorem hd_both (l m : List Int) (h : isTri l = true) (h' : isTri m = true) (a s : Int) (h1 : 0 ≤ a) (h2 : a ≤ 5) (h3 : 0 ≤ s) (h4 : s ≤ a) : hd (bothP l m) a s = (hd l a s && hd m a s) := by rw [bothP_tri l m h h', hd_triBy _ a s h1 h2 h3 h4]
theorem hd_either (l m : List Int) (h : isTri l = true) (h' : isTri m = true) (a s : Int) (h1 : 0 ≤ a) (h2 : a ≤ 5) (h3 : 0 ≤ s) (h4 : s ≤ a) : hd (eitherP l m) a s = (hd l a s || hd m a s) := by rw [eitherP_tri l m h h', hd_triBy _ a s h1 h2 h3 h4]
theorem not_not (l : List Int) (h : isTri l = true) : notP (notP l) = l := by
  rw [notP_tri _ (isTri_notP l h)]
  refine Eq.trans (triBy_congr _ _ fun a s h1 h2 h3 h4 => ?_) (tri_hd l h)
  show (!(hd (notP l) a s)) = hd l a s
  rw [hd_not l h a s h1 h2 h3 h4, Bool.not_not]
theorem ins_ins (l : List Int) (h : isTri l = true) : insP (insP l) = l := by
  rw [insP_tri _ (isTri_insP l h)]
  refine Eq.trans (triBy_congr _ _ fun a s h1 h2 h3 h4 => ?_) (tri_hd l h)
  show hd (insP l) a (a - s) = hd l a s
  rw [hd_ins l h a (a - s) h1 h2 (by omega) (by omega), show a - (a - s) = s by omega]
theorem ins_not (l : List Int) (h : isTri l = true) : insP (notP l) = notP (insP l) := by
  rw [insP_tri _ (isTri_notP l h), notP_tri _ (isTri_insP l h)]
  refine triBy_congr _ _ fun a s h1 h2 h3 h4 => ?_
  show hd (notP l) a (a - s) = !(hd (insP l) a s)
  rw [hd_not l h a (a - s) h1 h2 (by omega) (by omega), hd_ins l h a s h1 h2 h3 h4]
theorem both_comm (l m : List Int) : bothP l m = bothP m l := by
  by_cases h : isTri l = true ∧ isTri m = true
  · rw [bothP_tri l m h.1 h.2, bothP_tri m l h.2 h.1]
    exact triBy_congr _ _ fun a s _ _ _ _ => Bool.and_comm _ _
  · rw [bothP_none l m h, bothP_none m l (fun g => h ⟨g.2, g.1⟩)]
theorem either_comm (l m : List Int) : eitherP l m = eitherP m l := by
  by_cases h : isTri l = true ∧ isTri m = true
  · rw [eitherP_tri l m h.1 h.2, eitherP_tri m l h.2 h.1]
    exact triBy_congr _ _ fun a s _ _ _ _ => Bool.or_comm _ _
  · rw [eitherP_none l m h, eitherP_none m l (fun g => h ⟨g.2, g.1⟩)]
theorem both_self (l : List Int) (h : isTri l = true) : bothP l l = l := by
  rw [bothP_tri l l h h]
  refine Eq.trans (triBy_congr _ _ fun a s _ _ _ _ => ?_) (tri_hd l h)
  exact Bool.and_self _
theorem both_either (l m : List Int) (h : isTri l = true) (h' : isTri m = true) : bothP l (eitherP l m) = l := by
  rw [bothP_tri l _ h (isTri_eitherP l m h h')]
  refine Eq.trans (triBy_congr _ _ fun a s h1 h2 h3 h4 => ?_) (tri_hd l h)
  show (hd l a s && hd (eitherP l m) a s) = hd l a s
  rw [hd_either l m h h' a s h1 h2 h3 h4]
  cases hd l a s <;> rfl
theorem not_either_not (l m : List Int) (h : isTri l = true) (h' : isTri m = true) : notP (eitherP (notP l) (notP m)) = bothP l m := by
  rw [notP_tri _ (isTri_eitherP _ _ (isTri_notP l h) (isTri_notP m h')), bothP_tri l m h h']
  refine triBy_congr _ _ fun a s h1 h2 h3 h4 => ?_
  show (!(hd (eitherP (notP l) (notP m)) a s)) = (hd l a s && hd m a s)
  rw [hd_either _ _ (isTri_notP l h) (isTri_notP m h') a s h1 h2 h3 h4, hd_not l h a s h1 h2 h3 h4, hd_not m h' a s h1 h2 h3 h4]
  cases hd l a s <;> cases hd m a s <;> rfl
theorem ins_both (l m : List Int) (h : isTri l = true) (h' : isTri m = true) : insP (bothP l m) = bothP (insP l) (insP m) := by
  rw [insP_tri _ (isTri_bothP l m h h'), bothP_tri _ _ (isTri_insP l h) (isTri_insP m h')]
  refine triBy_congr _ _ fun a s h1 h2 h3 h4 => ?_
  show hd (bothP l m) a (a - s) = (hd (insP l) a s && hd (insP m) a s)
  rw [hd_both l m h h' a (a - s) h1 h2 (by omega) (by omega), hd_ins l h a s h1 h2 h3 h4, hd_ins m h' a s h1 h2 h3 h4]
theorem not_both (l m : List Int) (h : isTri l = true) (h' : isTri m = true) : notP (bothP l m) = eitherP (notP l) (notP m) := by
  rw [notP_tri _ (isTri_bothP l m h h'), eitherP_tri _ _ (isTri_notP l h) (isTri_notP m h')]
  refine triBy_congr _ _ fun a s h1 h2 h3 h4 => ?_
  show (!(hd (bothP l m) a s)) = (hd (notP l) a s || hd (notP m) a s)
  rw [hd_both l m h h' a s h1 h2 h3 h4, hd_not l h a s h1 h2 h3 h4, hd_not m h' a s h1 h2 h3 h4]
  cases hd l a s <;> cases hd m a s <;> rfl
theorem tri_ne (so : Int → Int → Bool) : ¬ ((triBy so).length : Int) = 0 := by rw [triBy_eq, triI_length]; omega
theorem named_tri (L : List UInt8) (h : (specNm L).2 = true) : ∃ t, specNm L = (t, true) ∧ isTri t = true := by
  rcases specNm_form L with ⟨a, b, e⟩ | e
  · exact ⟨_, e, isTri_made a b⟩
  · rw [e] at h
    exact absurd h Bool.false_ne_true

end Go.Proofs.Ytbdbklnlpeichaa.P

/- What stays so with more or fewer: by entries; what stays so of both, either, not, inside. -/
namespace Go.Proofs.Ytbdbklnlpeichaa.P
open Go.RowKit Go.Proofs.YtbdbklnlpeichaaW.PrintWords Go.Proofs.YtbdbklnlpeichaaW.PrintLast

theorem okAt_iff (l : List Int) (so : Int → Int → Bool) (a s : Int) : okAt l so a s = true ↔ (hd l a s = true → so a s = true) := by
  unfold okAt
  cases hd l a s <;> simp
theorem fewerDo_iff (l : List Int) : fewerDoP l = true ↔ isTri l = true ∧ ∀ a s : Nat, a < 6 → s ≤ a → hd l a s = true → s = 0 ∨ hd l a ((s : Int) - 1) = true := by
  unfold fewerDoP
  rw [Bool.and_eq_true, staysP_iff]
  simp only [okAt_iff, impl_fewerDo.so, Bool.or_eq_true, decide_eq_true_eq]
  constructor
  · rintro ⟨h0, h⟩
    refine ⟨h0, fun a s h1 h2 h3 => ?_⟩
    rcases h a s h1 h2 h3 with g | g
    · exact .inl (by omega)
    · exact .inr g
  · rintro ⟨h0, h⟩
    refine ⟨h0, fun a s h1 h2 h3 => ?_⟩
    rcases h a s h1 h2 h3 with g | g
    · exact .inl (by omega)
    · exact .inr g
theorem moreDo_iff (l : List Int) : moreDoP l = true ↔ isTri l = true ∧ ∀ a s : Nat, a < 6 → s ≤ a → hd l a s = true → s = a ∨ hd l a ((s : Int) + 1) = true := by
  unfold moreDoP
  rw [Bool.and_eq_true, staysP_iff]
  simp only [okAt_iff, impl_moreDo.so, Bool.or_eq_true, decide_eq_true_eq]
  constructor
  · rintro ⟨h0, h⟩
    refine ⟨h0, fun a s h1 h2 h3 => ?_⟩
    rcases h a s h1 h2 h3 with g | g
    · exact .inl (by omega)
    · exact .inr g
  · rintro ⟨h0, h⟩
    refine ⟨h0, fun a s h1 h2 h3 => ?_⟩
    rcases h a s h1 h2 h3 with g | g
    · exact .inl (by omega)
    · exact .inr g
theorem fewerAre_iff (l : List Int) : fewerAreP l = true ↔ isTri l = true ∧ ∀ a s : Nat, a < 6 → s ≤ a → hd l a s = true → (s = 0 ∨ hd l ((a : Int) - 1) ((s : Int) - 1) = true) ∧ (s = a ∨ hd l ((a : Int) - 1) s = true) := by
  unfold fewerAreP
  rw [Bool.and_eq_true, staysP_iff]
  simp only [okAt_iff, impl_fewerAre.so, Bool.or_eq_true, Bool.and_eq_true, decide_eq_true_eq]
  constructor
  · rintro ⟨h0, h⟩
    refine ⟨h0, fun a s h1 h2 h3 => ?_⟩
    obtain ⟨g1, g2⟩ := h a s h1 h2 h3
    exact ⟨g1.imp (fun g => by omega) id, g2.imp (fun g => by omega) id⟩
  · rintro ⟨h0, h⟩
    refine ⟨h0, fun a s h1 h2 h3 => ?_⟩
    obtain ⟨g1, g2⟩ := h a s h1 h2 h3
    exact ⟨g1.imp (fun g => by omega) id, g2.imp (fun g => by omega) id⟩
theorem moreAre_iff (l : List Int) : moreAreP l = true ↔ isTri l = true ∧ ∀ a s : Nat, a < 6 → s ≤ a → hd l a s = true → a = 5 ∨ (hd l ((a : Int) + 1) s = true ∧ hd l ((a : Int) + 1) ((s : Int) + 1) = true) := by
  unfold moreAreP
  rw [Bool.and_eq_true, staysP_iff]
  simp only [okAt_iff, impl_moreAre.so, Bool.or_eq_true, Bool.and_eq_true, decide_eq_true_eq]
  constructor
  · rintro ⟨h0, h⟩
    refine ⟨h0, fun a s h1 h2 h3 => ?_⟩
    exact (h a s h1 h2 h3).imp (fun g => by omega) id
  · rintro ⟨h0, h⟩
    refine ⟨h0, fun a s h1 h2 h3 => ?_⟩
    exact (h a s h1 h2 h3).imp (fun g => by omega) id
theorem fewerDo_both (l m : List Int) (h : fewerDoP l = true) (h' : fewerDoP m = true) : fewerDoP (bothP l m) = true := by
  rw [fewerDo_iff] at h h' ⊢
  refine ⟨isTri_bothP l m h.1 h'.1, fun a s h1 h2 h3 => ?_⟩
  rw [hd_both l m h.1 h'.1 a s (by omega) (by omega) (by omega) (by omega), Bool.and_eq_true] at h3
  by_cases hs : s = 0
  · exact .inl hs
  · right
    rw [hd_both l m h.1 h'.1 a _ (by omega) (by omega) (by omega) (by omega), Bool.and_eq_true]
    exact ⟨(h.2 a s h1 h2 h3.1).resolve_left hs, (h'.2 a s h1 h2 h3.2).resolve_left hs⟩
theorem fewerDo_either (l m : List Int) (h : fewerDoP l = true) (h' : fewerDoP m = true) : fewerDoP (eitherP l m) = true := by
  rw [fewerDo_iff] at h h' ⊢
  refine ⟨isTri_eitherP l m h.1 h'.1, fun a s h1 h2 h3 => ?_⟩
  rw [hd_either l m h.1 h'.1 a s (by omega) (by omega) (by omega) (by omega), Bool.or_eq_true] at h3
  by_cases hs : s = 0
  · exact .inl hs
  · right
    rw [hd_either l m h.1 h'.1 a _ (by omega) (by omega) (by omega) (by omega), Bool.or_eq_true]
    exact h3.imp (fun g => (h.2 a s h1 h2 g).resolve_left hs) (fun g => (h'.2 a s h1 h2 g).resolve_left hs)
/-! Greater and smaller places: step by step. -/
theorem moreDo_up (l : List Int) (h : moreDoP l = true) (a s : Nat) (ha : a < 6) (hd0 : hd l a s = true) : ∀ e : Nat, s + e ≤ a → hd l a ((s + e : Nat) : Int) = true
  | 0, _ => hd0
  | e + 1, he => by
    have := moreDo_up l h a s ha hd0 e (by omega)
    rcases ((moreDo_iff l).1 h).2 a (s + e) ha (by omega) this with g | g
    · omega
    · rw [show ((s + (e + 1) : Nat) : Int) = ((s + e : Nat) : Int) + 1 by omega]
      exact g
theorem fewerDo_down (l : List Int) (h : fewerDoP l = true) (a s : Nat) (ha : a < 6) (hs : s ≤ a) (hd0 : hd l a s = true) : ∀ e : Nat, e ≤ s → hd l a ((s - e : Nat) : Int) = true
  | 0, _ => hd0
  | e + 1, he => by
    have := fewerDo_down l h a s ha hs hd0 e (by omega)
    rcases ((fewerDo_iff l).1 h).2 a (s - e) ha (by omega) this with g | g
    · omega
    · rw [show ((s - (e + 1) : Nat) : Int) = ((s - e : Nat) : Int) - 1 by omega]
      exact g
theorem moreAre_up (l : List Int) (h : moreAreP l = true) : ∀ (d a s e : Nat), s ≤ a → e ≤ d → a + d < 6 → hd l a s = true → hd l ((a + d : Nat) : Int) ((s + e : Nat) : Int) = true
  | 0, a, s, e, _, h2, _, h4 => by
    obtain rfl : e = 0 := by omega
    exact h4
  | d + 1, a, s, e, h1, h2, h3, h4 => by
    rcases ((moreAre_iff l).1 h).2 a s (by omega) h1 h4 with g | g
    · omega
    · by_cases he : e = d + 1
      · have := moreAre_up l h d (a + 1) (s + 1) d (by omega) (by omega) (by omega) g.2
        rw [he, show a + (d + 1) = a + 1 + d by omega, show s + (d + 1) = s + 1 + d by omega]
        exact this
      · have := moreAre_up l h d (a + 1) s e (by omega) (by omega) (by omega) g.1
        rw [show a + (d + 1) = a + 1 + d by omega]
        exact this
/-! Turned about: not, inside, dual. -/
theorem fewerDo_not (l : List Int) (h : isTri l = true) : fewerDoP (notP l) = moreDoP l := by
  rw [Bool.eq_iff_iff, fewerDo_iff, moreDo_iff]
  constructor
  · rintro ⟨_, g⟩
    refine ⟨h, fun a s h1 h2 h3 => ?_⟩
    by_cases hs : s = a
    · exact .inl hs
    · right
      cases e : hd l a ((s : Int) + 1)
      · have := g a (s + 1) h1 (by omega) (by rw [hd_not l h a _ (by omega) (by omega) (by omega) (by omega), show ((s + 1 : Nat) : Int) = (s : Int) + 1 by omega, e]; rfl)
        rcases this with k | k
        · omega
        · rw [show ((s + 1 : Nat) : Int) - 1 = (s : Int) by omega, hd_not l h a _ (by omega) (by omega) (by omega) (by omega), h3] at k
          exact absurd k Bool.false_ne_true
      · rfl
  · rintro ⟨_, g⟩
    refine ⟨isTri_notP l h, fun a s h1 h2 h3 => ?_⟩
    by_cases hs : s = 0
    · exact .inl hs
    · right
      rw [hd_not l h a _ (by omega) (by omega) (by omega) (by omega)] at h3 ⊢
      cases e : hd l a ((s : Int) - 1)
      · rfl
      · have := g a (s - 1) h1 (by omega) (by rw [show ((s - 1 : Nat) : Int) = (s : Int) - 1 by omega]; exact e)
        rcases this with k | k
        · omega
        · rw [show ((s - 1 : Nat) : Int) + 1 = (s : Int) by omega] at k
          rw [k] at h3
          exact absurd h3 Bool.false_ne_true
theorem fewerDo_ins (l : List Int) (h : isTri l = true) : fewerDoP (insP l) = moreDoP l := by
  rw [Bool.eq_iff_iff, fewerDo_iff, moreDo_iff]
  constructor
  · rintro ⟨_, g⟩
    refine ⟨h, fun a s h1 h2 h3 => ?_⟩
    by_cases hs : s = a
    · exact .inl hs
    · right
      have := g a (a - s) h1 (by omega) (by rw [hd_ins l h a _ (by omega) (by omega) (by omega) (by omega), show (a : Int) - ((a - s : Nat) : Int) = s by omega]; exact h3)
      rcases this with k | k
      · omega
      · rw [hd_ins l h a _ (by omega) (by omega) (by omega) (by omega), show (a : Int) - (((a - s : Nat) : Int) - 1) = (s : Int) + 1 by omega] at k
        exact k
  · rintro ⟨_, g⟩
    refine ⟨isTri_insP l h, fun a s h1 h2 h3 => ?_⟩
    by_cases hs : s = 0
    · exact .inl hs
    · right
      rw [hd_ins l h a _ (by omega) (by omega) (by omega) (by omega)] at h3 ⊢
      rcases g a (a - s) h1 (by omega) (by rw [show ((a - s : Nat) : Int) = (a : Int) - s by omega]; exact h3) with k | k
      · omega
      · rw [show (a : Int) - ((s : Int) - 1) = ((a - s : Nat) : Int) + 1 by omega]
        exact k
theorem moreDo_dual (l : List Int) (h : isTri l = true) : moreDoP (dualP l) = moreDoP l := by
  show moreDoP (notP (insP l)) = moreDoP l
  rw [← fewerDo_not _ (isTri_notP _ (isTri_insP l h)), not_not _ (isTri_insP l h), fewerDo_ins l h]
theorem fewerAre_not (l : List Int) (h : isTri l = true) : fewerAreP (notP l) = moreAreP l := by
  rw [Bool.eq_iff_iff, fewerAre_iff, moreAre_iff]
  constructor
  · rintro ⟨_, g⟩
    refine ⟨h, fun a s h1 h2 h3 => ?_⟩
    by_cases ha : a = 5
    · exact .inl ha
    · right
      constructor
      · cases e : hd l ((a : Int) + 1) s
        · have := (g (a + 1) s (by omega) (by omega) (by rw [hd_not l h _ _ (by omega) (by omega) (by omega) (by omega), show ((a + 1 : Nat) : Int) = (a : Int) + 1 by omega, e]; rfl)).2
          rcases this with k | k
          · omega
          · rw [show ((a + 1 : Nat) : Int) - 1 = (a : Int) by omega, hd_not l h a _ (by omega) (by omega) (by omega) (by omega), h3] at k
            exact absurd k Bool.false_ne_true
        · rfl
      · cases e : hd l ((a : Int) + 1) ((s : Int) + 1)
        · have := (g (a + 1) (s + 1) (by omega) (by omega) (by rw [hd_not l h _ _ (by omega) (by omega) (by omega) (by omega), show ((a + 1 : Nat) : Int) = (a : Int) + 1 by omega, show ((s + 1 : Nat) : Int) = (s : Int) + 1 by omega, e]; rfl)).1
          rcases this with k | k
          · omega
          · rw [show ((a + 1 : Nat) : Int) - 1 = (a : Int) by omega, show ((s + 1 : Nat) : Int) - 1 = (s : Int) by omega, hd_not l h a _ (by omega) (by omega) (by omega) (by omega), h3] at k
            exact absurd k Bool.false_ne_true
        · rfl
  · rintro ⟨_, g⟩
    refine ⟨isTri_notP l h, fun a s h1 h2 h3 => ?_⟩
    rw [hd_not l h a _ (by omega) (by omega) (by omega) (by omega)] at h3
    constructor
    · by_cases hs : s = 0
      · exact .inl hs
      · right
        rw [hd_not l h _ _ (by omega) (by omega) (by omega) (by omega)]
        cases e : hd l ((a : Int) - 1) ((s : Int) - 1)
        · rfl
        · have := g (a - 1) (s - 1) (by omega) (by omega) (by rw [show ((a - 1 : Nat) : Int) = (a : Int) - 1 by omega, show ((s - 1 : Nat) : Int) = (s : Int) - 1 by omega]; exact e)
          rcases this with k | k
          · omega
          · have k2 := k.2
            rw [show ((a - 1 : Nat) : Int) + 1 = (a : Int) by omega, show ((s - 1 : Nat) : Int) + 1 = (s : Int) by omega] at k2
            rw [k2] at h3
            exact absurd h3 Bool.false_ne_true
    · by_cases hs : s = a
      · exact .inl hs
      · right
        rw [hd_not l h _ _ (by omega) (by omega) (by omega) (by omega)]
        cases e : hd l ((a : Int) - 1) (s : Int)
        · rfl
        · have := g (a - 1) s (by omega) (by omega) (by rw [show ((a - 1 : Nat) : Int) = (a : Int) - 1 by omega]; exact e)
          rcases this with k | k
          · omega
          · have k1 := k.1
            rw [show ((a - 1 : Nat) : Int) + 1 = (a : Int) by omega] at k1
            rw [k1] at h3
            exact absurd h3 Bool.false_ne_true
theorem moreAre_ins1 (l : List Int) (h : isTri l = true) (g : moreAreP l = true) : moreAreP (insP l) = true := by
  rw [moreAre_iff] at g ⊢
  refine ⟨isTri_insP l h, fun a s h1 h2 h3 => ?_⟩
  by_cases ha : a = 5
  · exact .inl ha
  · right
    rw [hd_ins l h a _ (by omega) (by omega) (by omega) (by omega)] at h3
    have := g.2 a (a - s) h1 (by omega) (by rw [show ((a - s : Nat) : Int) = (a : Int) - s by omega]; exact h3)
    rcases this with k | k
    · exact absurd k ha
    · rw [hd_ins l h _ _ (by omega) (by omega) (by omega) (by omega), hd_ins l h _ _ (by omega) (by omega) (by omega) (by omega)]
      rw [show (a : Int) + 1 - s = ((a - s : Nat) : Int) + 1 by omega, show (a : Int) + 1 - ((s : Int) + 1) = ((a - s : Nat) : Int) by omega]
      exact ⟨k.2, k.1⟩
theorem moreAre_ins (l : List Int) (h : isTri l = true) : moreAreP (insP l) = moreAreP l := by
  rw [Bool.eq_iff_iff]
  constructor
  · intro g
    have := moreAre_ins1 (insP l) (isTri_insP l h) g
    rwa [ins_ins l h] at this
  · exact moreAre_ins1 l h

end Go.Proofs.Ytbdbklnlpeichaa.P

/- Plain facts on lists of numbers by rows of one length. No condition beyond those typed. -/
namespace Go.Proofs.Ytbdbklnlpeichaa.P
open Go.RowKit Go.Proofs.YtbdbklnlpeichaaW.PrintWords Go.Proofs.YtbdbklnlpeichaaW.PrintLast

def rowB (f : Int → Int → Int) (a m : Nat) : List Int := (List.range m).map fun (s : Nat) => f (a : Int) (s : Int)
def rowsB (f : Int → Int → Int) (B n : Nat) : List Int := (List.range n).flatMap fun a => rowB f a B
theorem rowB_zero (f : Int → Int → Int) (a : Nat) : rowB f a 0 = [] := rfl
theorem rowB_succ (f : Int → Int → Int) (a m : Nat) : rowB f a (m + 1) = rowB f a m ++ [f a m] := by simp [rowB, List.range_succ]
theorem rowsB_succ (f : Int → Int → Int) (B n : Nat) : rowsB f B (n + 1) = rowsB f B n ++ rowB f n B := by simp [rowsB, List.range_succ]
theorem rowB_length (f : Int → Int → Int) (a m : Nat) : (rowB f a m).length = m := by simp [rowB]
theorem rowsB_length (f : Int → Int → Int) (B : Nat) : ∀ n, (rowsB f B n).length = n * B
  | 0 => by simp [rowsB]
  | n + 1 => by rw [rowsB_succ, List.length_append, rowsB_length f B n, rowB_length, Nat.succ_mul]
theorem rowsB_bound (f : Int → Int → Int) (B n m : Nat) (hB : B ≤ 8) (hn : n ≤ 8) (hm : m ≤ 8) : (rowsB f B n ++ rowB f n m).length < 17592186044416 := by
  rw [List.length_append, rowsB_length, rowB_length]
  have := Nat.mul_le_mul hn hB
  omega
end Go.Proofs.Ytbdbklnlpeichaa.P

/- Plain facts: what the reference's and the program's RelationFrom come to, with enough rounds, for lists of at most 2^20 numbers. -/
namespace Go.Proofs.Ytbdbklnlpeichaa.P
open Go.RowKit Go.Proofs.YtbdbklnlpeichaaW.PrintWords Go.Proofs.YtbdbklnlpeichaaW.PrintLast

/-- How many things a set has (of at most three). -/
def szI (x : Int) : Int := x % 2 + x / 2 % 2 + x / 4 % 2
theorem l2Size_k (a : Int) (h1 : 0 ≤ a) (h2 : a < 8) (k : Nat) (hk : 20 ≤ k) : spec_l2Size.f k a = some (szI a) := by
  obtain ⟨k, rfl⟩ : ∃ m, k = m + 20 := ⟨k - 20, by omega⟩
  clear hk
  have hf : ∀ x : Fin 8, spec_l2Size.f 20 (x.val : Int) = some (szI (x.val : Int)) := by decide +kernel
  obtain ⟨x, rfl⟩ := Int.eq_ofNat_of_zero_le h1
  have h0 := hf ⟨x, by omega⟩
  induction k with
  | zero => exact h0
  | succ k ih =>
    have := spec_l2Size.mono (x : Int) (k + 20)
    rw [show k + 1 + 20 = k + 20 + 1 from by omega]
    exact this _ ih
theorem l2Both_k (a b : Int) (h1 : 0 ≤ a) (h2 : a < 8) (h3 : 0 ≤ b) (h4 : b < 8) (k : Nat) (hk : 20 ≤ k) : spec_l2Both.f k a b = some (Go.bits .and .i64 a b) := by
  obtain ⟨k, rfl⟩ : ∃ m, k = m + 20 := ⟨k - 20, by omega⟩
  clear hk
  have hf : ∀ x y : Fin 8, spec_l2Both.f 20 (x.val : Int) (y.val : Int) = some (Go.bits .and .i64 (x.val : Int) (y.val : Int)) := by decide +kernel
  obtain ⟨x, rfl⟩ := Int.eq_ofNat_of_zero_le h1
  obtain ⟨y, rfl⟩ := Int.eq_ofNat_of_zero_le h3
  have h0 := hf ⟨x, by omega⟩ ⟨y, by omega⟩
  induction k with
  | zero => exact h0
  | succ k ih =>
    have := spec_l2Both.mono (x : Int) (y : Int) (k + 20)
    rw [show k + 1 + 20 = k + 20 + 1 from by omega]
    exact this _ ih
theorem sizes (a b : Int) (h1 : 0 ≤ a) (h2 : a < 8) (h3 : 0 ≤ b) (h4 : b < 8) : 0 ≤ szI a ∧ szI a ≤ 3 ∧ 0 ≤ szI (Go.bits .and .i64 a b) ∧ szI (Go.bits .and .i64 a b) ≤ szI a := by
  have hf : ∀ x y : Fin 8, 0 ≤ szI (x.val : Int) ∧ szI (x.val : Int) ≤ 3 ∧ 0 ≤ szI (Go.bits .and .i64 (x.val : Int) (y.val : Int)) ∧ szI (Go.bits .and .i64 (x.val : Int) (y.val : Int)) ≤ szI (x.val : Int) := by decide +kernel
  obtain ⟨x, rfl⟩ := Int.eq_ofNat_of_zero_le h1
  obtain ⟨y, rfl⟩ := Int.eq_ofNat_of_zero_le h3
  exact hf ⟨x, by omega⟩ ⟨y, by omega⟩
theorem impl_placeOf_in (a s : Int) (h1 : 0 ≤ a) (h2 : a ≤ 5) (h3 : 0 ≤ s) (h4 : s ≤ a) : impl_placeOf.f a s = some (pl a s) := by
  unfold impl_placeOf.f
  rw [pl_wrap a s h1 h2 h3 h4]
def rfAt (l : List Int) (a b : Int) : Int := rd l (pl (szI a) (szI (Go.bits .and .i64 a b)))
/-- The relation of a triangle. -/
def rfP (t : Int) (l : List Int) : List Int := if (decide (0 ≤ t ∧ t ≤ 3) && isTri l) = true then rowsB (rfAt l) (2 ^ t.toNat) (2 ^ t.toNat) else []
theorem two_nat (t : Int) (h1 : 0 ≤ t) (h2 : t ≤ 3) : shl .i64 1 t = ((2 ^ t.toNat : Nat) : Int) ∧ 2 ^ t.toNat ≤ 8 := by
  rcases three t h1 h2 with rfl | rfl | rfl | rfl <;> exact ⟨by decide +kernel, by decide⟩
theorem rfP_length (t : Int) (l : List Int) : (rfP t l).length ≤ 100 := by
  unfold rfP
  split
  · rename_i h
    simp only [Bool.and_eq_true, decide_eq_true_eq] at h
    have := (two_nat t h.1.1 h.1.2).2
    rw [rowsB_length]
    have := Nat.mul_le_mul this this
    omega
  · simp
theorem spec_RelationFrom_l1 (t : Int) (l : List Int) (h1 : 0 ≤ t) (h2 : t ≤ 3) (h3 : l.length = 21) (B : Nat) (e1 : shl .i64 1 t = (B : Int)) (hB : B ≤ 8) (a : Nat) (ha : a < B) (d : Nat) : ∀ (m b : Nat), 100 ≤ m → b + d = B →
    spec_RelationFrom.l1 (m + d + 1) t l (rowsB (rfAt l) B a ++ rowB (rfAt l) a b) (a : Int) (b : Int) = spec_RelationFrom.l0 m t l (rowsB (rfAt l) B (a + 1)) ((a + 1 : Nat) : Int) := by
  induction d with
  | zero =>
    intro m b hm g
    obtain rfl : b = B := by omega
    obtain ⟨M, hM⟩ : ∃ M, M = m + 0 := ⟨_, rfl⟩
    rw [← hM, show m = M from by omega]
    simp only [spec_RelationFrom.l1]
    rw [if_pos h1, e1, if_neg (by omega), wrap_succ a 100 (by omega) (by omega), ← rowsB_succ]
  | succ d ih =>
    intro m b hm g
    obtain ⟨M, hM⟩ : ∃ M, M = m + d + 1 := ⟨_, rfl⟩
    rw [show m + (d + 1) + 1 = M + 1 from by omega]
    simp only [spec_RelationFrom.l1]
    have hs := sizes a b (by omega) (by omega) (by omega) (by omega)
    have hx : 0 ≤ Go.bits .and .i64 (a : Int) (b : Int) ∧ Go.bits .and .i64 (a : Int) (b : Int) < 8 := and_range 3 a b (by omega) (by omega) (by omega) (by show (a : Int) < 8; omega) (by omega) (by show (b : Int) < 8; omega)
    have hp := pl_range (szI a) (szI (Go.bits .and .i64 a b)) (by omega) (by omega) (by omega) (by omega)
    rw [if_pos h1, e1, if_pos (by omega), l2Size_k a (by omega) (by omega) M (by omega), Option.bind_some, l2Both_k a b (by omega) (by omega) (by omega) (by omega) M (by omega), Option.bind_some, l2Size_k _ hx.1 hx.2 M (by omega), Option.bind_some, spec_PlaceOf_eq, Option.bind_some, plOr_in _ _ (by omega) (by omega) (by omega) (by omega), if_pos hp.1, if_pos (by omega), if_pos (rowsB_bound _ _ _ _ (by omega) (by omega) (by omega)), wrap_succ b 100 (by omega) (by omega), hM, List.append_assoc, show rowB (rfAt l) a b ++ [rd l (pl (szI ↑a) (szI (Go.bits .and .i64 ↑a ↑b)))] = rowB (rfAt l) a (b + 1) from (rowB_succ _ _ _).symm]
    exact ih m (b + 1) hm (by omega)
theorem spec_RelationFrom_l0 (t : Int) (l : List Int) (h1 : 0 ≤ t) (h2 : t ≤ 3) (h3 : l.length = 21) (B : Nat) (e1 : shl .i64 1 t = (B : Int)) (hB : B ≤ 8) (e : Nat) : ∀ (k a : Nat), a + e = B → 20 * e + 200 < k →
    spec_RelationFrom.l0 k t l (rowsB (rfAt l) B a) (a : Int) = some (rowsB (rfAt l) B B) := by
  induction e with
  | zero =>
    intro k a g hk
    obtain ⟨k, rfl⟩ : ∃ m, k = m + 1 := ⟨k - 1, by omega⟩
    obtain rfl : a = B := by omega
    simp only [spec_RelationFrom.l0]
    rw [if_pos h1, e1, if_neg (by omega)]
  | succ e ih =>
    intro k a g hk
    obtain ⟨k, rfl⟩ : ∃ m, k = m + B + 1 + 1 := ⟨k - (B + 2), by omega⟩
    have hh1 := spec_RelationFrom_l1 t l h1 h2 h3 B e1 hB a (by omega) B k 0 (by omega) (by omega)
    rw [rowB_zero, List.append_nil] at hh1
    simp only [spec_RelationFrom.l0]
    rw [if_pos h1, e1, if_pos (by omega)]
    refine Eq.trans hh1 ?_
    exact ih k (a + 1) (by omega) (by omega)
theorem spec_RelationFrom_k (t : Int) (l : List Int) (hl : l.length ≤ 1048576) (k : Nat) (hk : 1048700 ≤ k) : spec_RelationFrom.f k t l = some (rfP t l) := by
  obtain ⟨k, rfl⟩ : ∃ m, k = m + 1 := ⟨k - 1, by omega⟩
  unfold spec_RelationFrom.f rfP
  rw [Option.bind_some, l1In_eq, Option.bind_some]
  by_cases h : 0 ≤ t ∧ t ≤ 3
  · rw [if_pos (decide_eq_true h), spec_TriangleOk_k l hl _ (by omega), Option.bind_some, decide_eq_true h, Bool.true_and]
    simp only [spec_RelationFrom.j0]
    by_cases ht : isTri l = true
    · obtain ⟨e1, e3⟩ := two_nat t h.1 h.2
      rw [ht, if_neg (by decide), if_pos rfl]
      exact spec_RelationFrom_l0 t l h.1 h.2 (isTri_length ht) _ e1 e3 (2 ^ t.toNat) k 0 (by omega) (by omega)
    · rw [Bool.eq_false_iff.mpr ht, if_pos (by decide), if_neg (by decide)]
  · rw [if_neg (by rw [decide_eq_true_eq]; exact h), decide_eq_false h, Bool.false_and]
    simp only [spec_RelationFrom.j0]
    rfl
end Go.Proofs.Ytbdbklnlpeichaa.P

/- The walks over the sets of a world of three things. -/
namespace Go.Proofs.Ytbdbklnlpeichaa.P
open Go.RowKit Go.Proofs.YtbdbklnlpeichaaW.PrintWords Go.Proofs.YtbdbklnlpeichaaW.PrintLast

/-- What is common to two sets of at most three things, by the law's own rounds. -/
theorem insideOf_k (a b : Int) (h1 : 0 ≤ a) (h2 : a < 8) (h3 : 0 ≤ b) (h4 : b < 8) (k : Nat) (hk : 20 ≤ k) : laws_insideOf.f k a b = some (Go.bits .and .i64 a b == a) := by
  unfold laws_insideOf.f laws_common.f
  obtain ⟨k, rfl⟩ : ∃ m, k = m + 20 := ⟨k - 20, by omega⟩
  clear hk
  have hf : ∀ x y : Fin 8, laws_common.l0 20 (x.val : Int) (y.val : Int) 0 0 = some (Go.bits .and .i64 (x.val : Int) (y.val : Int)) := by decide +kernel
  obtain ⟨x, rfl⟩ := Int.eq_ofNat_of_zero_le h1
  obtain ⟨y, rfl⟩ := Int.eq_ofNat_of_zero_le h3
  have hc : laws_common.l0 (k + 20) (x : Int) (y : Int) 0 0 = some (Go.bits .and .i64 (x : Int) (y : Int)) := by
    induction k with
    | zero => exact hf ⟨x, by omega⟩ ⟨y, by omega⟩
    | succ k ih =>
      have := laws_common.mono_l (k + 20) (x : Int) (y : Int) 0 0
      rw [show k + 1 + 20 = k + 20 + 1 from by omega]
      exact this _ ih
  rw [hc]
  rfl
theorem row8 (f : Int → Int → Int) (a b : Nat) (ha : a < 8) (hb : b < 8) : rd (rowsB f 8 8) ((a * 8 + b : Nat) : Int) = f a b := by
  have hf : ∀ i j : Fin 8, (List.flatMap (fun a : Nat => (List.range 8).map fun s : Nat => (a, s)) (List.range 8))[i.val * 8 + j.val]? = some (i.val, j.val) := by decide +kernel
  have h := hf ⟨a, ha⟩ ⟨b, hb⟩
  have hm : rowsB f 8 8 = (List.flatMap (fun a : Nat => (List.range 8).map fun s : Nat => (a, s)) (List.range 8)).map fun p => f (p.1 : Int) (p.2 : Int) := by
    rw [List.map_flatMap]
    unfold rowsB rowB
    congr 1
  unfold rd
  rw [Int.toNat_natCast, List.getD_eq_getElem?_getD, hm, List.getElem?_map, h]
  rfl
theorem sub_sizes (a c b : Int) (h1 : 0 ≤ a) (h2 : a < 8) (h3 : 0 ≤ c) (h4 : c < 8) (h5 : 0 ≤ b) (h6 : b < 8) (h : Go.bits .and .i64 a c = a) : szI a ≤ szI c ∧ szI (Go.bits .and .i64 a b) ≤ szI (Go.bits .and .i64 c b) ∧ szI (Go.bits .and .i64 c b) - szI (Go.bits .and .i64 a b) ≤ szI c - szI a ∧ szI (Go.bits .and .i64 b a) ≤ szI (Go.bits .and .i64 b c) := by
  have hf : ∀ x y z : Fin 8, Go.bits .and .i64 (x.val : Int) (y.val : Int) = (x.val : Int) → szI (x.val : Int) ≤ szI (y.val : Int) ∧ szI (Go.bits .and .i64 (x.val : Int) (z.val : Int)) ≤ szI (Go.bits .and .i64 (y.val : Int) (z.val : Int)) ∧ szI (Go.bits .and .i64 (y.val : Int) (z.val : Int)) - szI (Go.bits .and .i64 (x.val : Int) (z.val : Int)) ≤ szI (y.val : Int) - szI (x.val : Int) ∧ szI (Go.bits .and .i64 (z.val : Int) (x.val : Int)) ≤ szI (Go.bits .and .i64 (z.val : Int) (y.val : Int)) := by decide +kernel
  obtain ⟨x, rfl⟩ := Int.eq_ofNat_of_zero_le h1
  obtain ⟨y, rfl⟩ := Int.eq_ofNat_of_zero_le h3
  obtain ⟨z, rfl⟩ := Int.eq_ofNat_of_zero_le h5
  exact hf ⟨x, by omega⟩ ⟨y, by omega⟩ ⟨z, by omega⟩ h
theorem rf_one (l : List Int) (a b : Int) : (rfAt l a b = 1) = (hd l (szI a) (szI (Go.bits .and .i64 a b)) = true) := by
  unfold rfAt hd
  rw [beq_iff_eq]
  rfl
theorem rf_zero (l : List Int) (a b : Int) (h : hd l (szI a) (szI (Go.bits .and .i64 a b)) = true) : ¬ rfAt l a b = 0 := by
  rw [← rf_one] at h
  omega

end Go.Proofs.Ytbdbklnlpeichaa.P

/- Plain facts on the drawing of arguments: the reader, one draw. -/
namespace Go.Proofs.Ytbdbklnlpeichaa.P
open Go.RowKit Go.Proofs.YtbdbklnlpeichaaW.PrintWords Go.Proofs.YtbdbklnlpeichaaW.PrintLast

theorem wr (x : Int) (h0 : 0 ≤ x) (h1 : x < 4611686018427387904) : wrap64 x = x := by unfold wrap64; omega
theorem xor_pos (a b : Int) (h1 : 0 ≤ a) (h2 : a < 4611686018427387904) (h3 : 0 ≤ b) (h4 : b < 4611686018427387904) : 0 ≤ Go.bits .xor .i64 a b ∧ Go.bits .xor .i64 a b < 4611686018427387904 := by
  obtain ⟨x, rfl⟩ := Int.eq_ofNat_of_zero_le h1
  obtain ⟨y, rfl⟩ := Int.eq_ofNat_of_zero_le h3
  have hx : x ^^^ y < 2 ^ 62 := Nat.xor_lt_two_pow (by omega) (by omega)
  have e1 : (BitVec.ofInt 64 (x : Int)).toNat = x := by
    rw [BitVec.ofInt_natCast, BitVec.toNat_ofNat]; exact Nat.mod_eq_of_lt (by omega)
  have e2 : (BitVec.ofInt 64 (y : Int)).toNat = y := by
    rw [BitVec.ofInt_natCast, BitVec.toNat_ofNat]; exact Nat.mod_eq_of_lt (by omega)
  have h : Go.bits .xor .i64 (x : Int) (y : Int) = ((x ^^^ y : Nat) : Int) := by
    show IntKind.i64.wrap ((BitVec.ofInt 64 (x : Int) ^^^ BitVec.ofInt 64 (y : Int)).toNat : Int) = _
    rw [BitVec.toNat_xor, e1, e2]
    simp [IntKind.wrap, IntKind.bits, IntKind.signed]
    omega
  rw [h]
  omega
/-- What draws read from: bytes, not too many. -/
def Src (xs : List Int) : Prop := xs.length ≤ 2000 ∧ ∀ x ∈ xs, 0 ≤ x ∧ x ≤ 255
theorem Src.rd {xs : List Int} (h : Src xs) (i : Int) : 0 ≤ rd xs i ∧ rd xs i ≤ 255 := by
  unfold Go.Proofs.YtbdbklnlpeichaaW.PrintWords.rd
  rw [List.getD_eq_getElem?_getD]
  cases e : xs[i.toNat]? with
  | none => simp
  | some v => exact h.2 v (List.mem_of_getElem? e)
theorem src_open (l : List Int) (hw : ∀ x ∈ l, (Lit.int .u8 x).wf = true) : ∃ xs, spec_l20Open.f l = some (xs, 0) ∧ Src xs := by
  have hb : ∀ x ∈ l, 0 ≤ x ∧ x ≤ 255 := by
    intro x hx
    have h := hw x hx
    have h' : (decide (IntKind.u8.min ≤ x) && decide (x ≤ IntKind.u8.max)) = true := h
    rw [Bool.and_eq_true, decide_eq_true_eq, decide_eq_true_eq] at h'
    exact ⟨h'.1, h'.2⟩
  unfold spec_l20Open.f
  by_cases h : (l.length : Int) > 2000
  · rw [if_pos h, if_pos (by omega)]
    exact ⟨_, rfl, by rw [List.length_take]; omega, fun x hx => hb x (List.mem_of_mem_take hx)⟩
  · rw [if_neg h]
    exact ⟨_, rfl, by omega, hb⟩
theorem tmod_range (v n : Int) (hv : 0 ≤ v) (hn : 1 ≤ n) : 0 ≤ Int.tmod v n ∧ Int.tmod v n < n := by
  rw [Int.tmod_eq_emod_of_nonneg hv]
  exact ⟨Int.emod_nonneg _ (by omega), Int.emod_lt_of_pos _ (by omega)⟩
theorem pick_k (xs : List Int) (hs : Src xs) (c n : Int) (h0 : 0 ≤ c) (h1 : c ≤ 1000000) (k : Nat) (hk : 1 ≤ k) : ∃ r, spec_l20Rd_pick.f k xs c n = some (r, c + 1) ∧ 0 ≤ r ∧ (1 ≤ n → r < n) := by
  obtain ⟨k, rfl⟩ : ∃ m, k = m + 1 := ⟨k - 1, by omega⟩
  unfold spec_l20Rd_pick.f
  rw [wr (c + 1) (by omega) (by omega)]
  by_cases hn : n < 1
  · rw [if_pos hn]
    simp only [spec_l20Rd_pick.j0]
    rw [if_pos trivial]
    exact ⟨0, rfl, by omega, fun h => by omega⟩
  · rw [if_neg hn]
    simp only [spec_l20Rd_pick.j0]
    rw [show c + 1 - 1 = c by omega, wr c (by omega) (by omega)]
    by_cases hl : xs.length = 0
    · rw [if_pos (by simp [hl])]
      exact ⟨0, rfl, by omega, fun h => by omega⟩
    · rw [if_neg (by simp; intro h; exact hl (by rw [h]; rfl))]
      by_cases hc : c < (xs.length : Int)
      · rw [if_pos hc, if_pos h0, if_neg (by omega)]
        have hb := hs.rd c
        rw [wr _ hb.1 (by omega)]
        have := tmod_range _ n hb.1 (by omega)
        exact ⟨_, rfl, this.1, fun _ => this.2⟩
      · have hlen := hs.1
        have hL : (1 : Int) ≤ (xs.length : Int) := by omega
        have t1 := tmod_range c (xs.length : Int) h0 hL
        have w7 : wrap64 (wrap64 (c * 7) + 3) = c * 7 + 3 := by rw [wr (c * 7) (by omega) (by omega), wr _ (by omega) (by omega)]
        have t2 := tmod_range (c * 7 + 3) (xs.length : Int) (by omega) hL
        rw [w7, if_neg hc, if_neg (by omega), if_pos t1.1, if_pos t1.2, if_pos t2.1, if_pos t2.2, if_neg (by omega)]
        have b1 := hs.rd (Int.tmod c (xs.length : Int))
        have b2 := hs.rd (Int.tmod (c * 7 + 3) (xs.length : Int))
        have q0 : 0 ≤ Int.tdiv c (xs.length : Int) := Int.tdiv_nonneg h0 (by omega)
        have q1 : Int.tdiv c (xs.length : Int) ≤ c := by
          rw [Int.tdiv_eq_ediv_of_nonneg h0]
          exact Int.ediv_le_self _ h0
        obtain ⟨B1, e1⟩ : ∃ B, B = rd xs (Int.tmod c (xs.length : Int)) := ⟨_, rfl⟩
        obtain ⟨B2, e2⟩ : ∃ B, B = rd xs (Int.tmod (c * 7 + 3) (xs.length : Int)) := ⟨_, rfl⟩
        obtain ⟨Q, e3⟩ : ∃ B, B = Int.tdiv c (xs.length : Int) := ⟨_, rfl⟩
        rw [← e1] at b1 ⊢
        rw [← e2] at b2 ⊢
        rw [← e3] at q0 q1 ⊢
        rw [wr B1 (by omega) (by omega), wr B2 (by omega) (by omega), wr Q (by omega) (by omega), wr (B1 * 131) (by omega) (by omega), wr (B2 * 1117) (by omega) (by omega), wr (c * 29) (by omega) (by omega), wr (Q * 53) (by omega) (by omega), wr (B1 * 131 + B2 * 1117) (by omega) (by omega), wr (B1 * 131 + B2 * 1117 + c * 29) (by omega) (by omega), wr (B1 * 131 + B2 * 1117 + c * 29 + Q * 53) (by omega) (by omega)]
        obtain ⟨V, e4⟩ : ∃ V, V = B1 * 131 + B2 * 1117 + c * 29 + Q * 53 := ⟨_, rfl⟩
        rw [← e4]
        have hV : 0 ≤ V ∧ V < 4611686018427387904 := by omega
        have hd : Int.tdiv V 64 = V / 64 := Int.tdiv_eq_ediv_of_nonneg hV.1
        rw [hd, wr (V / 64) (by omega) (by omega)]
        have hx := xor_pos V (V / 64) hV.1 hV.2 (by omega) (by omega)
        have := tmod_range _ n hx.1 (by omega)
        exact ⟨_, rfl, this.1, fun _ => this.2⟩
theorem odd_k (xs : List Int) (hs : Src xs) (c n : Int) (h0 : 0 ≤ c) (h1 : c ≤ 1000000) (k : Nat) (hk : 1 ≤ k) : ∃ b c', spec_l20Rd_odd.f k xs c n = some (b, c') ∧ c ≤ c' ∧ c' ≤ c + 1 := by
  unfold spec_l20Rd_odd.f
  by_cases h : n > 0
  · obtain ⟨r, e, _, _⟩ := pick_k xs hs c n h0 h1 k hk
    rw [if_pos h, e, Option.bind_some]
    exact ⟨_, _, rfl, by omega, by omega⟩
  · rw [if_neg h]
    exact ⟨_, _, rfl, by omega, by omega⟩

end Go.Proofs.Ytbdbklnlpeichaa.P
