-- Texts of this claim, laid one behind the other by wip/gen/merge.py.
import Derived.Test.YtbdbklnlpeichaaZFnBetween12
import Derived.Test.YtbdbklnlpeichaaZFnBetween10
import Derived.Test.YtbdbklnlpeichaaZFnBetween8
import Derived.Test.YtbdbklnlpeichaaZFnBetween1
import Derived.Test.YtbdbklnlpeichaaZFnBetween6
import Derived.Laws.Entries
import Derived.Test.YtbdbklnlpeichaaZFnBetween11
import Derived.Test.YtbdbklnlpeichaaZFnBetween7
import Derived.Test.YtbdbklnlpeichaaZFnBetween0
/- What stays so with more or fewer: by entries; what stays so of both, either, not, inside. -/
namespace Go.Proofs.Ytbdbklnlpeichaa.P
open Go.RowKit Go.Proofs.YtbdbklnlpeichaaW.PrintWords Go.Proofs.YtbdbklnlpeichaaW.PrintLast

theorem okAt_iff (l : List Int) (so : Int → Int → Bool) (a s : Int) : okAt l so a s = true ↔ (hd l a s = true → so a s = true) := by
  unfold okAt
  cases hd l a s <;> simp
theorem fewerDo_iff (l : List Int) : fewerDoP l = true ↔ isTri l = true ∧ ∀ a s : Nat, a < 6 → s ≤ a → hd l a s = true → s = 0 ∨ hd l a ((s : Int) - 1) = true := by
  unfold fewerDoP
  rw [Bool.and_eq_true, staysP_iff]
  simp only [okAt_iff, impl_fewerDo.so, Bool.or_eq_true, decide_eq_true_eq]
  constructor
  · rintro ⟨h0, h⟩
    refine ⟨h0, fun a s h1 h2 h3 => ?_⟩
    rcases h a s h1 h2 h3 with g | g
    · exact .inl (by omega)
    · exact .inr g
  · rintro ⟨h0, h⟩
    refine ⟨h0, fun a s h1 h2 h3 => ?_⟩
    rcases h a s h1 h2 h3 with g | g
    · exact .inl (by omega)
    · exact .inr g
theorem moreDo_iff (l : List Int) : moreDoP l = true ↔ isTri l = true ∧ ∀ a s : Nat, a < 6 → s ≤ a → hd l a s = true → s = a ∨ hd l a ((s : Int) + 1) = true := by
  unfold moreDoP
  rw [Bool.and_eq_true, staysP_iff]
  simp only [okAt_iff, impl_moreDo.so, Bool.or_eq_true, decide_eq_true_eq]
  constructor
  · rintro ⟨h0, h⟩
    refine ⟨h0, fun a s h1 h2 h3 => ?_⟩
    rcases h a s h1 h2 h3 with g | g
    · exact .inl (by omega)
    · exact .inr g
  · rintro ⟨h0, h⟩
    refine ⟨h0, fun a s h1 h2 h3 => ?_⟩
    rcases h a s h1 h2 h3 with g | g
    · exact .inl (by omega)
    · exact .inr g
theorem fewerAre_iff (l : List Int) : fewerAreP l = true ↔ isTri l = true ∧ ∀ a s : Nat, a < 6 → s ≤ a → hd l a s = true → (s = 0 ∨ hd l ((a : Int) - 1) ((s : Int) - 1) = true) ∧ (s = a ∨ hd l ((a : Int) - 1) s = true) := by
  unfold fewerAreP
  rw [Bool.and_eq_true, staysP_iff]
  simp only [okAt_iff, impl_fewerAre.so, Bool.or_eq_true, Bool.and_eq_true, decide_eq_true_eq]
  constructor
  · rintro ⟨h0, h⟩
    refine ⟨h0, fun a s h1 h2 h3 => ?_⟩
    obtain ⟨g1, g2⟩ := h a s h1 h2 h3
    exact ⟨g1.imp (fun g => by omega) id, g2.imp (fun g => by omega) id⟩
  · rintro ⟨h0, h⟩
    refine ⟨h0, fun a s h1 h2 h3 => ?_⟩
    obtain ⟨g1, g2⟩ := h a s h1 h2 h3
    exact ⟨g1.imp (fun g => by omega) id, g2.imp (fun g => by omega) id⟩
theorem moreAre_iff (l : List Int) : moreAreP l = true ↔ isTri l = true ∧ ∀ a s : Nat, a < 6 → s ≤ a → hd l a s = true → a = 5 ∨ (hd l ((a : Int) + 1) s = true ∧ hd l ((a : Int) + 1) ((s : Int) + 1) = true) := by
  unfold moreAreP
  rw [Bool.and_eq_true, staysP_iff]
  simp only [okAt_iff, impl_moreAre.so, Bool.or_eq_true, Bool.and_eq_true, decide_eq_true_eq]
  constructor
  · rintro ⟨h0, h⟩
    refine ⟨h0, fun a s h1 h2 h3 => ?_⟩
    exact (h a s h1 h2 h3).imp (fun g => by omega) id
  · rintro ⟨h0, h⟩
    refine ⟨h0, fun a s h1 h2 h3 => ?_⟩
    exact (h a s h1 h2 h3).imp (fun g => by omega) id
theorem fewerDo_both (l m : List Int) (h : fewerDoP l = true) (h' : fewerDoP m = true) : fewerDoP (bothP l m) = true := by
  rw [fewerDo_iff] at h h' ⊢
  refine ⟨isTri_bothP l m h.1 h'.1, fun a s h1 h2 h3 => ?_⟩
  rw [hd_both l m h.1 h'.1 a s (by omega) (by omega) (by omega) (by omega), Bool.and_eq_true] at h3
  by_cases hs : s = 0
  · exact .inl hs
  · right
    rw [hd_both l m h.1 h'.1 a _ (by omega) (by omega) (by omega) (by omega), Bool.and_eq_true]
    exact ⟨(h.2 a s h1 h2 h3.1).resolve_left hs, (h'.2 a s h1 h2 h3.2).resolve_left hs⟩
theorem fewerDo_either (l m : List Int) (h : fewerDoP l = true) (h' : fewerDoP m = true) : fewerDoP (eitherP l m) = true := by
  rw [fewerDo_iff] at h h' ⊢
  refine ⟨isTri_eitherP l m h.1 h'.1, fun a s h1 h2 h3 => ?_⟩
  rw [hd_either l m h.1 h'.1 a s (by omega) (by omega) (by omega) (by omega), Bool.or_eq_true] at h3
  by_cases hs : s = 0
  · exact .inl hs
  · right
    rw [hd_either l m h.1 h'.1 a _ (by omega) (by omega) (by omega) (by omega), Bool.or_eq_true]
    exact h3.imp (fun g => (h.2 a s h1 h2 g).resolve_left hs) (fun g => (h'.2 a s h1 h2 g).resolve_left hs)
/-! Greater and smaller places: step by step. -/
theorem moreDo_up (l : List Int) (h : moreDoP l = true) (a s : Nat) (ha : a < 6) (hd0 : hd l a s = true) : ∀ e : Nat, s + e ≤ a → hd l a ((s + e : Nat) : Int) = true
  | 0, _ => hd0
  | e + 1, he => by
    have := moreDo_up l h a s ha hd0 e (by omega)
    rcases ((moreDo_iff l).1 h).2 a (s + e) ha (by omega) this with g | g
    · omega
    · rw [show ((s + (e + 1) : Nat) : Int) = ((s + e : Nat) : Int) + 1 by omega]
      exact g
theorem fewerDo_down (l : List Int) (h : fewerDoP l = true) (a s : Nat) (ha : a < 6) (hs : s ≤ a) (hd0 : hd l a s = true) : ∀ e : Nat, e ≤ s → hd l a ((s - e : Nat) : Int) = true
  | 0, _ => hd0
  | e + 1, he => by
    have := fewerDo_down l h a s ha hs hd0 e (by omega)
    rcases ((fewerDo_iff l).1 h).2 a (s - e) ha (by omega) this with g | g
    · omega
    · rw [show ((s - (e + 1) : Nat) : Int) = ((s - e : Nat) : Int) - 1 by omega]
      exact g
theorem moreAre_up (l : List Int) (h : moreAreP l = true) : ∀ (d a s e : Nat), s ≤ a → e ≤ d → a + d < 6 → hd l a s = true → hd l ((a + d : Nat) : Int) ((s + e : Nat) : Int) = true
  | 0, a, s, e, _, h2, _, h4 => by
    obtain rfl : e = 0 := by omega
    exact h4
  | d + 1, a, s, e, h1, h2, h3, h4 => by
    rcases ((moreAre_iff l).1 h).2 a s (by omega) h1 h4 with g | g
    · omega
    · by_cases he : e = d + 1
      · have := moreAre_up l h d (a + 1) (s + 1) d (by omega) (by omega) (by omega) g.2
        rw [he, show a + (d + 1) = a + 1 + d by omega, show s + (d + 1) = s + 1 + d by omega]
        exact this
      · have := moreAre_up l h d (a + 1) s e (by omega) (by omega) (by omega) g.1
        rw [show a + (d + 1) = a + 1 + d by omega]
        exact this
/-! Turned about: not, inside, dual. -/
theorem fewerDo_not (l : List Int) (h : isTri l = true) : fewerDoP (notP l) = moreDoP l := by
  rw [Bool.eq_iff_iff, fewerDo_iff, moreDo_iff]
  constructor
  · rintro ⟨_, g⟩
    refine ⟨h, fun a s h1 h2 h3 => ?_⟩
    by_cases hs : s = a
    · exact .inl hs
    · right
      cases e : hd l a ((s : Int) + 1)
      · have := g a (s + 1) h1 (by omega) (by rw [hd_not l h a _ (by omega) (by omega) (by omega) (by omega), show ((s + 1 : Nat) : Int) = (s : Int) + 1 by omega, e]; rfl)
        rcases this with k | k
        · omega
        · rw [show ((s + 1 : Nat) : Int) - 1 = (s : Int) by omega, hd_not l h a _ (by omega) (by omega) (by omega) (by omega), h3] at k
          exact absurd k Bool.false_ne_true
      · rfl
  · rintro ⟨_, g⟩
    refine ⟨isTri_notP l h, fun a s h1 h2 h3 => ?_⟩
    by_cases hs : s = 0
    · exact .inl hs
    · right
      rw [hd_not l h a _ (by omega) (by omega) (by omega) (by omega)] at h3 ⊢
      cases e : hd l a ((s : Int) - 1)
      · rfl
      · have := g a (s - 1) h1 (by omega) (by rw [show ((s - 1 : Nat) : Int) = (s : Int) - 1 by omega]; exact e)
        rcases this with k | k
        · omega
        · rw [show ((s - 1 : Nat) : Int) + 1 = (s : Int) by omega] at k
          rw [k] at h3
          exact absurd h3 Bool.false_ne_true
theorem fewerDo_ins (l : List Int) (h : isTri l = true) : fewerDoP (insP l) = moreDoP l := by
  rw [Bool.eq_iff_iff, fewerDo_iff, moreDo_iff]
  constructor
  · rintro ⟨_, g⟩
    refine ⟨h, fun a s h1 h2 h3 => ?_⟩
    by_cases hs : s = a
    · exact .inl hs
    · right
      have := g a (a - s) h1 (by omega) (by rw [hd_ins l h a _ (by omega) (by omega) (by omega) (by omega), show (a : Int) - ((a - s : Nat) : Int) = s by omega]; exact h3)
      rcases this with k | k
      · omega
      · rw [hd_ins l h a _ (by omega) (by omega) (by omega) (by omega), show (a : Int) - (((a - s : Nat) : Int) - 1) = (s : Int) + 1 by omega] at k
        exact k
  · rintro ⟨_, g⟩
    refine ⟨isTri_insP l h, fun a s h1 h2 h3 => ?_⟩
    by_cases hs : s = 0
    · exact .inl hs
    · right
      rw [hd_ins l h a _ (by omega) (by omega) (by omega) (by omega)] at h3 ⊢
      rcases g a (a - s) h1 (by omega) (by rw [show ((a - s : Nat) : Int) = (a : Int) - s by omega]; exact h3) with k | k
      · omega
      · rw [show (a : Int) - ((s : Int) - 1) = ((a - s : Nat) : Int) + 1 by omega]
        exact k
theorem moreDo_dual (l : List Int) (h : isTri l = true) : moreDoP (dualP l) = moreDoP l := by
  show moreDoP (notP (insP l)) = moreDoP l
  rw [← fewerDo_not _ (isTri_notP _ (isTri_insP l h)), not_not _ (isTri_insP l h), fewerDo_ins l h]
theorem fewerAre_not (l : List Int) (h : isTri l = true) : fewerAreP (notP l) = moreAreP l := by
  rw [Bool.eq_iff_iff, fewerAre_iff, moreAre_iff]
  constructor
  · rintro ⟨_, g⟩
    refine ⟨h, fun a s h1 h2 h3 => ?_⟩
    by_cases ha : a = 5
    · exact .inl ha
    · right
      constructor
      · cases e : hd l ((a : Int) + 1) s
        · have := (g (a + 1) s (by omega) (by omega) (by rw [hd_not l h _ _ (by omega) (by omega) (by omega) (by omega), show ((a + 1 : Nat) : Int) = (a : Int) + 1 by omega, e]; rfl)).2
          rcases this with k | k
          · omega
          · rw [show ((a + 1 : Nat) : Int) - 1 = (a : Int) by omega, hd_not l h a _ (by omega) (by omega) (by omega) (by omega), h3] at k
            exact absurd k Bool.false_ne_true
        · rfl
      · cases e : hd l ((a : Int) + 1) ((s : Int) + 1)
        · have := (g (a + 1) (s + 1) (by omega) (by omega) (by rw [hd_not l h _ _ (by omega) (by omega) (by omega) (by omega), show ((a + 1 : Nat) : Int) = (a : Int) + 1 by omega, show ((s + 1 : Nat) : Int) = (s : Int) + 1 by omega, e]; rfl)).1
          rcases this with k | k
          · omega
          · rw [show ((a + 1 : Nat) : Int) - 1 = (a : Int) by omega, show ((s + 1 : Nat) : Int) - 1 = (s : Int) by omega, hd_not l h a _ (by omega) (by omega) (by omega) (by omega), h3] at k
            exact absurd k Bool.false_ne_true
        · rfl
  · rintro ⟨_, g⟩
    refine ⟨isTri_notP l h, fun a s h1 h2 h3 => ?_⟩
    rw [hd_not l h a _ (by omega) (by omega) (by omega) (by omega)] at h3
    constructor
    · by_cases hs : s = 0
      · exact .inl hs
      · right
        rw [hd_not l h _ _ (by omega) (by omega) (by omega) (by omega)]
        cases e : hd l ((a : Int) - 1) ((s : Int) - 1)
        · rfl
        · have := g (a - 1) (s - 1) (by omega) (by omega) (by rw [show ((a - 1 : Nat) : Int) = (a : Int) - 1 by omega, show ((s - 1 : Nat) : Int) = (s : Int) - 1 by omega]; exact e)
          rcases this with k | k
          · omega
          · have k2 := k.2
            rw [show ((a - 1 : Nat) : Int) + 1 = (a : Int) by omega, show ((s - 1 : Nat) : Int) + 1 = (s : Int) by omega] at k2
            rw [k2] at h3
            exact absurd h3 Bool.false_ne_true
    · by_cases hs : s = a
      · exact .inl hs
      · right
        rw [hd_not l h _ _ (by omega) (by omega) (by omega) (by omega)]
        cases e : hd l ((a : Int) - 1) (s : Int)
        · rfl
        · have := g (a - 1) s (by omega) (by omega) (by rw [show ((a - 1 : Nat) : Int) = (a : Int) - 1 by omega]; exact e)
          rcases this with k | k
          · omega
          · have k1 := k.1
            rw [show ((a - 1 : Nat) : Int) + 1 = (a : Int) by omega] at k1
            rw [k1] at h3
            exact absurd h3 Bool.false_ne_true
theorem moreAre_ins1 (l : List Int) (h : isTri l = true) (g : moreAreP l = true) : moreAreP (insP l) = true := by
  rw [moreAre_iff] at g ⊢
  refine ⟨isTri_insP l h, fun a s h1 h2 h3 => ?_⟩
  by_cases ha : a = 5
  · exact .inl ha
  · right
    rw [hd_ins l h a _ (by omega) (by omega) (by omega) (by omega)] at h3
    have := g.2 a (a - s) h1 (by omega) (by rw [show ((a - s : Nat) : Int) = (a : Int) - s by omega]; exact h3)
    rcases this with k | k
    · exact absurd k ha
    · rw [hd_ins l h _ _ (by omega) (by omega) (by omega) (by omega), hd_ins l h _ _ (by omega) (by omega) (by omega) (by omega)]
      rw [show (a : Int) + 1 - s = ((a - s : Nat) : Int) + 1 by omega, show (a : Int) + 1 - ((s : Int) + 1) = ((a - s : Nat) : Int) by omega]
      exact ⟨k.2, k.1⟩
theorem moreAre_ins (l : List Int) (h : isTri l = true) : moreAreP (insP l) = moreAreP l := by
  rw [Bool.eq_iff_iff]
  constructor
  · intro g
    have := moreAre_ins1 (insP l) (isTri_insP l h) g
    rwa [ins_ins l h] at this
  · exact moreAre_ins1 l h

end Go.Proofs.Ytbdbklnlpeichaa.P

/- Plain facts on the drawing of arguments: the reader, one draw. -/
namespace Go.Proofs.Ytbdbklnlpeichaa.P
open Go.RowKit Go.Proofs.YtbdbklnlpeichaaW.PrintWords Go.Proofs.YtbdbklnlpeichaaW.PrintLast

theorem wr (x : Int) (h0 : 0 ≤ x) (h1 : x < 4611686018427387904) : wrap64 x = x := by unfold wrap64; omega
theorem xor_pos (a b : Int) (h1 : 0 ≤ a) (h2 : a < 4611686018427387904) (h3 : 0 ≤ b) (h4 : b < 4611686018427387904) : 0 ≤ Go.bits .xor .i64 a b ∧ Go.bits .xor .i64 a b < 4611686018427387904 := by
  obtain ⟨x, rfl⟩ := Int.eq_ofNat_of_zero_le h1
  obtain ⟨y, rfl⟩ := Int.eq_ofNat_of_zero_le h3
  have hx : x ^^^ y < 2 ^ 62 := Nat.xor_lt_two_pow (by omega) (by omega)
  have e1 : (BitVec.ofInt 64 (x : Int)).toNat = x := by
    rw [BitVec.ofInt_natCast, BitVec.toNat_ofNat]; exact Nat.mod_eq_of_lt (by omega)
  have e2 : (BitVec.ofInt 64 (y : Int)).toNat = y := by
    rw [BitVec.ofInt_natCast, BitVec.toNat_ofNat]; exact Nat.mod_eq_of_lt (by omega)
  have h : Go.bits .xor .i64 (x : Int) (y : Int) = ((x ^^^ y : Nat) : Int) := by
    show IntKind.i64.wrap ((BitVec.ofInt 64 (x : Int) ^^^ BitVec.ofInt 64 (y : Int)).toNat : Int) = _
    rw [BitVec.toNat_xor, e1, e2]
    simp [IntKind.wrap, IntKind.bits, IntKind.signed]
    omega
  rw [h]
  omega
/-- What draws read from: bytes, not too many. -/
def Src (xs : List Int) : Prop := xs.length ≤ 2000 ∧ ∀ x ∈ xs, 0 ≤ x ∧ x ≤ 255
theorem Src.rd {xs : List Int} (h : Src xs) (i : Int) : 0 ≤ rd xs i ∧ rd xs i ≤ 255 := by
  unfold Go.Proofs.YtbdbklnlpeichaaW.PrintWords.rd
  rw [List.getD_eq_getElem?_getD]
  cases e : xs[i.toNat]? with
  | none => simp
  | some v => exact h.2 v (List.mem_of_getElem? e)
theorem src_open (l : List Int) (hw : ∀ x ∈ l, (Lit.int .u8 x).wf = true) : ∃ xs, spec_l20Open.f l = some (xs, 0) ∧ Src xs := by
  have hb : ∀ x ∈ l, 0 ≤ x ∧ x ≤ 255 := by
    intro x hx
    have h := hw x hx
    have h' : (decide (IntKind.u8.min ≤ x) && decide (x ≤ IntKind.u8.max)) = true := h
    rw [Bool.and_eq_true, decide_eq_true_eq, decide_eq_true_eq] at h'
    exact ⟨h'.1, h'.2⟩
  unfold spec_l20Open.f
  by_cases h : (l.length : Int) > 2000
  · rw [if_pos h, if_pos (by omega)]
    exact ⟨_, rfl, by rw [List.length_take]; omega, fun x hx => hb x (List.mem_of_mem_take hx)⟩
  · rw [if_neg h]
    exact ⟨_, rfl, by omega, hb⟩
theorem tmod_range (v n : Int) (hv : 0 ≤ v) (hn : 1 ≤ n) : 0 ≤ Int.tmod v n ∧ Int.tmod v n < n := by
  rw [Int.tmod_eq_emod_of_nonneg hv]
  exact ⟨Int.emod_nonneg _ (by omega), Int.emod_lt_of_pos _ (by omega)⟩
theorem pick_k (xs : List Int) (hs : Src xs) (c n : Int) (h0 : 0 ≤ c) (h1 : c ≤ 1000000) (k : Nat) (hk : 1 ≤ k) : ∃ r, spec_l20Rd_pick.f k xs c n = some (r, c + 1) ∧ 0 ≤ r ∧ (1 ≤ n → r < n) := by
  obtain ⟨k, rfl⟩ : ∃ m, k = m + 1 := ⟨k - 1, by omega⟩
  unfold spec_l20Rd_pick.f
  rw [wr (c + 1) (by omega) (by omega)]
  by_cases hn : n < 1
  · rw [if_pos hn]
    simp only [spec_l20Rd_pick.j0]
    rw [if_pos trivial]
    exact ⟨0, rfl, by omega, fun h => by omega⟩
  · rw [if_neg hn]
    simp only [spec_l20Rd_pick.j0]
    rw [show c + 1 - 1 = c by omega, wr c (by omega) (by omega)]
    by_cases hl : xs.length = 0
    · rw [if_pos (by simp [hl])]
      exact ⟨0, rfl, by omega, fun h => by omega⟩
    · rw [if_neg (by simp; intro h; exact hl (by rw [h]; rfl))]
      by_cases hc : c < (xs.length : Int)
      · rw [if_pos hc, if_pos h0, if_neg (by omega)]
        have hb := hs.rd c
        rw [wr _ hb.1 (by omega)]
        have := tmod_range _ n hb.1 (by omega)
        exact ⟨_, rfl, this.1, fun _ => this.2⟩
      · have hlen := hs.1
        have hL : (1 : Int) ≤ (xs.length : Int) := by omega
        have t1 := tmod_range c (xs.length : Int) h0 hL
        have w7 : wrap64 (wrap64 (c * 7) + 3) = c * 7 + 3 := by rw [wr (c * 7) (by omega) (by omega), wr _ (by omega) (by omega)]
        have t2 := tmod_range (c * 7 + 3) (xs.length : Int) (by omega) hL
        rw [w7, if_neg hc, if_neg (by omega), if_pos t1.1, if_pos t1.2, if_pos t2.1, if_pos t2.2, if_neg (by omega)]
        have b1 := hs.rd (Int.tmod c (xs.length : Int))
        have b2 := hs.rd (Int.tmod (c * 7 + 3) (xs.length : Int))
        have q0 : 0 ≤ Int.tdiv c (xs.length : Int) := Int.tdiv_nonneg h0 (by omega)
        have q1 : Int.tdiv c (xs.length : Int) ≤ c := by
          rw [Int.tdiv_eq_ediv_of_nonneg h0]
          exact Int.ediv_le_self _ h0
        obtain ⟨B1, e1⟩ : ∃ B, B = rd xs (Int.tmod c (xs.length : Int)) := ⟨_, rfl⟩
        obtain ⟨B2, e2⟩ : ∃ B, B = rd xs (Int.tmod (c * 7 + 3) (xs.length : Int)) := ⟨_, rfl⟩
        obtain ⟨Q, e3⟩ : ∃ B, B = Int.tdiv c (xs.length : Int) := ⟨_, rfl⟩
        rw [← e1] at b1 ⊢
        rw [← e2] at b2 ⊢
        rw [← e3] at q0 q1 ⊢
        rw [wr B1 (by omega) (by omega), wr B2 (by omega) (by omega), wr Q (by omega) (by omega), wr (B1 * 131) (by omega) (by omega), wr (B2 * 1117) (by omega) (by omega), wr (c * 29) (by omega) (by omega), wr (Q * 53) (by omega) (by omega), wr (B1 * 131 + B2 * 1117) (by omega) (by omega), wr (B1 * 131 + B2 * 1117 + c * 29) (by omega) (by omega), wr (B1 * 131 + B2 * 1117 + c * 29 + Q * 53) (by omega) (by omega)]
        obtain ⟨V, e4⟩ : ∃ V, V = B1 * 131 + B2 * 1117 + c * 29 + Q * 53 := ⟨_, rfl⟩
        rw [← e4]
        have hV : 0 ≤ V ∧ V < 4611686018427387904 := by omega
        have hd : Int.tdiv V 64 = V / 64 := Int.tdiv_eq_ediv_of_nonneg hV.1
        rw [hd, wr (V / 64) (by omega) (by omega)]
        have hx := xor_pos V (V / 64) hV.1 hV.2 (by omega) (by omega)
        have := tmod_range _ n hx.1 (by omega)
        exact ⟨_, rfl, this.1, fun _ => this.2⟩
theorem odd_k (xs : List Int) (hs : Src xs) (c n : Int) (h0 : 0 ≤ c) (h1 : c ≤ 1000000) (k : Nat) (hk : 1 ≤ k) : ∃ b c', spec_l20Rd_odd.f k xs c n = some (b, c') ∧ c ≤ c' ∧ c' ≤ c + 1 := by
  unfold spec_l20Rd_odd.f
  by_cases h : n > 0
  · obtain ⟨r, e, _, _⟩ := pick_k xs hs c n h0 h1 k hk
    rw [if_pos h, e, Option.bind_some]
    exact ⟨_, _, rfl, by omega, by omega⟩
  · rw [if_neg h]
    exact ⟨_, _, rfl, by omega, by omega⟩

end Go.Proofs.Ytbdbklnlpeichaa.P

/- Plain facts on the drawing of arguments: a drawn triangle; every draw ends, with a result of bounded size. -/
namespace Go.Proofs.Ytbdbklnlpeichaa.P
open Go.RowKit Go.Proofs.YtbdbklnlpeichaaW.PrintWords Go.Proofs.YtbdbklnlpeichaaW.PrintLast

theorem tri_j1 (xs : List Int) (hs : Src xs) (n : Int) (l : List Int) (hl : l.length = 21) (c : Int) (h0 : 0 ≤ c) (h1 : c ≤ 500000) (k : Nat) (hk : 2 ≤ k) : ∃ r c', spec_l20Tri.j1 k n l xs c = some (r, c') ∧ c ≤ c' ∧ c' ≤ c + 3 ∧ r.length ≤ 22 := by
  obtain ⟨k, rfl⟩ : ∃ m, k = m + 1 := ⟨k - 1, by omega⟩
  obtain ⟨b, c1, e1, g1, g2⟩ := odd_k xs hs c n h0 (by omega) k (by omega)
  simp only [spec_l20Tri.j1]
  rw [e1, Option.bind_some]
  cases b with
  | false =>
    rw [if_neg Bool.false_ne_true]
    exact ⟨_, _, rfl, by omega, by omega, by omega⟩
  | true =>
    obtain ⟨r, e2, g3, g4⟩ := pick_k xs hs c1 3 (by omega) (by omega) k (by omega)
    rw [if_pos rfl, e2, Option.bind_some]
    by_cases k1 : r = 0
    · rw [if_pos k1]
      exact ⟨_, _, rfl, by omega, by omega, by simp⟩
    · rw [if_neg k1]
      by_cases k2 : r = 1
      · rw [if_pos k2, if_pos (by omega)]
        exact ⟨_, _, rfl, by omega, by omega, by rw [List.length_append, hl]; decide⟩
      · obtain ⟨q, e3, g5, g6⟩ := pick_k xs hs (c1 + 1) 21 (by omega) (by omega) k (by omega)
        rw [if_neg k2, e3, Option.bind_some, if_pos g5, if_pos (by have := g6 (by omega); omega)]
        exact ⟨_, _, rfl, by omega, by omega, by rw [List.length_set]; omega⟩
theorem tri_l0 (xs : List Int) (hs : Src xs) (n : Int) (d : Nat) : ∀ (k : Nat) (l : List Int) (i : Nat) (c : Int), i + d = 21 → l.length = i → 0 ≤ c → c + d ≤ 400000 → d + 10 ≤ k →
    ∃ r c', spec_l20Tri.l0 k n l (i : Int) xs c = some (r, c') ∧ c ≤ c' ∧ c' ≤ c + d + 3 ∧ r.length ≤ 22 := by
  induction d with
  | zero =>
    intro k l i c h hl h0 h1 hk
    obtain ⟨k, rfl⟩ : ∃ m, k = m + 1 := ⟨k - 1, by omega⟩
    obtain ⟨r, c', e, g1, g2, g3⟩ := tri_j1 xs hs n l (by omega) c h0 (by omega) k (by omega)
    simp only [spec_l20Tri.l0]
    rw [if_neg (by omega), e]
    exact ⟨_, _, rfl, by omega, by omega, g3⟩
  | succ d ih =>
    intro k l i c h hl h0 h1 hk
    obtain ⟨k, rfl⟩ : ∃ m, k = m + 1 := ⟨k - 1, by omega⟩
    obtain ⟨r, e, _, _⟩ := pick_k xs hs c 2 h0 (by omega) k (by omega)
    obtain ⟨r', c', e', g1, g2, g3⟩ := ih k (l ++ [r]) (i + 1) (c + 1) (by omega) (by rw [List.length_append, hl]; rfl) (by omega) (by omega) (by omega)
    simp only [spec_l20Tri.l0]
    rw [if_pos (by omega), e, Option.bind_some, if_pos (by omega), wrap_succ6 i (by omega), e']
    exact ⟨_, _, rfl, by omega, by omega, g3⟩
theorem l20Tri_k (xs : List Int) (hs : Src xs) (c n : Int) (h0 : 0 ≤ c) (h1 : c ≤ 300000) (k : Nat) (hk : 2097200 ≤ k) : ∃ l c', spec_l20Tri.f k xs c n = some (l, c') ∧ c ≤ c' ∧ c' ≤ c + 30 ∧ l.length ≤ 22 := by
  unfold spec_l20Tri.f
  obtain ⟨r1, e1, g1, g2⟩ := pick_k xs hs c 4 h0 (by omega) k (by omega)
  rw [e1, Option.bind_some]
  by_cases z : r1 = 0
  · rw [if_pos z]
    obtain ⟨l, c', e, g3, g4, g5⟩ := tri_l0 xs hs n 21 k [] 0 (c + 1) (by omega) rfl (by omega) (by omega) (by omega)
    exact ⟨l, c', e, by omega, by omega, g5⟩
  · rw [if_neg z, show spec_l20Names.f = some l20N from rfl]
    obtain ⟨r2, e2, g3, g4⟩ := pick_k xs hs (c + 1) 10 (by omega) (by omega) k (by omega)
    obtain ⟨r3, e3, g5, g6⟩ := pick_k xs hs (c + 1 + 1) 10 (by omega) (by omega) k (by omega)
    obtain ⟨r4, e4, g7, g8⟩ := pick_k xs hs (c + 1 + 1 + 1) 7 (by omega) (by omega) k (by omega)
    obtain ⟨t, t1, t2⟩ := names_in r2 g3 (g4 (by omega))
    obtain ⟨u, u1, u2⟩ := names_in r3 g5 (g6 (by omega))
    have i2 : r2 < (l20N.length : Int) := g4 (by omega)
    have i3 : r3 < (l20N.length : Int) := g6 (by omega)
    rw [Option.bind_some, e2, Option.bind_some, if_pos g3, if_pos i2, spec_NamedTriangle_k _ k (by omega), t1, Option.bind_some, Option.bind_some, e3, Option.bind_some, if_pos g5, if_pos i3, spec_NamedTriangle_k _ k (by omega), u1, Option.bind_some, e4, Option.bind_some]
    have ht := isTri_length t2
    have hu := isTri_length u2
    have fin : ∀ l : List Int, isTri l = true → ∃ r c', spec_l20Tri.j1 k n l xs (c + 1 + 1 + 1 + 1) = some (r, c') ∧ c ≤ c' ∧ c' ≤ c + 30 ∧ r.length ≤ 22 := by
      intro l h
      obtain ⟨r, c', e, a1, a2, a3⟩ := tri_j1 xs hs n l (isTri_length h) (c + 1 + 1 + 1 + 1) (by omega) (by omega) k (by omega)
      exact ⟨r, c', e, by omega, by omega, a3⟩
    by_cases z0 : r4 = 0
    · rw [if_pos z0, spec_NotOf_k t (by omega) k (by omega), Option.bind_some]
      exact fin _ (isTri_notP t t2)
    · rw [if_neg z0]
      by_cases z1 : r4 = 1
      · rw [if_pos z1, spec_InsideNot_k t (by omega) k (by omega), Option.bind_some]
        exact fin _ (isTri_insP t t2)
      · rw [if_neg z1]
        by_cases z2 : r4 = 2
        · rw [if_pos z2, spec_BothOf_k t u (by omega) (by omega) k (by omega), Option.bind_some]
          exact fin _ (isTri_bothP t u t2 u2)
        · rw [if_neg z2]
          by_cases z3 : r4 = 3
          · rw [if_pos z3, spec_EitherOf_k t u (by omega) (by omega) k (by omega), Option.bind_some]
            exact fin _ (isTri_eitherP t u t2 u2)
          · rw [if_neg z3]
            exact fin t t2

end Go.Proofs.Ytbdbklnlpeichaa.P

/- Plain facts: what the program's PlaceOf comes to. No condition beyond those typed. -/
namespace Go.Proofs.Ytbdbklnlpeichaa.P
open Go.RowKit Go.Proofs.YtbdbklnlpeichaaW.PrintWords Go.Proofs.YtbdbklnlpeichaaW.PrintLast

theorem impl_PlaceOf_eq (a s : Int) : impl_PlaceOf.f a s = some (plOr a s) := by
  unfold impl_PlaceOf.f plOr impl_placeOf.f
  by_cases h1 : a < 0
  · rw [if_pos h1, if_neg (by omega)]
  · by_cases h2 : a > 5
    · rw [if_neg h1, if_pos h2, if_neg (by omega)]
    · by_cases h3 : s < 0
      · rw [if_neg h1, if_neg h2, if_pos h3, if_neg (by omega)]
      · by_cases h4 : s > a
        · rw [if_neg h1, if_neg h2, if_neg h3, if_pos h4, if_neg (by omega)]
        · rw [if_neg h1, if_neg h2, if_neg h3, if_neg h4, Option.bind_some, pl_wrap a s (by omega) (by omega) (by omega) (by omega), if_pos (by omega)]

end Go.Proofs.Ytbdbklnlpeichaa.P

/- Plain facts on the law's last word and the sameness of rows. -/
namespace Go.Proofs.Ytbdbklnlpeichaa.P
open Go.RowKit Go.Proofs.YtbdbklnlpeichaaW.PrintWords Go.Proofs.YtbdbklnlpeichaaW.PrintLast

theorem alive_eq : laws_alive.f = some true := by
  unfold laws_alive.f
  rw [impl_PlaceOf_eq, Option.bind_some, show plOr 0 0 = 0 by decide, if_pos rfl, impl_PlaceOf_eq, Option.bind_some, show plOr 0 1 = -1 by decide]
  rfl

end Go.Proofs.Ytbdbklnlpeichaa.P

/- Both of such ones are such ones: the pure statement of the law FnBetween. No condition. -/
namespace Go.Proofs.Ytbdbklnlpeichaa.Pure
open Go.RowKit Go.Proofs.Ytbdbklnlpeichaa.P Go.Proofs.YtbdbklnlpeichaaW.PrintWords Go.Proofs.YtbdbklnlpeichaaW.PrintLast

theorem drawBetween (l : List Int) (hw : ∀ x ∈ l, (Lit.int .u8 x).wf = true) (k : Nat) (hk : 2097200 ≤ k) : ∃ t, spec_DrawBetween.f k l = some t ∧ t.length ≤ 22 := by
  obtain ⟨xs, eo, hs⟩ := src_open l hw
  obtain ⟨t, c, e, _, _, ht⟩ := l20Tri_k xs hs 0 14 (by omega) (by omega) k hk
  unfold spec_DrawBetween.f
  rw [eo, Option.bind_some, e]
  exact ⟨t, rfl, ht⟩
theorem moreDo_bet (l : List Int) (h : moreDoP l = true) : betP l = true := by
  rw [betP_iff]
  intro a s ha hs h1 _
  obtain ⟨k, hk, hh⟩ := (upP_iff l a s).1 h1
  have := moreDo_up l h a k ha hh (s - k) (by omega)
  rwa [show k + (s - k) = s by omega] at this
theorem fewerDo_bet (l : List Int) (h : fewerDoP l = true) : betP l = true := by
  rw [betP_iff]
  intro a s ha hs _ h2
  obtain ⟨k, hk, hka, hh⟩ := (downP_iff l a s).1 h2
  have := fewerDo_down l h a k ha hka hh (k - s) (by omega)
  rwa [show k - (k - s) = s by omega] at this
theorem bet_both (l m : List Int) (hl : isTri l = true) (hm : isTri m = true) (h : betP l = true) (h' : betP m = true) : betP (bothP l m) = true := by
  rw [betP_iff] at h h' ⊢
  intro a s ha hs h1 h2
  obtain ⟨k, hk, hh⟩ := (upP_iff _ a s).1 h1
  obtain ⟨q, hq, hqa, gg⟩ := (downP_iff _ a s).1 h2
  rw [hd_both l m hl hm a _ (by omega) (by omega) (by omega) (by omega), Bool.and_eq_true] at hh gg ⊢
  exact ⟨h a s ha hs ((upP_iff l a s).2 ⟨k, hk, hh.1⟩) ((downP_iff l a s).2 ⟨q, hq, hqa, gg.1⟩), h' a s ha hs ((upP_iff m a s).2 ⟨k, hk, hh.2⟩) ((downP_iff m a s).2 ⟨q, hq, hqa, gg.2⟩)⟩
theorem FnBetween : laws_FnBetween.Pure := by
  intro l m _ _ hw _ _ hv
  obtain ⟨K, hK⟩ : ∃ K, K = 2097300 := ⟨_, rfl⟩
  refine ⟨K + 2, ?_⟩
  have h0 : ∀ b, laws_FnBetween.j0 (K + 2) l m b = some true := by
    intro b
    cases b with
    | true =>
      simp only [laws_FnBetween.j0]
      rw [if_pos trivial]
    | false =>
      obtain ⟨t, et, ht⟩ := drawBetween l hw (K + 1) (by omega)
      obtain ⟨u, eu, hu⟩ := drawBetween m hv K (by omega)
      have j1 : laws_FnBetween.j1 (K + 1) m t (isTri t && betP t) false = some true := by
        simp only [laws_FnBetween.j1]
        rw [if_neg Bool.false_ne_true, eu, Option.bind_some, alive_eq]
        by_cases g : (isTri t && betP t) = true
        · rw [if_pos g, impl_Between_k u (by omega) K (by omega), Option.bind_some]
          by_cases g' : (isTri u && betP u) = true
          · rw [Bool.and_eq_true] at g g'
            have n1 := bothP_length u t
            rw [if_pos (by rw [g'.1, g'.2]; rfl), impl_BothOf_eq, Option.bind_some, impl_Between_k _ (by omega) K (by omega), Option.bind_some, isTri_bothP u t g'.1 g.1, bet_both u t g'.1 g.1 g'.2 g.2]
            rfl
          · rw [if_neg g']
            rfl
        · rw [if_neg g]
          rfl
      rw [laws_FnBetween.j0, if_neg Bool.false_ne_true, et, Option.bind_some, impl_Between_k t (by omega) (K + 1) (by omega), Option.bind_some, spec_Between_k t (by omega) (K + 1) (by omega), Option.bind_some, bne_self_eq_false, if_neg Bool.false_ne_true, impl_MoreDo_k t (by omega) (K + 1) (by omega), Option.bind_some]
      by_cases g : moreDoP t = true
      · have e : (isTri t && betP t) = true := by rw [((moreDo_iff t).1 g).1, moreDo_bet t g]; rfl
        rw [if_pos g, e]
        rw [e] at j1
        exact j1
      · rw [if_neg g, impl_FewerDo_k t (by omega) (K + 1) (by omega), Option.bind_some]
        by_cases g' : fewerDoP t = true
        · have e : (isTri t && betP t) = true := by rw [((fewerDo_iff t).1 g').1, fewerDo_bet t g']; rfl
          rw [if_pos g', e]
          rw [e] at j1
          exact j1
        · rw [if_neg g']
          exact j1
  unfold laws_FnBetween.f
  by_cases hl : (l.length : Int) > 1048576
  · rw [if_pos hl]
    exact h0 true
  · rw [if_neg hl]
    exact h0 _

end Go.Proofs.Ytbdbklnlpeichaa.Pure
