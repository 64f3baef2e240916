-- Texts of this claim, laid one behind the other by wip/gen/merge.py.
import Derived.Test.YtbdbklnlpeichaaZFnMoreAre11
import Derived.Test.YtbdbklnlpeichaaZFnMoreAre12
import Derived.Test.YtbdbklnlpeichaaZFnMoreAre10
/- More things are a greater first set: the pure statement of the law FnMoreAre. No condition. -/
namespace Go.Proofs.Ytbdbklnlpeichaa.Pure
open Go.RowKit Go.Proofs.Ytbdbklnlpeichaa.P Go.Proofs.YtbdbklnlpeichaaW.PrintWords Go.Proofs.YtbdbklnlpeichaaW.PrintLast

theorem drawMoreAre (l : List Int) (hw : ∀ x ∈ l, (Lit.int .u8 x).wf = true) (k : Nat) (hk : 2097200 ≤ k) : ∃ t, spec_DrawMoreAre.f k l = some t ∧ t.length ≤ 22 := by
  obtain ⟨xs, eo, hs⟩ := src_open l hw
  obtain ⟨t, c, e, _, _, ht⟩ := l20Tri_k xs hs 0 14 (by omega) (by omega) k hk
  unfold spec_DrawMoreAre.f
  rw [eo, Option.bind_some, e]
  exact ⟨t, rfl, ht⟩
theorem walk_l1 (t R : List Int) (h : moreAreP t = true) (hlen : (R.length : Int) = 64) (hrow : ∀ a b : Nat, a < 8 → b < 8 → rd R ((a * 8 + b : Nat) : Int) = rfAt t a b) (a b : Nat) (ha : a < 8) (hb : b < 8) (d : Nat) : ∀ (k c : Nat), c + d = 8 → d + 50 ≤ k →
    ∃ k', k ≤ k' + d + 1 ∧ laws_FnMoreAre.l1 k t true R ((a * 8 + b : Nat) : Int) (c : Int) = laws_FnMoreAre.l0 k' t true R ((a * 8 + b + 1 : Nat) : Int) := by
  have a0 : (0 : Int) ≤ (a : Int) := Int.natCast_nonneg _
  have a8 : (a : Int) < 8 := by omega
  have b0 : (0 : Int) ≤ (b : Int) := Int.natCast_nonneg _
  have b8 : (b : Int) < 8 := by omega
  have p3 : (0 : Int) ≤ ((a * 8 + b : Nat) : Int) := Int.natCast_nonneg _
  have p4 : ((a * 8 + b : Nat) : Int) < (R.length : Int) := by rw [hlen]; omega
  have w1 : wrap64 (((a * 8 + b : Nat) : Int) + 1) = ((a * 8 + b + 1 : Nat) : Int) := wrap_succ6 _ (by omega)
  have hdv : Int.tdiv ((a * 8 + b : Nat) : Int) 8 = (a : Int) := by rw [Int.tdiv_eq_ediv_of_nonneg (by omega)]; omega
  have hmd : Int.tmod ((a * 8 + b : Nat) : Int) 8 = (b : Int) := by rw [Int.tmod_eq_emod_of_nonneg (by omega)]; omega
  have wa : wrap64 (a : Int) = (a : Int) := wr _ (by omega) (by omega)
  induction d with
  | zero =>
    intro k c hc hk
    obtain ⟨k, rfl⟩ : ∃ m, k = m + 1 := ⟨k - 1, by omega⟩
    refine ⟨k, by omega, ?_⟩
    simp only [laws_FnMoreAre.l1]
    rw [if_neg (by omega), w1]
  | succ d ih =>
    intro k c hc hk
    obtain ⟨k, rfl⟩ : ∃ m, k = m + 1 := ⟨k - 1, by omega⟩
    obtain ⟨k', hk', hh⟩ := ih k (c + 1) (by omega) (by omega)
    refine ⟨k', by omega, ?_⟩
    have hc8 : c < 8 := by clear hh w1 hdv hmd wa; omega
    have hk20 : 20 ≤ k := by clear hh w1 hdv hmd wa; omega
    have c0 : (0 : Int) ≤ (c : Int) := Int.natCast_nonneg _
    have c8 : (c : Int) < 8 := by clear hh w1 hdv hmd wa; omega
    have p1 : (0 : Int) ≤ ((c * 8 + b : Nat) : Int) := Int.natCast_nonneg _
    have p2 : ((c * 8 + b : Nat) : Int) < (R.length : Int) := by rw [hlen]; clear hh w1 hdv hmd wa; omega
    have x1 : 0 ≤ (c : Int) * 8 ∧ (c : Int) * 8 < 4611686018427387904 ∧ 0 ≤ (c : Int) * 8 + (b : Int) ∧ (c : Int) * 8 + (b : Int) < 4611686018427387904 := by clear hh w1 hdv hmd wa; omega
    have x2 : (c : Int) * 8 + (b : Int) = ((c * 8 + b : Nat) : Int) := by clear hh w1 hdv hmd wa; omega
    have wi : wrap64 (wrap64 ((c : Int) * 8) + (b : Int)) = ((c * 8 + b : Nat) : Int) := by rw [wr ((c : Int) * 8) x1.1 x1.2.1, wr _ x1.2.2.1 x1.2.2.2, x2]
    rw [← hh]
    simp only [laws_FnMoreAre.l1]
    rw [if_pos c8, hdv, hmd, wa, insideOf_k (a : Int) (c : Int) a0 a8 c0 c8 k hk20, Option.bind_some, wrap_succ6 c (Nat.le_of_lt (Nat.lt_of_lt_of_le hc8 (by decide)))]
    by_cases g : Go.bits .and .i64 (a : Int) (c : Int) = (a : Int)
    · rw [if_pos (beq_iff_eq.mpr g), if_pos p3, if_pos p4, hrow a b ha hb]
      by_cases g1 : rfAt t a b = 1
      · rw [if_pos g1, wi, if_pos p1, if_pos p2, hrow c b hc8 hb, if_neg]
        rw [rf_one] at g1
        refine rf_zero t _ _ ?_
        obtain ⟨s1, s2, s3, _⟩ := sub_sizes a c b a0 a8 c0 c8 b0 b8 g
        obtain ⟨z1, z2, z3, z4⟩ := sizes a b a0 a8 b0 b8
        obtain ⟨y1, y2, y3, y4⟩ := sizes c b c0 c8 b0 b8
        obtain ⟨A, eA⟩ := Int.eq_ofNat_of_zero_le z1
        obtain ⟨S, eS⟩ := Int.eq_ofNat_of_zero_le z3
        obtain ⟨A', eA'⟩ := Int.eq_ofNat_of_zero_le y1
        obtain ⟨S', eS'⟩ := Int.eq_ofNat_of_zero_le y3
        rw [eA, eS] at g1
        rw [eA', eS']
        rw [eA, eA'] at s1
        rw [eS, eS'] at s2
        rw [eS, eS', eA, eA'] at s3
        rw [eA] at z2
        rw [eS, eA] at z4
        rw [eA'] at y2
        rw [eS', eA'] at y4
        clear eA eS eA' eS' g z1 z3 y1 y3 p1 p2 p3 p4 wi x1 x2 c0 c8 a0 a8 b0 b8 hdv hmd wa w1 hh hk hk' hlen
        have := moreAre_up t h (A' - A) A S (S' - S) (by omega) (by omega) (by omega) g1
        rwa [show A + (A' - A) = A' by omega, show S + (S' - S) = S' by omega] at this
      · rw [if_neg g1]
    · rw [if_neg (fun e => g (beq_iff_eq.mp e))]
theorem walk_l0 (t R : List Int) (h : moreAreP t = true) (hlen : (R.length : Int) = 64) (hrow : ∀ a b : Nat, a < 8 → b < 8 → rd R ((a * 8 + b : Nat) : Int) = rfAt t a b) (d : Nat) : ∀ (k i : Nat), i + d = 64 → 70 * d + 100 ≤ k →
    ∃ k', k ≤ k' + 70 * d + 2 ∧ laws_FnMoreAre.l0 k t true R (i : Int) = laws_FnMoreAre.j1 k' t true R 64 false := by
  induction d with
  | zero =>
    intro k i hi hk
    obtain ⟨k, rfl⟩ : ∃ m, k = m + 1 := ⟨k - 1, by omega⟩
    obtain rfl : i = 64 := by omega
    refine ⟨k, by omega, ?_⟩
    simp only [laws_FnMoreAre.l0]
    rw [if_neg (by omega)]
    rfl
  | succ d ih =>
    intro k i hi hk
    obtain ⟨k, rfl⟩ : ∃ m, k = m + 1 + 1 := ⟨k - 2, by omega⟩
    obtain ⟨k1, e1, g1⟩ := walk_l1 t R h hlen hrow (i / 8) (i % 8) (by omega) (by omega) 8 k 0 (by omega) (by omega)
    rw [show i / 8 * 8 + i % 8 = i by omega] at g1
    obtain ⟨k2, e2, g2⟩ := ih k1 (i + 1) (by omega) (by omega)
    refine ⟨k2, by omega, ?_⟩
    rw [← g2, ← show laws_FnMoreAre.l1 k t true R (i : Int) 0 = _ from g1]
    simp only [laws_FnMoreAre.l0]
    rw [if_pos (by omega)]
    simp only [laws_FnMoreAre.j1]
    rw [if_pos trivial]
theorem last_j1 (t : List Int) (ht : isTri t = true) (r : List Int) (i : Int) (k : Nat) (hk : 2097200 ≤ k) : laws_FnMoreAre.j1 k t (moreAreP t) r i false = some true := by
  obtain ⟨k, rfl⟩ : ∃ m, k = m + 1 := ⟨k - 1, by omega⟩
  have hl := isTri_length ht
  have n1 := notP_length t
  have n2 := insP_length t
  simp only [laws_FnMoreAre.j1]
  rw [if_neg Bool.false_ne_true, impl_NotOf_k t (by omega) k (by omega), Option.bind_some, impl_FewerAre_k _ (by omega) k (by omega), Option.bind_some, fewerAre_not t ht, if_pos (by simp), impl_InsideNot_k t (by omega) k (by omega), Option.bind_some, impl_MoreAre_k _ (by omega) k (by omega), Option.bind_some, moreAre_ins t ht]
  simp
theorem FnMoreAre : laws_FnMoreAre.Pure := by
  intro l _ _ hw
  obtain ⟨K, hK⟩ : ∃ K, K = 2107300 := ⟨_, rfl⟩
  refine ⟨K + 1, ?_⟩
  unfold laws_FnMoreAre.f
  by_cases hl : (l.length : Int) > 1048576
  · rw [if_pos hl]
  · obtain ⟨t, et, ht⟩ := drawMoreAre l hw (K + 1) (by omega)
    rw [if_neg hl, et, Option.bind_some, impl_MoreAre_k t (by omega) (K + 1) (by omega), Option.bind_some, spec_MoreAre_k t (by omega) (K + 1) (by omega), Option.bind_some, bne_self_eq_false, if_neg Bool.false_ne_true, spec_TriangleOk_k t (by omega) (K + 1) (by omega), Option.bind_some]
    by_cases g : isTri t = true
    · rw [if_pos g, spec_RelationFrom_k 3 t (by omega) (K + 1) (by omega), Option.bind_some]
      have er : rfP 3 t = rowsB (rfAt t) 8 8 := by
        unfold rfP
        rw [g]
        rfl
      rw [er]
      by_cases m : moreAreP t = true
      · obtain ⟨k', e, w⟩ := walk_l0 t (rowsB (rfAt t) 8 8) m (by rw [rowsB_length]; rfl) (fun a b ha hb => row8 _ a b ha hb) 64 (K + 1) 0 (by omega) (by omega)
        have := last_j1 t g (rowsB (rfAt t) 8 8) 64 k' (by omega)
        rw [m] at this ⊢
        exact Eq.trans w this
      · have := last_j1 t g (rowsB (rfAt t) 8 8) 0 K (by omega)
        rw [Bool.eq_false_iff.mpr m] at this ⊢
        simp only [laws_FnMoreAre.l0]
        rw [if_pos (by omega)]
        exact this
    · have m : moreAreP t = false := by
        unfold moreAreP
        rw [Bool.eq_false_iff.mpr g, Bool.false_and]
      rw [if_neg g, m, if_neg Bool.false_ne_true, alive_eq]
      rfl

end Go.Proofs.Ytbdbklnlpeichaa.Pure
