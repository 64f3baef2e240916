-- Texts of this claim, laid one behind the other by wip/gen/merge.py.
import Derived.Test.YtbdbklnlpeichaaZFnMoreDo11
import Derived.Test.YtbdbklnlpeichaaZFnMoreDo12
import Derived.Test.YtbdbklnlpeichaaZFnMoreDo8
import Derived.Test.YtbdbklnlpeichaaZFnMoreDo0
import Derived.Test.YtbdbklnlpeichaaZFnMoreDo10
/- Plain facts on the drawing of arguments: a drawn triangle; every draw ends, with a result of bounded size. -/
namespace Go.Proofs.Ytbdbklnlpeichaa.P
open Go.RowKit Go.Proofs.YtbdbklnlpeichaaW.PrintWords Go.Proofs.YtbdbklnlpeichaaW.PrintLast

theorem tri_j1 (xs : List Int) (hs : Src xs) (n : Int) (l : List Int) (hl : l.length = 21) (c : Int) (h0 : 0 ≤ c) (h1 : c ≤ 500000) (k : Nat) (hk : 2 ≤ k) : ∃ r c', spec_l20Tri.j1 k n l xs c = some (r, c') ∧ c ≤ c' ∧ c' ≤ c + 3 ∧ r.length ≤ 22 := by
  obtain ⟨k, rfl⟩ : ∃ m, k = m + 1 := ⟨k - 1, by omega⟩
  obtain ⟨b, c1, e1, g1, g2⟩ := odd_k xs hs c n h0 (by omega) k (by omega)
  simp only [spec_l20Tri.j1]
  rw [e1, Option.bind_some]
  cases b with
  | false =>
    rw [if_neg Bool.false_ne_true]
    exact ⟨_, _, rfl, by omega, by omega, by omega⟩
  | true =>
    obtain ⟨r, e2, g3, g4⟩ := pick_k xs hs c1 3 (by omega) (by omega) k (by omega)
    rw [if_pos rfl, e2, Option.bind_some]
    by_cases k1 : r = 0
    · rw [if_pos k1]
      exact ⟨_, _, rfl, by omega, by omega, by simp⟩
    · rw [if_neg k1]
      by_cases k2 : r = 1
      · rw [if_pos k2, if_pos (by omega)]
        exact ⟨_, _, rfl, by omega, by omega, by rw [List.length_append, hl]; decide⟩
      · obtain ⟨q, e3, g5, g6⟩ := pick_k xs hs (c1 + 1) 21 (by omega) (by omega) k (by omega)
        rw [if_neg k2, e3, Option.bind_some, if_pos g5, if_pos (by have := g6 (by omega); omega)]
        exact ⟨_, _, rfl, by omega, by omega, by rw [List.length_set]; omega⟩
theorem tri_l0 (xs : List Int) (hs : Src xs) (n : Int) (d : Nat) : ∀ (k : Nat) (l : List Int) (i : Nat) (c : Int), i + d = 21 → l.length = i → 0 ≤ c → c + d ≤ 400000 → d + 10 ≤ k →
    ∃ r c', spec_l20Tri.l0 k n l (i : Int) xs c = some (r, c') ∧ c ≤ c' ∧ c' ≤ c + d + 3 ∧ r.length ≤ 22 := by
  induction d with
  | zero =>
    intro k l i c h hl h0 h1 hk
    obtain ⟨k, rfl⟩ : ∃ m, k = m + 1 := ⟨k - 1, by omega⟩
    obtain ⟨r, c', e, g1, g2, g3⟩ := tri_j1 xs hs n l (by omega) c h0 (by omega) k (by omega)
    simp only [spec_l20Tri.l0]
    rw [if_neg (by omega), e]
    exact ⟨_, _, rfl, by omega, by omega, g3⟩
  | succ d ih =>
    intro k l i c h hl h0 h1 hk
    obtain ⟨k, rfl⟩ : ∃ m, k = m + 1 := ⟨k - 1, by omega⟩
    obtain ⟨r, e, _, _⟩ := pick_k xs hs c 2 h0 (by omega) k (by omega)
    obtain ⟨r', c', e', g1, g2, g3⟩ := ih k (l ++ [r]) (i + 1) (c + 1) (by omega) (by rw [List.length_append, hl]; rfl) (by omega) (by omega) (by omega)
    simp only [spec_l20Tri.l0]
    rw [if_pos (by omega), e, Option.bind_some, if_pos (by omega), wrap_succ6 i (by omega), e']
    exact ⟨_, _, rfl, by omega, by omega, g3⟩
theorem l20Tri_k (xs : List Int) (hs : Src xs) (c n : Int) (h0 : 0 ≤ c) (h1 : c ≤ 300000) (k : Nat) (hk : 2097200 ≤ k) : ∃ l c', spec_l20Tri.f k xs c n = some (l, c') ∧ c ≤ c' ∧ c' ≤ c + 30 ∧ l.length ≤ 22 := by
  unfold spec_l20Tri.f
  obtain ⟨r1, e1, g1, g2⟩ := pick_k xs hs c 4 h0 (by omega) k (by omega)
  rw [e1, Option.bind_some]
  by_cases z : r1 = 0
  · rw [if_pos z]
    obtain ⟨l, c', e, g3, g4, g5⟩ := tri_l0 xs hs n 21 k [] 0 (c + 1) (by omega) rfl (by omega) (by omega) (by omega)
    exact ⟨l, c', e, by omega, by omega, g5⟩
  · rw [if_neg z, show spec_l20Names.f = some l20N from rfl]
    obtain ⟨r2, e2, g3, g4⟩ := pick_k xs hs (c + 1) 10 (by omega) (by omega) k (by omega)
    obtain ⟨r3, e3, g5, g6⟩ := pick_k xs hs (c + 1 + 1) 10 (by omega) (by omega) k (by omega)
    obtain ⟨r4, e4, g7, g8⟩ := pick_k xs hs (c + 1 + 1 + 1) 7 (by omega) (by omega) k (by omega)
    obtain ⟨t, t1, t2⟩ := names_in r2 g3 (g4 (by omega))
    obtain ⟨u, u1, u2⟩ := names_in r3 g5 (g6 (by omega))
    have i2 : r2 < (l20N.length : Int) := g4 (by omega)
    have i3 : r3 < (l20N.length : Int) := g6 (by omega)
    rw [Option.bind_some, e2, Option.bind_some, if_pos g3, if_pos i2, spec_NamedTriangle_k _ k (by omega), t1, Option.bind_some, Option.bind_some, e3, Option.bind_some, if_pos g5, if_pos i3, spec_NamedTriangle_k _ k (by omega), u1, Option.bind_some, e4, Option.bind_some]
    have ht := isTri_length t2
    have hu := isTri_length u2
    have fin : ∀ l : List Int, isTri l = true → ∃ r c', spec_l20Tri.j1 k n l xs (c + 1 + 1 + 1 + 1) = some (r, c') ∧ c ≤ c' ∧ c' ≤ c + 30 ∧ r.length ≤ 22 := by
      intro l h
      obtain ⟨r, c', e, a1, a2, a3⟩ := tri_j1 xs hs n l (isTri_length h) (c + 1 + 1 + 1 + 1) (by omega) (by omega) k (by omega)
      exact ⟨r, c', e, by omega, by omega, a3⟩
    by_cases z0 : r4 = 0
    · rw [if_pos z0, spec_NotOf_k t (by omega) k (by omega), Option.bind_some]
      exact fin _ (isTri_notP t t2)
    · rw [if_neg z0]
      by_cases z1 : r4 = 1
      · rw [if_pos z1, spec_InsideNot_k t (by omega) k (by omega), Option.bind_some]
        exact fin _ (isTri_insP t t2)
      · rw [if_neg z1]
        by_cases z2 : r4 = 2
        · rw [if_pos z2, spec_BothOf_k t u (by omega) (by omega) k (by omega), Option.bind_some]
          exact fin _ (isTri_bothP t u t2 u2)
        · rw [if_neg z2]
          by_cases z3 : r4 = 3
          · rw [if_pos z3, spec_EitherOf_k t u (by omega) (by omega) k (by omega), Option.bind_some]
            exact fin _ (isTri_eitherP t u t2 u2)
          · rw [if_neg z3]
            exact fin t t2

end Go.Proofs.Ytbdbklnlpeichaa.P

/- Plain facts: what the program's PlaceOf comes to. No condition beyond those typed. -/
namespace Go.Proofs.Ytbdbklnlpeichaa.P
open Go.RowKit Go.Proofs.YtbdbklnlpeichaaW.PrintWords Go.Proofs.YtbdbklnlpeichaaW.PrintLast

theorem impl_PlaceOf_eq (a s : Int) : impl_PlaceOf.f a s = some (plOr a s) := by
  unfold impl_PlaceOf.f plOr impl_placeOf.f
  by_cases h1 : a < 0
  · rw [if_pos h1, if_neg (by omega)]
  · by_cases h2 : a > 5
    · rw [if_neg h1, if_pos h2, if_neg (by omega)]
    · by_cases h3 : s < 0
      · rw [if_neg h1, if_neg h2, if_pos h3, if_neg (by omega)]
      · by_cases h4 : s > a
        · rw [if_neg h1, if_neg h2, if_neg h3, if_pos h4, if_neg (by omega)]
        · rw [if_neg h1, if_neg h2, if_neg h3, if_neg h4, Option.bind_some, pl_wrap a s (by omega) (by omega) (by omega) (by omega), if_pos (by omega)]

end Go.Proofs.Ytbdbklnlpeichaa.P

/- Plain facts on the law's last word and the sameness of rows. -/
namespace Go.Proofs.Ytbdbklnlpeichaa.P
open Go.RowKit Go.Proofs.YtbdbklnlpeichaaW.PrintWords Go.Proofs.YtbdbklnlpeichaaW.PrintLast

theorem alive_eq : laws_alive.f = some true := by
  unfold laws_alive.f
  rw [impl_PlaceOf_eq, Option.bind_some, show plOr 0 0 = 0 by decide, if_pos rfl, impl_PlaceOf_eq, Option.bind_some, show plOr 0 1 = -1 by decide]
  rfl

end Go.Proofs.Ytbdbklnlpeichaa.P

/- More that do it are a greater second set: the pure statement of the law FnMoreDo. No condition. -/
namespace Go.Proofs.Ytbdbklnlpeichaa.Pure
open Go.RowKit Go.Proofs.Ytbdbklnlpeichaa.P Go.Proofs.YtbdbklnlpeichaaW.PrintWords Go.Proofs.YtbdbklnlpeichaaW.PrintLast

theorem drawMoreDo (l : List Int) (hw : ∀ x ∈ l, (Lit.int .u8 x).wf = true) (k : Nat) (hk : 2097200 ≤ k) : ∃ t, spec_DrawMoreDo.f k l = some t ∧ t.length ≤ 22 := by
  obtain ⟨xs, eo, hs⟩ := src_open l hw
  obtain ⟨t, c, e, _, _, ht⟩ := l20Tri_k xs hs 0 14 (by omega) (by omega) k hk
  unfold spec_DrawMoreDo.f
  rw [eo, Option.bind_some, e]
  exact ⟨t, rfl, ht⟩
theorem walk_l1 (t R : List Int) (h : moreDoP t = true) (hlen : (R.length : Int) = 64) (hrow : ∀ a b : Nat, a < 8 → b < 8 → rd R ((a * 8 + b : Nat) : Int) = rfAt t a b) (a b : Nat) (ha : a < 8) (hb : b < 8) (d : Nat) : ∀ (k c : Nat), c + d = 8 → d + 50 ≤ k →
    ∃ k', k ≤ k' + d + 1 ∧ laws_FnMoreDo.l1 k t true R ((a * 8 + b : Nat) : Int) (c : Int) = laws_FnMoreDo.l0 k' t true R ((a * 8 + b + 1 : Nat) : Int) := by
  have a0 : (0 : Int) ≤ (a : Int) := Int.natCast_nonneg _
  have a8 : (a : Int) < 8 := by omega
  have b0 : (0 : Int) ≤ (b : Int) := Int.natCast_nonneg _
  have b8 : (b : Int) < 8 := by omega
  have p3 : (0 : Int) ≤ ((a * 8 + b : Nat) : Int) := Int.natCast_nonneg _
  have p4 : ((a * 8 + b : Nat) : Int) < (R.length : Int) := by rw [hlen]; omega
  have w1 : wrap64 (((a * 8 + b : Nat) : Int) + 1) = ((a * 8 + b + 1 : Nat) : Int) := wrap_succ6 _ (by omega)
  have hdv : Int.tdiv ((a * 8 + b : Nat) : Int) 8 = (a : Int) := by rw [Int.tdiv_eq_ediv_of_nonneg (by omega)]; omega
  have hmd : Int.tmod ((a * 8 + b : Nat) : Int) 8 = (b : Int) := by rw [Int.tmod_eq_emod_of_nonneg (by omega)]; omega
  have wa : wrap64 (a : Int) = (a : Int) := wr _ (by omega) (by omega)
  induction d with
  | zero =>
    intro k c hc hk
    obtain ⟨k, rfl⟩ : ∃ m, k = m + 1 := ⟨k - 1, by omega⟩
    refine ⟨k, by omega, ?_⟩
    simp only [laws_FnMoreDo.l1]
    rw [if_neg (by omega), w1]
  | succ d ih =>
    intro k c hc hk
    obtain ⟨k, rfl⟩ : ∃ m, k = m + 1 := ⟨k - 1, by omega⟩
    obtain ⟨k', hk', hh⟩ := ih k (c + 1) (by omega) (by omega)
    refine ⟨k', by omega, ?_⟩
    have hc8 : c < 8 := by clear hh w1 hdv hmd wa; omega
    have hk20 : 20 ≤ k := by clear hh w1 hdv hmd wa; omega
    have c0 : (0 : Int) ≤ (c : Int) := Int.natCast_nonneg _
    have c8 : (c : Int) < 8 := by clear hh w1 hdv hmd wa; omega
    have p1 : (0 : Int) ≤ ((a * 8 + c : Nat) : Int) := Int.natCast_nonneg _
    have p2 : ((a * 8 + c : Nat) : Int) < (R.length : Int) := by rw [hlen]; clear hh w1 hdv hmd wa; omega
    have x1 : 0 ≤ (a : Int) * 8 ∧ (a : Int) * 8 < 4611686018427387904 ∧ 0 ≤ (a : Int) * 8 + (c : Int) ∧ (a : Int) * 8 + (c : Int) < 4611686018427387904 := by clear hh w1 hdv hmd wa; omega
    have x2 : (a : Int) * 8 + (c : Int) = ((a * 8 + c : Nat) : Int) := by clear hh w1 hdv hmd wa; omega
    have wi : wrap64 (wrap64 ((a : Int) * 8) + (c : Int)) = ((a * 8 + c : Nat) : Int) := by rw [wr ((a : Int) * 8) x1.1 x1.2.1, wr _ x1.2.2.1 x1.2.2.2, x2]
    rw [← hh]
    simp only [laws_FnMoreDo.l1]
    rw [if_pos c8, hdv, hmd, wa, insideOf_k (b : Int) (c : Int) b0 b8 c0 c8 k hk20, Option.bind_some, wrap_succ6 c (Nat.le_of_lt (Nat.lt_of_lt_of_le hc8 (by decide)))]
    by_cases g : Go.bits .and .i64 (b : Int) (c : Int) = (b : Int)
    · rw [if_pos (beq_iff_eq.mpr g), if_pos p3, if_pos p4, hrow a b ha hb]
      by_cases g1 : rfAt t a b = 1
      · rw [if_pos g1, wi, if_pos p1, if_pos p2, hrow a c ha hc8, if_neg]
        rw [rf_one] at g1
        refine rf_zero t _ _ ?_
        obtain ⟨_, _, _, s4⟩ := sub_sizes b c a b0 b8 c0 c8 a0 a8 g
        obtain ⟨z1, z2, z3, z4⟩ := sizes a b a0 a8 b0 b8
        obtain ⟨y1, y2, y3, y4⟩ := sizes a c a0 a8 c0 c8
        obtain ⟨A, eA⟩ := Int.eq_ofNat_of_zero_le z1
        obtain ⟨S, eS⟩ := Int.eq_ofNat_of_zero_le z3
        obtain ⟨S', eS'⟩ := Int.eq_ofNat_of_zero_le y3
        rw [eA, eS] at g1
        rw [eA, eS']
        rw [eS, eS'] at s4
        rw [eA] at z2
        rw [eS, eA] at z4
        rw [eS', eA] at y4
        clear y2 eA eS eS' g z1 z3 y1 y3 p1 p2 p3 p4 wi x1 x2 c0 c8 a0 a8 b0 b8 hdv hmd wa w1 hh hk hk' hlen
        have := moreDo_up t h A S (by omega) g1 (S' - S) (by omega)
        rwa [show S + (S' - S) = S' by omega] at this
      · rw [if_neg g1]
    · rw [if_neg (fun e => g (beq_iff_eq.mp e))]
theorem walk_l0 (t R : List Int) (h : moreDoP t = true) (hlen : (R.length : Int) = 64) (hrow : ∀ a b : Nat, a < 8 → b < 8 → rd R ((a * 8 + b : Nat) : Int) = rfAt t a b) (d : Nat) : ∀ (k i : Nat), i + d = 64 → 70 * d + 100 ≤ k →
    ∃ k', k ≤ k' + 70 * d + 2 ∧ laws_FnMoreDo.l0 k t true R (i : Int) = laws_FnMoreDo.j1 k' t true R 64 false := by
  induction d with
  | zero =>
    intro k i hi hk
    obtain ⟨k, rfl⟩ : ∃ m, k = m + 1 := ⟨k - 1, by omega⟩
    obtain rfl : i = 64 := by omega
    refine ⟨k, by omega, ?_⟩
    simp only [laws_FnMoreDo.l0]
    rw [if_neg (by omega)]
    rfl
  | succ d ih =>
    intro k i hi hk
    obtain ⟨k, rfl⟩ : ∃ m, k = m + 1 + 1 := ⟨k - 2, by omega⟩
    obtain ⟨k1, e1, g1⟩ := walk_l1 t R h hlen hrow (i / 8) (i % 8) (by omega) (by omega) 8 k 0 (by omega) (by omega)
    rw [show i / 8 * 8 + i % 8 = i by omega] at g1
    obtain ⟨k2, e2, g2⟩ := ih k1 (i + 1) (by omega) (by omega)
    refine ⟨k2, by omega, ?_⟩
    rw [← g2, ← show laws_FnMoreDo.l1 k t true R (i : Int) 0 = _ from g1]
    simp only [laws_FnMoreDo.l0]
    rw [if_pos (by omega)]
    simp only [laws_FnMoreDo.j1]
    rw [if_pos trivial]
theorem last_j1 (t : List Int) (ht : isTri t = true) (r : List Int) (i : Int) (k : Nat) (hk : 2097200 ≤ k) : laws_FnMoreDo.j1 k t (moreDoP t) r i false = some true := by
  obtain ⟨k, rfl⟩ : ∃ m, k = m + 1 := ⟨k - 1, by omega⟩
  have hl := isTri_length ht
  have n1 := notP_length t
  have n2 := insP_length t
  have n3 := dualP_length t
  simp only [laws_FnMoreDo.j1]
  rw [if_neg Bool.false_ne_true, impl_NotOf_k t (by omega) k (by omega), Option.bind_some, impl_FewerDo_k _ (by omega) k (by omega), Option.bind_some, fewerDo_not t ht, if_pos (by simp), impl_InsideNot_k t (by omega) k (by omega), Option.bind_some, impl_FewerDo_k _ (by omega) k (by omega), Option.bind_some, fewerDo_ins t ht, if_pos (by simp), impl_DualOf_k t (by omega) k (by omega), Option.bind_some, impl_MoreDo_k _ (by omega) k (by omega), Option.bind_some, moreDo_dual t ht]
  simp
theorem FnMoreDo : laws_FnMoreDo.Pure := by
  intro l _ _ hw
  obtain ⟨K, hK⟩ : ∃ K, K = 2107300 := ⟨_, rfl⟩
  refine ⟨K + 1, ?_⟩
  unfold laws_FnMoreDo.f
  by_cases hl : (l.length : Int) > 1048576
  · rw [if_pos hl]
  · obtain ⟨t, et, ht⟩ := drawMoreDo l hw (K + 1) (by omega)
    rw [if_neg hl, et, Option.bind_some, impl_MoreDo_k t (by omega) (K + 1) (by omega), Option.bind_some, spec_MoreDo_k t (by omega) (K + 1) (by omega), Option.bind_some, bne_self_eq_false, if_neg Bool.false_ne_true, spec_TriangleOk_k t (by omega) (K + 1) (by omega), Option.bind_some]
    by_cases g : isTri t = true
    · rw [if_pos g, spec_RelationFrom_k 3 t (by omega) (K + 1) (by omega), Option.bind_some]
      have er : rfP 3 t = rowsB (rfAt t) 8 8 := by
        unfold rfP
        rw [g]
        rfl
      rw [er]
      by_cases m : moreDoP t = true
      · obtain ⟨k', e, w⟩ := walk_l0 t (rowsB (rfAt t) 8 8) m (by rw [rowsB_length]; rfl) (fun a b ha hb => row8 _ a b ha hb) 64 (K + 1) 0 (by omega) (by omega)
        have := last_j1 t g (rowsB (rfAt t) 8 8) 64 k' (by omega)
        rw [m] at this ⊢
        exact Eq.trans w this
      · have := last_j1 t g (rowsB (rfAt t) 8 8) 0 K (by omega)
        rw [Bool.eq_false_iff.mpr m] at this ⊢
        simp only [laws_FnMoreDo.l0]
        rw [if_pos (by omega)]
        exact this
    · have m : moreDoP t = false := by
        unfold moreDoP
        rw [Bool.eq_false_iff.mpr g, Bool.false_and]
      rw [if_neg g, m, if_neg Bool.false_ne_true, alive_eq]
      rfl

end Go.Proofs.Ytbdbklnlpeichaa.Pure
