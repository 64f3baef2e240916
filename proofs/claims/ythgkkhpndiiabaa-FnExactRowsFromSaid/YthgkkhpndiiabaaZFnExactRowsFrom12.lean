-- Texts of this claim, laid one behind the other by wip/gen/merge.py.
import Derived.RowKit
import Derived.Test.YthgkkhpndiiabaaWWords
import Derived.Test.YthgkkhpndiiabaaWLast
import Derived.Test.YthgkkhpndiiabaaZFnExactRowsFrom0
import Derived.Test.YthgkkhpndiiabaaZFnExactRowsFrom1
import Derived.Test.YthgkkhpndiiabaaZFnExactRowsFrom2
import Derived.Test.YthgkkhpndiiabaaZFnExactRowsFrom8
import Derived.Test.YthgkkhpndiiabaaZFnExactRowsFrom4
import Derived.Test.YthgkkhpndiiabaaZFnExactRowsFrom5
/- Plain facts on the helpers of the laws (toIntS, eqIntS, markIntS, heldIntS) for lists of at most 2^20 numbers, with enough rounds. -/
namespace Go.Proofs.Ythgkkhpndiiabaa.P
open Go.RowKit Go.Proofs.YthgkkhpndiiabaaW.PrintWords Go.Proofs.YthgkkhpndiiabaaW.PrintLast

theorem wrap_succ (i n : Nat) (h : i < n) (hn : n ≤ 1048576) : wrap64 ((i : Int) + 1) = ((i + 1 : Nat) : Int) := by unfold wrap64; omega
theorem rd_get (l : List Int) (i : Nat) (h : i < l.length) : rd l (i : Int) = l[i] := by simp [rd, List.getD_eq_getElem?_getD, List.getElem?_eq_getElem h]

theorem toIntS_round (l : List Int) (hl : l.length ≤ 1048576) (d : Nat) : ∀ (k i : Nat), i + d = l.length → d < k → laws_toIntS.l0 k l (l.take i ++ List.replicate d 0) (i : Int) = some l := by
  induction d with
  | zero =>
    intro k i h hk
    obtain ⟨k, rfl⟩ : ∃ m, k = m + 1 := ⟨k - 1, by omega⟩
    simp only [laws_toIntS.l0]
    rw [if_neg (by omega), List.take_of_length_le (by omega), List.replicate_zero, List.append_nil]
  | succ d ih =>
    intro k i h hk
    obtain ⟨k, rfl⟩ : ∃ m, k = m + 1 := ⟨k - 1, by omega⟩
    have hi : i < l.length := by omega
    have hs : (l.take i ++ List.replicate (d + 1) 0).set ((i : Int)).toNat (rd l (i : Int)) = l.take (i + 1) ++ List.replicate d 0 := by
      rw [rd_get l i hi, Int.toNat_natCast, List.set_append_right _ _ (by rw [List.length_take]; omega), List.take_succ_eq_append_getElem hi, List.append_assoc]
      congr 1
      rw [List.length_take, show i - min i l.length = 0 from by omega, List.replicate_succ, List.set_cons_zero]
      rfl
    simp only [laws_toIntS.l0]
    rw [if_pos (by omega), if_pos (by omega), if_pos (by simp; omega), hs, wrap_succ i l.length hi hl]
    exact ih k (i + 1) (by omega) (by omega)
theorem toIntS_k (l : List Int) (hl : l.length ≤ 1048576) (k : Nat) (hk : 1048576 < k) : laws_toIntS.f k l = some l := by
  unfold laws_toIntS.f
  rw [if_pos (by omega), if_pos (by omega)]
  have := toIntS_round l hl l.length k 0 (by omega) (by omega)
  simpa using this

theorem eqIntS_round (l : List Int) (hl : l.length ≤ 1048576) (d : Nat) : ∀ (k i : Nat), i + d = l.length → d < k → laws_eqIntS.l0 k l l (i : Int) = some true := by
  induction d with
  | zero =>
    intro k i h hk
    obtain ⟨k, rfl⟩ : ∃ m, k = m + 1 := ⟨k - 1, by omega⟩
    simp only [laws_eqIntS.l0]
    rw [if_neg (by omega)]
  | succ d ih =>
    intro k i h hk
    obtain ⟨k, rfl⟩ : ∃ m, k = m + 1 := ⟨k - 1, by omega⟩
    simp only [laws_eqIntS.l0]
    rw [if_pos (by omega), if_pos (by omega), if_pos (by omega), if_pos trivial, wrap_succ i l.length (by omega) hl]
    exact ih k (i + 1) (by omega) (by omega)
theorem eqIntS_k (l : List Int) (hl : l.length ≤ 1048576) (k : Nat) (hk : 1048576 < k) : laws_eqIntS.f k l l = some true := by
  unfold laws_eqIntS.f
  rw [if_pos rfl]
  simpa using eqIntS_round l hl l.length k 0 (by omega) (by omega)

/-- a, a + 1, .. -/
def marks (a : Int) (n : Nat) : List Int := (List.range n).map fun (i : Nat) => a + (i : Int)
theorem marks_length (a : Int) (n : Nat) : (marks a n).length = n := by simp [marks]
theorem marks_succ (a : Int) (n : Nat) : marks a (n + 1) = marks a n ++ [a + (n : Int)] := by simp [marks, List.range_succ]
theorem marks_get (a : Int) (n i : Nat) (h : i < n) : rd (marks a n) (i : Int) = a + (i : Int) := by
  rw [rd_get _ _ (by rw [marks_length]; exact h)]
  simp [marks]
theorem mark_round (a : Int) (ha : 0 ≤ a ∧ a ≤ 4194304) (l : List Int) (hl : l.length ≤ 1048576) (d : Nat) : ∀ (k i : Nat), i + d = l.length → d < k → laws_markIntS.l0 k (marks a i ++ l.drop i) (a + (i : Int)) (i : Int) = some (a + (l.length : Int), marks a l.length) := by
  induction d with
  | zero =>
    intro k i h hk
    obtain ⟨k, rfl⟩ : ∃ m, k = m + 1 := ⟨k - 1, by omega⟩
    obtain rfl : i = l.length := by omega
    simp only [laws_markIntS.l0]
    rw [List.drop_length, List.append_nil, marks_length, if_neg (by omega)]
  | succ d ih =>
    intro k i h hk
    obtain ⟨k, rfl⟩ : ∃ m, k = m + 1 := ⟨k - 1, by omega⟩
    have hi : i < l.length := by omega
    have hs : (marks a i ++ l.drop i).set ((i : Int)).toNat (a + (i : Int)) = marks a (i + 1) ++ l.drop (i + 1) := by
      rw [Int.toNat_natCast, List.set_append_right _ _ (by rw [marks_length]; omega), marks_length, marks_succ, List.append_assoc, Nat.sub_self, List.drop_eq_getElem_cons hi, List.set_cons_zero]
      rfl
    have hw : wrap64 (a + (i : Int) + 1) = a + ((i + 1 : Nat) : Int) := by unfold wrap64; omega
    simp only [laws_markIntS.l0]
    rw [if_pos (by rw [List.length_append, marks_length, List.length_drop]; omega), if_pos (by omega), hs, hw, wrap_succ i l.length hi hl]
    exact ih k (i + 1) (by omega) (by omega)
theorem markIntS_k (a : Int) (ha : 0 ≤ a ∧ a ≤ 4194304) (l : List Int) (hl : l.length ≤ 1048576) (k : Nat) (hk : 1048576 < k) : laws_markIntS.f k l a = some (a + (l.length : Int), marks a l.length) := by
  unfold laws_markIntS.f
  have := mark_round a ha l hl l.length k 0 (by omega) (by omega)
  simpa [marks] using this
theorem held_round (a : Int) (ha : 0 ≤ a ∧ a ≤ 4194304) (n : Nat) (hn : n ≤ 1048576) (d : Nat) : ∀ (k i : Nat), i + d = n → d < k → laws_heldIntS.l0 k (marks a n) (a + (i : Int)) (i : Int) = some (a + (n : Int)) := by
  induction d with
  | zero =>
    intro k i h hk
    obtain ⟨k, rfl⟩ : ∃ m, k = m + 1 := ⟨k - 1, by omega⟩
    simp only [laws_heldIntS.l0]
    rw [marks_length, if_neg (by omega), show i = n from by omega]
  | succ d ih =>
    intro k i h hk
    obtain ⟨k, rfl⟩ : ∃ m, k = m + 1 := ⟨k - 1, by omega⟩
    have hw : wrap64 (a + (i : Int) + 1) = a + ((i + 1 : Nat) : Int) := by unfold wrap64; omega
    simp only [laws_heldIntS.l0]
    rw [marks_length, if_pos (by omega), if_pos (by omega), marks_get a n i (by omega), if_pos rfl, hw, wrap_succ i n (by omega) hn]
    exact ih k (i + 1) (by omega) (by omega)
theorem heldIntS_k (a : Int) (ha : 0 ≤ a ∧ a ≤ 4194304) (n : Nat) (hn : n ≤ 1048576) (k : Nat) (hk : 1048576 < k) : laws_heldIntS.f k (marks a n) a = some (a + (n : Int)) := by
  unfold laws_heldIntS.f
  have := held_round a ha n hn n k 0 (by omega) (by omega)
  simpa using this

end Go.Proofs.Ythgkkhpndiiabaa.P

/- Plain facts on relations: what the reference's RelationOk and the program's isRelation come to, indexes, entries. No condition beyond those typed. -/
namespace Go.Proofs.Ythgkkhpndiiabaa.P
open Go.RowKit Go.Proofs.YthgkkhpndiiabaaW.PrintWords Go.Proofs.YthgkkhpndiiabaaW.PrintLast

theorem l1In_eqR (n a b : Int) : spec_l1In.f n a b = some (decide (a ≤ n ∧ n ≤ b)) := by
  unfold spec_l1In.f
  by_cases h : n ≥ a
  · rw [if_pos h]; congr 1; rw [decide_eq_decide]; omega
  · rw [if_neg h]; congr 1; symm; rw [decide_eq_false_iff_not]; omega
theorem shl_four (t : Int) (h1 : 0 ≤ t) (h2 : t ≤ 3) : shl .i64 1 (wrap64 (2 * t)) = ((4 ^ t.toNat : Nat) : Int) := by
  rcases three t h1 h2 with rfl | rfl | rfl | rfl <;> decide +kernel
theorem spec_RelationOk_round (t : Int) (l : List Int) (hl : l.length ≤ 1048576) (d : Nat) : ∀ (k i : Nat), i + d = l.length → d < k → spec_RelationOk.l0 k t l (i : Int) = some ((l.drop i).all (fun x => x == 0 || x == 1) && (decide (0 ≤ t ∧ t ≤ 3) && l.length == 4 ^ t.toNat)) := by
  induction d with
  | zero =>
    intro k i h hk
    obtain ⟨k, rfl⟩ : ∃ m, k = m + 1 := ⟨k - 1, by omega⟩
    simp only [spec_RelationOk.l0]
    rw [if_neg (by omega), List.drop_of_length_le (by omega), List.all_nil, Bool.true_and, l1In_eqR, Option.bind_some]
    by_cases h3 : 0 ≤ t ∧ t ≤ 3
    · rw [if_pos (decide_eq_true h3), decide_eq_true h3, Bool.true_and, shl_four t h3.1 h3.2, if_pos (by unfold wrap64; omega)]
      congr 1
      rw [Bool.eq_iff_iff, beq_iff_eq, beq_iff_eq]
      omega
    · rw [if_neg (by rw [decide_eq_true_eq]; exact h3), decide_eq_false h3, Bool.false_and]
  | succ d ih =>
    intro k i h hk
    obtain ⟨k, rfl⟩ : ∃ m, k = m + 1 := ⟨k - 1, by omega⟩
    have hi : i < l.length := by omega
    have hd_ : l.drop i = l[i] :: l.drop (i + 1) := List.drop_eq_getElem_cons hi
    simp only [spec_RelationOk.l0]
    rw [if_pos (by omega), if_pos (by omega), rd_get l i hi, l1In_eqR, Option.bind_some, wrap_succ i l.length hi hl, ih k (i + 1) (by omega) (by omega), hd_, List.all_cons]
    by_cases h0 : l[i] = 0 ∨ l[i] = 1
    · rw [if_pos (decide_eq_true (by omega)), show (l[i] == 0 || l[i] == 1) = true from by simpa using h0, Bool.true_and]
    · rw [if_neg (by rw [decide_eq_true_eq]; omega), show (l[i] == 0 || l[i] == 1) = false from by simpa using h0, Bool.false_and, Bool.false_and]
theorem spec_RelationOk_k (t : Int) (l : List Int) (hl : l.length ≤ 1048576) (k : Nat) (hk : 1048600 ≤ k) : spec_RelationOk.f k t l = some (isRel t l) := by
  unfold spec_RelationOk.f isRel
  have h := spec_RelationOk_round t l hl l.length k 0 (by omega) (by omega)
  rw [List.drop_zero] at h
  refine Eq.trans h ?_
  congr 1
  cases decide (0 ≤ t ∧ t ≤ 3) <;> cases l.length == 4 ^ t.toNat <;> cases l.all (fun x => x == 0 || x == 1) <;> rfl
theorem impl_isRelation_k (t : Int) (l : List Int) (hl : l.length ≤ 1048576) (k : Nat) (hk : 1048600 ≤ k) : impl_isRelation.f k t l = some (isRel t l) := isRelation_k t l (by omega) k (by omega)
theorem shl_one (t : Int) (h1 : 0 ≤ t) (h2 : t ≤ 3) : shl .i64 1 t = pw t := by
  rw [shl_at 1 t h1 h2 (by omega) (by omega), Int.one_mul]
theorem idx_wrap (t a b : Int) (h1 : 0 ≤ t) (h2 : t ≤ 3) (h3 : 0 ≤ a) (h4 : a < pw t) (h5 : 0 ≤ b) (h6 : b < pw t) : wrap64 (shl .i64 a t + b) = a * pw t + b := by
  have hp := pw_range t h1 h2
  have hi := index_range t a b h1 h2 h3 h4 h5 h6
  rw [shl_at a t h1 h2 h3 (by omega)]
  unfold wrap64
  omega
/-! What is asked for all two sets. -/
theorem rel_bit (t : Int) (l : List Int) (h : isRel t l = true) (i : Int) : rd l i = 0 ∨ rd l i = 1 := by
  unfold rd
  rw [List.getD_eq_getElem?_getD]
  by_cases hi : i.toNat < l.length
  · rw [List.getElem?_eq_getElem hi, Option.getD_some]
    simp only [isRel, Bool.and_eq_true, List.all_eq_true] at h
    have := h.2.2 _ (List.getElem_mem hi)
    simpa using this
  · rw [List.getElem?_eq_none (by omega)]
    exact .inl rfl
theorem rel_same (t : Int) (l : List Int) (h : isRel t l = true) (a b c d : Int) : (rd l (a * pw t + b) = rd l (c * pw t + d)) ↔ (hr t l a b == hr t l c d) = true := by
  unfold hr
  rcases rel_bit t l h (a * pw t + b) with e | e <;> rcases rel_bit t l h (c * pw t + d) with f | f <;> rw [e, f] <;> decide
theorem pw_nat (t : Int) (h1 : 0 ≤ t) (h2 : t ≤ 3) : ∃ B : Nat, pw t = (B : Int) ∧ B ≤ 8 ∧ 2 ^ t.toNat = B := by
  refine ⟨2 ^ t.toNat, ?_, ?_, rfl⟩
  · unfold pw; simp
  · rcases three t h1 h2 with rfl | rfl | rfl | rfl <;> decide
theorem forAll_range (t : Int) (B : Nat) (hB : 2 ^ t.toNat = B) (so : Int → Int → Bool) : ((List.range' 0 B).all fun (a : Nat) => (List.range' 0 B).all fun (b : Nat) => so a b) = forAllP t so := by
  unfold forAllP
  rw [hB, List.range_eq_range']
end Go.Proofs.Ythgkkhpndiiabaa.P

-- Written by wip/gen/lay.py, a program of this session, with the kit's print as its base. Lean checks every line.
namespace Go.Proofs.Ythgkkhpndiiabaa.P
open Go.RowKit Go.Proofs.YthgkkhpndiiabaaW.PrintWords Go.Proofs.YthgkkhpndiiabaaW.PrintLast Go.Proofs.YthgkkhpndiiabaaW.PrintMore
attribute [local go_sem] max2_int min2_int max_two min_two max_three min_three max_four min_four   -- for this text's walks alone
set_option linter.unusedVariables false
set_option linter.unusedSimpArgs false

/-! ### impl_exchanged: function 59 -/
def impl_exchanged.f (a0 : Int) (a1 : Int) (a2 : Int) : Option (Int) := if 0 ≤ a1 then (if 0 ≤ a2 then (if (Go.bits .and .i64 (shr .i64 a0 a1) 1) = (Go.bits .and .i64 (shr .i64 a0 a2) 1) then (some a0) else (some (Go.bits .xor .i64 (Go.bits .xor .i64 a0 (shl .i64 1 a1)) (shl .i64 1 a2)))) else (none)) else (none)
set_option maxHeartbeats 8000000 in
set_option maxRecDepth 100000 in
theorem impl_exchanged.calls (a0 : Int) (a1 : Int) (a2 : Int) (r : Int) (w : World) (h : impl_exchanged.f a0 a1 a2 = some r) :
    Calls Try.prog 59 #[.int .i64 a0, .int .i64 a1, .int .i64 a2] w fun e w' => e = .returned (.int .i64 r) ∧ Drawn0 w w' := by
  have H : (if 0 ≤ a1 then (if 0 ≤ a2 then (if (Go.bits .and .i64 (shr .i64 a0 a1) 1) = (Go.bits .and .i64 (shr .i64 a0 a2) 1) then (some a0) else (some (Go.bits .xor .i64 (Go.bits .xor .i64 a0 (shl .i64 1 a1)) (shl .i64 1 a2)))) else (none)) else (none)) = some r := h
  clear h
  by_cases c4 : 0 ≤ a1
  · rw [if_pos c4] at H
    have c4b0 := eq_true c4
    have c4b1 : decide (0 ≤ a1) = true := decide_eq_true c4
    clear c4
    obtain ⟨ji5, hji5⟩ : ∃ j_ : Int, (shr .i64 a0 a1) = j_ := ⟨_, rfl⟩
    replace H : (if 0 ≤ a2 then (if (Go.bits .and .i64 (ji5) 1) = (Go.bits .and .i64 (shr .i64 a0 a2) 1) then (some a0) else (some (Go.bits .xor .i64 (Go.bits .xor .i64 a0 (shl .i64 1 a1)) (shl .i64 1 a2)))) else (none)) = some r := by first | (rw [hji5] at H; exact H) | (simp only [hji5] at H ⊢; exact H)
    have hji5_ : (a0 / 2 ^ min a1.toNat 64) = ji5 := hji5
    have hji5z : a1 ≤ 64 → (a0 / 2 ^ a1.toNat) = ji5 := shr_small hji5
    by_cases c6 : 0 ≤ a2
    · rw [if_pos c6] at H
      have c6b0 := eq_true c6
      have c6b1 : decide (0 ≤ a2) = true := decide_eq_true c6
      clear c6
      obtain ⟨ji7, hji7⟩ : ∃ j_ : Int, (shr .i64 a0 a2) = j_ := ⟨_, rfl⟩
      replace H : (if (Go.bits .and .i64 (ji5) 1) = (Go.bits .and .i64 (ji7) 1) then (some a0) else (some (Go.bits .xor .i64 (Go.bits .xor .i64 a0 (shl .i64 1 a1)) (shl .i64 1 a2)))) = some r := by first | (rw [hji7] at H; exact H) | (simp only [hji7] at H ⊢; exact H)
      have hji7_ : (a0 / 2 ^ min a2.toNat 64) = ji7 := hji7
      have hji7z : a2 ≤ 64 → (a0 / 2 ^ a2.toNat) = ji7 := shr_small hji7
      by_cases c8 : (Go.bits .and .i64 (ji5) 1) = (Go.bits .and .i64 (ji7) 1)
      · rw [if_pos c8] at H
        have c8b0 : ((Go.bits .and .i64 (ji5) 1) == (Go.bits .and .i64 (ji7) 1)) = true := beq_iff_eq.mpr c8
        have c8b1 : ((Go.bits .and .i64 (ji5) 1) != (Go.bits .and .i64 (ji7) 1)) = false := bne_eq_false_iff_eq.mpr c8
        clear c8
        obtain rfl := Option.some.inj H
        go_enter Try.func59, Try.ntmps59
        go_wp2
        repeat (go_quiet (fail); try go_wp2)
        go_ret
        exact ⟨by first | rfl | (simp; done) | (simp only [← hji5, ← hji7] <;> (first | rfl | simp)) | (simp [*]; done), by repeat (first | exact Drawn0.refl _ | apply Drawn0.step)⟩
      · rw [if_neg c8] at H
        have c8b0 : ((Go.bits .and .i64 (ji5) 1) == (Go.bits .and .i64 (ji7) 1)) = false := beq_eq_false_iff_ne.mpr c8
        have c8b1 : ((Go.bits .and .i64 (ji5) 1) != (Go.bits .and .i64 (ji7) 1)) = true := bne_iff_ne.mpr c8
        have c9b0 := eq_true (of_decide_eq_true (by first | (with_reducible assumption) | assumption) : 0 ≤ a1)
        obtain ⟨ji10, hji10⟩ : ∃ j_ : Int, (shl .i64 1 a1) = j_ := ⟨_, rfl⟩
        replace H : (some (Go.bits .xor .i64 (Go.bits .xor .i64 a0 (ji10)) (shl .i64 1 a2))) = some r := by first | (rw [hji10] at H; exact H) | (simp only [hji10] at H ⊢; exact H)
        have hji10_ : (IntKind.i64.wrap (1 * 2 ^ min a1.toNat 64)) = ji10 := hji10
        have hji10z : a1 ≤ 64 → (IntKind.i64.wrap (1 * 2 ^ a1.toNat)) = ji10 := shl_small hji10
        have hji10u : (IntKind.i64.wrap (2 ^ min a1.toNat 64)) = ji10 := by have h_ := hji10_; rw [Int.one_mul] at h_; exact h_
        have hji10v : a1 ≤ 64 → (IntKind.i64.wrap (2 ^ a1.toNat)) = ji10 := fun hle_ => by have h_ := hji10z hle_; rw [Int.one_mul] at h_; exact h_
        have hji10y : (wrap64 (1 * 2 ^ min a1.toNat 64)) = ji10 := (i64_w _).symm.trans hji10_
        have hji10x : a1 ≤ 64 → (wrap64 (1 * 2 ^ a1.toNat)) = ji10 := fun h_ => (i64_w _).symm.trans (hji10z h_)
        have c11b0 := eq_true (of_decide_eq_true (by first | (with_reducible assumption) | assumption) : 0 ≤ a2)
        obtain ⟨ji12, hji12⟩ : ∃ j_ : Int, (shl .i64 1 a2) = j_ := ⟨_, rfl⟩
        replace H : (some (Go.bits .xor .i64 (Go.bits .xor .i64 a0 (ji10)) (ji12))) = some r := by first | (rw [hji12] at H; exact H) | (simp only [hji12] at H ⊢; exact H)
        have hji12_ : (IntKind.i64.wrap (1 * 2 ^ min a2.toNat 64)) = ji12 := hji12
        have hji12z : a2 ≤ 64 → (IntKind.i64.wrap (1 * 2 ^ a2.toNat)) = ji12 := shl_small hji12
        have hji12u : (IntKind.i64.wrap (2 ^ min a2.toNat 64)) = ji12 := by have h_ := hji12_; rw [Int.one_mul] at h_; exact h_
        have hji12v : a2 ≤ 64 → (IntKind.i64.wrap (2 ^ a2.toNat)) = ji12 := fun hle_ => by have h_ := hji12z hle_; rw [Int.one_mul] at h_; exact h_
        have hji12y : (wrap64 (1 * 2 ^ min a2.toNat 64)) = ji12 := (i64_w _).symm.trans hji12_
        have hji12x : a2 ≤ 64 → (wrap64 (1 * 2 ^ a2.toNat)) = ji12 := fun h_ => (i64_w _).symm.trans (hji12z h_)
        obtain rfl := Option.some.inj H
        go_enter Try.func59, Try.ntmps59
        go_wp2
        repeat (go_quiet (fail); try go_wp2)
        go_ret
        exact ⟨by first | rfl | (simp; done) | (simp only [← hji5, ← hji7, ← hji10, ← hji12] <;> (first | rfl | simp)) | (simp [*]; done), by repeat (first | exact Drawn0.refl _ | apply Drawn0.step)⟩
    · rw [if_neg c6] at H
      exact absurd H (by simp)
  · rw [if_neg c4] at H
    exact absurd H (by simp)

/-! ### HAND impl_KnowsNoThing: function 38 -/
def impl_KnowsNoThing.so (t : Int) (rel : List Int) (a b : Int) : Bool := kntP t rel a b
def impl_KnowsNoThing.f (a0 : Int) (l1 : List Int) : Option Bool := some (isRel a0 l1 && forAllP a0 (impl_KnowsNoThing.so a0 l1))
theorem exch_here (t s i k : Int) (h1 : 0 ≤ t) (h2 : t ≤ 3) (h3 : 0 ≤ s) (h4 : s < pw t) (h5 : 0 ≤ k) (h6 : k < i) (h7 : i < t) : impl_exchanged.f s i k = some (exch s i k) ∧ 0 ≤ exch s i k ∧ exch s i k < pw t := by
  have hf : ∀ T : Fin 4, ∀ x : Fin 8, ∀ p q : Fin 3, (x.val : Int) < pw T.val → q.val < p.val → p.val < T.val → impl_exchanged.f x.val p.val q.val = some (exch x.val p.val q.val) ∧ 0 ≤ exch x.val p.val q.val ∧ exch x.val p.val q.val < pw T.val := by decide +kernel
  have hp := pw_range t h1 h2
  obtain ⟨T, rfl⟩ := Int.eq_ofNat_of_zero_le h1
  obtain ⟨x, rfl⟩ := Int.eq_ofNat_of_zero_le h3
  obtain ⟨q, rfl⟩ := Int.eq_ofNat_of_zero_le h5
  obtain ⟨p, rfl⟩ := Int.eq_ofNat_of_zero_le (show 0 ≤ i by omega)
  exact hf ⟨T, by omega⟩ ⟨x, by omega⟩ ⟨p, by omega⟩ ⟨q, by omega⟩ h4 (show q < p by omega) (show p < T by omega)
set_option maxHeartbeats 1000000 in
set_option maxRecDepth 100000 in
theorem impl_KnowsNoThing.lit (t : Int) (A1 : Option Addr) (c1 : Nat) (l1 : List Int) (b0 b1 : Nat) (w : World) (ht1 : 0 ≤ t) (ht2 : t ≤ 3) (hl : l1.length = 4 ^ t.toNat) (hb0 : w.cell? ⟨b0, 0, none⟩ = some (.int .i64 t)) (hb1 : w.cell? ⟨b1, 0, none⟩ = some (.slice A1 l1.length c1)) (hr1 : Kd.C (Kd.int .i64) w A1 l1.length l1) (hc1 : l1.length ≤ c1)
    (a b : Int) (h1 : 0 ≤ a) (h2 : a < pw t) (h3 : 0 ≤ b) (h4 : b < pw t) :
    Calls Try.prog 58 #[.int .i64 a, .int .i64 b, .pointer (some ⟨b0, 0, none⟩), .pointer (some ⟨b1, 0, none⟩)] w fun e w' => e = .returned (.bool (impl_KnowsNoThing.so t l1 a b)) ∧ Drawn0 w w' := by
  have HR1 := Aside0.mk hr1
  have HC1 := Aside0.mk hc1
  have HL := Aside0.mk hl
  clear hr1 hc1 hl
  obtain ⟨T, rfl⟩ := Int.eq_ofNat_of_zero_le ht1
  go_enter Try.func58, Try.ntmps58
  go_wp2
  go_loopg [10] T (fun kq v10 w' => ∃ (n : Nat), v10 = .int .i64 n ∧ Aside0 (n + kq = T ∧ ∀ i k : Nat, i < n → k < i → kntAt T l1 a b i k = true) ∧ Drawn0 w w')
  case atStart => exact ⟨0, rfl, ⟨by omega, fun i k h => absurd h (by omega)⟩, by repeat (first | exact Drawn0.refl _ | apply Drawn0.step)⟩
  case round =>
    obtain ⟨n, rfl, HN, ⟨m1, rfl⟩⟩ := hrel
    by_cases hn : n < T
    · obtain ⟨k1, rfl⟩ : ∃ m, gk = m + 1 := ⟨gk - 1, by have := HN.out.1; omega⟩
      have hn0 : decide ((n : Int) < T) = true := decide_eq_true (by omega)
      have hn1 : decide (n < T) = true := decide_eq_true hn
      go_wp2
      go_loopg [14] n (fun kq v14 w' => ∃ (m : Nat), v14 = .int .i64 m ∧ Aside0 (m + kq = n ∧ ∀ k : Nat, k < m → kntAt T l1 a b n k = true) ∧ Drawn0 w w')
      case atStart => exact ⟨0, rfl, ⟨by omega, fun s h => absurd h (by omega)⟩, by repeat (first | exact Drawn0.refl _ | apply Drawn0.step)⟩
      case round =>
        obtain ⟨m, rfl, HM, ⟨m2, rfl⟩⟩ := hrel
        by_cases hm : m < n
        · obtain ⟨k2, rfl⟩ : ∃ j, gk = j + 1 := ⟨gk - 1, by have := HM.out.1; omega⟩
          have hm0 : decide ((m : Int) < n) = true := decide_eq_true (by omega)
          have hm1 : decide (m < n) = true := decide_eq_true hm
          obtain ⟨p1, p2, p3⟩ := exch_here T a n m ht1 ht2 h1 h2 (by omega) (by omega) (by omega)
          obtain ⟨q1, q2, q3⟩ := exch_here T b n m ht1 ht2 h3 h4 (by omega) (by omega) (by omega)
          have hh := holdsOf_here T l1 a b ht1 ht2 HL.out h1 h2 h3 h4
          have hk := holdsOf_here T l1 (exch a n m) (exch b n m) ht1 ht2 HL.out p2 p3 q2 q3
          obtain ⟨x, ex⟩ : ∃ b_, hr T l1 a b = b_ := ⟨_, rfl⟩
          obtain ⟨y, ey⟩ : ∃ b_, hr T l1 (exch a n m) (exch b n m) = b_ := ⟨_, rfl⟩
          have HO := Aside0.mk (show kntAt T l1 a b n m = (x == y) from by unfold kntAt; rw [ex, ey])
          rw [ex] at hh
          rw [ey] at hk
          obtain ⟨z1, ez1⟩ : ∃ z, exch a n m = z := ⟨_, rfl⟩
          obtain ⟨z2, ez2⟩ : ∃ z, exch b n m = z := ⟨_, rfl⟩
          rw [ez1] at p1 hk
          rw [ez2] at q1 hk
          have H1 := Aside0.mk hh
          have H2 := Aside0.mk hk
          have H3 := Aside0.mk p1
          have H4 := Aside0.mk q1
          clear hh hk p1 p2 p3 q1 q2 q3 ex ey ez1 ez2
          have HT : (x == y) = true → Aside0 (m + 1 + k2 = n ∧ ∀ k : Nat, k < m + 1 → kntAt T l1 a b n k = true) := fun h => ⟨by have := HM.out.1; omega, fun k hk => by
            rcases Nat.lt_or_ge k m with h' | h'
            · exact HM.out.2 k h'
            · obtain rfl : k = m := by omega
              rw [HO.out, h]⟩
          have HF : (x == y) = false → Aside0 (kntP T l1 a b = false) := fun h => ⟨kntP_false T l1 a b n m (by simpa using hn) hm (by rw [HO.out, h])⟩
          clear HO
          have HT' := Aside0.mk HT
          have HF' := Aside0.mk HF
          clear HT HF
          cases x <;> cases y
          · have HX := HT'.out rfl
            clear HT' HF'
            go_wp2
            go_quiet (first | (go_at_call 45; (with_reducible refine (impl_holdsOf.calls T A1 c1 l1 a b _ _ ?s1 HC1.out H1.out).mono ?_); (case s1 => repeat (first | exact HR1.out | (with_reducible refine Kd.C_alloc ?_ _) | (with_reducible refine Kd.C_drewN ?_ _) | (with_reducible refine Kd.C_drew ?_))); rintro e w' ⟨rfl, ⟨nd, rfl⟩⟩; (try first | exact ⟨rfl, _, World.drewN_drewN _ _ _⟩ | exact ⟨rfl, _, Eq.trans (World.drewN_drewN _ _ _) (congrArg (World.drewN _) (Nat.add_assoc _ _ _))⟩)) | (go_at_call 45; (with_reducible refine (impl_holdsOf.calls T A1 c1 l1 z1 z2 _ _ ?s1 HC1.out H2.out).mono ?_); (case s1 => repeat (first | exact HR1.out | (with_reducible refine Kd.C_alloc ?_ _) | (with_reducible refine Kd.C_drewN ?_ _) | (with_reducible refine Kd.C_drew ?_))); rintro e w' ⟨rfl, ⟨nd, rfl⟩⟩; (try first | exact ⟨rfl, _, World.drewN_drewN _ _ _⟩ | exact ⟨rfl, _, Eq.trans (World.drewN_drewN _ _ _) (congrArg (World.drewN _) (Nat.add_assoc _ _ _))⟩)) | (go_at_call 59; (with_reducible refine (impl_exchanged.calls a _ _ _ _ H3.out).mono ?_); rintro e w' ⟨rfl, ⟨nd, rfl⟩⟩; (try first | exact ⟨rfl, _, World.drewN_drewN _ _ _⟩ | exact ⟨rfl, _, Eq.trans (World.drewN_drewN _ _ _) (congrArg (World.drewN _) (Nat.add_assoc _ _ _))⟩)) | (go_at_call 59; (with_reducible refine (impl_exchanged.calls b _ _ _ _ H4.out).mono ?_); rintro e w' ⟨rfl, ⟨nd, rfl⟩⟩; (try first | exact ⟨rfl, _, World.drewN_drewN _ _ _⟩ | exact ⟨rfl, _, Eq.trans (World.drewN_drewN _ _ _) (congrArg (World.drewN _) (Nat.add_assoc _ _ _))⟩)))
            go_wp2
            go_roundg k2
            case measure => omega
            case rel => exact ⟨m + 1, by go_num, HX, by repeat (first | exact Drawn0.refl _ | apply Drawn0.step)⟩
          · have HX := HF'.out rfl
            clear HT' HF'
            go_wp2
            go_quiet (first | (go_at_call 45; (with_reducible refine (impl_holdsOf.calls T A1 c1 l1 a b _ _ ?s1 HC1.out H1.out).mono ?_); (case s1 => repeat (first | exact HR1.out | (with_reducible refine Kd.C_alloc ?_ _) | (with_reducible refine Kd.C_drewN ?_ _) | (with_reducible refine Kd.C_drew ?_))); rintro e w' ⟨rfl, ⟨nd, rfl⟩⟩; (try first | exact ⟨rfl, _, World.drewN_drewN _ _ _⟩ | exact ⟨rfl, _, Eq.trans (World.drewN_drewN _ _ _) (congrArg (World.drewN _) (Nat.add_assoc _ _ _))⟩)) | (go_at_call 45; (with_reducible refine (impl_holdsOf.calls T A1 c1 l1 z1 z2 _ _ ?s1 HC1.out H2.out).mono ?_); (case s1 => repeat (first | exact HR1.out | (with_reducible refine Kd.C_alloc ?_ _) | (with_reducible refine Kd.C_drewN ?_ _) | (with_reducible refine Kd.C_drew ?_))); rintro e w' ⟨rfl, ⟨nd, rfl⟩⟩; (try first | exact ⟨rfl, _, World.drewN_drewN _ _ _⟩ | exact ⟨rfl, _, Eq.trans (World.drewN_drewN _ _ _) (congrArg (World.drewN _) (Nat.add_assoc _ _ _))⟩)) | (go_at_call 59; (with_reducible refine (impl_exchanged.calls a _ _ _ _ H3.out).mono ?_); rintro e w' ⟨rfl, ⟨nd, rfl⟩⟩; (try first | exact ⟨rfl, _, World.drewN_drewN _ _ _⟩ | exact ⟨rfl, _, Eq.trans (World.drewN_drewN _ _ _) (congrArg (World.drewN _) (Nat.add_assoc _ _ _))⟩)) | (go_at_call 59; (with_reducible refine (impl_exchanged.calls b _ _ _ _ H4.out).mono ?_); rintro e w' ⟨rfl, ⟨nd, rfl⟩⟩; (try first | exact ⟨rfl, _, World.drewN_drewN _ _ _⟩ | exact ⟨rfl, _, Eq.trans (World.drewN_drewN _ _ _) (congrArg (World.drewN _) (Nat.add_assoc _ _ _))⟩)))
            go_wp2
            go_ret
            exact ⟨by unfold impl_KnowsNoThing.so; rw [HX.out]; rfl, by repeat (first | exact Drawn0.refl _ | apply Drawn0.step)⟩
          · have HX := HF'.out rfl
            clear HT' HF'
            go_wp2
            go_quiet (first | (go_at_call 45; (with_reducible refine (impl_holdsOf.calls T A1 c1 l1 a b _ _ ?s1 HC1.out H1.out).mono ?_); (case s1 => repeat (first | exact HR1.out | (with_reducible refine Kd.C_alloc ?_ _) | (with_reducible refine Kd.C_drewN ?_ _) | (with_reducible refine Kd.C_drew ?_))); rintro e w' ⟨rfl, ⟨nd, rfl⟩⟩; (try first | exact ⟨rfl, _, World.drewN_drewN _ _ _⟩ | exact ⟨rfl, _, Eq.trans (World.drewN_drewN _ _ _) (congrArg (World.drewN _) (Nat.add_assoc _ _ _))⟩)) | (go_at_call 45; (with_reducible refine (impl_holdsOf.calls T A1 c1 l1 z1 z2 _ _ ?s1 HC1.out H2.out).mono ?_); (case s1 => repeat (first | exact HR1.out | (with_reducible refine Kd.C_alloc ?_ _) | (with_reducible refine Kd.C_drewN ?_ _) | (with_reducible refine Kd.C_drew ?_))); rintro e w' ⟨rfl, ⟨nd, rfl⟩⟩; (try first | exact ⟨rfl, _, World.drewN_drewN _ _ _⟩ | exact ⟨rfl, _, Eq.trans (World.drewN_drewN _ _ _) (congrArg (World.drewN _) (Nat.add_assoc _ _ _))⟩)) | (go_at_call 59; (with_reducible refine (impl_exchanged.calls a _ _ _ _ H3.out).mono ?_); rintro e w' ⟨rfl, ⟨nd, rfl⟩⟩; (try first | exact ⟨rfl, _, World.drewN_drewN _ _ _⟩ | exact ⟨rfl, _, Eq.trans (World.drewN_drewN _ _ _) (congrArg (World.drewN _) (Nat.add_assoc _ _ _))⟩)) | (go_at_call 59; (with_reducible refine (impl_exchanged.calls b _ _ _ _ H4.out).mono ?_); rintro e w' ⟨rfl, ⟨nd, rfl⟩⟩; (try first | exact ⟨rfl, _, World.drewN_drewN _ _ _⟩ | exact ⟨rfl, _, Eq.trans (World.drewN_drewN _ _ _) (congrArg (World.drewN _) (Nat.add_assoc _ _ _))⟩)))
            go_wp2
            go_ret
            exact ⟨by unfold impl_KnowsNoThing.so; rw [HX.out]; rfl, by repeat (first | exact Drawn0.refl _ | apply Drawn0.step)⟩
          · have HX := HT'.out rfl
            clear HT' HF'
            go_wp2
            go_quiet (first | (go_at_call 45; (with_reducible refine (impl_holdsOf.calls T A1 c1 l1 a b _ _ ?s1 HC1.out H1.out).mono ?_); (case s1 => repeat (first | exact HR1.out | (with_reducible refine Kd.C_alloc ?_ _) | (with_reducible refine Kd.C_drewN ?_ _) | (with_reducible refine Kd.C_drew ?_))); rintro e w' ⟨rfl, ⟨nd, rfl⟩⟩; (try first | exact ⟨rfl, _, World.drewN_drewN _ _ _⟩ | exact ⟨rfl, _, Eq.trans (World.drewN_drewN _ _ _) (congrArg (World.drewN _) (Nat.add_assoc _ _ _))⟩)) | (go_at_call 45; (with_reducible refine (impl_holdsOf.calls T A1 c1 l1 z1 z2 _ _ ?s1 HC1.out H2.out).mono ?_); (case s1 => repeat (first | exact HR1.out | (with_reducible refine Kd.C_alloc ?_ _) | (with_reducible refine Kd.C_drewN ?_ _) | (with_reducible refine Kd.C_drew ?_))); rintro e w' ⟨rfl, ⟨nd, rfl⟩⟩; (try first | exact ⟨rfl, _, World.drewN_drewN _ _ _⟩ | exact ⟨rfl, _, Eq.trans (World.drewN_drewN _ _ _) (congrArg (World.drewN _) (Nat.add_assoc _ _ _))⟩)) | (go_at_call 59; (with_reducible refine (impl_exchanged.calls a _ _ _ _ H3.out).mono ?_); rintro e w' ⟨rfl, ⟨nd, rfl⟩⟩; (try first | exact ⟨rfl, _, World.drewN_drewN _ _ _⟩ | exact ⟨rfl, _, Eq.trans (World.drewN_drewN _ _ _) (congrArg (World.drewN _) (Nat.add_assoc _ _ _))⟩)) | (go_at_call 59; (with_reducible refine (impl_exchanged.calls b _ _ _ _ H4.out).mono ?_); rintro e w' ⟨rfl, ⟨nd, rfl⟩⟩; (try first | exact ⟨rfl, _, World.drewN_drewN _ _ _⟩ | exact ⟨rfl, _, Eq.trans (World.drewN_drewN _ _ _) (congrArg (World.drewN _) (Nat.add_assoc _ _ _))⟩)))
            go_wp2
            go_roundg k2
            case measure => omega
            case rel => exact ⟨m + 1, by go_num, HX, by repeat (first | exact Drawn0.refl _ | apply Drawn0.step)⟩
        · have hm0 : decide ((m : Int) < n) = false := decide_eq_false (by omega)
          have hm1 : decide (m < n) = false := decide_eq_false hm
          go_wp2
          go_roundg k1
          case measure => omega
          case rel =>
            have hmn : m = n := by have := HM.out.1; omega
            exact ⟨n + 1, by go_num, ⟨by have := HN.out.1; omega, fun i k hi hk => by
              rcases Nat.lt_or_ge i n with h' | h'
              · exact HN.out.2 i k h' hk
              · obtain rfl : i = n := by omega
                exact HM.out.2 k (by omega)⟩, by repeat (first | exact Drawn0.refl _ | apply Drawn0.step)⟩
    · have hn0 : decide ((n : Int) < T) = false := decide_eq_false (by omega)
      have hn1 : decide (n < T) = false := decide_eq_false hn
      go_wp2
      go_ret
      have hn6 : n = T := by have := HN.out.1; omega
      exact ⟨by unfold impl_KnowsNoThing.so; rw [kntP_true T l1 a b (fun i k hi hk => HN.out.2 i k (by simp at hi; omega) hk)]; rfl, by repeat (first | exact Drawn0.refl _ | apply Drawn0.step)⟩
set_option maxHeartbeats 2000000 in
set_option maxRecDepth 100000 in
theorem impl_KnowsNoThing.calls (a0 : Int) (A1 : Option Addr) (c1 : Nat) (l1 : List Int) (r : Bool) (w : World) (hr1 : Kd.C (Kd.int .i64) w A1 l1.length l1) (hc1 : l1.length ≤ c1) (h : impl_KnowsNoThing.f a0 l1 = some r) :
    Calls Try.prog 38 #[.int .i64 a0, .slice A1 l1.length c1] w fun e w' => e = .returned (.bool r) ∧ Below w.heap.size w w' := by
  have HT := Aside0.mk (isRelation_k a0 l1 hr1.2.1 (l1.length + 2) (by omega))
  have HB := Aside0.mk (below_alloc (below_alloc (Below.refl w.heap.size w) (.cells #[.int .i64 a0] 3)) (.cells #[.slice A1 l1.length c1] 22))
  have HR1 := Aside0.mk (Kd.C_alloc (Kd.C_alloc hr1 (.cells #[.int .i64 a0] 3)) (.cells #[.slice A1 l1.length c1] 22))
  have HC1 := Aside0.mk hc1
  obtain rfl : (isRel a0 l1 && forAllP a0 (impl_KnowsNoThing.so a0 l1)) = r := Option.some.inj h
  obtain ⟨x, ex⟩ : ∃ b, isRel a0 l1 = b := ⟨_, rfl⟩
  rw [ex] at HT ⊢
  cases x with
  | true =>
    obtain ⟨q1, q2, q3⟩ := isRel_range ex
    have HS := Aside0.mk (fun (nd : Nat) => show GivesSets 58 #[.pointer (some ⟨w.heap.size, 0, none⟩), .pointer (some ⟨w.heap.size + 1, 0, none⟩)] a0 (impl_KnowsNoThing.so a0 l1) (((w.alloc (.cells #[.int .i64 a0] 3)).alloc (.cells #[.slice A1 l1.length c1] 22)).drewN nd) from fun W a b hW h1 h2 h3 h4 =>
      impl_KnowsNoThing.lit a0 A1 c1 l1 w.heap.size (w.heap.size + 1) W q1 q2 q3 ((hW.cell (p := ⟨w.heap.size, 0, none⟩) (by simp; omega)).trans (by simp)) ((hW.cell (p := ⟨w.heap.size + 1, 0, none⟩) (by simp)).trans (by simp)) (Kd.C_below (Kd.C_drewN HR1.out nd) hW) hc1 a b h1 h2 h3 h4)
    have HQ := Aside0.mk (show 0 ≤ a0 ∧ a0 ≤ 3 from ⟨q1, q2⟩)
    rw [Bool.true_and]
    clear h ex q1 q2 q3 hr1 hc1
    go_enter Try.func38, Try.ntmps38
    go_wp2_with (first | (go_at_call 44; (with_reducible refine (impl_isRelation.calls _ a0 A1 c1 l1 _ _ ?s1 HC1.out HT.out).mono ?_); (case s1 => repeat (first | exact HR1.out | (with_reducible refine Kd.C_alloc ?_ _) | (with_reducible refine Kd.C_drewN ?_ _) | (with_reducible refine Kd.C_drew ?_))); rintro e w' ⟨rfl, ⟨nd, rfl⟩⟩) | (go_at_call 46; refine (impl_forAllSets.calls _ (enters_of Try.func58 (by kernel_rfl) rfl) _ a0 HQ.out.1 HQ.out.2 _ _ (HS.out _)).mono ?_; rintro e w' ⟨rfl, ⟨nd, rfl⟩⟩))
    go_ret
    exact ⟨rfl, by repeat (first | (with_reducible first | exact HB.out | apply below_alloc | apply pw_below_drewN | apply below_drew1) | exact HB.out)⟩
  | false =>
    rw [Bool.false_and]
    clear h ex hr1 hc1
    go_enter Try.func38, Try.ntmps38
    go_wp2_with (first | (go_at_call 44; (with_reducible refine (impl_isRelation.calls _ a0 A1 c1 l1 _ _ ?s1 HC1.out HT.out).mono ?_); (case s1 => repeat (first | exact HR1.out | (with_reducible refine Kd.C_alloc ?_ _) | (with_reducible refine Kd.C_drewN ?_ _) | (with_reducible refine Kd.C_drew ?_))); rintro e w' ⟨rfl, ⟨nd, rfl⟩⟩))
    go_ret
    exact ⟨rfl, by repeat (first | (with_reducible first | exact HB.out | apply below_alloc | apply pw_below_drewN | apply below_drew1) | exact HB.out)⟩

end Go.Proofs.Ythgkkhpndiiabaa.P

/- Plain facts: what the reference's and the program's KnowsNoThing come to, with enough rounds, for relations of at most 2^20 numbers. -/
namespace Go.Proofs.Ythgkkhpndiiabaa.P
open Go.RowKit Go.Proofs.YthgkkhpndiiabaaW.PrintWords Go.Proofs.YthgkkhpndiiabaaW.PrintLast

/-! KnowsNoThing -/
theorem swap_here (t s i k : Int) (h1 : 0 ≤ t) (h2 : t ≤ 3) (h3 : 0 ≤ s) (h4 : s < pw t) (h5 : 0 ≤ k) (h6 : k < i) (h7 : i < t) : spec_l2Swap.f s i k = some (exch s i k) := by
  have hf : ∀ T : Fin 4, ∀ x : Fin 8, ∀ p q : Fin 3, (x.val : Int) < pw T.val → q.val < p.val → p.val < T.val → spec_l2Swap.f x.val p.val q.val = some (exch x.val p.val q.val) := by decide +kernel
  have hp := pw_range t h1 h2
  obtain ⟨T, rfl⟩ := Int.eq_ofNat_of_zero_le h1
  obtain ⟨x, rfl⟩ := Int.eq_ofNat_of_zero_le h3
  obtain ⟨q, rfl⟩ := Int.eq_ofNat_of_zero_le h5
  obtain ⟨p, rfl⟩ := Int.eq_ofNat_of_zero_le (show 0 ≤ i by omega)
  exact hf ⟨T, by omega⟩ ⟨x, by omega⟩ ⟨p, by omega⟩ ⟨q, by omega⟩ h4 (show q < p by omega) (show p < T by omega)
theorem spec_KnowsNoThing_l3 (t : Int) (l : List Int) (h : isRel t l = true) (B : Nat) (hp : pw t = (B : Int)) (a b i : Nat) (ha : a < B) (hb : b < B) (hi : (i : Int) < t) (d : Nat) : ∀ (m q : Nat), q + d = i →
    spec_KnowsNoThing.l3 (m + d + 1) t l (a : Int) (b : Int) (i : Int) (q : Int) = if ((List.range' q d).all fun (q : Nat) => kntAt t l a b i q) = true then spec_KnowsNoThing.l2 m t l (a : Int) (b : Int) ((i + 1 : Nat) : Int) else some false := by
  obtain ⟨h1, h2, h3⟩ := isRel_range h
  induction d with
  | zero =>
    intro m q g
    simp only [spec_KnowsNoThing.l3]
    rw [if_neg (by omega), wrap_succ i 100 (by omega) (by omega), List.range'_zero, List.all_nil, if_pos rfl]
  | succ d ih =>
    intro m q g
    obtain ⟨M, hM⟩ : ∃ M, M = m + d + 1 := ⟨_, rfl⟩
    rw [show m + (d + 1) + 1 = M + 1 from by omega]
    simp only [spec_KnowsNoThing.l3]
    have e1 := swap_here t a i q h1 h2 (by omega) (by omega) (by omega) (by omega) hi
    have e2 := swap_here t b i q h1 h2 (by omega) (by omega) (by omega) (by omega) hi
    have x1 := exch_here t a i q h1 h2 (by omega) (by omega) (by omega) (by omega) hi
    have x2 := exch_here t b i q h1 h2 (by omega) (by omega) (by omega) (by omega) hi
    have j1 := index_range t a b h1 h2 (by omega) (by omega) (by omega) (by omega)
    have j2 := index_range t (exch a i q) (exch b i q) h1 h2 x1.2.1 x1.2.2 x2.2.1 x2.2.2
    rw [if_pos (by omega), if_pos h1, e1, e2, Option.bind_some, Option.bind_some, idx_wrap t a b h1 h2 (by omega) (by omega) (by omega) (by omega), idx_wrap t _ _ h1 h2 x1.2.1 x1.2.2 x2.2.1 x2.2.2, if_pos j1.1, if_pos (by rw [h3]; exact j1.2.1), if_pos j2.1, if_pos (by rw [h3]; exact j2.2.1), wrap_succ q 100 (by omega) (by omega), hM, ih m (q + 1) (by omega), show List.range' q (d + 1) = q :: List.range' (q + 1) d from rfl, List.all_cons]
    have hs := rel_same t l h a b (exch a i q) (exch b i q)
    by_cases c : rd l (↑a * pw t + ↑b) = rd l (exch ↑a ↑i ↑q * pw t + exch ↑b ↑i ↑q)
    · rw [if_pos c, show kntAt t l a b i q = true from hs.1 c, Bool.true_and]
    · rw [if_neg c, show kntAt t l a b i q = false from Bool.eq_false_iff.mpr (fun g => c (hs.2 g)), Bool.false_and, if_neg (by decide)]
theorem spec_KnowsNoThing_l2 (t : Int) (l : List Int) (h : isRel t l = true) (B T : Nat) (hp : pw t = (B : Int)) (hT : t = (T : Int)) (a b : Nat) (ha : a < B) (hb : b < B) (hb8 : B ≤ 8) (e : Nat) : ∀ (k i : Nat), i + e = T → 20 * e + 20 < k →
    ∃ k', k ≤ k' + 20 * e + 20 ∧ spec_KnowsNoThing.l2 k t l (a : Int) (b : Int) (i : Int) = if ((List.range' i e).all fun (i : Nat) => (List.range' 0 i).all fun (q : Nat) => kntAt t l a b i q) = true then spec_KnowsNoThing.l1 k' t l (a : Int) ((b + 1 : Nat) : Int) else some false := by
  obtain ⟨h1, h2, h3⟩ := isRel_range h
  induction e with
  | zero =>
    intro k i g hk
    obtain ⟨k, rfl⟩ : ∃ m, k = m + 1 := ⟨k - 1, by omega⟩
    refine ⟨k, by omega, ?_⟩
    simp only [spec_KnowsNoThing.l2]
    rw [if_neg (by omega), wrap_succ b 100 (by omega) (by omega), List.range'_zero, List.all_nil, if_pos rfl]
  | succ e ih =>
    intro k i g hk
    obtain ⟨k, rfl⟩ : ∃ m, k = m + i + 1 + 1 := ⟨k - (i + 2), by omega⟩
    obtain ⟨k', hk', hh⟩ := ih k (i + 1) (by omega) (by omega)
    refine ⟨k', by omega, ?_⟩
    have := spec_KnowsNoThing_l3 t l h B hp a b i ha hb (by omega) i k 0 (by omega)
    simp only [spec_KnowsNoThing.l2]
    rw [if_pos (by omega)]
    refine Eq.trans this ?_
    rw [hh, show List.range' i (e + 1) = i :: List.range' (i + 1) e from rfl, List.all_cons]
    cases ((List.range' 0 i).all fun (q : Nat) => kntAt t l a b i q) <;> first | rfl | simp
theorem knt_all (t : Int) (l : List Int) (T : Nat) (hT : t = (T : Int)) (a b : Int) : ((List.range' 0 T).all fun (i : Nat) => (List.range' 0 i).all fun (q : Nat) => kntAt t l a b i q) = kntP t l a b := by
  unfold kntP
  rw [show t.toNat = T from by omega]
  simp only [List.range_eq_range']
theorem spec_KnowsNoThing_l1 (t : Int) (l : List Int) (h : isRel t l = true) (B T : Nat) (hp : pw t = (B : Int)) (hT : t = (T : Int)) (hb8 : B ≤ 8) (a : Nat) (ha : a < B) (e : Nat) : ∀ (k b : Nat), b + e = B → 100 * e + 100 < k →
    ∃ k', k ≤ k' + 100 * e + 100 ∧ spec_KnowsNoThing.l1 k t l (a : Int) (b : Int) = if ((List.range' b e).all fun (b : Nat) => kntP t l a b) = true then spec_KnowsNoThing.l0 k' t l ((a + 1 : Nat) : Int) else some false := by
  obtain ⟨h1, h2, h3⟩ := isRel_range h
  induction e with
  | zero =>
    intro k b g hk
    obtain ⟨k, rfl⟩ : ∃ m, k = m + 1 := ⟨k - 1, by omega⟩
    refine ⟨k, by omega, ?_⟩
    simp only [spec_KnowsNoThing.l1]
    rw [if_pos h1, shl_one t h1 h2, hp, if_neg (by omega), wrap_succ a 100 (by omega) (by omega), List.range'_zero, List.all_nil, if_pos rfl]
  | succ e ih =>
    intro k b g hk
    obtain ⟨k, rfl⟩ : ∃ m, k = m + 1 := ⟨k - 1, by omega⟩
    obtain ⟨k1, hk1, hh1⟩ := spec_KnowsNoThing_l2 t l h B T hp hT a b ha (by omega) hb8 T k 0 (by omega) (by omega)
    obtain ⟨k', hk', hh⟩ := ih k1 (b + 1) (by omega) (by omega)
    refine ⟨k', by omega, ?_⟩
    rw [knt_all t l T hT] at hh1
    simp only [spec_KnowsNoThing.l1]
    rw [if_pos h1, shl_one t h1 h2, hp, if_pos (by omega)]
    refine Eq.trans hh1 ?_
    rw [hh, show List.range' b (e + 1) = b :: List.range' (b + 1) e from rfl, List.all_cons]
    cases kntP t l a b <;> first | rfl | simp
theorem spec_KnowsNoThing_l0 (t : Int) (l : List Int) (h : isRel t l = true) (B T : Nat) (hp : pw t = (B : Int)) (hT : t = (T : Int)) (hb8 : B ≤ 8) (e : Nat) : ∀ (k a : Nat), a + e = B → 1000 * e + 1000 < k →
    spec_KnowsNoThing.l0 k t l (a : Int) = some ((List.range' a e).all fun (a : Nat) => (List.range' 0 B).all fun (b : Nat) => kntP t l a b) := by
  obtain ⟨h1, h2, h3⟩ := isRel_range h
  induction e with
  | zero =>
    intro k a g hk
    obtain ⟨k, rfl⟩ : ∃ m, k = m + 1 := ⟨k - 1, by omega⟩
    simp only [spec_KnowsNoThing.l0]
    rw [if_pos h1, shl_one t h1 h2, hp, if_neg (by omega), List.range'_zero, List.all_nil]
  | succ e ih =>
    intro k a g hk
    obtain ⟨k, rfl⟩ : ∃ m, k = m + 1 := ⟨k - 1, by omega⟩
    obtain ⟨k1, hk1, hh1⟩ := spec_KnowsNoThing_l1 t l h B T hp hT hb8 a (by omega) B k 0 (by omega) (by omega)
    simp only [spec_KnowsNoThing.l0]
    rw [if_pos h1, shl_one t h1 h2, hp, if_pos (by omega)]
    refine Eq.trans hh1 ?_
    rw [ih k1 (a + 1) (by omega) (by omega), show List.range' a (e + 1) = a :: List.range' (a + 1) e from rfl, List.all_cons]
    cases ((List.range' 0 B).all fun (b : Nat) => kntP t l a b) <;> first | rfl | simp
def kntAllP (t : Int) (l : List Int) : Bool := isRel t l && forAllP t (impl_KnowsNoThing.so t l)
theorem spec_KnowsNoThing_k (t : Int) (l : List Int) (hl : l.length ≤ 1048576) (k : Nat) (hk : 1048600 ≤ k) : spec_KnowsNoThing.f k t l = some (kntAllP t l) := by
  unfold spec_KnowsNoThing.f kntAllP
  rw [spec_RelationOk_k t l hl k hk, Option.bind_some]
  by_cases h : isRel t l = true
  · obtain ⟨h1, h2, h3⟩ := isRel_range h
    obtain ⟨B, hp, hb8, hB⟩ := pw_nat t h1 h2
    obtain ⟨T, hT⟩ := Int.eq_ofNat_of_zero_le h1
    rw [if_pos h, h, Bool.true_and, ← forAll_range t B hB]
    exact spec_KnowsNoThing_l0 t l h B T hp hT hb8 B k 0 (by omega) (by omega)
  · rw [if_neg h, Bool.eq_false_iff.mpr h, Bool.false_and]
theorem impl_KnowsNoThing_k (t : Int) (l : List Int) (_hl : l.length ≤ 1048576) (k : Nat) (_hk : 1048600 ≤ k) : impl_KnowsNoThing.f t l = some (kntAllP t l) := rfl

end Go.Proofs.Ythgkkhpndiiabaa.P

/- Plain facts on lists of numbers by rows of one length. No condition beyond those typed. -/
namespace Go.Proofs.Ythgkkhpndiiabaa.P
open Go.RowKit Go.Proofs.YthgkkhpndiiabaaW.PrintWords Go.Proofs.YthgkkhpndiiabaaW.PrintLast

def rowB (f : Int → Int → Int) (a m : Nat) : List Int := (List.range m).map fun (s : Nat) => f (a : Int) (s : Int)
def rowsB (f : Int → Int → Int) (B n : Nat) : List Int := (List.range n).flatMap fun a => rowB f a B
theorem rowB_zero (f : Int → Int → Int) (a : Nat) : rowB f a 0 = [] := rfl
theorem rowB_succ (f : Int → Int → Int) (a m : Nat) : rowB f a (m + 1) = rowB f a m ++ [f a m] := by simp [rowB, List.range_succ]
theorem rowsB_succ (f : Int → Int → Int) (B n : Nat) : rowsB f B (n + 1) = rowsB f B n ++ rowB f n B := by simp [rowsB, List.range_succ]
theorem rowB_length (f : Int → Int → Int) (a m : Nat) : (rowB f a m).length = m := by simp [rowB]
theorem rowsB_length (f : Int → Int → Int) (B : Nat) : ∀ n, (rowsB f B n).length = n * B
  | 0 => by simp [rowsB]
  | n + 1 => by rw [rowsB_succ, List.length_append, rowsB_length f B n, rowB_length, Nat.succ_mul]
theorem rowsB_bound (f : Int → Int → Int) (B n m : Nat) (hB : B ≤ 8) (hn : n ≤ 8) (hm : m ≤ 8) : (rowsB f B n ++ rowB f n m).length < 17592186044416 := by
  rw [List.length_append, rowsB_length, rowB_length]
  have := Nat.mul_le_mul hn hB
  omega
end Go.Proofs.Ythgkkhpndiiabaa.P

/- Plain facts on triangles: what the printed l1In, PlaceOf, TriangleOk (reference and program) come to; lists of 21 numbers by places. -/
namespace Go.Proofs.Ythgkkhpndiiabaa.P
open Go.RowKit Go.Proofs.YthgkkhpndiiabaaW.PrintWords Go.Proofs.YthgkkhpndiiabaaW.PrintLast

theorem l1In_eq (n a b : Int) : spec_l1In.f n a b = some (decide (a ≤ n ∧ n ≤ b)) := by
  unfold spec_l1In.f
  by_cases h : n ≥ a
  · rw [if_pos h]; congr 1; rw [decide_eq_decide]; omega
  · rw [if_neg h]; congr 1; symm; rw [decide_eq_false_iff_not]; omega
/-- The place of an entry. -/
def pl (a s : Int) : Int := a * (a + 1) / 2 + s
theorem five (a : Int) (h1 : 0 ≤ a) (h2 : a ≤ 5) : a = 0 ∨ a = 1 ∨ a = 2 ∨ a = 3 ∨ a = 4 ∨ a = 5 := by omega
theorem pl_range (a s : Int) (h1 : 0 ≤ a) (h2 : a ≤ 5) (h3 : 0 ≤ s) (h4 : s ≤ a) : 0 ≤ pl a s ∧ pl a s < 21 := by
  unfold pl
  rcases five a h1 h2 with rfl | rfl | rfl | rfl | rfl | rfl <;> omega
theorem pl_wrap (a s : Int) (h1 : 0 ≤ a) (h2 : a ≤ 5) (h3 : 0 ≤ s) (h4 : s ≤ a) : wrap64 ((wrap64 (Int.tdiv (wrap64 (a * (wrap64 (a + 1)))) 2)) + s) = pl a s := by
  unfold pl
  rcases five a h1 h2 with rfl | rfl | rfl | rfl | rfl | rfl <;> (simp [wrap64]; omega)
/-- The place, or -1. -/
def plOr (a s : Int) : Int := if 0 ≤ a ∧ a ≤ 5 ∧ 0 ≤ s ∧ s ≤ a then pl a s else -1
theorem spec_PlaceOf_eq (a s : Int) : spec_PlaceOf.f a s = some (plOr a s) := by
  unfold spec_PlaceOf.f plOr
  simp only [l1In_eq, Option.bind_some, decide_eq_true_eq]
  by_cases h : 0 ≤ a ∧ a ≤ 5
  · rw [if_pos h]
    by_cases h' : 0 ≤ s ∧ s ≤ a
    · rw [if_pos h', if_pos ⟨h.1, h.2, h'.1, h'.2⟩, pl_wrap a s h.1 h.2 h'.1 h'.2]
    · rw [if_neg h', if_neg (fun h2 => h' ⟨h2.2.2.1, h2.2.2.2⟩)]
  · rw [if_neg h, if_neg (fun h2 => h ⟨h2.1, h2.2.1⟩)]
theorem plOr_in (a s : Int) (h1 : 0 ≤ a) (h2 : a ≤ 5) (h3 : 0 ≤ s) (h4 : s ≤ a) : plOr a s = pl a s := if_pos ⟨h1, h2, h3, h4⟩

theorem spec_TriangleOk_round (l : List Int) (hl : l.length ≤ 1048576) (d : Nat) : ∀ (k i : Nat), i + d = l.length → d < k → spec_TriangleOk.l0 k l (i : Int) = some ((l.drop i).all (fun x => x == 0 || x == 1) && l.length == 21) := by
  induction d with
  | zero =>
    intro k i h hk
    obtain ⟨k, rfl⟩ : ∃ m, k = m + 1 := ⟨k - 1, by omega⟩
    simp only [spec_TriangleOk.l0]
    rw [if_neg (by omega), List.drop_of_length_le (by omega), List.all_nil, Bool.true_and]
    congr 1
    rw [Bool.eq_iff_iff, beq_iff_eq, beq_iff_eq]
    omega
  | succ d ih =>
    intro k i h hk
    obtain ⟨k, rfl⟩ : ∃ m, k = m + 1 := ⟨k - 1, by omega⟩
    have hi : i < l.length := by omega
    have hd_ : l.drop i = l[i] :: l.drop (i + 1) := List.drop_eq_getElem_cons hi
    simp only [spec_TriangleOk.l0]
    rw [if_pos (by omega), if_pos (by omega), rd_get l i hi, l1In_eq, Option.bind_some, wrap_succ i l.length hi hl, ih k (i + 1) (by omega) (by omega), hd_, List.all_cons]
    by_cases h0 : l[i] = 0 ∨ l[i] = 1
    · rw [if_pos (decide_eq_true (by omega)), show (l[i] == 0 || l[i] == 1) = true from by simpa using h0, Bool.true_and]
    · rw [if_neg (by rw [decide_eq_true_eq]; omega), show (l[i] == 0 || l[i] == 1) = false from by simpa using h0, Bool.false_and, Bool.false_and]
theorem spec_TriangleOk_k (l : List Int) (hl : l.length ≤ 1048576) (k : Nat) (hk : 1048576 < k) : spec_TriangleOk.f k l = some (isTri l) := by
  unfold spec_TriangleOk.f isTri
  simpa using spec_TriangleOk_round l hl l.length k 0 (by omega) (by omega)
theorem impl_isTriangle_k (l : List Int) (hl : l.length ≤ 1048576) (k : Nat) (hk : 1048576 < k) : impl_isTriangle.f k l = some (isTri l) := by
  unfold impl_isTriangle.f isTri
  simpa using isTriangle_round l (by omega) l.length k 0 (by omega) (by omega)
/-! The 21 places. -/
def pairs : List (Int × Int) := [(0, 0), (1, 0), (1, 1), (2, 0), (2, 1), (2, 2), (3, 0), (3, 1), (3, 2), (3, 3), (4, 0), (4, 1), (4, 2), (4, 3), (4, 4), (5, 0), (5, 1), (5, 2), (5, 3), (5, 4), (5, 5)]
/-- The list of a number at each place. -/
def triI (f : Int → Int → Int) : List Int := pairs.map fun p => f p.1 p.2
theorem pairs_range (p : Int × Int) (h : p ∈ pairs) : 0 ≤ p.1 ∧ p.1 ≤ 5 ∧ 0 ≤ p.2 ∧ p.2 ≤ p.1 := by
  revert p
  decide
theorem triI_length (f : Int → Int → Int) : (triI f).length = 21 := by simp [triI, pairs]
theorem triBy_eq (so : Int → Int → Bool) : triBy so = triI fun a s => if so a s = true then 1 else 0 := rfl
theorem tri_list (l : List Int) (h : l.length = 21) : l = triI fun a s => rd l (pl a s) := by
  match l, h with
  | [x0, x1, x2, x3, x4, x5, x6, x7, x8, x9, x10, x11, x12, x13, x14, x15, x16, x17, x18, x19, x20], _ => rfl
theorem triI_congr (f g : Int → Int → Int) (h : ∀ a s, 0 ≤ a → a ≤ 5 → 0 ≤ s → s ≤ a → f a s = g a s) : triI f = triI g := by
  unfold triI
  apply List.map_congr_left
  intro p hp
  obtain ⟨h1, h2, h3, h4⟩ := pairs_range p hp
  exact h p.1 p.2 h1 h2 h3 h4
theorem triI_map (f : Int → Int → Int) (g : Int → Int) : (triI f).map g = triI fun a s => g (f a s) := by
  simp [triI, Function.comp_def]
theorem tri_bit (l : List Int) (h : isTri l = true) (i : Int) : rd l i = 0 ∨ rd l i = 1 := by
  unfold rd
  rw [List.getD_eq_getElem?_getD]
  by_cases hi : i.toNat < l.length
  · rw [List.getElem?_eq_getElem hi, Option.getD_some]
    simp only [isTri, Bool.and_eq_true, List.all_eq_true] at h
    have := h.1 _ (List.getElem_mem hi)
    simpa using this
  · rw [List.getElem?_eq_none (by omega)]
    exact .inl rfl
theorem isTri_of (l : List Int) (h1 : l.length = 21) (h2 : ∀ x ∈ l, x = 0 ∨ x = 1) : isTri l = true := by
  simp only [isTri, Bool.and_eq_true, List.all_eq_true]
  exact ⟨fun x hx => by simpa using h2 x hx, by simpa using h1⟩
theorem isTri_triI (f : Int → Int → Int) (h : ∀ a s, 0 ≤ a → a ≤ 5 → 0 ≤ s → s ≤ a → f a s = 0 ∨ f a s = 1) : isTri (triI f) = true := by
  refine isTri_of _ (triI_length f) fun x hx => ?_
  obtain ⟨p, hp, rfl⟩ := List.mem_map.mp hx
  obtain ⟨h1, h2, h3, h4⟩ := pairs_range p hp
  exact h p.1 p.2 h1 h2 h3 h4
theorem isTri_triBy (so : Int → Int → Bool) : isTri (triBy so) = true := by
  rw [triBy_eq]
  refine isTri_triI _ fun a s _ _ _ _ => ?_
  by_cases h : so a s = true
  · rw [if_pos h]; exact .inr rfl
  · rw [if_neg h]; exact .inl rfl
/-- The entry at a place, of a list that is told by places. -/
theorem rd_triI (f : Int → Int → Int) (a s : Int) (h1 : 0 ≤ a) (h2 : a ≤ 5) (h3 : 0 ≤ s) (h4 : s ≤ a) : rd (triI f) (pl a s) = f a s := by
  rcases five a h1 h2 with rfl | rfl | rfl | rfl | rfl | rfl
  · obtain rfl : s = 0 := by omega
    rfl
  · rcases (show s = 0 ∨ s = 1 from by omega) with rfl | rfl <;> rfl
  · rcases (show s = 0 ∨ s = 1 ∨ s = 2 from by omega) with rfl | rfl | rfl <;> rfl
  · rcases (show s = 0 ∨ s = 1 ∨ s = 2 ∨ s = 3 from by omega) with rfl | rfl | rfl | rfl <;> rfl
  · rcases (show s = 0 ∨ s = 1 ∨ s = 2 ∨ s = 3 ∨ s = 4 from by omega) with rfl | rfl | rfl | rfl | rfl <;> rfl
  · rcases (show s = 0 ∨ s = 1 ∨ s = 2 ∨ s = 3 ∨ s = 4 ∨ s = 5 from by omega) with rfl | rfl | rfl | rfl | rfl | rfl <;> rfl
theorem hd_triBy (so : Int → Int → Bool) (a s : Int) (h1 : 0 ≤ a) (h2 : a ≤ 5) (h3 : 0 ≤ s) (h4 : s ≤ a) : hd (triBy so) a s = so a s := by
  have := rd_triI (fun a s => if so a s = true then 1 else 0) a s h1 h2 h3 h4
  unfold hd
  rw [triBy_eq, show a * (a + 1) / 2 + s = pl a s from rfl, this]
  cases so a s <;> rfl

end Go.Proofs.Ythgkkhpndiiabaa.P
