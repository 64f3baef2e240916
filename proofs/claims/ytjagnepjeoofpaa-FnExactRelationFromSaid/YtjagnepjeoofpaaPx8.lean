-- Written by wip/gen/lay.py, a program of this session, with the kit's print as its base. Lean checks every line.
import Derived.Test.YtjagnepjeoofpaaPx0
import Derived.Test.YtjagnepjeoofpaaPx3
import Derived.Test.YtjagnepjeoofpaaPx5
namespace Go.Proofs.Ytjagnepjeoofpaa.P
open Go.RowKit Go.Proofs.YtjagnepjeoofpaaW.PrintWords Go.Proofs.YtjagnepjeoofpaaW.PrintLast Go.Proofs.YtjagnepjeoofpaaW.PrintMore
attribute [local go_sem] max2_int min2_int max_two min_two max_three min_three max_four min_four   -- for this text's walks alone
set_option linter.unusedVariables false
set_option linter.unusedSimpArgs false

/-! ### HAND impl_forAllSets: function 46 -/
/-- What a function value of two sets hands back, for all sets of a world of t things. -/
def GivesSets (g : Nat) (cap : Array Value) (t : Int) (so : Int → Int → Bool) (w : World) : Prop :=
  ∀ (W : World) (a b : Int), Below w.heap.size w W → 0 ≤ a → a < pw t → 0 ≤ b → b < pw t →
    Calls Try.prog g (#[.int .i64 a, .int .i64 b] ++ cap) W fun e w' => e = .returned (.bool (so a b)) ∧ Drawn0 W w'
theorem shl_at (a t : Int) (h1 : 0 ≤ t) (h2 : t ≤ 3) (h3 : 0 ≤ a) (h4 : a < 8) : shl .i64 a t = a * pw t := by
  have hm : (2 : Int) ^ min t.toNat (IntKind.i64).bits = pw t := by
    rcases three t h1 h2 with rfl | rfl | rfl | rfl <;> decide +kernel
  have hp : pw t = 1 ∨ pw t = 2 ∨ pw t = 4 ∨ pw t = 8 := by
    rcases three t h1 h2 with rfl | rfl | rfl | rfl <;> decide +kernel
  unfold shl
  rw [hm, i64_w]
  unfold wrap64
  rcases hp with e | e | e | e <;> rw [e] <;> omega
theorem holdsOf_here (t : Int) (rel : List Int) (a b : Int) (h1 : 0 ≤ t) (h2 : t ≤ 3) (hl : rel.length = 4 ^ t.toNat) (h3 : 0 ≤ a) (h4 : a < pw t) (h5 : 0 ≤ b) (h6 : b < pw t) : impl_holdsOf.f t rel a b = some (hr t rel a b) := by
  have hp := pw_range t h1 h2
  have hi := index_range t a b h1 h2 h3 h4 h5 h6
  have hw : wrap64 (shl .i64 a t + b) = a * pw t + b := by rw [shl_at a t h1 h2 h3 (by omega)]; unfold wrap64; omega
  unfold impl_holdsOf.f hr
  rw [if_pos h1, hw, if_pos hi.1, if_pos (by rw [hl]; exact hi.2.1)]
theorem isRelation_round (l : List Int) (hl : l.length ≤ 9223372036854775807) (d : Nat) : ∀ (k i : Nat), i + d = l.length → d < k → impl_isRelation.l0 k l (l.length : Int) (i : Int) = some ((l.drop i).all (fun x => x == 0 || x == 1)) := by
  induction d with
  | zero =>
    intro k i h hk
    obtain ⟨k, rfl⟩ : ∃ m, k = m + 1 := ⟨k - 1, by omega⟩
    simp only [impl_isRelation.l0]
    rw [if_neg (by omega), List.drop_of_length_le (by omega), List.all_nil]
  | succ d ih =>
    intro k i h hk
    obtain ⟨k, rfl⟩ : ∃ m, k = m + 1 := ⟨k - 1, by omega⟩
    have hi : i < l.length := by omega
    have hr : rd l (i : Int) = l[i] := by simp [rd, List.getD_eq_getElem?_getD, List.getElem?_eq_getElem hi]
    have hd_ : l.drop i = l[i] :: l.drop (i + 1) := List.drop_eq_getElem_cons hi
    have hw : wrap64 ((i : Int) + 1) = ((i + 1 : Nat) : Int) := by unfold wrap64; omega
    simp only [impl_isRelation.l0]
    rw [if_pos (by omega), if_pos (by omega), if_pos (by omega), hr, hw, ih k (i + 1) (by omega) (by omega), hd_, List.all_cons]
    by_cases h0 : l[i] = 0
    · rw [if_pos h0, show (l[i] == 0 || l[i] == 1) = true from by simp [h0], Bool.true_and]
    · by_cases h1 : l[i] = 1
      · rw [if_neg h0, if_pos h1, show (l[i] == 0 || l[i] == 1) = true from by simp [h1], Bool.true_and]
      · rw [if_neg h0, if_neg h1, show (l[i] == 0 || l[i] == 1) = false from by simp [h0, h1], Bool.false_and]
theorem isRelation_k (t : Int) (l : List Int) (hl : l.length ≤ 9223372036854775807) (k : Nat) (hk : l.length + 1 < k) : impl_isRelation.f k t l = some (isRel t l) := by
  obtain ⟨k, rfl⟩ : ∃ m, k = m + 1 := ⟨k - 1, by omega⟩
  unfold impl_isRelation.f isRel
  by_cases h1 : t < 0
  · rw [if_pos h1, show decide (0 ≤ t ∧ t ≤ 3) = false from decide_eq_false (by omega), Bool.false_and]
    simp only [impl_isRelation.j0]; rfl
  · by_cases h2 : t > 3
    · rw [if_neg h1, if_pos h2, show decide (0 ≤ t ∧ t ≤ 3) = false from decide_eq_false (by omega), Bool.false_and]
      simp only [impl_isRelation.j0]; rfl
    · have hs : shl .i64 1 (wrap64 (2 * t)) = ((4 ^ t.toNat : Nat) : Int) := by
        rcases three t (by omega) (by omega) with rfl | rfl | rfl | rfl <;> decide +kernel
      have hw : 0 ≤ wrap64 (2 * t) := by unfold wrap64; omega
      have hr := isRelation_round l hl l.length k 0 (by omega) (by omega)
      rw [List.drop_zero] at hr
      rw [if_neg h1, if_neg h2, if_pos hw, hs, show decide (0 ≤ t ∧ t ≤ 3) = true from decide_eq_true (by omega), Bool.true_and]
      simp only [impl_isRelation.j0]
      by_cases h3 : l.length = 4 ^ t.toNat
      · rw [show ((l.length : Int) != ((4 ^ t.toNat : Nat) : Int)) = false from by rw [h3]; simp, if_neg (by decide), show (l.length == 4 ^ t.toNat) = true from by rw [h3]; simp, Bool.true_and]
        exact hr
      · rw [show ((l.length : Int) != ((4 ^ t.toNat : Nat) : Int)) = true from by rw [bne_iff_ne]; omega, if_pos rfl, show (l.length == 4 ^ t.toNat) = false from by simpa using h3, Bool.false_and]
set_option maxHeartbeats 1000000 in
set_option maxRecDepth 100000 in
theorem impl_forAllSets.at0 (g : Nat) (eg : ∀ args w, (callFunc g args).run Try.prog w = .ok (.enter g args) w) (cap : Array Value) (so : Int → Int → Bool) (w : World) (hs : GivesSets g cap 0 so w) :
    Calls Try.prog 46 #[.int .i64 0, .func (.func g) #[] cap] w fun e w' => e = .returned (.bool (forAllP 0 so)) ∧ Drawn0 w w' := by
  have HS := Aside0.mk hs
  clear hs
  go_enter Try.func46, Try.ntmps46
  go_wp2
  go_loopg [9] 1 (fun kq v9 w' => ∃ (n : Nat), v9 = .int .i64 n ∧ Aside0 (n + kq = 1 ∧ ∀ a b : Nat, a < n → b < 1 → so a b = true) ∧ Drawn0 w w')
  case atStart => exact ⟨0, rfl, ⟨rfl, fun a b h => absurd h (by omega)⟩, by repeat (first | exact Drawn0.refl _ | apply Drawn0.step)⟩
  case round =>
    obtain ⟨n, rfl, HN, ⟨m1, rfl⟩⟩ := hrel
    by_cases hn : n < 1
    · obtain ⟨k1, rfl⟩ : ∃ m, gk = m + 1 := ⟨gk - 1, by have := HN.out.1; omega⟩
      have hn0 : decide ((n : Int) < 1) = true := decide_eq_true (by omega)
      go_wp2
      go_loopg [14] 1 (fun kq v14 w' => ∃ (m : Nat), v14 = .int .i64 m ∧ Aside0 (m + kq = 1 ∧ ∀ b : Nat, b < m → so n b = true) ∧ Drawn0 w w')
      case atStart => exact ⟨0, rfl, ⟨by omega, fun s h => absurd h (by omega)⟩, by repeat (first | exact Drawn0.refl _ | apply Drawn0.step)⟩
      case round =>
        obtain ⟨m, rfl, HM, ⟨m2, rfl⟩⟩ := hrel
        by_cases hm : m < 1
        · obtain ⟨k2, rfl⟩ : ∃ j, gk = j + 1 := ⟨gk - 1, by have := HM.out.1; omega⟩
          obtain ⟨y, ey⟩ : ∃ b, so n m = b := ⟨_, rfl⟩
          have HS1 := Aside0.mk (fun W hW => show Calls Try.prog g (#[.int .i64 (n : Int), .int .i64 (m : Int)] ++ cap) W (fun e w' => e = .returned (.bool y) ∧ Drawn0 W w') from by
            rw [← ey]
            exact HS.out W n m hW (by omega) (by show (n : Int) < 1; omega) (by omega) (by show (m : Int) < 1; omega))
          have EY := Aside0.mk ey
          clear ey
          cases y with
          | true =>
            go_wp2_with (first | (go_at_fn g; refine (HS1.out _ (pw_below_drewN (Below.refl _ _) _)).mono ?_; rintro e w' ⟨rfl, ⟨nd, rfl⟩⟩))
            go_roundg k2
            case measure => omega
            case rel => exact ⟨m + 1, by go_num, ⟨by have := HM.out.1; omega, fun b hb => by
              rcases Nat.lt_or_ge b m with h' | h'
              · exact HM.out.2 b h'
              · obtain rfl : b = m := by omega
                exact EY.out⟩, by repeat (first | exact Drawn0.refl _ | apply Drawn0.step)⟩
          | false =>
            go_wp2_with (first | (go_at_fn g; refine (HS1.out _ (pw_below_drewN (Below.refl _ _) _)).mono ?_; rintro e w' ⟨rfl, ⟨nd, rfl⟩⟩))
            go_ret
            exact ⟨by rw [forAllP_false 0 so 1 rfl n m hn hm EY.out]; rfl, by repeat (first | exact Drawn0.refl _ | apply Drawn0.step)⟩
        · go_wp2
          go_roundg k1
          case measure => omega
          case rel =>
            have hmn : m = 1 := by have := HM.out.1; omega
            exact ⟨n + 1, by go_num, ⟨by have := HN.out.1; omega, fun a b ha hb => by
              rcases Nat.lt_or_ge a n with h' | h'
              · exact HN.out.2 a b h' hb
              · obtain rfl : a = n := by omega
                exact HM.out.2 b (by omega)⟩, by repeat (first | exact Drawn0.refl _ | apply Drawn0.step)⟩
    · go_wp2
      go_ret
      have hn6 : n = 1 := by have := HN.out.1; omega
      exact ⟨by rw [forAllP_true 0 so 1 rfl (fun a b ha hb => HN.out.2 a b (by omega) hb)]; rfl, by repeat (first | exact Drawn0.refl _ | apply Drawn0.step)⟩
set_option maxHeartbeats 1000000 in
set_option maxRecDepth 100000 in
theorem impl_forAllSets.at1 (g : Nat) (eg : ∀ args w, (callFunc g args).run Try.prog w = .ok (.enter g args) w) (cap : Array Value) (so : Int → Int → Bool) (w : World) (hs : GivesSets g cap 1 so w) :
    Calls Try.prog 46 #[.int .i64 1, .func (.func g) #[] cap] w fun e w' => e = .returned (.bool (forAllP 1 so)) ∧ Drawn0 w w' := by
  have HS := Aside0.mk hs
  clear hs
  go_enter Try.func46, Try.ntmps46
  go_wp2
  go_loopg [9] 2 (fun kq v9 w' => ∃ (n : Nat), v9 = .int .i64 n ∧ Aside0 (n + kq = 2 ∧ ∀ a b : Nat, a < n → b < 2 → so a b = true) ∧ Drawn0 w w')
  case atStart => exact ⟨0, rfl, ⟨rfl, fun a b h => absurd h (by omega)⟩, by repeat (first | exact Drawn0.refl _ | apply Drawn0.step)⟩
  case round =>
    obtain ⟨n, rfl, HN, ⟨m1, rfl⟩⟩ := hrel
    by_cases hn : n < 2
    · obtain ⟨k1, rfl⟩ : ∃ m, gk = m + 1 := ⟨gk - 1, by have := HN.out.1; omega⟩
      have hn0 : decide ((n : Int) < 2) = true := decide_eq_true (by omega)
      go_wp2
      go_loopg [14] 2 (fun kq v14 w' => ∃ (m : Nat), v14 = .int .i64 m ∧ Aside0 (m + kq = 2 ∧ ∀ b : Nat, b < m → so n b = true) ∧ Drawn0 w w')
      case atStart => exact ⟨0, rfl, ⟨by omega, fun s h => absurd h (by omega)⟩, by repeat (first | exact Drawn0.refl _ | apply Drawn0.step)⟩
      case round =>
        obtain ⟨m, rfl, HM, ⟨m2, rfl⟩⟩ := hrel
        by_cases hm : m < 2
        · obtain ⟨k2, rfl⟩ : ∃ j, gk = j + 1 := ⟨gk - 1, by have := HM.out.1; omega⟩
          obtain ⟨y, ey⟩ : ∃ b, so n m = b := ⟨_, rfl⟩
          have HS1 := Aside0.mk (fun W hW => show Calls Try.prog g (#[.int .i64 (n : Int), .int .i64 (m : Int)] ++ cap) W (fun e w' => e = .returned (.bool y) ∧ Drawn0 W w') from by
            rw [← ey]
            exact HS.out W n m hW (by omega) (by show (n : Int) < 2; omega) (by omega) (by show (m : Int) < 2; omega))
          have EY := Aside0.mk ey
          clear ey
          cases y with
          | true =>
            go_wp2_with (first | (go_at_fn g; refine (HS1.out _ (pw_below_drewN (Below.refl _ _) _)).mono ?_; rintro e w' ⟨rfl, ⟨nd, rfl⟩⟩))
            go_roundg k2
            case measure => omega
            case rel => exact ⟨m + 1, by go_num, ⟨by have := HM.out.1; omega, fun b hb => by
              rcases Nat.lt_or_ge b m with h' | h'
              · exact HM.out.2 b h'
              · obtain rfl : b = m := by omega
                exact EY.out⟩, by repeat (first | exact Drawn0.refl _ | apply Drawn0.step)⟩
          | false =>
            go_wp2_with (first | (go_at_fn g; refine (HS1.out _ (pw_below_drewN (Below.refl _ _) _)).mono ?_; rintro e w' ⟨rfl, ⟨nd, rfl⟩⟩))
            go_ret
            exact ⟨by rw [forAllP_false 1 so 2 rfl n m hn hm EY.out]; rfl, by repeat (first | exact Drawn0.refl _ | apply Drawn0.step)⟩
        · go_wp2
          go_roundg k1
          case measure => omega
          case rel =>
            have hmn : m = 2 := by have := HM.out.1; omega
            exact ⟨n + 1, by go_num, ⟨by have := HN.out.1; omega, fun a b ha hb => by
              rcases Nat.lt_or_ge a n with h' | h'
              · exact HN.out.2 a b h' hb
              · obtain rfl : a = n := by omega
                exact HM.out.2 b (by omega)⟩, by repeat (first | exact Drawn0.refl _ | apply Drawn0.step)⟩
    · go_wp2
      go_ret
      have hn6 : n = 2 := by have := HN.out.1; omega
      exact ⟨by rw [forAllP_true 1 so 2 rfl (fun a b ha hb => HN.out.2 a b (by omega) hb)]; rfl, by repeat (first | exact Drawn0.refl _ | apply Drawn0.step)⟩
set_option maxHeartbeats 1000000 in
set_option maxRecDepth 100000 in
theorem impl_forAllSets.at2 (g : Nat) (eg : ∀ args w, (callFunc g args).run Try.prog w = .ok (.enter g args) w) (cap : Array Value) (so : Int → Int → Bool) (w : World) (hs : GivesSets g cap 2 so w) :
    Calls Try.prog 46 #[.int .i64 2, .func (.func g) #[] cap] w fun e w' => e = .returned (.bool (forAllP 2 so)) ∧ Drawn0 w w' := by
  have HS := Aside0.mk hs
  clear hs
  go_enter Try.func46, Try.ntmps46
  go_wp2
  go_loopg [9] 4 (fun kq v9 w' => ∃ (n : Nat), v9 = .int .i64 n ∧ Aside0 (n + kq = 4 ∧ ∀ a b : Nat, a < n → b < 4 → so a b = true) ∧ Drawn0 w w')
  case atStart => exact ⟨0, rfl, ⟨rfl, fun a b h => absurd h (by omega)⟩, by repeat (first | exact Drawn0.refl _ | apply Drawn0.step)⟩
  case round =>
    obtain ⟨n, rfl, HN, ⟨m1, rfl⟩⟩ := hrel
    by_cases hn : n < 4
    · obtain ⟨k1, rfl⟩ : ∃ m, gk = m + 1 := ⟨gk - 1, by have := HN.out.1; omega⟩
      have hn0 : decide ((n : Int) < 4) = true := decide_eq_true (by omega)
      go_wp2
      go_loopg [14] 4 (fun kq v14 w' => ∃ (m : Nat), v14 = .int .i64 m ∧ Aside0 (m + kq = 4 ∧ ∀ b : Nat, b < m → so n b = true) ∧ Drawn0 w w')
      case atStart => exact ⟨0, rfl, ⟨by omega, fun s h => absurd h (by omega)⟩, by repeat (first | exact Drawn0.refl _ | apply Drawn0.step)⟩
      case round =>
        obtain ⟨m, rfl, HM, ⟨m2, rfl⟩⟩ := hrel
        by_cases hm : m < 4
        · obtain ⟨k2, rfl⟩ : ∃ j, gk = j + 1 := ⟨gk - 1, by have := HM.out.1; omega⟩
          obtain ⟨y, ey⟩ : ∃ b, so n m = b := ⟨_, rfl⟩
          have HS1 := Aside0.mk (fun W hW => show Calls Try.prog g (#[.int .i64 (n : Int), .int .i64 (m : Int)] ++ cap) W (fun e w' => e = .returned (.bool y) ∧ Drawn0 W w') from by
            rw [← ey]
            exact HS.out W n m hW (by omega) (by show (n : Int) < 4; omega) (by omega) (by show (m : Int) < 4; omega))
          have EY := Aside0.mk ey
          clear ey
          cases y with
          | true =>
            go_wp2_with (first | (go_at_fn g; refine (HS1.out _ (pw_below_drewN (Below.refl _ _) _)).mono ?_; rintro e w' ⟨rfl, ⟨nd, rfl⟩⟩))
            go_roundg k2
            case measure => omega
            case rel => exact ⟨m + 1, by go_num, ⟨by have := HM.out.1; omega, fun b hb => by
              rcases Nat.lt_or_ge b m with h' | h'
              · exact HM.out.2 b h'
              · obtain rfl : b = m := by omega
                exact EY.out⟩, by repeat (first | exact Drawn0.refl _ | apply Drawn0.step)⟩
          | false =>
            go_wp2_with (first | (go_at_fn g; refine (HS1.out _ (pw_below_drewN (Below.refl _ _) _)).mono ?_; rintro e w' ⟨rfl, ⟨nd, rfl⟩⟩))
            go_ret
            exact ⟨by rw [forAllP_false 2 so 4 rfl n m hn hm EY.out]; rfl, by repeat (first | exact Drawn0.refl _ | apply Drawn0.step)⟩
        · go_wp2
          go_roundg k1
          case measure => omega
          case rel =>
            have hmn : m = 4 := by have := HM.out.1; omega
            exact ⟨n + 1, by go_num, ⟨by have := HN.out.1; omega, fun a b ha hb => by
              rcases Nat.lt_or_ge a n with h' | h'
              · exact HN.out.2 a b h' hb
              · obtain rfl : a = n := by omega
                exact HM.out.2 b (by omega)⟩, by repeat (first | exact Drawn0.refl _ | apply Drawn0.step)⟩
    · go_wp2
      go_ret
      have hn6 : n = 4 := by have := HN.out.1; omega
      exact ⟨by rw [forAllP_true 2 so 4 rfl (fun a b ha hb => HN.out.2 a b (by omega) hb)]; rfl, by repeat (first | exact Drawn0.refl _ | apply Drawn0.step)⟩
set_option maxHeartbeats 1000000 in
set_option maxRecDepth 100000 in
theorem impl_forAllSets.at3 (g : Nat) (eg : ∀ args w, (callFunc g args).run Try.prog w = .ok (.enter g args) w) (cap : Array Value) (so : Int → Int → Bool) (w : World) (hs : GivesSets g cap 3 so w) :
    Calls Try.prog 46 #[.int .i64 3, .func (.func g) #[] cap] w fun e w' => e = .returned (.bool (forAllP 3 so)) ∧ Drawn0 w w' := by
  have HS := Aside0.mk hs
  clear hs
  go_enter Try.func46, Try.ntmps46
  go_wp2
  go_loopg [9] 8 (fun kq v9 w' => ∃ (n : Nat), v9 = .int .i64 n ∧ Aside0 (n + kq = 8 ∧ ∀ a b : Nat, a < n → b < 8 → so a b = true) ∧ Drawn0 w w')
  case atStart => exact ⟨0, rfl, ⟨rfl, fun a b h => absurd h (by omega)⟩, by repeat (first | exact Drawn0.refl _ | apply Drawn0.step)⟩
  case round =>
    obtain ⟨n, rfl, HN, ⟨m1, rfl⟩⟩ := hrel
    by_cases hn : n < 8
    · obtain ⟨k1, rfl⟩ : ∃ m, gk = m + 1 := ⟨gk - 1, by have := HN.out.1; omega⟩
      have hn0 : decide ((n : Int) < 8) = true := decide_eq_true (by omega)
      go_wp2
      go_loopg [14] 8 (fun kq v14 w' => ∃ (m : Nat), v14 = .int .i64 m ∧ Aside0 (m + kq = 8 ∧ ∀ b : Nat, b < m → so n b = true) ∧ Drawn0 w w')
      case atStart => exact ⟨0, rfl, ⟨by omega, fun s h => absurd h (by omega)⟩, by repeat (first | exact Drawn0.refl _ | apply Drawn0.step)⟩
      case round =>
        obtain ⟨m, rfl, HM, ⟨m2, rfl⟩⟩ := hrel
        by_cases hm : m < 8
        · obtain ⟨k2, rfl⟩ : ∃ j, gk = j + 1 := ⟨gk - 1, by have := HM.out.1; omega⟩
          obtain ⟨y, ey⟩ : ∃ b, so n m = b := ⟨_, rfl⟩
          have HS1 := Aside0.mk (fun W hW => show Calls Try.prog g (#[.int .i64 (n : Int), .int .i64 (m : Int)] ++ cap) W (fun e w' => e = .returned (.bool y) ∧ Drawn0 W w') from by
            rw [← ey]
            exact HS.out W n m hW (by omega) (by show (n : Int) < 8; omega) (by omega) (by show (m : Int) < 8; omega))
          have EY := Aside0.mk ey
          clear ey
          cases y with
          | true =>
            go_wp2_with (first | (go_at_fn g; refine (HS1.out _ (pw_below_drewN (Below.refl _ _) _)).mono ?_; rintro e w' ⟨rfl, ⟨nd, rfl⟩⟩))
            go_roundg k2
            case measure => omega
            case rel => exact ⟨m + 1, by go_num, ⟨by have := HM.out.1; omega, fun b hb => by
              rcases Nat.lt_or_ge b m with h' | h'
              · exact HM.out.2 b h'
              · obtain rfl : b = m := by omega
                exact EY.out⟩, by repeat (first | exact Drawn0.refl _ | apply Drawn0.step)⟩
          | false =>
            go_wp2_with (first | (go_at_fn g; refine (HS1.out _ (pw_below_drewN (Below.refl _ _) _)).mono ?_; rintro e w' ⟨rfl, ⟨nd, rfl⟩⟩))
            go_ret
            exact ⟨by rw [forAllP_false 3 so 8 rfl n m hn hm EY.out]; rfl, by repeat (first | exact Drawn0.refl _ | apply Drawn0.step)⟩
        · go_wp2
          go_roundg k1
          case measure => omega
          case rel =>
            have hmn : m = 8 := by have := HM.out.1; omega
            exact ⟨n + 1, by go_num, ⟨by have := HN.out.1; omega, fun a b ha hb => by
              rcases Nat.lt_or_ge a n with h' | h'
              · exact HN.out.2 a b h' hb
              · obtain rfl : a = n := by omega
                exact HM.out.2 b (by omega)⟩, by repeat (first | exact Drawn0.refl _ | apply Drawn0.step)⟩
    · go_wp2
      go_ret
      have hn6 : n = 8 := by have := HN.out.1; omega
      exact ⟨by rw [forAllP_true 3 so 8 rfl (fun a b ha hb => HN.out.2 a b (by omega) hb)]; rfl, by repeat (first | exact Drawn0.refl _ | apply Drawn0.step)⟩
theorem impl_forAllSets.calls (g : Nat) (eg : ∀ args w, (callFunc g args).run Try.prog w = .ok (.enter g args) w) (cap : Array Value) (t : Int) (h1 : 0 ≤ t) (h2 : t ≤ 3) (so : Int → Int → Bool) (w : World) (hs : GivesSets g cap t so w) :
    Calls Try.prog 46 #[.int .i64 t, .func (.func g) #[] cap] w fun e w' => e = .returned (.bool (forAllP t so)) ∧ Drawn0 w w' := by
  rcases three t h1 h2 with rfl | rfl | rfl | rfl
  · exact impl_forAllSets.at0 g eg cap so w hs
  · exact impl_forAllSets.at1 g eg cap so w hs
  · exact impl_forAllSets.at2 g eg cap so w hs
  · exact impl_forAllSets.at3 g eg cap so w hs

end Go.Proofs.Ytjagnepjeoofpaa.P
