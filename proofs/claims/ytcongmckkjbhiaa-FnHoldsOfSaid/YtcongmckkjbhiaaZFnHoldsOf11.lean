-- Texts of this claim, laid one behind the other by wip/gen/merge.py.
import Derived.Test.YtcongmckkjbhiaaZFnHoldsOf0
import Derived.Test.YtcongmckkjbhiaaZFnHoldsOf9
import Derived.Test.YtcongmckkjbhiaaZFnHoldsOf10
import Derived.Test.YtcongmckkjbhiaaZFnHoldsOf1
import Derived.Test.YtcongmckkjbhiaaZFnHoldsOf5
import Derived.Test.YtcongmckkjbhiaaZFnHoldsOf6
namespace Go.Proofs.Ytcongmckkjbhiaa.P
open Go.RowKit Go.Proofs.YtcongmckkjbhiaaW.PrintWords Go.Proofs.YtcongmckkjbhiaaW.PrintLast Go.Proofs.YtcongmckkjbhiaaW.PrintMore
attribute [local go_sem] max2_int min2_int max_two min_two max_three min_three max_four min_four
set_option linter.unusedVariables false
set_option linter.unusedSimpArgs false
/-! ### HAND impl_forAllSets: function 44 -/
/-- What a function value of two sets hands back, for all sets of a world of t things. -/
def GivesSets (g : Nat) (cap : Array Value) (t : Int) (so : Int → Int → Bool) (w : World) : Prop :=
 ∀ (W : World) (a b : Int), Below w.heap.size w W → 0 ≤ a → a < pw t → 0 ≤ b → b < pw t →
  Calls Try.prog g (#[.int .i64 a, .int .i64 b] ++ cap) W fun e w' => e = .returned (.bool (so a b)) ∧ Drawn0 W w'
theorem shl_at (a t : Int) (h1 : 0 ≤ t) (h2 : t ≤ 3) (h3 : 0 ≤ a) (h4 : a < 8) : shl .i64 a t = a * pw t := by
 have hm : (2 : Int) ^ min t.toNat (IntKind.i64).bits = pw t := by
  rcases three t h1 h2 with rfl | rfl | rfl | rfl <;> decide +kernel
 have hp : pw t = 1 ∨ pw t = 2 ∨ pw t = 4 ∨ pw t = 8 := by
  rcases three t h1 h2 with rfl | rfl | rfl | rfl <;> decide +kernel
 unfold shl
 rw [hm, i64_w]
 unfold wrap64
 rcases hp with e | e | e | e <;> rw [e] <;> omega
theorem holdsOf_here (t : Int) (rel : List Int) (a b : Int) (h1 : 0 ≤ t) (h2 : t ≤ 3) (hl : rel.length = 4 ^ t.toNat) (h3 : 0 ≤ a) (h4 : a < pw t) (h5 : 0 ≤ b) (h6 : b < pw t) : impl_holdsOf.f t rel a b = some (hr t rel a b) := by
 have hp := pw_range t h1 h2
 have hi := index_range t a b h1 h2 h3 h4 h5 h6
 have hw : wrap64 (shl .i64 a t + b) = a * pw t + b := by rw [shl_at a t h1 h2 h3 (by omega)]; unfold wrap64; omega
 unfold impl_holdsOf.f hr
 rw [if_pos h1, hw, if_pos hi.1, if_pos (by rw [hl]; exact hi.2.1)]
theorem isRelation_round (l : List Int) (hl : l.length ≤ 9223372036854775807) (d : Nat) : ∀ (k i : Nat), i + d = l.length → d < k → impl_isRelation.l0 k l (l.length : Int) (i : Int) = some ((l.drop i).all (fun x => x == 0 || x == 1)) := by
 induction d with
 | zero =>
  intro k i h hk
  obtain ⟨k, rfl⟩ : ∃ m, k = m + 1 := ⟨k - 1, by omega⟩
  simp only [impl_isRelation.l0]
  rw [if_neg (by omega), List.drop_of_length_le (by omega), List.all_nil]
 | succ d ih =>
  intro k i h hk
  obtain ⟨k, rfl⟩ : ∃ m, k = m + 1 := ⟨k - 1, by omega⟩
  have hi : i < l.length := by omega
  have hr : rd l (i : Int) = l[i] := by simp [rd, List.getD_eq_getElem?_getD, List.getElem?_eq_getElem hi]
  have hd_ : l.drop i = l[i] :: l.drop (i + 1) := List.drop_eq_getElem_cons hi
  have hw : wrap64 ((i : Int) + 1) = ((i + 1 : Nat) : Int) := by unfold wrap64; omega
  simp only [impl_isRelation.l0]
  rw [if_pos (by omega), if_pos (by omega), if_pos (by omega), hr, hw, ih k (i + 1) (by omega) (by omega), hd_, List.all_cons]
  by_cases h0 : l[i] = 0
  ·rw [if_pos h0, show (l[i] == 0 || l[i] == 1) = true from by simp [h0], Bool.true_and]
  ·by_cases h1 : l[i] = 1
   ·rw [if_neg h0, if_pos h1, show (l[i] == 0 || l[i] == 1) = true from by simp [h1], Bool.true_and]
   ·rw [if_neg h0, if_neg h1, show (l[i] == 0 || l[i] == 1) = false from by simp [h0, h1], Bool.false_and]
theorem isRelation_k (t : Int) (l : List Int) (hl : l.length ≤ 9223372036854775807) (k : Nat) (hk : l.length + 1 < k) : impl_isRelation.f k t l = some (isRel t l) := by
 obtain ⟨k, rfl⟩ : ∃ m, k = m + 1 := ⟨k - 1, by omega⟩
 unfold impl_isRelation.f isRel
 by_cases h1 : t < 0
 ·rw [if_pos h1, show decide (0 ≤ t ∧ t ≤ 3) = false from decide_eq_false (by omega), Bool.false_and]
  simp only [impl_isRelation.j0]; rfl
 ·by_cases h2 : t > 3
  ·rw [if_neg h1, if_pos h2, show decide (0 ≤ t ∧ t ≤ 3) = false from decide_eq_false (by omega), Bool.false_and]
   simp only [impl_isRelation.j0]; rfl
  ·have hs : shl .i64 1 (wrap64 (2 * t)) = ((4 ^ t.toNat : Nat) : Int) := by
    rcases three t (by omega) (by omega) with rfl | rfl | rfl | rfl <;> decide +kernel
   have hw : 0 ≤ wrap64 (2 * t) := by unfold wrap64; omega
   have hr := isRelation_round l hl l.length k 0 (by omega) (by omega)
   rw [List.drop_zero] at hr
   rw [if_neg h1, if_neg h2, if_pos hw, hs, show decide (0 ≤ t ∧ t ≤ 3) = true from decide_eq_true (by omega), Bool.true_and]
   simp only [impl_isRelation.j0]
   by_cases h3 : l.length = 4 ^ t.toNat
   ·rw [show ((l.length : Int) != ((4 ^ t.toNat : Nat) : Int)) = false from by rw [h3]; simp, if_neg (by decide), show (l.length == 4 ^ t.toNat) = true from by rw [h3]; simp, Bool.true_and]
    exact hr
   ·rw [show ((l.length : Int) != ((4 ^ t.toNat : Nat) : Int)) = true from by rw [bne_iff_ne]; omega, if_pos rfl, show (l.length == 4 ^ t.toNat) = false from by simpa using h3, Bool.false_and]
set_option maxHeartbeats 1000000 in
set_option maxRecDepth 100000 in
theorem impl_forAllSets.at0 (g : Nat) (eg : ∀ args w, (callFunc g args).run Try.prog w = .ok (.enter g args) w) (cap : Array Value) (so : Int → Int → Bool) (w : World) (hs : GivesSets g cap 0 so w) :
  Calls Try.prog 44 #[.int .i64 0, .func (.func g) #[] cap] w fun e w' => e = .returned (.bool (forAllP 0 so)) ∧ Drawn0 w w' := by
 have HS := Aside0.mk hs
 clear hs
 go_enter Try.func44, Try.ntmps44
 go_wp2
 go_loopg [9] 1 (fun kq v9 w' => ∃ (n : Nat), v9 = .int .i64 n ∧ Aside0 (n + kq = 1 ∧ ∀ a b : Nat, a < n → b < 1 → so a b = true) ∧ Drawn0 w w')
 case atStart => exact ⟨0, rfl, ⟨rfl, fun a b h => absurd h (by omega)⟩, by repeat (first | exact Drawn0.refl _ | apply Drawn0.step)⟩
 case round =>
  obtain ⟨n, rfl, HN, ⟨m1, rfl⟩⟩ := hrel
  by_cases hn : n < 1
  ·obtain ⟨k1, rfl⟩ : ∃ m, gk = m + 1 := ⟨gk - 1, by have := HN.out.1; omega⟩
   have hn0 : decide ((n : Int) < 1) = true := decide_eq_true (by omega)
   go_wp2
   go_loopg [14] 1 (fun kq v14 w' => ∃ (m : Nat), v14 = .int .i64 m ∧ Aside0 (m + kq = 1 ∧ ∀ b : Nat, b < m → so n b = true) ∧ Drawn0 w w')
   case atStart => exact ⟨0, rfl, ⟨by omega, fun s h => absurd h (by omega)⟩, by repeat (first | exact Drawn0.refl _ | apply Drawn0.step)⟩
   case round =>
    obtain ⟨m, rfl, HM, ⟨m2, rfl⟩⟩ := hrel
    by_cases hm : m < 1
    ·obtain ⟨k2, rfl⟩ : ∃ j, gk = j + 1 := ⟨gk - 1, by have := HM.out.1; omega⟩
     obtain ⟨y, ey⟩ : ∃ b, so n m = b := ⟨_, rfl⟩
     have HS1 := Aside0.mk (fun W hW => show Calls Try.prog g (#[.int .i64 (n : Int), .int .i64 (m : Int)] ++ cap) W (fun e w' => e = .returned (.bool y) ∧ Drawn0 W w') from by
      rw [← ey]
      exact HS.out W n m hW (by omega) (by show (n : Int) < 1; omega) (by omega) (by show (m : Int) < 1; omega))
     have EY := Aside0.mk ey
     clear ey
     cases y with
     | true =>
      go_wp2_with (first | (go_at_fn g; refine (HS1.out _ (pw_below_drewN (Below.refl _ _) _)).mono ?_; rintro e w' ⟨rfl, ⟨nd, rfl⟩⟩))
      go_roundg k2
      case measure => omega
      case rel => exact ⟨m + 1, by go_num, ⟨by have := HM.out.1; omega, fun b hb => by
       rcases Nat.lt_or_ge b m with h' | h'
       ·exact HM.out.2 b h'
       ·obtain rfl : b = m := by omega
        exact EY.out⟩, by repeat (first | exact Drawn0.refl _ | apply Drawn0.step)⟩
     | false =>
      go_wp2_with (first | (go_at_fn g; refine (HS1.out _ (pw_below_drewN (Below.refl _ _) _)).mono ?_; rintro e w' ⟨rfl, ⟨nd, rfl⟩⟩))
      go_ret
      exact ⟨by rw [forAllP_false 0 so 1 rfl n m hn hm EY.out]; rfl, by repeat (first | exact Drawn0.refl _ | apply Drawn0.step)⟩
    ·go_wp2
     go_roundg k1
     case measure => omega
     case rel =>
      have hmn : m = 1 := by have := HM.out.1; omega
      exact ⟨n + 1, by go_num, ⟨by have := HN.out.1; omega, fun a b ha hb => by
       rcases Nat.lt_or_ge a n with h' | h'
       ·exact HN.out.2 a b h' hb
       ·obtain rfl : a = n := by omega
        exact HM.out.2 b (by omega)⟩, by repeat (first | exact Drawn0.refl _ | apply Drawn0.step)⟩
  ·go_wp2
   go_ret
   have hn6 : n = 1 := by have := HN.out.1; omega
   exact ⟨by rw [forAllP_true 0 so 1 rfl (fun a b ha hb => HN.out.2 a b (by omega) hb)]; rfl, by repeat (first | exact Drawn0.refl _ | apply Drawn0.step)⟩
set_option maxHeartbeats 1000000 in
set_option maxRecDepth 100000 in
theorem impl_forAllSets.at1 (g : Nat) (eg : ∀ args w, (callFunc g args).run Try.prog w = .ok (.enter g args) w) (cap : Array Value) (so : Int → Int → Bool) (w : World) (hs : GivesSets g cap 1 so w) :
  Calls Try.prog 44 #[.int .i64 1, .func (.func g) #[] cap] w fun e w' => e = .returned (.bool (forAllP 1 so)) ∧ Drawn0 w w' := by
 have HS := Aside0.mk hs
 clear hs
 go_enter Try.func44, Try.ntmps44
 go_wp2
 go_loopg [9] 2 (fun kq v9 w' => ∃ (n : Nat), v9 = .int .i64 n ∧ Aside0 (n + kq = 2 ∧ ∀ a b : Nat, a < n → b < 2 → so a b = true) ∧ Drawn0 w w')
 case atStart => exact ⟨0, rfl, ⟨rfl, fun a b h => absurd h (by omega)⟩, by repeat (first | exact Drawn0.refl _ | apply Drawn0.step)⟩
 case round =>
  obtain ⟨n, rfl, HN, ⟨m1, rfl⟩⟩ := hrel
  by_cases hn : n < 2
  ·obtain ⟨k1, rfl⟩ : ∃ m, gk = m + 1 := ⟨gk - 1, by have := HN.out.1; omega⟩
   have hn0 : decide ((n : Int) < 2) = true := decide_eq_true (by omega)
   go_wp2
   go_loopg [14] 2 (fun kq v14 w' => ∃ (m : Nat), v14 = .int .i64 m ∧ Aside0 (m + kq = 2 ∧ ∀ b : Nat, b < m → so n b = true) ∧ Drawn0 w w')
   case atStart => exact ⟨0, rfl, ⟨by omega, fun s h => absurd h (by omega)⟩, by repeat (first | exact Drawn0.refl _ | apply Drawn0.step)⟩
   case round =>
    obtain ⟨m, rfl, HM, ⟨m2, rfl⟩⟩ := hrel
    by_cases hm : m < 2
    ·obtain ⟨k2, rfl⟩ : ∃ j, gk = j + 1 := ⟨gk - 1, by have := HM.out.1; omega⟩
     obtain ⟨y, ey⟩ : ∃ b, so n m = b := ⟨_, rfl⟩
     have HS1 := Aside0.mk (fun W hW => show Calls Try.prog g (#[.int .i64 (n : Int), .int .i64 (m : Int)] ++ cap) W (fun e w' => e = .returned (.bool y) ∧ Drawn0 W w') from by
      rw [← ey]
      exact HS.out W n m hW (by omega) (by show (n : Int) < 2; omega) (by omega) (by show (m : Int) < 2; omega))
     have EY := Aside0.mk ey
     clear ey
     cases y with
     | true =>
      go_wp2_with (first | (go_at_fn g; refine (HS1.out _ (pw_below_drewN (Below.refl _ _) _)).mono ?_; rintro e w' ⟨rfl, ⟨nd, rfl⟩⟩))
      go_roundg k2
      case measure => omega
      case rel => exact ⟨m + 1, by go_num, ⟨by have := HM.out.1; omega, fun b hb => by
       rcases Nat.lt_or_ge b m with h' | h'
       ·exact HM.out.2 b h'
       ·obtain rfl : b = m := by omega
        exact EY.out⟩, by repeat (first | exact Drawn0.refl _ | apply Drawn0.step)⟩
     | false =>
      go_wp2_with (first | (go_at_fn g; refine (HS1.out _ (pw_below_drewN (Below.refl _ _) _)).mono ?_; rintro e w' ⟨rfl, ⟨nd, rfl⟩⟩))
      go_ret
      exact ⟨by rw [forAllP_false 1 so 2 rfl n m hn hm EY.out]; rfl, by repeat (first | exact Drawn0.refl _ | apply Drawn0.step)⟩
    ·go_wp2
     go_roundg k1
     case measure => omega
     case rel =>
      have hmn : m = 2 := by have := HM.out.1; omega
      exact ⟨n + 1, by go_num, ⟨by have := HN.out.1; omega, fun a b ha hb => by
       rcases Nat.lt_or_ge a n with h' | h'
       ·exact HN.out.2 a b h' hb
       ·obtain rfl : a = n := by omega
        exact HM.out.2 b (by omega)⟩, by repeat (first | exact Drawn0.refl _ | apply Drawn0.step)⟩
  ·go_wp2
   go_ret
   have hn6 : n = 2 := by have := HN.out.1; omega
   exact ⟨by rw [forAllP_true 1 so 2 rfl (fun a b ha hb => HN.out.2 a b (by omega) hb)]; rfl, by repeat (first | exact Drawn0.refl _ | apply Drawn0.step)⟩
set_option maxHeartbeats 1000000 in
set_option maxRecDepth 100000 in
theorem impl_forAllSets.at2 (g : Nat) (eg : ∀ args w, (callFunc g args).run Try.prog w = .ok (.enter g args) w) (cap : Array Value) (so : Int → Int → Bool) (w : World) (hs : GivesSets g cap 2 so w) :
  Calls Try.prog 44 #[.int .i64 2, .func (.func g) #[] cap] w fun e w' => e = .returned (.bool (forAllP 2 so)) ∧ Drawn0 w w' := by
 have HS := Aside0.mk hs
 clear hs
 go_enter Try.func44, Try.ntmps44
 go_wp2
 go_loopg [9] 4 (fun kq v9 w' => ∃ (n : Nat), v9 = .int .i64 n ∧ Aside0 (n + kq = 4 ∧ ∀ a b : Nat, a < n → b < 4 → so a b = true) ∧ Drawn0 w w')
 case atStart => exact ⟨0, rfl, ⟨rfl, fun a b h => absurd h (by omega)⟩, by repeat (first | exact Drawn0.refl _ | apply Drawn0.step)⟩
 case round =>
  obtain ⟨n, rfl, HN, ⟨m1, rfl⟩⟩ := hrel
  by_cases hn : n < 4
  ·obtain ⟨k1, rfl⟩ : ∃ m, gk = m + 1 := ⟨gk - 1, by have := HN.out.1; omega⟩
   have hn0 : decide ((n : Int) < 4) = true := decide_eq_true (by omega)
   go_wp2
   go_loopg [14] 4 (fun kq v14 w' => ∃ (m : Nat), v14 = .int .i64 m ∧ Aside0 (m + kq = 4 ∧ ∀ b : Nat, b < m → so n b = true) ∧ Drawn0 w w')
   case atStart => exact ⟨0, rfl, ⟨by omega, fun s h => absurd h (by omega)⟩, by repeat (first | exact Drawn0.refl _ | apply Drawn0.step)⟩
   case round =>
    obtain ⟨m, rfl, HM, ⟨m2, rfl⟩⟩ := hrel
    by_cases hm : m < 4
    ·obtain ⟨k2, rfl⟩ : ∃ j, gk = j + 1 := ⟨gk - 1, by have := HM.out.1; omega⟩
     obtain ⟨y, ey⟩ : ∃ b, so n m = b := ⟨_, rfl⟩
     have HS1 := Aside0.mk (fun W hW => show Calls Try.prog g (#[.int .i64 (n : Int), .int .i64 (m : Int)] ++ cap) W (fun e w' => e = .returned (.bool y) ∧ Drawn0 W w') from by
      rw [← ey]
      exact HS.out W n m hW (by omega) (by show (n : Int) < 4; omega) (by omega) (by show (m : Int) < 4; omega))
     have EY := Aside0.mk ey
     clear ey
     cases y with
     | true =>
      go_wp2_with (first | (go_at_fn g; refine (HS1.out _ (pw_below_drewN (Below.refl _ _) _)).mono ?_; rintro e w' ⟨rfl, ⟨nd, rfl⟩⟩))
      go_roundg k2
      case measure => omega
      case rel => exact ⟨m + 1, by go_num, ⟨by have := HM.out.1; omega, fun b hb => by
       rcases Nat.lt_or_ge b m with h' | h'
       ·exact HM.out.2 b h'
       ·obtain rfl : b = m := by omega
        exact EY.out⟩, by repeat (first | exact Drawn0.refl _ | apply Drawn0.step)⟩
     | false =>
      go_wp2_with (first | (go_at_fn g; refine (HS1.out _ (pw_below_drewN (Below.refl _ _) _)).mono ?_; rintro e w' ⟨rfl, ⟨nd, rfl⟩⟩))
      go_ret
      exact ⟨by rw [forAllP_false 2 so 4 rfl n m hn hm EY.out]; rfl, by repeat (first | exact Drawn0.refl _ | apply Drawn0.step)⟩
    ·go_wp2
     go_roundg k1
     case measure => omega
     case rel =>
      have hmn : m = 4 := by have := HM.out.1; omega
      exact ⟨n + 1, by go_num, ⟨by have := HN.out.1; omega, fun a b ha hb => by
       rcases Nat.lt_or_ge a n with h' | h'
       ·exact HN.out.2 a b h' hb
       ·obtain rfl : a = n := by omega
        exact HM.out.2 b (by omega)⟩, by repeat (first | exact Drawn0.refl _ | apply Drawn0.step)⟩
  ·go_wp2
   go_ret
   have hn6 : n = 4 := by have := HN.out.1; omega
   exact ⟨by rw [forAllP_true 2 so 4 rfl (fun a b ha hb => HN.out.2 a b (by omega) hb)]; rfl, by repeat (first | exact Drawn0.refl _ | apply Drawn0.step)⟩
set_option maxHeartbeats 1000000 in
set_option maxRecDepth 100000 in
theorem impl_forAllSets.at3 (g : Nat) (eg : ∀ args w, (callFunc g args).run Try.prog w = .ok (.enter g args) w) (cap : Array Value) (so : Int → Int → Bool) (w : World) (hs : GivesSets g cap 3 so w) :
  Calls Try.prog 44 #[.int .i64 3, .func (.func g) #[] cap] w fun e w' => e = .returned (.bool (forAllP 3 so)) ∧ Drawn0 w w' := by
 have HS := Aside0.mk hs
 clear hs
 go_enter Try.func44, Try.ntmps44
 go_wp2
 go_loopg [9] 8 (fun kq v9 w' => ∃ (n : Nat), v9 = .int .i64 n ∧ Aside0 (n + kq = 8 ∧ ∀ a b : Nat, a < n → b < 8 → so a b = true) ∧ Drawn0 w w')
 case atStart => exact ⟨0, rfl, ⟨rfl, fun a b h => absurd h (by omega)⟩, by repeat (first | exact Drawn0.refl _ | apply Drawn0.step)⟩
 case round =>
  obtain ⟨n, rfl, HN, ⟨m1, rfl⟩⟩ := hrel
  by_cases hn : n < 8
  ·obtain ⟨k1, rfl⟩ : ∃ m, gk = m + 1 := ⟨gk - 1, by have := HN.out.1; omega⟩
   have hn0 : decide ((n : Int) < 8) = true := decide_eq_true (by omega)
   go_wp2
   go_loopg [14] 8 (fun kq v14 w' => ∃ (m : Nat), v14 = .int .i64 m ∧ Aside0 (m + kq = 8 ∧ ∀ b : Nat, b < m → so n b = true) ∧ Drawn0 w w')
   case atStart => exact ⟨0, rfl, ⟨by omega, fun s h => absurd h (by omega)⟩, by repeat (first | exact Drawn0.refl _ | apply Drawn0.step)⟩
   case round =>
    obtain ⟨m, rfl, HM, ⟨m2, rfl⟩⟩ := hrel
    by_cases hm : m < 8
    ·obtain ⟨k2, rfl⟩ : ∃ j, gk = j + 1 := ⟨gk - 1, by have := HM.out.1; omega⟩
     obtain ⟨y, ey⟩ : ∃ b, so n m = b := ⟨_, rfl⟩
     have HS1 := Aside0.mk (fun W hW => show Calls Try.prog g (#[.int .i64 (n : Int), .int .i64 (m : Int)] ++ cap) W (fun e w' => e = .returned (.bool y) ∧ Drawn0 W w') from by
      rw [← ey]
      exact HS.out W n m hW (by omega) (by show (n : Int) < 8; omega) (by omega) (by show (m : Int) < 8; omega))
     have EY := Aside0.mk ey
     clear ey
     cases y with
     | true =>
      go_wp2_with (first | (go_at_fn g; refine (HS1.out _ (pw_below_drewN (Below.refl _ _) _)).mono ?_; rintro e w' ⟨rfl, ⟨nd, rfl⟩⟩))
      go_roundg k2
      case measure => omega
      case rel => exact ⟨m + 1, by go_num, ⟨by have := HM.out.1; omega, fun b hb => by
       rcases Nat.lt_or_ge b m with h' | h'
       ·exact HM.out.2 b h'
       ·obtain rfl : b = m := by omega
        exact EY.out⟩, by repeat (first | exact Drawn0.refl _ | apply Drawn0.step)⟩
     | false =>
      go_wp2_with (first | (go_at_fn g; refine (HS1.out _ (pw_below_drewN (Below.refl _ _) _)).mono ?_; rintro e w' ⟨rfl, ⟨nd, rfl⟩⟩))
      go_ret
      exact ⟨by rw [forAllP_false 3 so 8 rfl n m hn hm EY.out]; rfl, by repeat (first | exact Drawn0.refl _ | apply Drawn0.step)⟩
    ·go_wp2
     go_roundg k1
     case measure => omega
     case rel =>
      have hmn : m = 8 := by have := HM.out.1; omega
      exact ⟨n + 1, by go_num, ⟨by have := HN.out.1; omega, fun a b ha hb => by
       rcases Nat.lt_or_ge a n with h' | h'
       ·exact HN.out.2 a b h' hb
       ·obtain rfl : a = n := by omega
        exact HM.out.2 b (by omega)⟩, by repeat (first | exact Drawn0.refl _ | apply Drawn0.step)⟩
  ·go_wp2
   go_ret
   have hn6 : n = 8 := by have := HN.out.1; omega
   exact ⟨by rw [forAllP_true 3 so 8 rfl (fun a b ha hb => HN.out.2 a b (by omega) hb)]; rfl, by repeat (first | exact Drawn0.refl _ | apply Drawn0.step)⟩
theorem impl_forAllSets.calls (g : Nat) (eg : ∀ args w, (callFunc g args).run Try.prog w = .ok (.enter g args) w) (cap : Array Value) (t : Int) (h1 : 0 ≤ t) (h2 : t ≤ 3) (so : Int → Int → Bool) (w : World) (hs : GivesSets g cap t so w) :
  Calls Try.prog 44 #[.int .i64 t, .func (.func g) #[] cap] w fun e w' => e = .returned (.bool (forAllP t so)) ∧ Drawn0 w w' := by
 rcases three t h1 h2 with rfl | rfl | rfl | rfl
 ·exact impl_forAllSets.at0 g eg cap so w hs
 ·exact impl_forAllSets.at1 g eg cap so w hs
 ·exact impl_forAllSets.at2 g eg cap so w hs
 ·exact impl_forAllSets.at3 g eg cap so w hs
end Go.Proofs.Ytcongmckkjbhiaa.P
/- Plain facts on relations: what the reference's RelationOk and the program's isRelation come to, indexes, entries. No condition beyond those typed. -/
namespace Go.Proofs.Ytcongmckkjbhiaa.P
open Go.RowKit Go.Proofs.YtcongmckkjbhiaaW.PrintWords Go.Proofs.YtcongmckkjbhiaaW.PrintLast
theorem l1In_eqR (n a b : Int) : spec_l1In.f n a b = some (decide (a ≤ n ∧ n ≤ b)) := by
 unfold spec_l1In.f
 by_cases h : n ≥ a
 ·rw [if_pos h]; congr 1; rw [decide_eq_decide]; omega
 ·rw [if_neg h]; congr 1; symm; rw [decide_eq_false_iff_not]; omega
theorem shl_four (t : Int) (h1 : 0 ≤ t) (h2 : t ≤ 3) : shl .i64 1 (wrap64 (2 * t)) = ((4 ^ t.toNat : Nat) : Int) := by
 rcases three t h1 h2 with rfl | rfl | rfl | rfl <;> decide +kernel
theorem spec_RelationOk_round (t : Int) (l : List Int) (hl : l.length ≤ 1048576) (d : Nat) : ∀ (k i : Nat), i + d = l.length → d < k → spec_RelationOk.l0 k t l (i : Int) = some ((l.drop i).all (fun x => x == 0 || x == 1) && (decide (0 ≤ t ∧ t ≤ 3) && l.length == 4 ^ t.toNat)) := by
 induction d with
 | zero =>
  intro k i h hk
  obtain ⟨k, rfl⟩ : ∃ m, k = m + 1 := ⟨k - 1, by omega⟩
  simp only [spec_RelationOk.l0]
  rw [if_neg (by omega), List.drop_of_length_le (by omega), List.all_nil, Bool.true_and, l1In_eqR, Option.bind_some]
  by_cases h3 : 0 ≤ t ∧ t ≤ 3
  ·rw [if_pos (decide_eq_true h3), decide_eq_true h3, Bool.true_and, shl_four t h3.1 h3.2, if_pos (by unfold wrap64; omega)]
   congr 1
   rw [Bool.eq_iff_iff, beq_iff_eq, beq_iff_eq]
   omega
  ·rw [if_neg (by rw [decide_eq_true_eq]; exact h3), decide_eq_false h3, Bool.false_and]
 | succ d ih =>
  intro k i h hk
  obtain ⟨k, rfl⟩ : ∃ m, k = m + 1 := ⟨k - 1, by omega⟩
  have hi : i < l.length := by omega
  have hd_ : l.drop i = l[i] :: l.drop (i + 1) := List.drop_eq_getElem_cons hi
  simp only [spec_RelationOk.l0]
  rw [if_pos (by omega), if_pos (by omega), rd_get l i hi, l1In_eqR, Option.bind_some, wrap_succ i l.length hi hl, ih k (i + 1) (by omega) (by omega), hd_, List.all_cons]
  by_cases h0 : l[i] = 0 ∨ l[i] = 1
  ·rw [if_pos (decide_eq_true (by omega)), show (l[i] == 0 || l[i] == 1) = true from by simpa using h0, Bool.true_and]
  ·rw [if_neg (by rw [decide_eq_true_eq]; omega), show (l[i] == 0 || l[i] == 1) = false from by simpa using h0, Bool.false_and, Bool.false_and]
theorem spec_RelationOk_k (t : Int) (l : List Int) (hl : l.length ≤ 1048576) (k : Nat) (hk : 1048600 ≤ k) : spec_RelationOk.f k t l = some (isRel t l) := by
 unfold spec_RelationOk.f isRel
 have h := spec_RelationOk_round t l hl l.length k 0 (by omega) (by omega)
 rw [List.drop_zero] at h
 refine Eq.trans h ?_
 congr 1
 cases decide (0 ≤ t ∧ t ≤ 3) <;> cases l.length == 4 ^ t.toNat <;> cases l.all (fun x => x == 0 || x == 1) <;> rfl
theorem impl_isRelation_k (t : Int) (l : List Int) (hl : l.length ≤ 1048576) (k : Nat) (hk : 1048600 ≤ k) : impl_isRelation.f k t l = some (isRel t l) := isRelation_k t l (by omega) k (by omega)
theorem shl_one (t : Int) (h1 : 0 ≤ t) (h2 : t ≤ 3) : shl .i64 1 t = pw t := by
 rw [shl_at 1 t h1 h2 (by omega) (by omega), Int.one_mul]
theorem idx_wrap (t a b : Int) (h1 : 0 ≤ t) (h2 : t ≤ 3) (h3 : 0 ≤ a) (h4 : a < pw t) (h5 : 0 ≤ b) (h6 : b < pw t) : wrap64 (shl .i64 a t + b) = a * pw t + b := by
 have hp := pw_range t h1 h2
 have hi := index_range t a b h1 h2 h3 h4 h5 h6
 rw [shl_at a t h1 h2 h3 (by omega)]
 unfold wrap64
 omega
/-! What is asked for all two sets. -/
/- Plain facts: what the reference's and the program's HoldsOf come to, with enough rounds, for relations of at most 2^20 numbers. -/
def holdsP (t : Int) (l : List Int) (a b : Int) : Bool := isRel t l && (decide (0 ≤ a ∧ a < pw t) && (decide (0 ≤ b ∧ b < pw t) && hr t l a b))
theorem spec_HoldsOf_k (t : Int) (l : List Int) (a b : Int) (hl : l.length ≤ 1048576) (k : Nat) (hk : 1048600 ≤ k) : spec_HoldsOf.f k t l a b = some (holdsP t l a b) := by
 unfold spec_HoldsOf.f holdsP
 rw [spec_RelationOk_k t l hl k hk, Option.bind_some]
 by_cases h : isRel t l = true
 ·obtain ⟨h1, h2, h3⟩ := isRel_range h
  have hp := pw_range t h1 h2
  have hw : wrap64 (pw t - 1) = pw t - 1 := by unfold wrap64; omega
  rw [if_pos h, if_pos h1, h, Bool.true_and, shl_one t h1 h2, hw, l1In_eqR, Option.bind_some]
  by_cases ha : 0 ≤ a ∧ a ≤ pw t - 1
  ·rw [if_pos (decide_eq_true ha), decide_eq_true (show 0 ≤ a ∧ a < pw t by omega), Bool.true_and, l1In_eqR, Option.bind_some]
   by_cases hb : 0 ≤ b ∧ b ≤ pw t - 1
   ·have hi := index_range t a b h1 h2 ha.1 (by omega) hb.1 (by omega)
    rw [if_pos (decide_eq_true hb), decide_eq_true (show 0 ≤ b ∧ b < pw t by omega), Bool.true_and, idx_wrap t a b h1 h2 ha.1 (by omega) hb.1 (by omega), if_pos hi.1, if_pos (by rw [h3]; exact hi.2.1)]
    rfl
   ·rw [if_neg (by rw [decide_eq_true_eq]; exact hb), decide_eq_false (show ¬ (0 ≤ b ∧ b < pw t) by omega), Bool.false_and]
  ·rw [if_neg (by rw [decide_eq_true_eq]; exact ha), decide_eq_false (show ¬ (0 ≤ a ∧ a < pw t) by omega), Bool.false_and]
 ·rw [if_neg h, Bool.eq_false_iff.mpr h, Bool.false_and]
theorem impl_HoldsOf_k (t : Int) (l : List Int) (a b : Int) (hl : l.length ≤ 1048576) (k : Nat) (hk : 1048600 ≤ k) : impl_HoldsOf.f k t l a b = some (holdsP t l a b) := by
 unfold impl_HoldsOf.f holdsP
 rw [impl_isRelation_k t l hl k hk, Option.bind_some]
 by_cases h : isRel t l = true
 ·obtain ⟨h1, h2, h3⟩ := isRel_range h
  rw [if_pos h, h, Bool.true_and, shl_one t h1 h2]
  by_cases a1 : a < 0
  ·rw [if_pos a1, decide_eq_false (show ¬ (0 ≤ a ∧ a < pw t) by omega), Bool.false_and]
  ·rw [if_neg a1, if_pos h1]
   by_cases a2 : a ≥ pw t
   ·rw [if_pos a2, decide_eq_false (show ¬ (0 ≤ a ∧ a < pw t) by omega), Bool.false_and]
   ·rw [if_neg a2, decide_eq_true (show 0 ≤ a ∧ a < pw t by omega), Bool.true_and]
    by_cases b1 : b < 0
    ·rw [if_pos b1, decide_eq_false (show ¬ (0 ≤ b ∧ b < pw t) by omega), Bool.false_and]
    ·rw [if_neg b1]
     by_cases b2 : b ≥ pw t
     ·rw [if_pos b2, decide_eq_false (show ¬ (0 ≤ b ∧ b < pw t) by omega), Bool.false_and]
     ·rw [if_neg b2, decide_eq_true (show 0 ≤ b ∧ b < pw t by omega), Bool.true_and, holdsOf_here t l a b h1 h2 h3 (by omega) (by omega) (by omega) (by omega)]
      rfl
 ·rw [if_neg h, Bool.eq_false_iff.mpr h, Bool.false_and]
end Go.Proofs.Ytcongmckkjbhiaa.P
namespace Go.Proofs.Ytcongmckkjbhiaa.P
open Go.RowKit Go.Proofs.YtcongmckkjbhiaaW.PrintWords Go.Proofs.YtcongmckkjbhiaaW.PrintLast Go.Proofs.YtcongmckkjbhiaaW.PrintMore
attribute [local go_sem] max2_int min2_int max_two min_two max_three min_three max_four min_four
set_option linter.unusedVariables false
set_option linter.unusedSimpArgs false
/-! ### impl_isTriangle: function 51 -/
def impl_isTriangle.l0 : Nat → List Int → List Int → Int → Int → Option (Bool)
 | 0, _, _, _, _ => none
 | k + 1, x0, x5, x6, x7 => if x7 < x6 then (if 0 ≤ x7 then (if x7 < (x5.length : Int) then (if (rd x5 x7) = 0 then (impl_isTriangle.l0 k x0 x5 x6 (wrap64 (x7 + 1))) else (if (rd x5 x7) = 1 then (impl_isTriangle.l0 k x0 x5 x6 (wrap64 (x7 + 1))) else (some false))) else (none)) else (none)) else (some ((x0.length : Int) == 21))
def impl_isTriangle.f (k : Nat) (l0 : List Int) : Option (Bool) := impl_isTriangle.l0 k l0 l0 (l0.length : Int) 0
theorem impl_isTriangle.mono_l : ∀ k, (∀ y0 y1 y2 y3, LeO (impl_isTriangle.l0 k y0 y1 y2 y3) (impl_isTriangle.l0 (k + 1) y0 y1 y2 y3))
 | 0 => fun _ _ _ _ r h => by simp [impl_isTriangle.l0] at h
 | k + 1 => by
  have ih0 := impl_isTriangle.mono_l k
  ·intro y0 y1 y2 y3
   unfold impl_isTriangle.l0
   repeat' first
   | (with_reducible exact ih0 _ _ _ _)
   | (with_reducible exact LeO.refl _)
   | (with_reducible exact LeO.none _)
   | (with_reducible refine LeO.ite ?_ ?_)
   | (with_reducible refine LeO.bind ?_ (fun _ => ?_))
theorem impl_isTriangle.mono : ∀ a0 k, LeO (impl_isTriangle.f k a0) (impl_isTriangle.f (k + 1) a0) := by
 intro a0 k
 have ih0 := impl_isTriangle.mono_l k
 unfold impl_isTriangle.f
 repeat' first
   | (with_reducible exact ih0 _ _ _ _)
   | (with_reducible exact LeO.refl _)
   | (with_reducible exact LeO.none _)
   | (with_reducible refine LeO.ite ?_ ?_)
   | (with_reducible refine LeO.bind ?_ (fun _ => ?_))
set_option maxHeartbeats 8000000 in
set_option maxRecDepth 100000 in
theorem impl_isTriangle.calls (k : Nat) (A0 : Option Addr) (c0 : Nat) (l0 : List Int) (r : Bool) (w : World) (hr0 : Kd.C (Kd.int .i64) w A0 l0.length l0) (hc0 : l0.length ≤ c0) (h : impl_isTriangle.f k l0 = some r) :
  Calls Try.prog 51 #[.slice A0 l0.length c0] w fun e w' => e = .returned (.bool r) ∧ Drawn0 w w' := by
 have HR0 := Aside0.mk hr0
 have HC0 := Aside0.mk hc0
 clear hr0 hc0
 have H : (impl_isTriangle.l0 k l0 l0 (l0.length : Int) 0) = some r := h
 clear h
 have H' := Aside0.mk H
 clear H
 go_enter Try.func51, Try.ntmps51
 go_wp2
 go_loopg [7] k (fun kq v7 w' => ∃ (x7_1 : Int), v7 = .int .i64 x7_1 ∧ Aside0 (impl_isTriangle.l0 kq l0 l0 (l0.length : Int) x7_1 = some r) ∧ Aside0 (kq ≤ k) ∧ Drawn0 w w')
 case atStart => exact ⟨(0), (by first | rfl | (simp; done) | (simp [*]; done)), H', ⟨Nat.le_refl _⟩, by repeat (first | exact Drawn0.refl _ | apply Drawn0.step)⟩
 case round =>
  clear H'
  obtain ⟨x7_1, rfl, HA, HK1, ⟨m1, rfl⟩⟩ := hrel
  cases gk with
  | zero => exact absurd HA.out (by simp [impl_isTriangle.l0])
  | succ k1 =>
   have H := HA.out
   clear HA
   simp only [impl_isTriangle.l0] at H
   by_cases c2 : x7_1 < (l0.length : Int)
   ·rw [if_pos c2] at H
    have c2b0 : decide (x7_1 < (l0.length : Int)) = true := decide_eq_true c2
    clear c2
    by_cases c3 : 0 ≤ x7_1
    ·rw [if_pos c3] at H
     have c3b0 : decide (0 ≤ x7_1) = true := decide_eq_true c3
     clear c3
     by_cases c4 : x7_1 < (l0.length : Int)
     ·rw [if_pos c4] at H
      have c4b0 : decide (x7_1 < (l0.length : Int)) = true := decide_eq_true c4
      clear c4
      by_cases c5 : (rd l0 x7_1) = 0
      ·rw [if_pos c5] at H
       have c5b0 : ((rd l0 x7_1) == 0) = true := beq_iff_eq.mpr c5
       have c5b1 : ((rd l0 x7_1) != 0) = false := bne_eq_false_iff_eq.mpr c5
       clear c5
       have H' := Aside0.mk H
       clear H
       have p375 : 0 ≤ (x7_1 : Int) := of_decide_eq_true (by first | (with_reducible assumption) | assumption)
       have q375 : x7_1 < (l0.length : Int) := of_decide_eq_true (by first | (with_reducible assumption) | assumption)
       obtain ⟨ad375, e375, hx375_0⟩ := Kd.at_int HR0.out x7_1 p375 q375
       cases e375
       replace p375 := eq_true p375
       replace q375 := eq_true q375
       go_wp2
       go_roundg k1
       case measure => have := HK1.out; omega
       case rel => exact ⟨(wrap64 (x7_1 + 1)), (by first | rfl | (simp; done) | (simp [*]; done)), H', ⟨by have := HK1.out; omega⟩, by repeat (first | exact Drawn0.refl _ | apply Drawn0.step)⟩
      ·rw [if_neg c5] at H
       have c5b0 : ((rd l0 x7_1) == 0) = false := beq_eq_false_iff_ne.mpr c5
       have c5b1 : ((rd l0 x7_1) != 0) = true := bne_iff_ne.mpr c5
       by_cases c6 : (rd l0 x7_1) = 1
       ·rw [if_pos c6] at H
        have c6b0 : ((rd l0 x7_1) == 1) = true := beq_iff_eq.mpr c6
        have c6b1 : ((rd l0 x7_1) != 1) = false := bne_eq_false_iff_eq.mpr c6
        clear c6
        have H' := Aside0.mk H
        clear H
        have p375 : 0 ≤ (x7_1 : Int) := of_decide_eq_true (by first | (with_reducible assumption) | assumption)
        have q375 : x7_1 < (l0.length : Int) := of_decide_eq_true (by first | (with_reducible assumption) | assumption)
        obtain ⟨ad375, e375, hx375_0⟩ := Kd.at_int HR0.out x7_1 p375 q375
        cases e375
        replace p375 := eq_true p375
        replace q375 := eq_true q375
        go_wp2
        go_roundg k1
        case measure => have := HK1.out; omega
        case rel => exact ⟨(wrap64 (x7_1 + 1)), (by first | rfl | (simp; done) | (simp [*]; done)), H', ⟨by have := HK1.out; omega⟩, by repeat (first | exact Drawn0.refl _ | apply Drawn0.step)⟩
       ·rw [if_neg c6] at H
        have c6b0 : ((rd l0 x7_1) == 1) = false := beq_eq_false_iff_ne.mpr c6
        have c6b1 : ((rd l0 x7_1) != 1) = true := bne_iff_ne.mpr c6
        obtain rfl := Option.some.inj H
        have p375 : 0 ≤ (x7_1 : Int) := of_decide_eq_true (by first | (with_reducible assumption) | assumption)
        have q375 : x7_1 < (l0.length : Int) := of_decide_eq_true (by first | (with_reducible assumption) | assumption)
        obtain ⟨ad375, e375, hx375_0⟩ := Kd.at_int HR0.out x7_1 p375 q375
        cases e375
        replace p375 := eq_true p375
        replace q375 := eq_true q375
        go_wp2
        go_ret
        exact ⟨by first | rfl | (simp; done) | (simp [*]; done), by repeat (first | exact Drawn0.refl _ | apply Drawn0.step)⟩
     ·rw [if_neg c4] at H
      exact absurd H (by simp)
    ·rw [if_neg c3] at H
     exact absurd H (by simp)
   ·rw [if_neg c2] at H
    have c2b0 : decide (x7_1 < (l0.length : Int)) = false := decide_eq_false c2
    clear c2
    obtain rfl := Option.some.inj H
    go_wp2
    go_ret
    exact ⟨by first | rfl | (simp; done) | (simp [*]; done), by repeat (first | exact Drawn0.refl _ | apply Drawn0.step)⟩
/-! ### HAND what isTriangle comes to -/
end Go.Proofs.Ytcongmckkjbhiaa.P
/- Plain facts on triangles: what the printed l1In, PlaceOf, TriangleOk (reference and program) come to; lists of 21 numbers by places. -/
namespace Go.Proofs.Ytcongmckkjbhiaa.P
open Go.RowKit Go.Proofs.YtcongmckkjbhiaaW.PrintWords Go.Proofs.YtcongmckkjbhiaaW.PrintLast
theorem l1In_eq (n a b : Int) : spec_l1In.f n a b = some (decide (a ≤ n ∧ n ≤ b)) := by
 unfold spec_l1In.f
 by_cases h : n ≥ a
 ·rw [if_pos h]; congr 1; rw [decide_eq_decide]; omega
 ·rw [if_neg h]; congr 1; symm; rw [decide_eq_false_iff_not]; omega
/-- The place of an entry. -/
def pl (a s : Int) : Int := a * (a + 1) / 2 + s
theorem five (a : Int) (h1 : 0 ≤ a) (h2 : a ≤ 5) : a = 0 ∨ a = 1 ∨ a = 2 ∨ a = 3 ∨ a = 4 ∨ a = 5 := by omega
theorem pl_range (a s : Int) (h1 : 0 ≤ a) (h2 : a ≤ 5) (h3 : 0 ≤ s) (h4 : s ≤ a) : 0 ≤ pl a s ∧ pl a s < 21 := by
 unfold pl
 rcases five a h1 h2 with rfl | rfl | rfl | rfl | rfl | rfl <;> omega
theorem pl_wrap (a s : Int) (h1 : 0 ≤ a) (h2 : a ≤ 5) (h3 : 0 ≤ s) (h4 : s ≤ a) : wrap64 ((wrap64 (Int.tdiv (wrap64 (a * (wrap64 (a + 1)))) 2)) + s) = pl a s := by
 unfold pl
 rcases five a h1 h2 with rfl | rfl | rfl | rfl | rfl | rfl <;> (simp [wrap64]; omega)
/-- The place, or -1. -/
def plOr (a s : Int) : Int := if 0 ≤ a ∧ a ≤ 5 ∧ 0 ≤ s ∧ s ≤ a then pl a s else -1
theorem spec_PlaceOf_eq (a s : Int) : spec_PlaceOf.f a s = some (plOr a s) := by
 unfold spec_PlaceOf.f plOr
 simp only [l1In_eq, Option.bind_some, decide_eq_true_eq]
 by_cases h : 0 ≤ a ∧ a ≤ 5
 ·rw [if_pos h]
  by_cases h' : 0 ≤ s ∧ s ≤ a
  ·rw [if_pos h', if_pos ⟨h.1, h.2, h'.1, h'.2⟩, pl_wrap a s h.1 h.2 h'.1 h'.2]
  ·rw [if_neg h', if_neg (fun h2 => h' ⟨h2.2.2.1, h2.2.2.2⟩)]
 ·rw [if_neg h, if_neg (fun h2 => h ⟨h2.1, h2.2.1⟩)]
theorem plOr_in (a s : Int) (h1 : 0 ≤ a) (h2 : a ≤ 5) (h3 : 0 ≤ s) (h4 : s ≤ a) : plOr a s = pl a s := if_pos ⟨h1, h2, h3, h4⟩
theorem spec_TriangleOk_round (l : List Int) (hl : l.length ≤ 1048576) (d : Nat) : ∀ (k i : Nat), i + d = l.length → d < k → spec_TriangleOk.l0 k l (i : Int) = some ((l.drop i).all (fun x => x == 0 || x == 1) && l.length == 21) := by
 induction d with
 | zero =>
  intro k i h hk
  obtain ⟨k, rfl⟩ : ∃ m, k = m + 1 := ⟨k - 1, by omega⟩
  simp only [spec_TriangleOk.l0]
  rw [if_neg (by omega), List.drop_of_length_le (by omega), List.all_nil, Bool.true_and]
  congr 1
  rw [Bool.eq_iff_iff, beq_iff_eq, beq_iff_eq]
  omega
 | succ d ih =>
  intro k i h hk
  obtain ⟨k, rfl⟩ : ∃ m, k = m + 1 := ⟨k - 1, by omega⟩
  have hi : i < l.length := by omega
  have hd_ : l.drop i = l[i] :: l.drop (i + 1) := List.drop_eq_getElem_cons hi
  simp only [spec_TriangleOk.l0]
  rw [if_pos (by omega), if_pos (by omega), rd_get l i hi, l1In_eq, Option.bind_some, wrap_succ i l.length hi hl, ih k (i + 1) (by omega) (by omega), hd_, List.all_cons]
  by_cases h0 : l[i] = 0 ∨ l[i] = 1
  ·rw [if_pos (decide_eq_true (by omega)), show (l[i] == 0 || l[i] == 1) = true from by simpa using h0, Bool.true_and]
  ·rw [if_neg (by rw [decide_eq_true_eq]; omega), show (l[i] == 0 || l[i] == 1) = false from by simpa using h0, Bool.false_and, Bool.false_and]
theorem spec_TriangleOk_k (l : List Int) (hl : l.length ≤ 1048576) (k : Nat) (hk : 1048576 < k) : spec_TriangleOk.f k l = some (isTri l) := by
 unfold spec_TriangleOk.f isTri
 simpa using spec_TriangleOk_round l hl l.length k 0 (by omega) (by omega)
/-! The 21 places. -/
def pairs : List (Int × Int) := [(0, 0), (1, 0), (1, 1), (2, 0), (2, 1), (2, 2), (3, 0), (3, 1), (3, 2), (3, 3), (4, 0), (4, 1), (4, 2), (4, 3), (4, 4), (5, 0), (5, 1), (5, 2), (5, 3), (5, 4), (5, 5)]
/-- The list of a number at each place. -/
def triI (f : Int → Int → Int) : List Int := pairs.map fun p => f p.1 p.2
theorem pairs_range (p : Int × Int) (h : p ∈ pairs) : 0 ≤ p.1 ∧ p.1 ≤ 5 ∧ 0 ≤ p.2 ∧ p.2 ≤ p.1 := by
 revert p
 decide
theorem triI_length (f : Int → Int → Int) : (triI f).length = 21 := by simp [triI, pairs]
theorem triBy_eq (so : Int → Int → Bool) : triBy so = triI fun a s => if so a s = true then 1 else 0 := rfl
theorem triI_congr (f g : Int → Int → Int) (h : ∀ a s, 0 ≤ a → a ≤ 5 → 0 ≤ s → s ≤ a → f a s = g a s) : triI f = triI g := by
 unfold triI
 apply List.map_congr_left
 intro p hp
 obtain ⟨h1, h2, h3, h4⟩ := pairs_range p hp
 exact h p.1 p.2 h1 h2 h3 h4
theorem tri_bit (l : List Int) (h : isTri l = true) (i : Int) : rd l i = 0 ∨ rd l i = 1 := by
 unfold rd
 rw [List.getD_eq_getElem?_getD]
 by_cases hi : i.toNat < l.length
 ·rw [List.getElem?_eq_getElem hi, Option.getD_some]
  simp only [isTri, Bool.and_eq_true, List.all_eq_true] at h
  have := h.1 _ (List.getElem_mem hi)
  simpa using this
 ·rw [List.getElem?_eq_none (by omega)]
  exact .inl rfl
theorem isTri_of (l : List Int) (h1 : l.length = 21) (h2 : ∀ x ∈ l, x = 0 ∨ x = 1) : isTri l = true := by
 simp only [isTri, Bool.and_eq_true, List.all_eq_true]
 exact ⟨fun x hx => by simpa using h2 x hx, by simpa using h1⟩
theorem isTri_triI (f : Int → Int → Int) (h : ∀ a s, 0 ≤ a → a ≤ 5 → 0 ≤ s → s ≤ a → f a s = 0 ∨ f a s = 1) : isTri (triI f) = true := by
 refine isTri_of _ (triI_length f) fun x hx => ?_
 obtain ⟨p, hp, rfl⟩ := List.mem_map.mp hx
 obtain ⟨h1, h2, h3, h4⟩ := pairs_range p hp
 exact h p.1 p.2 h1 h2 h3 h4
theorem isTri_triBy (so : Int → Int → Bool) : isTri (triBy so) = true := by
 rw [triBy_eq]
 refine isTri_triI _ fun a s _ _ _ _ => ?_
 by_cases h : so a s = true
 ·rw [if_pos h]; exact .inr rfl
 ·rw [if_neg h]; exact .inl rfl
/- Plain facts on lists of numbers by rows and by indexes, and on the entries of a triangle. No condition beyond those typed. -/
/-! Lists by rows, and by indexes. -/
def rowI (f : Int → Int → Int) (a m : Nat) : List Int := (List.range m).map fun (s : Nat) => f (a : Int) (s : Int)
def rowsI (f : Int → Int → Int) (n : Nat) : List Int := (List.range n).flatMap fun a => rowI f a (a + 1)
theorem rowI_zero (f : Int → Int → Int) (a : Nat) : rowI f a 0 = [] := rfl
theorem rowI_succ (f : Int → Int → Int) (a m : Nat) : rowI f a (m + 1) = rowI f a m ++ [f a m] := by simp [rowI, List.range_succ]
theorem rowsI_succ (f : Int → Int → Int) (n : Nat) : rowsI f (n + 1) = rowsI f n ++ rowI f n (n + 1) := by simp [rowsI, List.range_succ]
theorem rowI_length (f : Int → Int → Int) (a m : Nat) : (rowI f a m).length = m := by simp [rowI]
theorem rowsI_length_le (f : Int → Int → Int) : ∀ n, n ≤ 6 → (rowsI f n).length ≤ 6 * n
 | 0, _ => by simp [rowsI]
 | n + 1, h => by
  have := rowsI_length_le f n (by omega)
  rw [rowsI_succ, List.length_append, rowI_length]
  omega
theorem rows_bound (f : Int → Int → Int) (n m : Nat) (hn : n < 6) (hm : m ≤ n + 1) : (rowsI f n ++ rowI f n m).length < 17592186044416 := by
 have := rowsI_length_le f n (by omega)
 rw [List.length_append, rowI_length]
 omega
def idx (f : Int → Int) (n : Nat) : List Int := (List.range n).map fun (j : Nat) => f (j : Int)
theorem idx_succ (f : Int → Int) (n : Nat) : idx f (n + 1) = idx f n ++ [f n] := by simp [idx, List.range_succ]
theorem idx_length (f : Int → Int) (n : Nat) : (idx f n).length = n := by simp [idx]
theorem idx_tri (f : Int → Int) : idx f 21 = triI fun a s => f (pl a s) := rfl
theorem wrap_succ6 (i : Nat) (h : i ≤ 100) : wrap64 ((i : Int) + 1) = ((i + 1 : Nat) : Int) := by unfold wrap64; omega
theorem bit_of (l : List Int) (h : isTri l = true) (a s : Int) : rd l (pl a s) = if hd l a s = true then 1 else 0 := by
 unfold hd
 rcases tri_bit l h (pl a s) with e | e
 ·rw [show a * (a + 1) / 2 + s = pl a s from rfl, e]; rfl
 ·rw [show a * (a + 1) / 2 + s = pl a s from rfl, e]; rfl
/- Plain facts: what the reference's NotOf, BothOf, EitherOf, InsideNot, DualOf come to, with enough rounds, for lists of at most 2^20 numbers. -/
/-! NotOf -/
def notP (l : List Int) : List Int := if isTri l = true then triBy (fun a s => !(hd l a s)) else []
theorem spec_NotOf_round (l : List Int) (hl : l.length ≤ 1048576) (ht : isTri l = true) (d : Nat) : ∀ (k i : Nat), i + d = l.length → d + 1048576 < k → spec_NotOf.l0 k l (idx (fun j => wrap64 (1 - rd l j)) i) (i : Int) = some (idx (fun j => wrap64 (1 - rd l j)) l.length) := by
 induction d with
 | zero =>
  intro k i h hk
  obtain ⟨k, rfl⟩ : ∃ m, k = m + 1 := ⟨k - 1, by omega⟩
  simp only [spec_NotOf.l0]
  rw [if_neg (by omega), show i = l.length from by omega]
 | succ d ih =>
  intro k i h hk
  obtain ⟨k, rfl⟩ : ∃ m, k = m + 1 := ⟨k - 1, by omega⟩
  simp only [spec_NotOf.l0]
  rw [if_pos (by omega), spec_TriangleOk_k l hl k (by omega), Option.bind_some, ht, if_pos rfl, if_pos (by omega), if_pos (by rw [idx_length]; omega), wrap_succ i l.length (by omega) hl, ← idx_succ]
  exact ih k (i + 1) (by omega) (by omega)
theorem spec_NotOf_k (l : List Int) (hl : l.length ≤ 1048576) (k : Nat) (hk : 2097153 ≤ k) : spec_NotOf.f k l = some (notP l) := by
 unfold spec_NotOf.f notP
 by_cases ht : isTri l = true
 ·have h := spec_NotOf_round l hl ht l.length k 0 (by omega) (by omega)
  rw [isTri_length ht, idx_tri] at h
  rw [if_pos ht]
  refine Eq.trans h ?_
  rw [triBy_eq]
  congr 1
  refine triI_congr _ _ fun a s _ _ _ _ => ?_
  rw [bit_of l ht]
  cases hd l a s <;> simp [wrap64]
 ·rw [if_neg ht]
  obtain ⟨k, rfl⟩ : ∃ m, k = m + 1 := ⟨k - 1, by omega⟩
  simp only [spec_NotOf.l0]
  by_cases h0 : (0 : Int) < (l.length : Int)
  ·rw [if_pos h0, spec_TriangleOk_k l hl k (by omega), Option.bind_some, if_neg ht]
  ·rw [if_neg h0]
/-! BothOf, EitherOf -/
def bothP (l m : List Int) : List Int := if (isTri l && isTri m) = true then triBy (fun a s => hd l a s && hd m a s) else []
def eitherP (l m : List Int) : List Int := if (isTri l && isTri m) = true then triBy (fun a s => hd l a s || hd m a s) else []
theorem spec_BothOf_round (l m : List Int) (hl : l.length ≤ 1048576) (hm : m.length ≤ 1048576) (ht : isTri l = true) (hu : isTri m = true) (d : Nat) : ∀ (k i : Nat), i + d = l.length → d + 1048576 < k → spec_BothOf.l0 k l m (idx (fun j => wrap64 (rd l j * rd m j)) i) (i : Int) = some (idx (fun j => wrap64 (rd l j * rd m j)) l.length) := by
 induction d with
 | zero =>
  intro k i h hk
  obtain ⟨k, rfl⟩ : ∃ m, k = m + 1 := ⟨k - 1, by omega⟩
  simp only [spec_BothOf.l0]
  rw [if_neg (by omega), show i = l.length from by omega]
 | succ d ih =>
  intro k i h hk
  obtain ⟨k, rfl⟩ : ∃ m, k = m + 1 := ⟨k - 1, by omega⟩
  have h1 := isTri_length ht
  have h2 := isTri_length hu
  simp only [spec_BothOf.l0]
  rw [if_pos (by omega), spec_TriangleOk_k l hl k (by omega), Option.bind_some, ht, if_pos rfl, spec_TriangleOk_k m hm k (by omega), Option.bind_some, hu, if_pos rfl, if_pos (by omega), if_pos (by omega), if_pos (by rw [idx_length]; omega), wrap_succ i l.length (by omega) hl, ← idx_succ]
  exact ih k (i + 1) (by omega) (by omega)
theorem spec_BothOf_k (l m : List Int) (hl : l.length ≤ 1048576) (hm : m.length ≤ 1048576) (k : Nat) (hk : 2097153 ≤ k) : spec_BothOf.f k l m = some (bothP l m) := by
 unfold spec_BothOf.f bothP
 by_cases ht : isTri l = true
 ·by_cases hu : isTri m = true
  ·have h := spec_BothOf_round l m hl hm ht hu l.length k 0 (by omega) (by omega)
   rw [isTri_length ht, idx_tri] at h
   rw [if_pos (show (isTri l && isTri m) = true from by rw [ht, hu]; rfl)]
   refine Eq.trans h ?_
   rw [triBy_eq]
   congr 1
   refine triI_congr _ _ fun a s _ _ _ _ => ?_
   rw [bit_of l ht, bit_of m hu]
   cases hd l a s <;> cases hd m a s <;> simp [wrap64]
  ·rw [if_neg (show ¬ (isTri l && isTri m) = true from by rw [ht, Bool.eq_false_iff.mpr hu]; decide)]
   obtain ⟨k, rfl⟩ : ∃ m, k = m + 1 := ⟨k - 1, by omega⟩
   simp only [spec_BothOf.l0]
   have := isTri_length ht
   rw [if_pos (by omega), spec_TriangleOk_k l hl k (by omega), Option.bind_some, ht, if_pos rfl, spec_TriangleOk_k m hm k (by omega), Option.bind_some, if_neg hu]
 ·rw [if_neg (show ¬ (isTri l && isTri m) = true from by rw [Bool.eq_false_iff.mpr ht, Bool.false_and]; decide)]
  obtain ⟨k, rfl⟩ : ∃ m, k = m + 1 := ⟨k - 1, by omega⟩
  simp only [spec_BothOf.l0]
  by_cases h0 : (0 : Int) < (l.length : Int)
  ·rw [if_pos h0, spec_TriangleOk_k l hl k (by omega), Option.bind_some, if_neg ht]
  ·rw [if_neg h0]
theorem spec_EitherOf_round (l m : List Int) (hl : l.length ≤ 1048576) (hm : m.length ≤ 1048576) (ht : isTri l = true) (hu : isTri m = true) (d : Nat) : ∀ (k i : Nat), i + d = l.length → d + 1048576 < k → spec_EitherOf.l0 k l m (idx (fun j => wrap64 (wrap64 (rd l j + rd m j) - wrap64 (rd l j * rd m j))) i) (i : Int) = some (idx (fun j => wrap64 (wrap64 (rd l j + rd m j) - wrap64 (rd l j * rd m j))) l.length) := by
 induction d with
 | zero =>
  intro k i h hk
  obtain ⟨k, rfl⟩ : ∃ m, k = m + 1 := ⟨k - 1, by omega⟩
  simp only [spec_EitherOf.l0]
  rw [if_neg (by omega), show i = l.length from by omega]
 | succ d ih =>
  intro k i h hk
  obtain ⟨k, rfl⟩ : ∃ m, k = m + 1 := ⟨k - 1, by omega⟩
  have h1 := isTri_length ht
  have h2 := isTri_length hu
  simp only [spec_EitherOf.l0]
  rw [if_pos (by omega), spec_TriangleOk_k l hl k (by omega), Option.bind_some, ht, if_pos rfl, spec_TriangleOk_k m hm k (by omega), Option.bind_some, hu, if_pos rfl, if_pos (by omega), if_pos (by omega), if_pos (by rw [idx_length]; omega), wrap_succ i l.length (by omega) hl, ← idx_succ]
  exact ih k (i + 1) (by omega) (by omega)
theorem spec_EitherOf_k (l m : List Int) (hl : l.length ≤ 1048576) (hm : m.length ≤ 1048576) (k : Nat) (hk : 2097153 ≤ k) : spec_EitherOf.f k l m = some (eitherP l m) := by
 unfold spec_EitherOf.f eitherP
 by_cases ht : isTri l = true
 ·by_cases hu : isTri m = true
  ·have h := spec_EitherOf_round l m hl hm ht hu l.length k 0 (by omega) (by omega)
   rw [isTri_length ht, idx_tri] at h
   rw [if_pos (show (isTri l && isTri m) = true from by rw [ht, hu]; rfl)]
   refine Eq.trans h ?_
   rw [triBy_eq]
   congr 1
   refine triI_congr _ _ fun a s _ _ _ _ => ?_
   rw [bit_of l ht, bit_of m hu]
   cases hd l a s <;> cases hd m a s <;> simp [wrap64]
  ·rw [if_neg (show ¬ (isTri l && isTri m) = true from by rw [ht, Bool.eq_false_iff.mpr hu]; decide)]
   obtain ⟨k, rfl⟩ : ∃ m, k = m + 1 := ⟨k - 1, by omega⟩
   simp only [spec_EitherOf.l0]
   have := isTri_length ht
   rw [if_pos (by omega), spec_TriangleOk_k l hl k (by omega), Option.bind_some, ht, if_pos rfl, spec_TriangleOk_k m hm k (by omega), Option.bind_some, if_neg hu]
 ·rw [if_neg (show ¬ (isTri l && isTri m) = true from by rw [Bool.eq_false_iff.mpr ht, Bool.false_and]; decide)]
  obtain ⟨k, rfl⟩ : ∃ m, k = m + 1 := ⟨k - 1, by omega⟩
  simp only [spec_EitherOf.l0]
  by_cases h0 : (0 : Int) < (l.length : Int)
  ·rw [if_pos h0, spec_TriangleOk_k l hl k (by omega), Option.bind_some, if_neg ht]
  ·rw [if_neg h0]
/-! InsideNot, DualOf -/
def insP (l : List Int) : List Int := if isTri l = true then triBy (fun a s => hd l a (a - s)) else []
theorem spec_InsideNot_inner (l : List Int) (hl : l.length = 21) (a : Nat) (ha : a < 6) (d : Nat) : ∀ (m s : Nat), s + d = a + 1 →
  spec_InsideNot.l1 (m + d + 1) l (rowsI (fun a s => rd l (pl a (a - s))) a ++ rowI (fun a s => rd l (pl a (a - s))) a s) (a : Int) (s : Int) = spec_InsideNot.l0 m l (rowsI (fun a s => rd l (pl a (a - s))) (a + 1)) ((a + 1 : Nat) : Int) := by
 induction d with
 | zero =>
  intro m s h
  simp only [spec_InsideNot.l1]
  rw [if_neg (by omega), wrap_succ6 a (by omega), show s = a + 1 from by omega, ← rowsI_succ]
 | succ d ih =>
  intro m s h
  rw [show m + (d + 1) + 1 = (m + d + 1) + 1 from by omega]
  simp only [spec_InsideNot.l1]
  have hw : wrap64 ((a : Int) - s) = (a : Int) - s := by unfold wrap64; omega
  have hr := pl_range a ((a : Int) - s) (by omega) (by omega) (by omega) (by omega)
  rw [if_pos (by omega), hw, spec_PlaceOf_eq, plOr_in _ _ (by omega) (by omega) (by omega) (by omega), Option.bind_some, if_pos hr.1, if_pos (by omega), if_pos (rows_bound _ a s ha (by omega)), wrap_succ6 s (by omega), List.append_assoc, ← rowI_succ (fun a s => rd l (pl a (a - s))) a s]
  exact ih m (s + 1) (by omega)
theorem spec_InsideNot_outer (l : List Int) (ht : isTri l = true) (e : Nat) : ∀ (k a : Nat), a + e = 6 → 10 * e + 1048600 < k →
  spec_InsideNot.l0 k l (rowsI (fun a s => rd l (pl a (a - s))) a) (a : Int) = some (triI (fun a s => rd l (pl a (a - s)))) := by
 have hl := isTri_length ht
 induction e with
 | zero =>
  intro k a h hk
  obtain ⟨k, rfl⟩ : ∃ m, k = m + 2 := ⟨k - 2, by omega⟩
  obtain rfl : a = 6 := by omega
  simp only [spec_InsideNot.l0]
  rw [if_neg (by omega)]
  simp only [spec_InsideNot.j1]
  rfl
 | succ e ih =>
  intro k a h hk
  obtain ⟨k, rfl⟩ : ∃ m, k = m + (a + 1) + 1 + 2 := ⟨k - (a + 4), by omega⟩
  simp only [spec_InsideNot.l0]
  rw [if_pos (by omega), spec_TriangleOk_k l (by omega) _ (by omega), Option.bind_some, ht]
  simp only [spec_InsideNot.j1, if_true]
  have := spec_InsideNot_inner l hl a (by omega) (a + 1) k 0 (by omega)
  rw [rowI_zero, List.append_nil] at this
  refine Eq.trans this ?_
  exact ih k (a + 1) (by omega) (by omega)
theorem spec_InsideNot_k (l : List Int) (hl : l.length ≤ 1048576) (k : Nat) (hk : 2097153 ≤ k) : spec_InsideNot.f k l = some (insP l) := by
 unfold spec_InsideNot.f insP
 by_cases ht : isTri l = true
 ·rw [if_pos ht]
  have := spec_InsideNot_outer l ht 6 k 0 (by omega) (by omega)
  refine Eq.trans this ?_
  rw [triBy_eq]
  congr 1
  refine triI_congr _ _ fun a s _ _ _ _ => ?_
  rw [bit_of l ht]
 ·rw [if_neg ht]
  obtain ⟨k, rfl⟩ : ∃ m, k = m + 2 := ⟨k - 2, by omega⟩
  simp only [spec_InsideNot.l0]
  rw [if_pos (by omega), spec_TriangleOk_k l hl _ (by omega), Option.bind_some]
  simp only [spec_InsideNot.j1]
  rw [if_neg ht]
theorem isTri_notP (l : List Int) (h : isTri l = true) : isTri (notP l) = true := by
 unfold notP
 rw [if_pos h]
 exact isTri_triBy _
theorem isTri_insP (l : List Int) (h : isTri l = true) : isTri (insP l) = true := by
 unfold insP
 rw [if_pos h]
 exact isTri_triBy _
theorem isTri_bothP (l m : List Int) (h : isTri l = true) (h' : isTri m = true) : isTri (bothP l m) = true := by
 unfold bothP
 rw [if_pos (by rw [h, h']; rfl)]
 exact isTri_triBy _
theorem isTri_eitherP (l m : List Int) (h : isTri l = true) (h' : isTri m = true) : isTri (eitherP l m) = true := by
 unfold eitherP
 rw [if_pos (by rw [h, h']; rfl)]
 exact isTri_triBy _
end Go.Proofs.Ytcongmckkjbhiaa.P
