-- Written by wip/gen/lay.py, a program of this session, with the kit's print as its base. Lean checks every line.
import Derived.Test.YtjagnepjeoofpaaPx0
import Derived.Test.YtjagnepjeoofpaaPx33
import Derived.Test.YtjagnepjeoofpaaPx34
namespace Go.Proofs.Ytjagnepjeoofpaa.P
open Go.RowKit Go.Proofs.YtjagnepjeoofpaaW.PrintWords Go.Proofs.YtjagnepjeoofpaaW.PrintLast Go.Proofs.YtjagnepjeoofpaaW.PrintMore
attribute [local go_sem] max2_int min2_int max_two min_two max_three min_three max_four min_four   -- for this text's walks alone
set_option linter.unusedVariables false
set_option linter.unusedSimpArgs false

/-! ### HAND impl_stays: function 67 -/
set_option maxHeartbeats 1000000 in
set_option maxRecDepth 100000 in
theorem impl_stays.calls (g : Nat) (eg : ∀ args w, (callFunc g args).run Try.prog w = .ok (.enter g args) w) (cap : Array Value) (so : Int → Int → Bool) (A0 : Option Addr) (c0 : Nat) (l0 : List Int) (w : World) (hl : 21 ≤ l0.length) (hr0 : Kd.C (Kd.int .i64) w A0 l0.length l0) (hc0 : l0.length ≤ c0) (hs : Gives2 g cap so w) :
    Calls Try.prog 67 #[.slice A0 l0.length c0, .func (.func g) #[] cap] w fun e w' => e = .returned (.bool (staysP l0 so)) ∧ Drawn0 w w' := by
  have HS := Aside0.mk hs
  have HR0 := Aside0.mk hr0
  have HC0 := Aside0.mk hc0
  have HL := Aside0.mk hl
  clear hs hr0 hc0 hl
  go_enter Try.func67, Try.ntmps67
  go_wp2
  go_loopg [7] 6 (fun kq v7 w' => ∃ (n : Nat), v7 = .int .i64 n ∧ Aside0 (n + kq = 6 ∧ ∀ a s : Nat, a < n → s ≤ a → okAt l0 so a s = true) ∧ Drawn0 w w')
  case atStart => exact ⟨0, rfl, ⟨rfl, fun a s h => absurd h (by omega)⟩, by repeat (first | exact Drawn0.refl _ | apply Drawn0.step)⟩
  case round =>
    obtain ⟨n, rfl, HN, ⟨m1, rfl⟩⟩ := hrel
    by_cases hn : n < 6
    · obtain ⟨k1, rfl⟩ : ∃ m, gk = m + 1 := ⟨gk - 1, by have := HN.out.1; omega⟩
      have hn0 : decide ((n : Int) < 6) = true := decide_eq_true (by omega)
      go_wp2
      go_loopg [12] (n + 1) (fun kq v12 w' => ∃ (m : Nat), v12 = .int .i64 m ∧ Aside0 (m + kq = n + 1 ∧ ∀ s : Nat, s < m → okAt l0 so n s = true) ∧ Drawn0 w w')
      case atStart => exact ⟨0, rfl, ⟨by omega, fun s h => absurd h (by omega)⟩, by repeat (first | exact Drawn0.refl _ | apply Drawn0.step)⟩
      case round =>
        obtain ⟨m, rfl, HM, ⟨m2, rfl⟩⟩ := hrel
        by_cases hm : m < n + 1
        · obtain ⟨k2, rfl⟩ : ∃ j, gk = j + 1 := ⟨gk - 1, by have := HM.out.1; omega⟩
          have hm5 : (m : Int) ≤ n := by omega
          have hn5 : (n : Int) ≤ 5 := by omega
          obtain ⟨x, ex⟩ : ∃ b, hd l0 n m = b := ⟨_, rfl⟩
          have H1 := Aside0.mk (show impl_holds.f l0 n m = some x from by rw [← ex]; exact holds_here l0 n m HL.out (by omega) hn5 (by omega) hm5)
          obtain ⟨y, ey⟩ : ∃ b, so n m = b := ⟨_, rfl⟩
          have HS1 := Aside0.mk (fun W hW => show Calls Try.prog g (#[.int .i64 (n : Int), .int .i64 (m : Int)] ++ cap) W (fun e w' => e = .returned (.bool y) ∧ Drawn0 W w') from by rw [← ey]; exact HS.out W n m hW (by omega) hn5 (by omega) hm5)
          have HO := Aside0.mk (show okAt l0 so n m = (!x || y) from by unfold okAt; rw [ex, ey])
          clear ex ey
          have HT : (!x || y) = true → Aside0 (m + 1 + k2 = n + 1 ∧ ∀ s : Nat, s < m + 1 → okAt l0 so n s = true) := fun h => ⟨by have := HM.out.1; omega, fun s hs => by
            rcases Nat.lt_or_ge s m with h' | h'
            · exact HM.out.2 s h'
            · obtain rfl : s = m := by omega
              rw [HO.out, h]⟩
          have HF : (!x || y) = false → Aside0 (staysP l0 so = false) := fun h => ⟨staysP_false l0 so n m hn (by omega) (by rw [HO.out, h])⟩
          clear HO
          have HT' := Aside0.mk HT
          have HF' := Aside0.mk HF
          clear HT HF
          cases x with
          | false =>
            have HX := HT'.out rfl
            clear HT' HF'
            go_wp2_with (go_at_call 69; (with_reducible refine (impl_holds.calls A0 c0 l0 n m _ _ ?s1 HC0.out H1.out).mono ?_); (case s1 => repeat (first | exact HR0.out | (with_reducible refine Kd.C_alloc ?_ _) | (with_reducible refine Kd.C_drewN ?_ _) | (with_reducible refine Kd.C_drew ?_))); rintro e w' ⟨rfl, ⟨nd, rfl⟩⟩)
            go_roundg k2
            case measure => omega
            case rel => exact ⟨m + 1, by go_num, HX, by repeat (first | exact Drawn0.refl _ | apply Drawn0.step)⟩
          | true =>
            cases y with
            | true =>
              have HX := HT'.out rfl
              clear HT' HF'
              go_wp2_with (first | (go_at_call 69; (with_reducible refine (impl_holds.calls A0 c0 l0 n m _ _ ?s1 HC0.out H1.out).mono ?_); (case s1 => repeat (first | exact HR0.out | (with_reducible refine Kd.C_alloc ?_ _) | (with_reducible refine Kd.C_drewN ?_ _) | (with_reducible refine Kd.C_drew ?_))); rintro e w' ⟨rfl, ⟨nd, rfl⟩⟩) | (go_at_fn g; refine (HS1.out _ (pw_below_drewN (Below.refl _ _) _)).mono ?_; rintro e w' ⟨rfl, ⟨nd, rfl⟩⟩))
              go_roundg k2
              case measure => omega
              case rel => exact ⟨m + 1, by go_num, HX, by repeat (first | exact Drawn0.refl _ | apply Drawn0.step)⟩
            | false =>
              have HX := HF'.out rfl
              clear HT' HF'
              go_wp2_with (first | (go_at_call 69; (with_reducible refine (impl_holds.calls A0 c0 l0 n m _ _ ?s1 HC0.out H1.out).mono ?_); (case s1 => repeat (first | exact HR0.out | (with_reducible refine Kd.C_alloc ?_ _) | (with_reducible refine Kd.C_drewN ?_ _) | (with_reducible refine Kd.C_drew ?_))); rintro e w' ⟨rfl, ⟨nd, rfl⟩⟩) | (go_at_fn g; refine (HS1.out _ (pw_below_drewN (Below.refl _ _) _)).mono ?_; rintro e w' ⟨rfl, ⟨nd, rfl⟩⟩))
              go_ret
              exact ⟨by rw [HX.out]; rfl, by repeat (first | exact Drawn0.refl _ | apply Drawn0.step)⟩
        · go_wp2
          go_roundg k1
          case measure => omega
          case rel =>
            have hmn : m = n + 1 := by have := HM.out.1; omega
            exact ⟨n + 1, by go_num, ⟨by have := HN.out.1; omega, fun a s ha hs => by
              rcases Nat.lt_or_ge a n with h' | h'
              · exact HN.out.2 a s h' hs
              · obtain rfl : a = n := by omega
                exact HM.out.2 s (by omega)⟩, by repeat (first | exact Drawn0.refl _ | apply Drawn0.step)⟩
    · go_wp2
      go_ret
      have hn6 : n = 6 := by have := HN.out.1; omega
      exact ⟨by rw [staysP_true l0 so (fun a s ha hs => HN.out.2 a s (by omega) hs)]; rfl, by repeat (first | exact Drawn0.refl _ | apply Drawn0.step)⟩

end Go.Proofs.Ytjagnepjeoofpaa.P
