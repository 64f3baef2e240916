-- Written by wip/gen/lay.py, a program of this session, with the kit's print as its base. Lean checks every line.
import Derived.Test.YtpggephoienhlaaPx0
import Derived.Test.YtpggephoienhlaaPx14
import Derived.Test.YtpggephoienhlaaPx15
namespace Go.Proofs.Ytpggephoienhlaa.P
open Go.RowKit Go.Proofs.YtpggephoienhlaaW.PrintWords Go.Proofs.YtpggephoienhlaaW.PrintLast Go.Proofs.YtpggephoienhlaaW.PrintMore
attribute [local go_sem] max2_int min2_int max_two min_two max_three min_three max_four min_four   -- for this text's walks alone
set_option linter.unusedVariables false
set_option linter.unusedSimpArgs false

/-! ### HAND impl_splitOf: function 51 -/
def impl_splitOf.f (l0 : List Int) : Option (List Int × List Int) := if 21 ≤ l0.length then some (triBy (upP l0), triBy (downP l0)) else none
set_option maxHeartbeats 1000000 in
set_option maxRecDepth 100000 in
theorem impl_splitOf.lit1 (A0 : Option Addr) (c0 : Nat) (l0 : List Int) (b : Nat) (w : World) (hl : 21 ≤ l0.length) (hc : w.cell? ⟨b, 0, none⟩ = some (.slice A0 l0.length c0)) (hr0 : Kd.C (Kd.int .i64) w A0 l0.length l0) (hc0 : l0.length ≤ c0)
    (a s : Int) (h1 : 0 ≤ a) (h2 : a ≤ 5) (h3 : 0 ≤ s) (h4 : s ≤ a) :
    Calls Try.prog 63 #[.int .i64 a, .int .i64 s, .pointer (some ⟨b, 0, none⟩)] w fun e w' => e = .returned (.bool (upP l0 a s)) ∧ Drawn0 w w' := by
  have HR0 := Aside0.mk hr0
  have HC0 := Aside0.mk hc0
  have HL := Aside0.mk hl
  clear hr0 hc0 hl
  obtain ⟨t, rfl⟩ := Int.eq_ofNat_of_zero_le h3
  go_enter Try.func63, Try.ntmps63
  go_wp2
  go_loopg [9] (t + 1) (fun kq v9 w' => ∃ (m : Nat), v9 = .int .i64 m ∧ Aside0 (m + kq = t + 1 ∧ ∀ k : Nat, k < m → hd l0 a k = false) ∧ Drawn0 w w')
  case atStart => exact ⟨0, rfl, ⟨by omega, fun s h => absurd h (by omega)⟩, by repeat (first | exact Drawn0.refl _ | apply Drawn0.step)⟩
  case round =>
    obtain ⟨m, rfl, HM, ⟨m2, rfl⟩⟩ := hrel
    by_cases hm : m < t + 1
    · obtain ⟨k2, rfl⟩ : ∃ j, gk = j + 1 := ⟨gk - 1, by have := HM.out.1; omega⟩
      obtain ⟨x, ex⟩ : ∃ b, hd l0 a m = b := ⟨_, rfl⟩
      have H1 := Aside0.mk (show impl_holds.f l0 a m = some x from by rw [← ex]; exact holds_here l0 a m HL.out (by omega) (by omega) (by omega) (by omega))
      have EX := Aside0.mk ex
      clear ex
      cases x with
      | false =>
        go_wp2_with (first | (go_at_call 44; (with_reducible refine (impl_holds.calls A0 c0 l0 a m _ _ ?s1 HC0.out H1.out).mono ?_); (case s1 => repeat (first | exact HR0.out | (with_reducible refine Kd.C_alloc ?_ _) | (with_reducible refine Kd.C_drewN ?_ _) | (with_reducible refine Kd.C_drew ?_))); rintro e w' ⟨rfl, ⟨nd, rfl⟩⟩))
        go_roundg k2
        case measure => omega
        case rel => exact ⟨m + 1, by go_num, ⟨by have := HM.out.1; omega, fun k hk => by
          rcases Nat.lt_or_ge k m with h' | h'
          · exact HM.out.2 k h'
          · obtain rfl : k = m := by omega
            exact EX.out⟩, by repeat (first | exact Drawn0.refl _ | apply Drawn0.step)⟩
      | true =>
        go_wp2_with (first | (go_at_call 44; (with_reducible refine (impl_holds.calls A0 c0 l0 a m _ _ ?s1 HC0.out H1.out).mono ?_); (case s1 => repeat (first | exact HR0.out | (with_reducible refine Kd.C_alloc ?_ _) | (with_reducible refine Kd.C_drewN ?_ _) | (with_reducible refine Kd.C_drew ?_))); rintro e w' ⟨rfl, ⟨nd, rfl⟩⟩))
        go_ret
        exact ⟨by rw [upP_true l0 a t m (by omega) EX.out]; rfl, by repeat (first | exact Drawn0.refl _ | apply Drawn0.step)⟩
    · go_wp2
      go_ret
      have hmn : m = t + 1 := by have := HM.out.1; omega
      exact ⟨by rw [upP_false l0 a t (fun k hk => HM.out.2 k (by omega))]; rfl, by repeat (first | exact Drawn0.refl _ | apply Drawn0.step)⟩
set_option maxHeartbeats 1000000 in
set_option maxRecDepth 100000 in
theorem impl_splitOf.lit2 (A0 : Option Addr) (c0 : Nat) (l0 : List Int) (b : Nat) (w : World) (hl : 21 ≤ l0.length) (hc : w.cell? ⟨b, 0, none⟩ = some (.slice A0 l0.length c0)) (hr0 : Kd.C (Kd.int .i64) w A0 l0.length l0) (hc0 : l0.length ≤ c0)
    (a s : Int) (h1 : 0 ≤ a) (h2 : a ≤ 5) (h3 : 0 ≤ s) (h4 : s ≤ a) :
    Calls Try.prog 64 #[.int .i64 a, .int .i64 s, .pointer (some ⟨b, 0, none⟩)] w fun e w' => e = .returned (.bool (downP l0 a s)) ∧ Drawn0 w w' := by
  have HR0 := Aside0.mk hr0
  have HC0 := Aside0.mk hc0
  have HL := Aside0.mk hl
  clear hr0 hc0 hl
  obtain ⟨t, rfl⟩ := Int.eq_ofNat_of_zero_le h3
  obtain ⟨n, rfl⟩ := Int.eq_ofNat_of_zero_le h1
  go_enter Try.func64, Try.ntmps64
  go_wp2
  go_loopg [6] (n + 1) (fun kq v6 w' => ∃ (m : Nat), v6 = .int .i64 m ∧ Aside0 (m + kq ≤ n + 1 + t ∧ t ≤ m ∧ m ≤ n + 1 ∧ n + 1 ≤ m + kq ∧ ∀ k : Nat, t ≤ k → k < m → hd l0 n k = false) ∧ Drawn0 w w')
  case atStart => exact ⟨t, rfl, ⟨by omega, by omega, by omega, by omega, fun s h h' => absurd h (by omega)⟩, by repeat (first | exact Drawn0.refl _ | apply Drawn0.step)⟩
  case round =>
    obtain ⟨m, rfl, HM, ⟨m2, rfl⟩⟩ := hrel
    by_cases hm : m < n + 1
    · obtain ⟨k2, rfl⟩ : ∃ j, gk = j + 1 := ⟨gk - 1, by have := HM.out.2.2.2.1; omega⟩
      obtain ⟨x, ex⟩ : ∃ b, hd l0 n m = b := ⟨_, rfl⟩
      have hmn := HM.out.2.1
      have H1 := Aside0.mk (show impl_holds.f l0 n m = some x from by rw [← ex]; exact holds_here l0 n m HL.out (by omega) (by omega) (by omega) (by omega))
      have EX := Aside0.mk ex
      clear ex hmn
      cases x with
      | false =>
        go_wp2_with (first | (go_at_call 44; (with_reducible refine (impl_holds.calls A0 c0 l0 n m _ _ ?s1 HC0.out H1.out).mono ?_); (case s1 => repeat (first | exact HR0.out | (with_reducible refine Kd.C_alloc ?_ _) | (with_reducible refine Kd.C_drewN ?_ _) | (with_reducible refine Kd.C_drew ?_))); rintro e w' ⟨rfl, ⟨nd, rfl⟩⟩))
        go_roundg k2
        case measure => omega
        case rel => exact ⟨m + 1, by go_num, ⟨by have := HM.out.1; omega, by have := HM.out.2.1; omega, by omega, by have := HM.out.2.2.2.1; omega, fun k hk hk' => by
          rcases Nat.lt_or_ge k m with h' | h'
          · exact HM.out.2.2.2.2 k hk h'
          · obtain rfl : k = m := by omega
            exact EX.out⟩, by repeat (first | exact Drawn0.refl _ | apply Drawn0.step)⟩
      | true =>
        go_wp2_with (first | (go_at_call 44; (with_reducible refine (impl_holds.calls A0 c0 l0 n m _ _ ?s1 HC0.out H1.out).mono ?_); (case s1 => repeat (first | exact HR0.out | (with_reducible refine Kd.C_alloc ?_ _) | (with_reducible refine Kd.C_drewN ?_ _) | (with_reducible refine Kd.C_drew ?_))); rintro e w' ⟨rfl, ⟨nd, rfl⟩⟩))
        go_ret
        have hmn := HM.out.2.1
        exact ⟨by rw [downP_true l0 n t m (by omega) (by omega) EX.out]; rfl, by repeat (first | exact Drawn0.refl _ | apply Drawn0.step)⟩
    · go_wp2
      go_ret
      exact ⟨by rw [downP_false l0 n t (fun k hk hk' => HM.out.2.2.2.2 k (by omega) (by omega))]; rfl, by repeat (first | exact Drawn0.refl _ | apply Drawn0.step)⟩
set_option maxHeartbeats 2000000 in
set_option maxRecDepth 100000 in
theorem impl_splitOf.calls (A0 : Option Addr) (c0 : Nat) (l0 : List Int) (r1 : List Int) (r2 : List Int) (w : World) (hr0 : Kd.C (Kd.int .i64) w A0 l0.length l0) (hc0 : l0.length ≤ c0) (h : impl_splitOf.f l0 = some (r1, r2)) :
    Calls Try.prog 51 #[.slice A0 l0.length c0] w fun e w' => ∃ v0_ v1_ : Value, e = .returned (.tuple #[v0_, v1_]) ∧ Kd.R (Kd.int .i64) 3 w' w.heap.size (fun k_ => some k_ ≠ (v1_ : Value).ownBlock) v0_ r1 ∧ Kd.R (Kd.int .i64) 3 w' w.heap.size (fun k_ => some k_ ≠ (v0_ : Value).ownBlock) v1_ r2 ∧ Below w.heap.size w w' := by
  have hl : 21 ≤ l0.length := by
    unfold impl_splitOf.f at h; split at h
    · assumption
    · cases h
  obtain ⟨rfl, rfl⟩ : triBy (upP l0) = r1 ∧ triBy (downP l0) = r2 := by unfold impl_splitOf.f at h; rw [if_pos hl] at h; exact Prod.mk.inj (Option.some.inj h)
  have HB := Aside0.mk (below_alloc (Below.refl w.heap.size w) (.cells #[.slice A0 l0.length c0] 25))
  have HS1 := Aside0.mk (show Gives2 63 #[.pointer (some ⟨w.heap.size, 0, none⟩)] (upP l0) (w.alloc (.cells #[.slice A0 l0.length c0] 25)) from fun W a s hW h1 h2 h3 h4 =>
    impl_splitOf.lit1 A0 c0 l0 w.heap.size W hl ((hW.cell (p := ⟨w.heap.size, 0, none⟩) (by simp)).trans (by simp)) (Kd.C_below (Kd.C_alloc hr0 _) hW) hc0 a s h1 h2 h3 h4)
  have HS2 := Aside0.mk (show Gives2 64 #[.pointer (some ⟨w.heap.size, 0, none⟩)] (downP l0) (w.alloc (.cells #[.slice A0 l0.length c0] 25)) from fun W a s hW h1 h2 h3 h4 =>
    impl_splitOf.lit2 A0 c0 l0 w.heap.size W hl ((hW.cell (p := ⟨w.heap.size, 0, none⟩) (by simp)).trans (by simp)) (Kd.C_below (Kd.C_alloc hr0 _) hW) hc0 a s h1 h2 h3 h4)
  clear h hl hr0 hc0
  go_enter Try.func51, Try.ntmps51
  go_wp2_with fail
  refine (impl_triangleBy.calls _ (enters_of Try.func63 (by kernel_rfl) rfl) _ _ _ HS1.out).mono ?_
  rintro e w1 ⟨v1, rfl, ho1, hb1⟩
  have HS3 := Aside0.mk (show Gives2 64 #[.pointer (some ⟨w.heap.size, 0, none⟩)] (downP l0) w1 from fun W a s hW => HS2.out W a s (below_step hb1 hW))
  have HO1 := Aside0.mk ho1
  have HB1 := Aside0.mk hb1
  clear ho1 hb1
  go_wp2_with fail
  refine (impl_triangleBy.calls _ (enters_of Try.func64 (by kernel_rfl) rfl) _ _ _ HS3.out).mono ?_
  rintro e w2 ⟨v2, rfl, ho2, hb2⟩
  have HO2 := Aside0.mk ho2
  have HB2 := Aside0.mk hb2
  clear ho2 hb2
  go_wp2
  go_ret2
  obtain ⟨i1, o1⟩ := Kd.R_own HO1.out
  obtain ⟨i2, o2⟩ := Kd.R_own HO2.out
  have g1 := Kd.R_below (Kd.R_mono (Kd.R_bound HO1.out) (fun k hk => hk.2.2.1)) HB2.out
  refine ⟨v1, v2, rfl, ?_, ?_, below_step (below_step HB.out HB1.out) HB2.out⟩
  · exact Kd.R_lower (Kd.R_mono g1 (fun k hk e => by have h1 := own_base o2 k e.symm; exact absurd hk (by omega))) HB.out.size
  · exact Kd.R_lower (Kd.R_mono (Kd.R_new' HO2.out (fun k hk => own_lt o1 k hk)) (fun k hk => hk.2)) (Nat.le_trans HB.out.size HB1.out.size)

end Go.Proofs.Ytpggephoienhlaa.P
