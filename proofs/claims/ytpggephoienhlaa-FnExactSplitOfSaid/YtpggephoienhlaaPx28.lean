-- Written by wip/gen/lay.py, a program of this session, with the kit's print as its base. Lean checks every line.
import Derived.Test.YtpggephoienhlaaPx0
import Derived.Test.YtpggephoienhlaaPx5
namespace Go.Proofs.Ytpggephoienhlaa.P
open Go.RowKit Go.Proofs.YtpggephoienhlaaW.PrintWords Go.Proofs.YtpggephoienhlaaW.PrintLast Go.Proofs.YtpggephoienhlaaW.PrintMore
attribute [local go_sem] max2_int min2_int max_two min_two max_three min_three max_four min_four   -- for this text's walks alone
set_option linter.unusedVariables false
set_option linter.unusedSimpArgs false

/-! ### HAND impl_splitOf: function 51 -/
def impl_splitOf.f (l0 : List Int) : Option (List Int × List Int) := if 21 ≤ l0.length then some (triBy (upP l0), triBy (downP l0)) else none
set_option maxHeartbeats 1000000 in
set_option maxRecDepth 100000 in
theorem impl_splitOf.lit1 (A0 : Option Addr) (c0 : Nat) (l0 : List Int) (b : Nat) (w : World) (hl : 21 ≤ l0.length) (hc : w.cell? ⟨b, 0, none⟩ = some (.slice A0 l0.length c0)) (hr0 : Kd.C (Kd.int .i64) w A0 l0.length l0) (hc0 : l0.length ≤ c0)
    (a s : Int) (h1 : 0 ≤ a) (h2 : a ≤ 5) (h3 : 0 ≤ s) (h4 : s ≤ a) :
    Calls Try.prog 63 #[.int .i64 a, .int .i64 s, .pointer (some ⟨b, 0, none⟩)] w fun e w' => e = .returned (.bool (upP l0 a s)) ∧ Drawn0 w w' := by
  have HR0 := Aside0.mk hr0
  have HC0 := Aside0.mk hc0
  have HL := Aside0.mk hl
  clear hr0 hc0 hl
  obtain ⟨t, rfl⟩ := Int.eq_ofNat_of_zero_le h3
  go_enter Try.func63, Try.ntmps63
  go_wp2
  go_loopg [9] (t + 1) (fun kq v9 w' => ∃ (m : Nat), v9 = .int .i64 m ∧ Aside0 (m + kq = t + 1 ∧ ∀ k : Nat, k < m → hd l0 a k = false) ∧ Drawn0 w w')
  case atStart => exact ⟨0, rfl, ⟨by omega, fun s h => absurd h (by omega)⟩, by repeat (first | exact Drawn0.refl _ | apply Drawn0.step)⟩
  case round =>
    obtain ⟨m, rfl, HM, ⟨m2, rfl⟩⟩ := hrel
    by_cases hm : m < t + 1
    · obtain ⟨k2, rfl⟩ : ∃ j, gk = j + 1 := ⟨gk - 1, by have := HM.out.1; omega⟩
      obtain ⟨x, ex⟩ : ∃ b, hd l0 a m = b := ⟨_, rfl⟩
      have H1 := Aside0.mk (show impl_holds.f l0 a m = some x from by rw [← ex]; exact holds_here l0 a m HL.out (by omega) (by omega) (by omega) (by omega))
      have EX := Aside0.mk ex
      clear ex
      cases x with
      | false =>
        go_wp2_with (first | (go_at_call 44; (with_reducible refine (impl_holds.calls A0 c0 l0 a m _ _ ?s1 HC0.out H1.out).mono ?_); (case s1 => repeat (first | exact HR0.out | (with_reducible refine Kd.C_alloc ?_ _) | (with_reducible refine Kd.C_drewN ?_ _) | (with_reducible refine Kd.C_drew ?_))); rintro e w' ⟨rfl, ⟨nd, rfl⟩⟩))
        go_roundg k2
        case measure => omega
        case rel => exact ⟨m + 1, by go_num, ⟨by have := HM.out.1; omega, fun k hk => by
          rcases Nat.lt_or_ge k m with h' | h'
          · exact HM.out.2 k h'
          · obtain rfl : k = m := by omega
            exact EX.out⟩, by repeat (first | exact Drawn0.refl _ | apply Drawn0.step)⟩
      | true =>
        go_wp2_with (first | (go_at_call 44; (with_reducible refine (impl_holds.calls A0 c0 l0 a m _ _ ?s1 HC0.out H1.out).mono ?_); (case s1 => repeat (first | exact HR0.out | (with_reducible refine Kd.C_alloc ?_ _) | (with_reducible refine Kd.C_drewN ?_ _) | (with_reducible refine Kd.C_drew ?_))); rintro e w' ⟨rfl, ⟨nd, rfl⟩⟩))
        go_ret
        exact ⟨by rw [upP_true l0 a t m (by omega) EX.out]; rfl, by repeat (first | exact Drawn0.refl _ | apply Drawn0.step)⟩
    · go_wp2
      go_ret
      have hmn : m = t + 1 := by have := HM.out.1; omega
      exact ⟨by rw [upP_false l0 a t (fun k hk => HM.out.2 k (by omega))]; rfl, by repeat (first | exact Drawn0.refl _ | apply Drawn0.step)⟩
set_option maxHeartbeats 1000000 in
set_option maxRecDepth 100000 in
theorem impl_splitOf.lit2 (A0 : Option Addr) (c0 : Nat) (l0 : List Int) (b : Nat) (w : World) (hl : 21 ≤ l0.length) (hc : w.cell? ⟨b, 0, none⟩ = some (.slice A0 l0.length c0)) (hr0 : Kd.C (Kd.int .i64) w A0 l0.length l0) (hc0 : l0.length ≤ c0)
    (a s : Int) (h1 : 0 ≤ a) (h2 : a ≤ 5) (h3 : 0 ≤ s) (h4 : s ≤ a) :
    Calls Try.prog 64 #[.int .i64 a, .int .i64 s, .pointer (some ⟨b, 0, none⟩)] w fun e w' => e = .returned (.bool (downP l0 a s)) ∧ Drawn0 w w' := by
  have HR0 := Aside0.mk hr0
  have HC0 := Aside0.mk hc0
  have HL := Aside0.mk hl
  clear hr0 hc0 hl
  obtain ⟨t, rfl⟩ := Int.eq_ofNat_of_zero_le h3
  obtain ⟨n, rfl⟩ := Int.eq_ofNat_of_zero_le h1
  go_enter Try.func64, Try.ntmps64
  go_wp2
  go_loopg [6] (n + 1) (fun kq v6 w' => ∃ (m : Nat), v6 = .int .i64 m ∧ Aside0 (m + kq ≤ n + 1 + t ∧ t ≤ m ∧ m ≤ n + 1 ∧ n + 1 ≤ m + kq ∧ ∀ k : Nat, t ≤ k → k < m → hd l0 n k = false) ∧ Drawn0 w w')
  case atStart => exact ⟨t, rfl, ⟨by omega, by omega, by omega, by omega, fun s h h' => absurd h (by omega)⟩, by repeat (first | exact Drawn0.refl _ | apply Drawn0.step)⟩
  case round =>
    obtain ⟨m, rfl, HM, ⟨m2, rfl⟩⟩ := hrel
    by_cases hm : m < n + 1
    · obtain ⟨k2, rfl⟩ : ∃ j, gk = j + 1 := ⟨gk - 1, by have := HM.out.2.2.2.1; omega⟩
      obtain ⟨x, ex⟩ : ∃ b, hd l0 n m = b := ⟨_, rfl⟩
      have hmn := HM.out.2.1
      have H1 := Aside0.mk (show impl_holds.f l0 n m = some x from by rw [← ex]; exact holds_here l0 n m HL.out (by omega) (by omega) (by omega) (by omega))
      have EX := Aside0.mk ex
      clear ex hmn
      cases x with
      | false =>
        go_wp2_with (first | (go_at_call 44; (with_reducible refine (impl_holds.calls A0 c0 l0 n m _ _ ?s1 HC0.out H1.out).mono ?_); (case s1 => repeat (first | exact HR0.out | (with_reducible refine Kd.C_alloc ?_ _) | (with_reducible refine Kd.C_drewN ?_ _) | (with_reducible refine Kd.C_drew ?_))); rintro e w' ⟨rfl, ⟨nd, rfl⟩⟩))
        go_roundg k2
        case measure => omega
        case rel => exact ⟨m + 1, by go_num, ⟨by have := HM.out.1; omega, by have := HM.out.2.1; omega, by omega, by have := HM.out.2.2.2.1; omega, fun k hk hk' => by
          rcases Nat.lt_or_ge k m with h' | h'
          · exact HM.out.2.2.2.2 k hk h'
          · obtain rfl : k = m := by omega
            exact EX.out⟩, by repeat (first | exact Drawn0.refl _ | apply Drawn0.step)⟩
      | true =>
        go_wp2_with (first | (go_at_call 44; (with_reducible refine (impl_holds.calls A0 c0 l0 n m _ _ ?s1 HC0.out H1.out).mono ?_); (case s1 => repeat (first | exact HR0.out | (with_reducible refine Kd.C_alloc ?_ _) | (with_reducible refine Kd.C_drewN ?_ _) | (with_reducible refine Kd.C_drew ?_))); rintro e w' ⟨rfl, ⟨nd, rfl⟩⟩))
        go_ret
        have hmn := HM.out.2.1
        exact ⟨by rw [downP_true l0 n t m (by omega) (by omega) EX.out]; rfl, by repeat (first | exact Drawn0.refl _ | apply Drawn0.step)⟩
    · go_wp2
      go_ret
      exact ⟨by rw [downP_false l0 n t (fun k hk hk' => HM.out.2.2.2.2 k (by omega) (by omega))]; rfl, by repeat (first | exact Drawn0.refl _ | apply Drawn0.step)⟩
set_option maxHeartbeats 2000000 in
set_option maxRecDepth 100000 in
theorem impl_splitOf.calls (A0 : Option Addr) (c0 : Nat) (l0 : List Int) (r1 : List Int) (r2 : List Int) (w : World) (hr0 : Kd.C (Kd.int .i64) w A0 l0.length l0) (hc0 : l0.length ≤ c0) (h : impl_splitOf.f l0 = some (r1, r2)) :
    Calls Try.prog 51 #[.slice A0 l0.length c0] w fun e w' => ∃ v0_ v1_ : Value, e = .returned (.tuple #[v0_, v1_]) ∧ Kd.R (Kd.int .i64) 3 w' w.heap.size (fun k_ => some k_ ≠ (v1_ : Value).ownBlock) v0_ r1 ∧ Kd.R (Kd.int .i64) 3 w' w.heap.size (fun k_ => some k_ ≠ (v0_ : Value).ownBlock) v1_ r2 ∧ Below w.heap.size w w' := by
  have hl : 21 ≤ l0.length := by
    unfold impl_splitOf.f at h; split at h
    · assumption
    · cases h
  obtain ⟨rfl, rfl⟩ : triBy (upP l0) = r1 ∧ triBy (downP l0) = r2 := by unfold impl_splitOf.f at h; rw [if_pos hl] at h; exact Prod.mk.inj (Option.some.inj h)
  have HB := Aside0.mk (below_alloc (Below.refl w.heap.size w) (.cells #[.slice A0 l0.length c0] 25))
  have HS1 := Aside0.mk (show Gives2 63 #[.pointer (some ⟨w.heap.size, 0, none⟩)] (upP l0) (w.alloc (.cells #[.slice A0 l0.length c0] 25)) from fun W a s hW h1 h2 h3 h4 =>
    impl_splitOf.lit1 A0 c0 l0 w.heap.size W hl ((hW.cell (p := ⟨w.heap.size, 0, none⟩) (by simp)).trans (by simp)) (Kd.C_below (Kd.C_alloc hr0 _) hW) hc0 a s h1 h2 h3 h4)
  have HS2 := Aside0.mk (show Gives2 64 #[.pointer (some ⟨w.heap.size, 0, none⟩)] (downP l0) (w.alloc (.cells #[.slice A0 l0.length c0] 25)) from fun W a s hW h1 h2 h3 h4 =>
    impl_splitOf.lit2 A0 c0 l0 w.heap.size W hl ((hW.cell (p := ⟨w.heap.size, 0, none⟩) (by simp)).trans (by simp)) (Kd.C_below (Kd.C_alloc hr0 _) hW) hc0 a s h1 h2 h3 h4)
  clear h hl hr0 hc0
  go_enter Try.func51, Try.ntmps51
  go_wp2_with fail
  refine (impl_triangleBy.calls _ (enters_of Try.func63 (by kernel_rfl) rfl) _ _ _ HS1.out).mono ?_
  rintro e w1 ⟨v1, rfl, ho1, hb1⟩
  have HS3 := Aside0.mk (show Gives2 64 #[.pointer (some ⟨w.heap.size, 0, none⟩)] (downP l0) w1 from fun W a s hW => HS2.out W a s (below_step hb1 hW))
  have HO1 := Aside0.mk ho1
  have HB1 := Aside0.mk hb1
  clear ho1 hb1
  go_wp2_with fail
  refine (impl_triangleBy.calls _ (enters_of Try.func64 (by kernel_rfl) rfl) _ _ _ HS3.out).mono ?_
  rintro e w2 ⟨v2, rfl, ho2, hb2⟩
  have HO2 := Aside0.mk ho2
  have HB2 := Aside0.mk hb2
  clear ho2 hb2
  go_wp2
  go_ret2
  obtain ⟨i1, o1⟩ := Kd.R_own HO1.out
  obtain ⟨i2, o2⟩ := Kd.R_own HO2.out
  have g1 := Kd.R_below (Kd.R_mono (Kd.R_bound HO1.out) (fun k hk => hk.2.2.1)) HB2.out
  refine ⟨v1, v2, rfl, ?_, ?_, below_step (below_step HB.out HB1.out) HB2.out⟩
  · exact Kd.R_lower (Kd.R_mono g1 (fun k hk e => by have h1 := own_base o2 k e.symm; exact absurd hk (by omega))) HB.out.size
  · exact Kd.R_lower (Kd.R_mono (Kd.R_new' HO2.out (fun k hk => own_lt o1 k hk)) (fun k hk => hk.2)) (Nat.le_trans HB.out.size HB1.out.size)

/-! ### impl_between: function 50 -/
def impl_between.l0 : Nat → List Int → List Int → List Int → Int → Int → Option (Bool)
  | 0, _, _, _, _, _ => none
  | k + 1, x0, x3, x4, x12, x13 => if x13 < x12 then (if 0 ≤ x13 then (if x13 < (x3.length : Int) then (if x13 < (x4.length : Int) then (if x13 < (x0.length : Int) then (if (Go.bits .and .i64 (rd x3 x13) (rd x4 x13)) = (rd x0 x13) then (impl_between.l0 k x0 x3 x4 x12 (wrap64 (x13 + 1))) else (some false)) else (none)) else (none)) else (none)) else (none)) else (some true)
def impl_between.f (k : Nat) (l0 : List Int) : Option (Bool) := (impl_splitOf.f l0).bind fun bt508 => (impl_between.l0 k l0 bt508.1 bt508.2 (l0.length : Int) 0)
theorem impl_between.mono_l : ∀ k, (∀ y0 y1 y2 y3 y4, LeO (impl_between.l0 k y0 y1 y2 y3 y4) (impl_between.l0 (k + 1) y0 y1 y2 y3 y4))
  | 0 => fun _ _ _ _ _ r h => by simp [impl_between.l0] at h
  | k + 1 => by
    have ih0 := impl_between.mono_l k
    · intro y0 y1 y2 y3 y4
      unfold impl_between.l0
      repeat' first
      | (with_reducible exact ih0 _ _ _ _ _)
      | (with_reducible exact LeO.refl _)
      | (with_reducible exact LeO.none _)
      | (with_reducible refine LeO.ite ?_ ?_)
      | (with_reducible refine LeO.bind ?_ (fun _ => ?_))
      | exact ih0 _ _ _ _ _
      | exact LeO.none _
      | refine LeO.ite ?_ ?_
      | refine LeO.bind ?_ (fun _ => ?_)
theorem impl_between.mono : ∀ a0 k, LeO (impl_between.f k a0) (impl_between.f (k + 1) a0) := by
  intro a0 k
  have ih0 := impl_between.mono_l k
  unfold impl_between.f
  repeat' first
      | (with_reducible exact ih0 _ _ _ _ _)
      | (with_reducible exact LeO.refl _)
      | (with_reducible exact LeO.none _)
      | (with_reducible refine LeO.ite ?_ ?_)
      | (with_reducible refine LeO.bind ?_ (fun _ => ?_))
      | exact ih0 _ _ _ _ _
      | exact LeO.none _
      | refine LeO.ite ?_ ?_
      | refine LeO.bind ?_ (fun _ => ?_)
set_option maxHeartbeats 8000000 in
set_option maxRecDepth 100000 in
theorem impl_between.calls (k : Nat) (A0 : Option Addr) (c0 : Nat) (l0 : List Int) (r : Bool) (w : World) (hr0 : Kd.C (Kd.int .i64) w A0 l0.length l0) (hc0 : l0.length ≤ c0) (h : impl_between.f k l0 = some r) :
    Calls Try.prog 50 #[.slice A0 l0.length c0] w fun e w' => e = .returned (.bool r) ∧ Below w.heap.size w w' := by
  have HR0 := Aside0.mk hr0
  have HC0 := Aside0.mk hc0
  clear hr0 hc0
  have HB := Aside0.mk (Below.refl w.heap.size w)
  have H : ((impl_splitOf.f l0).bind fun bt508 => (impl_between.l0 k l0 bt508.1 bt508.2 (l0.length : Int) 0)) = some r := h
  clear h
  replace H := Option.bind_eq_some_iff.mp H
  obtain ⟨⟨t508, t509⟩, A20, H⟩ := H
  replace H : (impl_between.l0 k l0 t508 t509 (l0.length : Int) 0) = some r := H
  have A2 := Aside0.mk A20
  clear A20
  have H' := Aside0.mk H
  clear H
  go_enter Try.func50, Try.ntmps50
  go_wp2_with (first | (go_at_call 51; (with_reducible refine (impl_splitOf.calls _ _ l0 t508 t509 _ ?side1 ?side2 A2.out).mono ?_); (case side1 => repeat (first | exact HR0.out | (with_reducible refine Kd.C_alloc ?_ _) | (with_reducible refine Kd.C_drewN ?_ _) | (with_reducible refine Kd.C_drew ?_))); (case side2 => exact HC0.out); rintro e w3 ⟨v510, v512, rfl, ho0, ho1, hb⟩; have n0_ := Aside0.mk (Kd.R_lower ho0 (below_size (by repeat (first | (with_reducible first | exact HB.out | apply below_alloc | apply pw_below_drewN | apply below_drew1) | exact HB.out)))); have n1_ := Aside0.mk (Kd.R_lower ho1 (below_size (by repeat (first | (with_reducible first | exact HB.out | apply below_alloc | apply pw_below_drewN | apply below_drew1) | exact HB.out)))); have n2_ := Aside0.mk (below_step (by repeat (first | (with_reducible first | exact HB.out | apply below_alloc | apply pw_below_drewN | apply below_drew1) | exact HB.out)) hb); clear HB; have HO511 := n0_; have HO513 := n1_; have HB := n2_; clear n0_ n1_ n2_; (try clear hb); (try clear hb2); (try clear hk); (try clear hi); (try clear ho0); (try clear ho1)))
  repeat (go_quiet (first | (go_at_call 51; (with_reducible refine (impl_splitOf.calls _ _ l0 t508 t509 _ ?side1 ?side2 A2.out).mono ?_); (case side1 => repeat (first | exact HR0.out | (with_reducible refine Kd.C_alloc ?_ _) | (with_reducible refine Kd.C_drewN ?_ _) | (with_reducible refine Kd.C_drew ?_))); (case side2 => exact HC0.out); rintro e w3 ⟨v510, v512, rfl, ho0, ho1, hb⟩; have n0_ := Aside0.mk (Kd.R_lower ho0 (below_size (by repeat (first | (with_reducible first | exact HB.out | apply below_alloc | apply pw_below_drewN | apply below_drew1) | exact HB.out)))); have n1_ := Aside0.mk (Kd.R_lower ho1 (below_size (by repeat (first | (with_reducible first | exact HB.out | apply below_alloc | apply pw_below_drewN | apply below_drew1) | exact HB.out)))); have n2_ := Aside0.mk (below_step (by repeat (first | (with_reducible first | exact HB.out | apply below_alloc | apply pw_below_drewN | apply below_drew1) | exact HB.out)) hb); clear HB; have HO511 := n0_; have HO513 := n1_; have HB := n2_; clear n0_ n1_ n2_; (try clear hb); (try clear hb2); (try clear hk); (try clear hi); (try clear ho0); (try clear ho1))); try go_wp2_with (first | (go_at_call 51; (with_reducible refine (impl_splitOf.calls _ _ l0 t508 t509 _ ?side1 ?side2 A2.out).mono ?_); (case side1 => repeat (first | exact HR0.out | (with_reducible refine Kd.C_alloc ?_ _) | (with_reducible refine Kd.C_drewN ?_ _) | (with_reducible refine Kd.C_drew ?_))); (case side2 => exact HC0.out); rintro e w3 ⟨v510, v512, rfl, ho0, ho1, hb⟩; have n0_ := Aside0.mk (Kd.R_lower ho0 (below_size (by repeat (first | (with_reducible first | exact HB.out | apply below_alloc | apply pw_below_drewN | apply below_drew1) | exact HB.out)))); have n1_ := Aside0.mk (Kd.R_lower ho1 (below_size (by repeat (first | (with_reducible first | exact HB.out | apply below_alloc | apply pw_below_drewN | apply below_drew1) | exact HB.out)))); have n2_ := Aside0.mk (below_step (by repeat (first | (with_reducible first | exact HB.out | apply below_alloc | apply pw_below_drewN | apply below_drew1) | exact HB.out)) hb); clear HB; have HO511 := n0_; have HO513 := n1_; have HB := n2_; clear n0_ n1_ n2_; (try clear hb); (try clear hb2); (try clear hk); (try clear hi); (try clear ho0); (try clear ho1))))
  go_loopg [13] k (fun kq v13 w' => ∃ (x13_1 : Int), v13 = .int .i64 x13_1 ∧ Aside0 (impl_between.l0 kq l0 t508 t509 (l0.length : Int) x13_1 = some r) ∧ Aside0 (kq ≤ k) ∧ Aside0 (Kd.R (Kd.int .i64) 3 w' w.heap.size (fun k_ => some k_ ≠ (v512 : Value).ownBlock) v510 t508) ∧ Aside0 (Kd.R (Kd.int .i64) 3 w' w.heap.size (fun k_ => some k_ ≠ (v510 : Value).ownBlock) v512 t509) ∧ Aside0 (Below w.heap.size w w'))
  case atStart => exact ⟨(0), (by first | rfl | (simp; done) | (simp [*]; done)), H', ⟨Nat.le_refl _⟩, ⟨by (with_reducible repeat (first | apply Kd.R_alloc | apply Kd.R_drewN | apply Kd.R_drew)); exact HO511.out⟩, ⟨by (with_reducible repeat (first | apply Kd.R_alloc | apply Kd.R_drewN | apply Kd.R_drew)); exact HO513.out⟩, ⟨by repeat (first | (with_reducible first | exact HB.out | apply below_alloc | apply pw_below_drewN | apply below_drew1) | exact HB.out)⟩⟩
  case round =>
    clear H'
    try clear p2
    obtain ⟨x13_1, rfl, HA, HK1, HO_3, HO_4, HB⟩ := hrel
    cases gk with
    | zero => exact absurd HA.out (by simp [impl_between.l0])
    | succ k1 =>
      have H := HA.out
      clear HA
      simp only [impl_between.l0] at H
      by_cases c4 : x13_1 < (l0.length : Int)
      · rw [if_pos c4] at H
        have c4b0 : decide (x13_1 < (l0.length : Int)) = true := decide_eq_true c4
        clear c4
        by_cases c5 : 0 ≤ x13_1
        · rw [if_pos c5] at H
          have c5b0 : decide (0 ≤ x13_1) = true := decide_eq_true c5
          clear c5
          by_cases c6 : x13_1 < (t508.length : Int)
          · rw [if_pos c6] at H
            have c6b0 : decide (x13_1 < (t508.length : Int)) = true := decide_eq_true c6
            clear c6
            by_cases c7 : x13_1 < (t509.length : Int)
            · rw [if_pos c7] at H
              have c7b0 : decide (x13_1 < (t509.length : Int)) = true := decide_eq_true c7
              clear c7
              by_cases c8 : x13_1 < (l0.length : Int)
              · rw [if_pos c8] at H
                have c8b0 : decide (x13_1 < (l0.length : Int)) = true := decide_eq_true c8
                clear c8
                by_cases c9 : (Go.bits .and .i64 (rd t508 x13_1) (rd t509 x13_1)) = (rd l0 x13_1)
                · rw [if_pos c9] at H
                  have c9b0 : ((Go.bits .and .i64 (rd t508 x13_1) (rd t509 x13_1)) == (rd l0 x13_1)) = true := beq_iff_eq.mpr c9
                  have c9b1 : ((Go.bits .and .i64 (rd t508 x13_1) (rd t509 x13_1)) != (rd l0 x13_1)) = false := bne_eq_false_iff_eq.mpr c9
                  clear c9
                  have H' := Aside0.mk H
                  clear H
                  obtain ⟨Ao10, co10, eo10⟩ := Kd.R_slice HO_3.out
                  subst eo10
                  have p514 : 0 ≤ (x13_1 : Int) := of_decide_eq_true (by first | (with_reducible assumption) | assumption)
                  have q514 : x13_1 < (t508.length : Int) := of_decide_eq_true (by first | (with_reducible assumption) | assumption)
                  obtain ⟨ad514, e514, hx514_0⟩ := Kd.at_int (Kd.R_reads' HO_3.out).2.2 x13_1 p514 q514
                  cases e514
                  replace p514 := eq_true p514
                  replace q514 := eq_true q514
                  obtain ⟨Ao11, co11, eo11⟩ := Kd.R_slice HO_4.out
                  subst eo11
                  have p515 : 0 ≤ (x13_1 : Int) := of_decide_eq_true (by first | (with_reducible assumption) | assumption)
                  have q515 : x13_1 < (t509.length : Int) := of_decide_eq_true (by first | (with_reducible assumption) | assumption)
                  obtain ⟨ad515, e515, hx515_0⟩ := Kd.at_int (Kd.R_reads' HO_4.out).2.2 x13_1 p515 q515
                  cases e515
                  replace p515 := eq_true p515
                  replace q515 := eq_true q515
                  have p516 : 0 ≤ (x13_1 : Int) := of_decide_eq_true (by first | (with_reducible assumption) | assumption)
                  have q516 : x13_1 < (l0.length : Int) := of_decide_eq_true (by first | (with_reducible assumption) | assumption)
                  obtain ⟨ad516, e516, hx516_0⟩ := Kd.at_int HR0.out x13_1 p516 q516
                  cases e516
                  replace hx516_0 := (HB.out.cell (World.block_lt_of_cell? w _ hx516_0)).trans hx516_0
                  replace p516 := eq_true p516
                  replace q516 := eq_true q516
                  go_wp2
                  repeat (go_quiet (fail); try go_wp2)
                  go_roundg k1
                  case measure => have := HK1.out; omega
                  case rel => exact ⟨(wrap64 (x13_1 + 1)), (by first | rfl | (simp; done) | (simp [*]; done)), H', ⟨by have := HK1.out; omega⟩, ⟨by (with_reducible repeat (first | apply Kd.R_alloc | apply Kd.R_drewN | apply Kd.R_drew)); exact HO_3.out⟩, ⟨by (with_reducible repeat (first | apply Kd.R_alloc | apply Kd.R_drewN | apply Kd.R_drew)); exact HO_4.out⟩, ⟨by repeat (first | (with_reducible first | exact HB.out | apply below_alloc | apply pw_below_drewN | apply below_drew1) | exact HB.out)⟩⟩
                · rw [if_neg c9] at H
                  have c9b0 : ((Go.bits .and .i64 (rd t508 x13_1) (rd t509 x13_1)) == (rd l0 x13_1)) = false := beq_eq_false_iff_ne.mpr c9
                  have c9b1 : ((Go.bits .and .i64 (rd t508 x13_1) (rd t509 x13_1)) != (rd l0 x13_1)) = true := bne_iff_ne.mpr c9
                  obtain rfl := Option.some.inj H
                  obtain ⟨Ao12, co12, eo12⟩ := Kd.R_slice HO_3.out
                  subst eo12
                  have p514 : 0 ≤ (x13_1 : Int) := of_decide_eq_true (by first | (with_reducible assumption) | assumption)
                  have q514 : x13_1 < (t508.length : Int) := of_decide_eq_true (by first | (with_reducible assumption) | assumption)
                  obtain ⟨ad514, e514, hx514_0⟩ := Kd.at_int (Kd.R_reads' HO_3.out).2.2 x13_1 p514 q514
                  cases e514
                  replace p514 := eq_true p514
                  replace q514 := eq_true q514
                  obtain ⟨Ao13, co13, eo13⟩ := Kd.R_slice HO_4.out
                  subst eo13
                  have p515 : 0 ≤ (x13_1 : Int) := of_decide_eq_true (by first | (with_reducible assumption) | assumption)
                  have q515 : x13_1 < (t509.length : Int) := of_decide_eq_true (by first | (with_reducible assumption) | assumption)
                  obtain ⟨ad515, e515, hx515_0⟩ := Kd.at_int (Kd.R_reads' HO_4.out).2.2 x13_1 p515 q515
                  cases e515
                  replace p515 := eq_true p515
                  replace q515 := eq_true q515
                  have p516 : 0 ≤ (x13_1 : Int) := of_decide_eq_true (by first | (with_reducible assumption) | assumption)
                  have q516 : x13_1 < (l0.length : Int) := of_decide_eq_true (by first | (with_reducible assumption) | assumption)
                  obtain ⟨ad516, e516, hx516_0⟩ := Kd.at_int HR0.out x13_1 p516 q516
                  cases e516
                  replace hx516_0 := (HB.out.cell (World.block_lt_of_cell? w _ hx516_0)).trans hx516_0
                  replace p516 := eq_true p516
                  replace q516 := eq_true q516
                  go_wp2
                  repeat (go_quiet (fail); try go_wp2)
                  go_ret
                  exact ⟨by first | rfl | (simp [errW_none, errW_some] <;> rfl) | (simp [*, errW_none, errW_some] <;> rfl), by repeat (first | (with_reducible first | exact HB.out | apply below_alloc | apply pw_below_drewN | apply below_drew1) | exact HB.out)⟩
              · rw [if_neg c8] at H
                exact absurd H (by simp)
            · rw [if_neg c7] at H
              exact absurd H (by simp)
          · rw [if_neg c6] at H
            exact absurd H (by simp)
        · rw [if_neg c5] at H
          exact absurd H (by simp)
      · rw [if_neg c4] at H
        have c4b0 : decide (x13_1 < (l0.length : Int)) = false := decide_eq_false c4
        clear c4
        obtain rfl := Option.some.inj H
        go_wp2
        repeat (go_quiet (fail); try go_wp2)
        go_ret
        exact ⟨by first | rfl | (simp [errW_none, errW_some] <;> rfl) | (simp [*, errW_none, errW_some] <;> rfl), by repeat (first | (with_reducible first | exact HB.out | apply below_alloc | apply pw_below_drewN | apply below_drew1) | exact HB.out)⟩

end Go.Proofs.Ytpggephoienhlaa.P
