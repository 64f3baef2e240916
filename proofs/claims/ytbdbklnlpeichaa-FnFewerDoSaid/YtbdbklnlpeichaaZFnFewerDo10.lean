-- Texts of this claim, laid one behind the other by wip/gen/merge.py.
import Derived.Test.YtbdbklnlpeichaaZFnFewerDo0
import Derived.Test.YtbdbklnlpeichaaZFnFewerDo4
import Derived.Test.YtbdbklnlpeichaaZFnFewerDo7
import Derived.Test.YtbdbklnlpeichaaZFnFewerDo9
import Derived.Test.YtbdbklnlpeichaaZFnFewerDo8
-- Written by wip/gen/lay.py, a program of this session, with the kit's print as its base. Lean checks every line.
namespace Go.Proofs.Ytbdbklnlpeichaa.P
open Go.RowKit Go.Proofs.YtbdbklnlpeichaaW.PrintWords Go.Proofs.YtbdbklnlpeichaaW.PrintLast Go.Proofs.YtbdbklnlpeichaaW.PrintMore
attribute [local go_sem] max2_int min2_int max_two min_two max_three min_three max_four min_four   -- for this text's walks alone
set_option linter.unusedVariables false
set_option linter.unusedSimpArgs false

/-! ### spec_MoreDo: function 27 -/
def spec_MoreDo.f (k : Nat) (l0 : List Int) : Option (Bool) := (spec_TriangleOk.f k l0).bind fun t438 => (if t438 = true then ((spec_l3Each.f k l0 0 1).bind fun t439 => (some t439)) else (some false))
theorem spec_MoreDo.mono : ∀ a0 k, LeO (spec_MoreDo.f k a0) (spec_MoreDo.f (k + 1) a0) := by
  intro a0 k
  unfold spec_MoreDo.f
  repeat' first
      | (with_reducible exact spec_TriangleOk.mono _ _)
      | (with_reducible exact spec_l3Each.mono _ _ _ _)
      | (with_reducible exact LeO.refl _)
      | (with_reducible exact LeO.none _)
      | (with_reducible refine LeO.ite ?_ ?_)
      | (with_reducible refine LeO.bind ?_ (fun _ => ?_))
      | exact spec_TriangleOk.mono _ _
      | exact spec_l3Each.mono _ _ _ _
      | exact LeO.none _
      | refine LeO.ite ?_ ?_
      | refine LeO.bind ?_ (fun _ => ?_)
set_option maxHeartbeats 8000000 in
set_option maxRecDepth 100000 in
theorem spec_MoreDo.calls (k : Nat) (A0 : Option Addr) (c0 : Nat) (l0 : List Int) (r : Bool) (w : World) (hr0 : Kd.C (Kd.int .i64) w A0 l0.length l0) (hc0 : l0.length ≤ c0) (h : spec_MoreDo.f k l0 = some r) :
    Calls Try.prog 27 #[.slice A0 l0.length c0] w fun e w' => e = .returned (.bool r) ∧ Drawn0 w w' := by
  have HR0 := Aside0.mk hr0
  have HC0 := Aside0.mk hc0
  clear hr0 hc0
  have H : ((spec_TriangleOk.f k l0).bind fun t438 => (if t438 = true then ((spec_l3Each.f k l0 0 1).bind fun t439 => (some t439)) else (some false))) = some r := h
  clear h
  replace H := Option.bind_eq_some_iff.mp H
  obtain ⟨t438, A20, H⟩ := H
  replace H : (if t438 = true then ((spec_l3Each.f k l0 0 1).bind fun t439 => (some t439)) else (some false)) = some r := H
  have A2 := Aside0.mk A20
  clear A20
  by_cases c3 : t438 = true
  · subst c3
    have H1 : ((spec_l3Each.f k l0 0 1).bind fun t439 => (some t439)) = some r := by rw [if_pos rfl] at H; exact H
    clear H
    have H := H1
    clear H1
    replace H := Option.bind_eq_some_iff.mp H
    obtain ⟨t439, A40, H⟩ := H
    replace H : (some t439) = some r := H
    have A4 := Aside0.mk A40
    clear A40
    obtain rfl := Option.some.inj H
    go_enter Try.func27, Try.ntmps27
    go_wp2_with (first | ((with_reducible refine gate_callee (f := 20) rfl ?_); refine goesL_ (some 4) rfl rfl Try.func20 (by kernel_rfl) rfl #[.slice A0 l0.length c0] rfl (by (try simp only [List.map_toArray, List.map_cons, List.map_nil]); first | done | rfl | (simp only [List.length_drop, List.length_take]; rfl)) ?_; (with_reducible refine (spec_TriangleOk.calls k _ _ l0 true _ ?side1 ?side2 A2.out).mono ?_); (case side1 => repeat (first | exact HR0.out | (with_reducible refine Kd.C_alloc ?_ _) | (with_reducible refine Kd.C_drewN ?_ _) | (with_reducible refine Kd.C_drew ?_))); (case side2 => exact HC0.out); rintro e w' ⟨rfl, ⟨nd, rfl⟩⟩; refine ⟨_, rfl, ?_⟩) | (go_at_call 33; (with_reducible refine (spec_l3Each.calls k _ _ l0 0 1 t439 _ ?side1 ?side2 A4.out).mono ?_); (case side1 => repeat (first | exact HR0.out | (with_reducible refine Kd.C_alloc ?_ _) | (with_reducible refine Kd.C_drewN ?_ _) | (with_reducible refine Kd.C_drew ?_))); (case side2 => exact HC0.out); rintro e w' ⟨rfl, ⟨nd, rfl⟩⟩))
    go_ret
    exact ⟨by first | rfl | (simp; done) | (simp [*]; done), by repeat (first | exact Drawn0.refl _ | apply Drawn0.step)⟩
  · replace c3 := Bool.eq_false_iff.mpr c3
    subst c3
    have H1 : (some false) = some r := by rw [if_neg (show ¬ (false = true) by decide)] at H; exact H
    clear H
    have H := H1
    clear H1
    obtain rfl := Option.some.inj H
    go_enter Try.func27, Try.ntmps27
    go_wp2_with (first | ((with_reducible refine gate_callee (f := 20) rfl ?_); refine goesL_ (some 4) rfl rfl Try.func20 (by kernel_rfl) rfl #[.slice A0 l0.length c0] rfl (by (try simp only [List.map_toArray, List.map_cons, List.map_nil]); first | done | rfl | (simp only [List.length_drop, List.length_take]; rfl)) ?_; (with_reducible refine (spec_TriangleOk.calls k _ _ l0 false _ ?side1 ?side2 A2.out).mono ?_); (case side1 => repeat (first | exact HR0.out | (with_reducible refine Kd.C_alloc ?_ _) | (with_reducible refine Kd.C_drewN ?_ _) | (with_reducible refine Kd.C_drew ?_))); (case side2 => exact HC0.out); rintro e w' ⟨rfl, ⟨nd, rfl⟩⟩; refine ⟨_, rfl, ?_⟩))
    go_ret
    exact ⟨by first | rfl | (simp; done) | (simp [*]; done), by repeat (first | exact Drawn0.refl _ | apply Drawn0.step)⟩

end Go.Proofs.Ytbdbklnlpeichaa.P

-- Written by wip/gen/lay.py, a program of this session, with the kit's print as its base. Lean checks every line.
namespace Go.Proofs.Ytbdbklnlpeichaa.P
open Go.RowKit Go.Proofs.YtbdbklnlpeichaaW.PrintWords Go.Proofs.YtbdbklnlpeichaaW.PrintLast Go.Proofs.YtbdbklnlpeichaaW.PrintMore
attribute [local go_sem] max2_int min2_int max_two min_two max_three min_three max_four min_four   -- for this text's walks alone
set_option linter.unusedVariables false
set_option linter.unusedSimpArgs false

/-! ### spec_MoreAre: function 19 -/
def spec_MoreAre.f (k : Nat) (l0 : List Int) : Option (Bool) := (spec_TriangleOk.f k l0).bind fun t383 => (if t383 = true then ((spec_l3Each.f k l0 1 0).bind fun t384 => (if t384 = true then ((spec_l3Each.f k l0 1 1).bind fun t385 => (some t385)) else (some false))) else (some false))
theorem spec_MoreAre.mono : ∀ a0 k, LeO (spec_MoreAre.f k a0) (spec_MoreAre.f (k + 1) a0) := by
  intro a0 k
  unfold spec_MoreAre.f
  repeat' first
      | (with_reducible exact spec_TriangleOk.mono _ _)
      | (with_reducible exact spec_l3Each.mono _ _ _ _)
      | (with_reducible exact LeO.refl _)
      | (with_reducible exact LeO.none _)
      | (with_reducible refine LeO.ite ?_ ?_)
      | (with_reducible refine LeO.bind ?_ (fun _ => ?_))
      | exact spec_TriangleOk.mono _ _
      | exact spec_l3Each.mono _ _ _ _
      | exact LeO.none _
      | refine LeO.ite ?_ ?_
      | refine LeO.bind ?_ (fun _ => ?_)
set_option maxHeartbeats 8000000 in
set_option maxRecDepth 100000 in
theorem spec_MoreAre.calls (k : Nat) (A0 : Option Addr) (c0 : Nat) (l0 : List Int) (r : Bool) (w : World) (hr0 : Kd.C (Kd.int .i64) w A0 l0.length l0) (hc0 : l0.length ≤ c0) (h : spec_MoreAre.f k l0 = some r) :
    Calls Try.prog 19 #[.slice A0 l0.length c0] w fun e w' => e = .returned (.bool r) ∧ Drawn0 w w' := by
  have HR0 := Aside0.mk hr0
  have HC0 := Aside0.mk hc0
  clear hr0 hc0
  have H : ((spec_TriangleOk.f k l0).bind fun t383 => (if t383 = true then ((spec_l3Each.f k l0 1 0).bind fun t384 => (if t384 = true then ((spec_l3Each.f k l0 1 1).bind fun t385 => (some t385)) else (some false))) else (some false))) = some r := h
  clear h
  replace H := Option.bind_eq_some_iff.mp H
  obtain ⟨t383, A20, H⟩ := H
  replace H : (if t383 = true then ((spec_l3Each.f k l0 1 0).bind fun t384 => (if t384 = true then ((spec_l3Each.f k l0 1 1).bind fun t385 => (some t385)) else (some false))) else (some false)) = some r := H
  have A2 := Aside0.mk A20
  clear A20
  by_cases c3 : t383 = true
  · subst c3
    have H1 : ((spec_l3Each.f k l0 1 0).bind fun t384 => (if t384 = true then ((spec_l3Each.f k l0 1 1).bind fun t385 => (some t385)) else (some false))) = some r := by rw [if_pos rfl] at H; exact H
    clear H
    have H := H1
    clear H1
    replace H := Option.bind_eq_some_iff.mp H
    obtain ⟨t384, A40, H⟩ := H
    replace H : (if t384 = true then ((spec_l3Each.f k l0 1 1).bind fun t385 => (some t385)) else (some false)) = some r := H
    have A4 := Aside0.mk A40
    clear A40
    by_cases c5 : t384 = true
    · subst c5
      have H1 : ((spec_l3Each.f k l0 1 1).bind fun t385 => (some t385)) = some r := by rw [if_pos rfl] at H; exact H
      clear H
      have H := H1
      clear H1
      replace H := Option.bind_eq_some_iff.mp H
      obtain ⟨t385, A60, H⟩ := H
      replace H : (some t385) = some r := H
      have A6 := Aside0.mk A60
      clear A60
      obtain rfl := Option.some.inj H
      go_enter Try.func19, Try.ntmps19
      go_wp2_with (first | ((with_reducible refine gate_callee (f := 20) rfl ?_); refine goesL_ (some 4) rfl rfl Try.func20 (by kernel_rfl) rfl #[.slice A0 l0.length c0] rfl (by (try simp only [List.map_toArray, List.map_cons, List.map_nil]); first | done | rfl | (simp only [List.length_drop, List.length_take]; rfl)) ?_; (with_reducible refine (spec_TriangleOk.calls k _ _ l0 true _ ?side1 ?side2 A2.out).mono ?_); (case side1 => repeat (first | exact HR0.out | (with_reducible refine Kd.C_alloc ?_ _) | (with_reducible refine Kd.C_drewN ?_ _) | (with_reducible refine Kd.C_drew ?_))); (case side2 => exact HC0.out); rintro e w' ⟨rfl, ⟨nd, rfl⟩⟩; refine ⟨_, rfl, ?_⟩) | (go_at_call 33; (with_reducible refine (spec_l3Each.calls k _ _ l0 1 0 true _ ?side1 ?side2 A4.out).mono ?_); (case side1 => repeat (first | exact HR0.out | (with_reducible refine Kd.C_alloc ?_ _) | (with_reducible refine Kd.C_drewN ?_ _) | (with_reducible refine Kd.C_drew ?_))); (case side2 => exact HC0.out); rintro e w' ⟨rfl, ⟨nd, rfl⟩⟩) | (go_at_call 33; (with_reducible refine (spec_l3Each.calls k _ _ l0 1 1 t385 _ ?side1 ?side2 A6.out).mono ?_); (case side1 => repeat (first | exact HR0.out | (with_reducible refine Kd.C_alloc ?_ _) | (with_reducible refine Kd.C_drewN ?_ _) | (with_reducible refine Kd.C_drew ?_))); (case side2 => exact HC0.out); rintro e w' ⟨rfl, ⟨nd, rfl⟩⟩))
      go_ret
      exact ⟨by first | rfl | (simp; done) | (simp [*]; done), by repeat (first | exact Drawn0.refl _ | apply Drawn0.step)⟩
    · replace c5 := Bool.eq_false_iff.mpr c5
      subst c5
      have H1 : (some false) = some r := by rw [if_neg (show ¬ (false = true) by decide)] at H; exact H
      clear H
      have H := H1
      clear H1
      obtain rfl := Option.some.inj H
      go_enter Try.func19, Try.ntmps19
      go_wp2_with (first | ((with_reducible refine gate_callee (f := 20) rfl ?_); refine goesL_ (some 4) rfl rfl Try.func20 (by kernel_rfl) rfl #[.slice A0 l0.length c0] rfl (by (try simp only [List.map_toArray, List.map_cons, List.map_nil]); first | done | rfl | (simp only [List.length_drop, List.length_take]; rfl)) ?_; (with_reducible refine (spec_TriangleOk.calls k _ _ l0 true _ ?side1 ?side2 A2.out).mono ?_); (case side1 => repeat (first | exact HR0.out | (with_reducible refine Kd.C_alloc ?_ _) | (with_reducible refine Kd.C_drewN ?_ _) | (with_reducible refine Kd.C_drew ?_))); (case side2 => exact HC0.out); rintro e w' ⟨rfl, ⟨nd, rfl⟩⟩; refine ⟨_, rfl, ?_⟩) | (go_at_call 33; (with_reducible refine (spec_l3Each.calls k _ _ l0 1 0 false _ ?side1 ?side2 A4.out).mono ?_); (case side1 => repeat (first | exact HR0.out | (with_reducible refine Kd.C_alloc ?_ _) | (with_reducible refine Kd.C_drewN ?_ _) | (with_reducible refine Kd.C_drew ?_))); (case side2 => exact HC0.out); rintro e w' ⟨rfl, ⟨nd, rfl⟩⟩))
      go_ret
      exact ⟨by first | rfl | (simp; done) | (simp [*]; done), by repeat (first | exact Drawn0.refl _ | apply Drawn0.step)⟩
  · replace c3 := Bool.eq_false_iff.mpr c3
    subst c3
    have H1 : (some false) = some r := by rw [if_neg (show ¬ (false = true) by decide)] at H; exact H
    clear H
    have H := H1
    clear H1
    obtain rfl := Option.some.inj H
    go_enter Try.func19, Try.ntmps19
    go_wp2_with (first | ((with_reducible refine gate_callee (f := 20) rfl ?_); refine goesL_ (some 4) rfl rfl Try.func20 (by kernel_rfl) rfl #[.slice A0 l0.length c0] rfl (by (try simp only [List.map_toArray, List.map_cons, List.map_nil]); first | done | rfl | (simp only [List.length_drop, List.length_take]; rfl)) ?_; (with_reducible refine (spec_TriangleOk.calls k _ _ l0 false _ ?side1 ?side2 A2.out).mono ?_); (case side1 => repeat (first | exact HR0.out | (with_reducible refine Kd.C_alloc ?_ _) | (with_reducible refine Kd.C_drewN ?_ _) | (with_reducible refine Kd.C_drew ?_))); (case side2 => exact HC0.out); rintro e w' ⟨rfl, ⟨nd, rfl⟩⟩; refine ⟨_, rfl, ?_⟩))
    go_ret
    exact ⟨by first | rfl | (simp; done) | (simp [*]; done), by repeat (first | exact Drawn0.refl _ | apply Drawn0.step)⟩

end Go.Proofs.Ytbdbklnlpeichaa.P

-- Written by wip/gen/lay.py, a program of this session, with the kit's print as its base. Lean checks every line.
namespace Go.Proofs.Ytbdbklnlpeichaa.P
open Go.RowKit Go.Proofs.YtbdbklnlpeichaaW.PrintWords Go.Proofs.YtbdbklnlpeichaaW.PrintLast Go.Proofs.YtbdbklnlpeichaaW.PrintMore
attribute [local go_sem] max2_int min2_int max_two min_two max_three min_three max_four min_four   -- for this text's walks alone
set_option linter.unusedVariables false
set_option linter.unusedSimpArgs false

/-! ### HAND impl_moreDo: function 41 -/
def impl_moreDo.so (l0 : List Int) (a s : Int) : Bool := decide (s = a) || hd l0 a (s + 1)
def impl_moreDo.f (l0 : List Int) : Option Bool := if 21 ≤ l0.length then some (staysP l0 (impl_moreDo.so l0)) else none
set_option maxHeartbeats 1000000 in
set_option maxRecDepth 100000 in
theorem impl_moreDo.lit (A0 : Option Addr) (c0 : Nat) (l0 : List Int) (b : Nat) (W : World) (hl : 21 ≤ l0.length) (hc : W.cell? ⟨b, 0, none⟩ = some (.slice A0 l0.length c0)) (hr0 : Kd.C (Kd.int .i64) W A0 l0.length l0) (hc0 : l0.length ≤ c0)
    (a s : Int) (h1 : 0 ≤ a) (h2 : a ≤ 5) (h3 : 0 ≤ s) (h4 : s ≤ a) :
    Calls Try.prog 63 #[.int .i64 a, .int .i64 s, .pointer (some ⟨b, 0, none⟩)] W fun e w' => e = .returned (.bool (impl_moreDo.so l0 a s)) ∧ Drawn0 W w' := by
  have HR0 := Aside0.mk hr0
  have HC0 := Aside0.mk hc0
  clear hr0 hc0
  by_cases e : s = a
  · have e1 : (s == a) = true := beq_iff_eq.2 e
    have e2 : impl_moreDo.so l0 a s = true := by unfold impl_moreDo.so; rw [decide_eq_true e, Bool.true_or]
    rw [e2]
    clear e e2
    go_enter Try.func63, Try.ntmps63
    go_wp2
    go_ret
    exact ⟨rfl, by repeat (first | exact Drawn0.refl _ | apply Drawn0.step)⟩
  · have e1 : (s == a) = false := beq_eq_false_iff_ne.2 e
    have hh := holds_here l0 a (s + 1) hl (by omega) (by omega) (by omega) (by omega)
    have e2 : impl_moreDo.so l0 a s = hd l0 a (s + 1) := by unfold impl_moreDo.so; rw [decide_eq_false e, Bool.false_or]
    rw [e2]
    obtain ⟨x0, ex⟩ : ∃ b, hd l0 a (s + 1) = b := ⟨_, rfl⟩
    rw [ex] at hh ⊢
    have H1 := Aside0.mk hh
    clear hh e2 ex e
    go_enter Try.func63, Try.ntmps63
    go_wp2_with (first | (go_at_call 37; (with_reducible refine (impl_holds.calls A0 c0 l0 a (s + 1) _ _ ?s1 HC0.out H1.out).mono ?_); (case s1 => repeat (first | exact HR0.out | (with_reducible refine Kd.C_alloc ?_ _) | (with_reducible refine Kd.C_drewN ?_ _) | (with_reducible refine Kd.C_drew ?_))); rintro e w' ⟨rfl, ⟨nd, rfl⟩⟩))
    go_ret
    exact ⟨rfl, by repeat (first | exact Drawn0.refl _ | apply Drawn0.step)⟩
set_option maxHeartbeats 1000000 in
set_option maxRecDepth 100000 in
theorem impl_moreDo.calls (A0 : Option Addr) (c0 : Nat) (l0 : List Int) (r : Bool) (w : World) (hr0 : Kd.C (Kd.int .i64) w A0 l0.length l0) (hc0 : l0.length ≤ c0) (h : impl_moreDo.f l0 = some r) :
    Calls Try.prog 41 #[.slice A0 l0.length c0] w fun e w' => e = .returned (.bool r) ∧ Below w.heap.size w w' := by
  have hl : 21 ≤ l0.length := by
    unfold impl_moreDo.f at h; split at h
    · assumption
    · cases h
  obtain rfl : staysP l0 (impl_moreDo.so l0) = r := by unfold impl_moreDo.f at h; rw [if_pos hl] at h; exact Option.some.inj h
  have HB := Aside0.mk (below_alloc (Below.refl w.heap.size w) (.cells #[.slice A0 l0.length c0] 23))
  have HR0 := Aside0.mk (Kd.C_alloc hr0 (.cells #[.slice A0 l0.length c0] 23))
  have HC0 := Aside0.mk hc0
  have HL := Aside0.mk hl
  have HS := Aside0.mk (show Gives2 63 #[.pointer (some ⟨w.heap.size, 0, none⟩)] (impl_moreDo.so l0) (w.alloc (.cells #[.slice A0 l0.length c0] 23)) from fun W a s hW h1 h2 h3 h4 =>
    impl_moreDo.lit A0 c0 l0 w.heap.size W hl ((hW.cell (p := ⟨w.heap.size, 0, none⟩) (by simp)).trans (by simp)) (Kd.C_below HR0.out hW) hc0 a s h1 h2 h3 h4)
  clear h hl hr0 hc0
  go_enter Try.func41, Try.ntmps41
  go_wp2_with (go_at_call 58; refine (impl_stays.calls _ (enters_of Try.func63 (by kernel_rfl) rfl) _ _ _ _ l0 _ HL.out HR0.out HC0.out HS.out).mono ?_; rintro e w' ⟨rfl, ⟨nd, rfl⟩⟩)
  go_ret
  exact ⟨rfl, by repeat (first | (with_reducible first | exact HB.out | apply below_alloc | apply pw_below_drewN | apply below_drew1) | exact HB.out)⟩

end Go.Proofs.Ytbdbklnlpeichaa.P

-- Written by wip/gen/lay.py, a program of this session, with the kit's print as its base. Lean checks every line.
namespace Go.Proofs.Ytbdbklnlpeichaa.P
open Go.RowKit Go.Proofs.YtbdbklnlpeichaaW.PrintWords Go.Proofs.YtbdbklnlpeichaaW.PrintLast Go.Proofs.YtbdbklnlpeichaaW.PrintMore
attribute [local go_sem] max2_int min2_int max_two min_two max_three min_three max_four min_four   -- for this text's walks alone
set_option linter.unusedVariables false
set_option linter.unusedSimpArgs false

/-! ### impl_MoreDo: function 16 -/
def impl_MoreDo.f (k : Nat) (l0 : List Int) : Option (Bool) := (impl_isTriangle.f k l0).bind fun t354 => (if t354 = true then ((impl_moreDo.f l0).bind fun t355 => (some t355)) else (some false))
theorem impl_MoreDo.mono : ∀ a0 k, LeO (impl_MoreDo.f k a0) (impl_MoreDo.f (k + 1) a0) := by
  intro a0 k
  unfold impl_MoreDo.f
  repeat' first
      | (with_reducible exact impl_isTriangle.mono _ _)
      | (with_reducible exact LeO.refl _)
      | (with_reducible exact LeO.none _)
      | (with_reducible refine LeO.ite ?_ ?_)
      | (with_reducible refine LeO.bind ?_ (fun _ => ?_))
      | exact impl_isTriangle.mono _ _
      | exact LeO.none _
      | refine LeO.ite ?_ ?_
      | refine LeO.bind ?_ (fun _ => ?_)
set_option maxHeartbeats 8000000 in
set_option maxRecDepth 100000 in
theorem impl_MoreDo.calls (k : Nat) (A0 : Option Addr) (c0 : Nat) (l0 : List Int) (r : Bool) (w : World) (hr0 : Kd.C (Kd.int .i64) w A0 l0.length l0) (hc0 : l0.length ≤ c0) (h : impl_MoreDo.f k l0 = some r) :
    Calls Try.prog 16 #[.slice A0 l0.length c0] w fun e w' => e = .returned (.bool r) ∧ Below w.heap.size w w' := by
  have HR0 := Aside0.mk hr0
  have HC0 := Aside0.mk hc0
  clear hr0 hc0
  have HB := Aside0.mk (Below.refl w.heap.size w)
  have H : ((impl_isTriangle.f k l0).bind fun t354 => (if t354 = true then ((impl_moreDo.f l0).bind fun t355 => (some t355)) else (some false))) = some r := h
  clear h
  replace H := Option.bind_eq_some_iff.mp H
  obtain ⟨t354, A20, H⟩ := H
  replace H : (if t354 = true then ((impl_moreDo.f l0).bind fun t355 => (some t355)) else (some false)) = some r := H
  have A2 := Aside0.mk A20
  clear A20
  by_cases c3 : t354 = true
  · subst c3
    have H1 : ((impl_moreDo.f l0).bind fun t355 => (some t355)) = some r := by rw [if_pos rfl] at H; exact H
    clear H
    have H := H1
    clear H1
    replace H := Option.bind_eq_some_iff.mp H
    obtain ⟨t355, A40, H⟩ := H
    replace H : (some t355) = some r := H
    have A4 := Aside0.mk A40
    clear A40
    obtain rfl := Option.some.inj H
    go_enter Try.func16, Try.ntmps16
    go_wp2_with (first | ((with_reducible refine gate_callee (f := 31) rfl ?_); refine goesL_ (some 4) rfl rfl Try.func31 (by kernel_rfl) rfl #[.slice A0 l0.length c0] rfl (by (try simp only [List.map_toArray, List.map_cons, List.map_nil]); first | done | rfl | (simp only [List.length_drop, List.length_take]; rfl)) ?_; (with_reducible refine (impl_isTriangle.calls k _ _ l0 true _ ?side1 ?side2 A2.out).mono ?_); (case side1 => repeat (first | exact HR0.out | (with_reducible refine Kd.C_alloc ?_ _) | (with_reducible refine Kd.C_drewN ?_ _) | (with_reducible refine Kd.C_drew ?_))); (case side2 => exact HC0.out); rintro e w' ⟨rfl, ⟨nd, rfl⟩⟩; refine ⟨_, rfl, ?_⟩) | (go_at_call 41; (with_reducible refine (impl_moreDo.calls _ _ l0 t355 _ ?side1 ?side2 A4.out).mono ?_); (case side1 => repeat (first | exact HR0.out | (with_reducible refine Kd.C_alloc ?_ _) | (with_reducible refine Kd.C_drewN ?_ _) | (with_reducible refine Kd.C_drew ?_))); (case side2 => exact HC0.out); rintro e w5 ⟨rfl, hb⟩; have n0_ := Aside0.mk (below_step (by repeat (first | (with_reducible first | exact HB.out | apply below_alloc | apply pw_below_drewN | apply below_drew1) | exact HB.out)) hb); clear HB; have HB := n0_; clear n0_; (try clear hb); (try clear hb2); (try clear hk); (try clear hi)))
    go_ret
    exact ⟨by first | rfl | (simp [errW_none, errW_some] <;> rfl) | (simp [*, errW_none, errW_some] <;> rfl), by repeat (first | (with_reducible first | exact HB.out | apply below_alloc | apply pw_below_drewN | apply below_drew1) | exact HB.out)⟩
  · replace c3 := Bool.eq_false_iff.mpr c3
    subst c3
    have H1 : (some false) = some r := by rw [if_neg (show ¬ (false = true) by decide)] at H; exact H
    clear H
    have H := H1
    clear H1
    obtain rfl := Option.some.inj H
    go_enter Try.func16, Try.ntmps16
    go_wp2_with (first | ((with_reducible refine gate_callee (f := 31) rfl ?_); refine goesL_ (some 4) rfl rfl Try.func31 (by kernel_rfl) rfl #[.slice A0 l0.length c0] rfl (by (try simp only [List.map_toArray, List.map_cons, List.map_nil]); first | done | rfl | (simp only [List.length_drop, List.length_take]; rfl)) ?_; (with_reducible refine (impl_isTriangle.calls k _ _ l0 false _ ?side1 ?side2 A2.out).mono ?_); (case side1 => repeat (first | exact HR0.out | (with_reducible refine Kd.C_alloc ?_ _) | (with_reducible refine Kd.C_drewN ?_ _) | (with_reducible refine Kd.C_drew ?_))); (case side2 => exact HC0.out); rintro e w' ⟨rfl, ⟨nd, rfl⟩⟩; refine ⟨_, rfl, ?_⟩))
    go_ret
    exact ⟨by first | rfl | (simp [errW_none, errW_some] <;> rfl) | (simp [*, errW_none, errW_some] <;> rfl), by repeat (first | (with_reducible first | exact HB.out | apply below_alloc | apply pw_below_drewN | apply below_drew1) | exact HB.out)⟩

end Go.Proofs.Ytbdbklnlpeichaa.P

-- Written by wip/gen/lay.py, a program of this session, with the kit's print as its base. Lean checks every line.
namespace Go.Proofs.Ytbdbklnlpeichaa.P
open Go.RowKit Go.Proofs.YtbdbklnlpeichaaW.PrintWords Go.Proofs.YtbdbklnlpeichaaW.PrintLast Go.Proofs.YtbdbklnlpeichaaW.PrintMore
attribute [local go_sem] max2_int min2_int max_two min_two max_three min_three max_four min_four   -- for this text's walks alone
set_option linter.unusedVariables false
set_option linter.unusedSimpArgs false

/-! ### HAND impl_moreAre: function 42 -/
def impl_moreAre.so (l0 : List Int) (a s : Int) : Bool := decide (a = 5) || (hd l0 (a + 1) s && hd l0 (a + 1) (s + 1))
def impl_moreAre.f (l0 : List Int) : Option Bool := if 21 ≤ l0.length then some (staysP l0 (impl_moreAre.so l0)) else none
set_option maxHeartbeats 1000000 in
set_option maxRecDepth 100000 in
theorem impl_moreAre.lit (A0 : Option Addr) (c0 : Nat) (l0 : List Int) (b : Nat) (W : World) (hl : 21 ≤ l0.length) (hc : W.cell? ⟨b, 0, none⟩ = some (.slice A0 l0.length c0)) (hr0 : Kd.C (Kd.int .i64) W A0 l0.length l0) (hc0 : l0.length ≤ c0)
    (a s : Int) (h1 : 0 ≤ a) (h2 : a ≤ 5) (h3 : 0 ≤ s) (h4 : s ≤ a) :
    Calls Try.prog 64 #[.int .i64 a, .int .i64 s, .pointer (some ⟨b, 0, none⟩)] W fun e w' => e = .returned (.bool (impl_moreAre.so l0 a s)) ∧ Drawn0 W w' := by
  have HR0 := Aside0.mk hr0
  have HC0 := Aside0.mk hc0
  clear hr0 hc0
  by_cases e : a = 5
  · have e1 : (a == 5) = true := beq_iff_eq.2 e
    have e2 : impl_moreAre.so l0 a s = true := by unfold impl_moreAre.so; rw [decide_eq_true e, Bool.true_or]
    rw [e2]
    clear e e2
    go_enter Try.func64, Try.ntmps64
    go_wp2
    go_ret
    exact ⟨rfl, by repeat (first | exact Drawn0.refl _ | apply Drawn0.step)⟩
  · have e1 : (a == 5) = false := beq_eq_false_iff_ne.2 e
    have hh := holds_here l0 (a + 1) s hl (by omega) (by omega) (by omega) (by omega)
    have hk := holds_here l0 (a + 1) (s + 1) hl (by omega) (by omega) (by omega) (by omega)
    have e2 : impl_moreAre.so l0 a s = (hd l0 (a + 1) s && hd l0 (a + 1) (s + 1)) := by unfold impl_moreAre.so; rw [decide_eq_false e, Bool.false_or]
    rw [e2]
    obtain ⟨x0, ex⟩ : ∃ b, hd l0 (a + 1) s = b := ⟨_, rfl⟩
    obtain ⟨x1, ey⟩ : ∃ b, hd l0 (a + 1) (s + 1) = b := ⟨_, rfl⟩
    rw [ex] at hh
    rw [ey] at hk
    rw [ex, ey]
    have H1 := Aside0.mk hh
    have H2 := Aside0.mk hk
    clear hh hk e2 ex ey e
    cases x0 <;> cases x1 <;>
    · go_enter Try.func64, Try.ntmps64
      go_wp2_with (first | (go_at_call 37; (with_reducible refine (impl_holds.calls A0 c0 l0 (a + 1) s _ _ ?s1 HC0.out H1.out).mono ?_); (case s1 => repeat (first | exact HR0.out | (with_reducible refine Kd.C_alloc ?_ _) | (with_reducible refine Kd.C_drewN ?_ _) | (with_reducible refine Kd.C_drew ?_))); rintro e w' ⟨rfl, ⟨nd, rfl⟩⟩) | (go_at_call 37; (with_reducible refine (impl_holds.calls A0 c0 l0 (a + 1) (s + 1) _ _ ?s1 HC0.out H2.out).mono ?_); (case s1 => repeat (first | exact HR0.out | (with_reducible refine Kd.C_alloc ?_ _) | (with_reducible refine Kd.C_drewN ?_ _) | (with_reducible refine Kd.C_drew ?_))); rintro e w' ⟨rfl, ⟨nd, rfl⟩⟩))
      go_ret
      exact ⟨rfl, by repeat (first | exact Drawn0.refl _ | apply Drawn0.step)⟩
set_option maxHeartbeats 1000000 in
set_option maxRecDepth 100000 in
theorem impl_moreAre.calls (A0 : Option Addr) (c0 : Nat) (l0 : List Int) (r : Bool) (w : World) (hr0 : Kd.C (Kd.int .i64) w A0 l0.length l0) (hc0 : l0.length ≤ c0) (h : impl_moreAre.f l0 = some r) :
    Calls Try.prog 42 #[.slice A0 l0.length c0] w fun e w' => e = .returned (.bool r) ∧ Below w.heap.size w w' := by
  have hl : 21 ≤ l0.length := by
    unfold impl_moreAre.f at h; split at h
    · assumption
    · cases h
  obtain rfl : staysP l0 (impl_moreAre.so l0) = r := by unfold impl_moreAre.f at h; rw [if_pos hl] at h; exact Option.some.inj h
  have HB := Aside0.mk (below_alloc (Below.refl w.heap.size w) (.cells #[.slice A0 l0.length c0] 23))
  have HR0 := Aside0.mk (Kd.C_alloc hr0 (.cells #[.slice A0 l0.length c0] 23))
  have HC0 := Aside0.mk hc0
  have HL := Aside0.mk hl
  have HS := Aside0.mk (show Gives2 64 #[.pointer (some ⟨w.heap.size, 0, none⟩)] (impl_moreAre.so l0) (w.alloc (.cells #[.slice A0 l0.length c0] 23)) from fun W a s hW h1 h2 h3 h4 =>
    impl_moreAre.lit A0 c0 l0 w.heap.size W hl ((hW.cell (p := ⟨w.heap.size, 0, none⟩) (by simp)).trans (by simp)) (Kd.C_below HR0.out hW) hc0 a s h1 h2 h3 h4)
  clear h hl hr0 hc0
  go_enter Try.func42, Try.ntmps42
  go_wp2_with (go_at_call 58; refine (impl_stays.calls _ (enters_of Try.func64 (by kernel_rfl) rfl) _ _ _ _ l0 _ HL.out HR0.out HC0.out HS.out).mono ?_; rintro e w' ⟨rfl, ⟨nd, rfl⟩⟩)
  go_ret
  exact ⟨rfl, by repeat (first | (with_reducible first | exact HB.out | apply below_alloc | apply pw_below_drewN | apply below_drew1) | exact HB.out)⟩

end Go.Proofs.Ytbdbklnlpeichaa.P

-- Written by wip/gen/lay.py, a program of this session, with the kit's print as its base. Lean checks every line.
namespace Go.Proofs.Ytbdbklnlpeichaa.P
open Go.RowKit Go.Proofs.YtbdbklnlpeichaaW.PrintWords Go.Proofs.YtbdbklnlpeichaaW.PrintLast Go.Proofs.YtbdbklnlpeichaaW.PrintMore
attribute [local go_sem] max2_int min2_int max_two min_two max_three min_three max_four min_four   -- for this text's walks alone
set_option linter.unusedVariables false
set_option linter.unusedSimpArgs false

/-! ### impl_MoreAre: function 18 -/
def impl_MoreAre.f (k : Nat) (l0 : List Int) : Option (Bool) := (impl_isTriangle.f k l0).bind fun t381 => (if t381 = true then ((impl_moreAre.f l0).bind fun t382 => (some t382)) else (some false))
theorem impl_MoreAre.mono : ∀ a0 k, LeO (impl_MoreAre.f k a0) (impl_MoreAre.f (k + 1) a0) := by
  intro a0 k
  unfold impl_MoreAre.f
  repeat' first
      | (with_reducible exact impl_isTriangle.mono _ _)
      | (with_reducible exact LeO.refl _)
      | (with_reducible exact LeO.none _)
      | (with_reducible refine LeO.ite ?_ ?_)
      | (with_reducible refine LeO.bind ?_ (fun _ => ?_))
      | exact impl_isTriangle.mono _ _
      | exact LeO.none _
      | refine LeO.ite ?_ ?_
      | refine LeO.bind ?_ (fun _ => ?_)
set_option maxHeartbeats 8000000 in
set_option maxRecDepth 100000 in
theorem impl_MoreAre.calls (k : Nat) (A0 : Option Addr) (c0 : Nat) (l0 : List Int) (r : Bool) (w : World) (hr0 : Kd.C (Kd.int .i64) w A0 l0.length l0) (hc0 : l0.length ≤ c0) (h : impl_MoreAre.f k l0 = some r) :
    Calls Try.prog 18 #[.slice A0 l0.length c0] w fun e w' => e = .returned (.bool r) ∧ Below w.heap.size w w' := by
  have HR0 := Aside0.mk hr0
  have HC0 := Aside0.mk hc0
  clear hr0 hc0
  have HB := Aside0.mk (Below.refl w.heap.size w)
  have H : ((impl_isTriangle.f k l0).bind fun t381 => (if t381 = true then ((impl_moreAre.f l0).bind fun t382 => (some t382)) else (some false))) = some r := h
  clear h
  replace H := Option.bind_eq_some_iff.mp H
  obtain ⟨t381, A20, H⟩ := H
  replace H : (if t381 = true then ((impl_moreAre.f l0).bind fun t382 => (some t382)) else (some false)) = some r := H
  have A2 := Aside0.mk A20
  clear A20
  by_cases c3 : t381 = true
  · subst c3
    have H1 : ((impl_moreAre.f l0).bind fun t382 => (some t382)) = some r := by rw [if_pos rfl] at H; exact H
    clear H
    have H := H1
    clear H1
    replace H := Option.bind_eq_some_iff.mp H
    obtain ⟨t382, A40, H⟩ := H
    replace H : (some t382) = some r := H
    have A4 := Aside0.mk A40
    clear A40
    obtain rfl := Option.some.inj H
    go_enter Try.func18, Try.ntmps18
    go_wp2_with (first | ((with_reducible refine gate_callee (f := 31) rfl ?_); refine goesL_ (some 4) rfl rfl Try.func31 (by kernel_rfl) rfl #[.slice A0 l0.length c0] rfl (by (try simp only [List.map_toArray, List.map_cons, List.map_nil]); first | done | rfl | (simp only [List.length_drop, List.length_take]; rfl)) ?_; (with_reducible refine (impl_isTriangle.calls k _ _ l0 true _ ?side1 ?side2 A2.out).mono ?_); (case side1 => repeat (first | exact HR0.out | (with_reducible refine Kd.C_alloc ?_ _) | (with_reducible refine Kd.C_drewN ?_ _) | (with_reducible refine Kd.C_drew ?_))); (case side2 => exact HC0.out); rintro e w' ⟨rfl, ⟨nd, rfl⟩⟩; refine ⟨_, rfl, ?_⟩) | (go_at_call 42; (with_reducible refine (impl_moreAre.calls _ _ l0 t382 _ ?side1 ?side2 A4.out).mono ?_); (case side1 => repeat (first | exact HR0.out | (with_reducible refine Kd.C_alloc ?_ _) | (with_reducible refine Kd.C_drewN ?_ _) | (with_reducible refine Kd.C_drew ?_))); (case side2 => exact HC0.out); rintro e w5 ⟨rfl, hb⟩; have n0_ := Aside0.mk (below_step (by repeat (first | (with_reducible first | exact HB.out | apply below_alloc | apply pw_below_drewN | apply below_drew1) | exact HB.out)) hb); clear HB; have HB := n0_; clear n0_; (try clear hb); (try clear hb2); (try clear hk); (try clear hi)))
    go_ret
    exact ⟨by first | rfl | (simp [errW_none, errW_some] <;> rfl) | (simp [*, errW_none, errW_some] <;> rfl), by repeat (first | (with_reducible first | exact HB.out | apply below_alloc | apply pw_below_drewN | apply below_drew1) | exact HB.out)⟩
  · replace c3 := Bool.eq_false_iff.mpr c3
    subst c3
    have H1 : (some false) = some r := by rw [if_neg (show ¬ (false = true) by decide)] at H; exact H
    clear H
    have H := H1
    clear H1
    obtain rfl := Option.some.inj H
    go_enter Try.func18, Try.ntmps18
    go_wp2_with (first | ((with_reducible refine gate_callee (f := 31) rfl ?_); refine goesL_ (some 4) rfl rfl Try.func31 (by kernel_rfl) rfl #[.slice A0 l0.length c0] rfl (by (try simp only [List.map_toArray, List.map_cons, List.map_nil]); first | done | rfl | (simp only [List.length_drop, List.length_take]; rfl)) ?_; (with_reducible refine (impl_isTriangle.calls k _ _ l0 false _ ?side1 ?side2 A2.out).mono ?_); (case side1 => repeat (first | exact HR0.out | (with_reducible refine Kd.C_alloc ?_ _) | (with_reducible refine Kd.C_drewN ?_ _) | (with_reducible refine Kd.C_drew ?_))); (case side2 => exact HC0.out); rintro e w' ⟨rfl, ⟨nd, rfl⟩⟩; refine ⟨_, rfl, ?_⟩))
    go_ret
    exact ⟨by first | rfl | (simp [errW_none, errW_some] <;> rfl) | (simp [*, errW_none, errW_some] <;> rfl), by repeat (first | (with_reducible first | exact HB.out | apply below_alloc | apply pw_below_drewN | apply below_drew1) | exact HB.out)⟩

end Go.Proofs.Ytbdbklnlpeichaa.P

-- Written by wip/gen/lay.py, a program of this session, with the kit's print as its base. Lean checks every line.
namespace Go.Proofs.Ytbdbklnlpeichaa.P
open Go.RowKit Go.Proofs.YtbdbklnlpeichaaW.PrintWords Go.Proofs.YtbdbklnlpeichaaW.PrintLast Go.Proofs.YtbdbklnlpeichaaW.PrintMore
attribute [local go_sem] max2_int min2_int max_two min_two max_three min_three max_four min_four   -- for this text's walks alone
set_option linter.unusedVariables false
set_option linter.unusedSimpArgs false

/-! ### HAND impl_fewerAre: function 47 -/
def impl_fewerAre.so (l0 : List Int) (a s : Int) : Bool := (decide (s = 0) || hd l0 (a - 1) (s - 1)) && (decide (s = a) || hd l0 (a - 1) s)
def impl_fewerAre.f (l0 : List Int) : Option Bool := if 21 ≤ l0.length then some (staysP l0 (impl_fewerAre.so l0)) else none
set_option maxHeartbeats 1000000 in
set_option maxRecDepth 100000 in
theorem impl_fewerAre.lit (A0 : Option Addr) (c0 : Nat) (l0 : List Int) (b : Nat) (W : World) (hl : 21 ≤ l0.length) (hc : W.cell? ⟨b, 0, none⟩ = some (.slice A0 l0.length c0)) (hr0 : Kd.C (Kd.int .i64) W A0 l0.length l0) (hc0 : l0.length ≤ c0)
    (a s : Int) (h1 : 0 ≤ a) (h2 : a ≤ 5) (h3 : 0 ≤ s) (h4 : s ≤ a) :
    Calls Try.prog 65 #[.int .i64 a, .int .i64 s, .pointer (some ⟨b, 0, none⟩)] W fun e w' => e = .returned (.bool (impl_fewerAre.so l0 a s)) ∧ Drawn0 W w' := by
  have HR0 := Aside0.mk hr0
  have HC0 := Aside0.mk hc0
  clear hr0 hc0
  by_cases e0 : s = 0 <;> by_cases e1 : s = a
  · have f0 : (s == 0) = true := beq_iff_eq.2 e0
    have f1 : (s == a) = true := beq_iff_eq.2 e1
    have e2 : impl_fewerAre.so l0 a s = (true) := by unfold impl_fewerAre.so; rw [decide_eq_true e0, decide_eq_true e1]; simp only [Bool.true_or, Bool.false_or, Bool.true_and, Bool.and_true]
    rw [e2]
    clear e0 e1 e2
    go_enter Try.func65, Try.ntmps65
    go_wp2
    go_ret
    exact ⟨rfl, by repeat (first | exact Drawn0.refl _ | apply Drawn0.step)⟩
  · have f0 : (s == 0) = true := beq_iff_eq.2 e0
    have f1 : (s == a) = false := beq_eq_false_iff_ne.2 e1
    have hk := holds_here l0 (a - 1) s hl (by omega) (by omega) (by omega) (by omega)
    have e2 : impl_fewerAre.so l0 a s = (hd l0 (a - 1) s) := by unfold impl_fewerAre.so; rw [decide_eq_true e0, decide_eq_false e1]; simp only [Bool.true_or, Bool.false_or, Bool.true_and, Bool.and_true]
    rw [e2]
    obtain ⟨x1, ey⟩ : ∃ b, hd l0 (a - 1) s = b := ⟨_, rfl⟩
    rw [ey] at hk ⊢
    have H2 := Aside0.mk hk
    clear hk ey
    clear e0 e1 e2
    cases x1 <;>
    · go_enter Try.func65, Try.ntmps65
      go_wp2_with (first | (go_at_call 37; (with_reducible refine (impl_holds.calls A0 c0 l0 (a - 1) s _ _ ?s1 HC0.out H2.out).mono ?_); (case s1 => repeat (first | exact HR0.out | (with_reducible refine Kd.C_alloc ?_ _) | (with_reducible refine Kd.C_drewN ?_ _) | (with_reducible refine Kd.C_drew ?_))); rintro e w' ⟨rfl, ⟨nd, rfl⟩⟩))
      go_ret
      exact ⟨rfl, by repeat (first | exact Drawn0.refl _ | apply Drawn0.step)⟩
  · have f0 : (s == 0) = false := beq_eq_false_iff_ne.2 e0
    have f1 : (s == a) = true := beq_iff_eq.2 e1
    have hh := holds_here l0 (a - 1) (s - 1) hl (by omega) (by omega) (by omega) (by omega)
    have e2 : impl_fewerAre.so l0 a s = (hd l0 (a - 1) (s - 1)) := by unfold impl_fewerAre.so; rw [decide_eq_false e0, decide_eq_true e1]; simp only [Bool.true_or, Bool.false_or, Bool.true_and, Bool.and_true]
    rw [e2]
    obtain ⟨x0, ex⟩ : ∃ b, hd l0 (a - 1) (s - 1) = b := ⟨_, rfl⟩
    rw [ex] at hh ⊢
    have H1 := Aside0.mk hh
    clear hh ex
    clear e0 e1 e2
    cases x0 <;>
    · go_enter Try.func65, Try.ntmps65
      go_wp2_with (first | (go_at_call 37; (with_reducible refine (impl_holds.calls A0 c0 l0 (a - 1) (s - 1) _ _ ?s1 HC0.out H1.out).mono ?_); (case s1 => repeat (first | exact HR0.out | (with_reducible refine Kd.C_alloc ?_ _) | (with_reducible refine Kd.C_drewN ?_ _) | (with_reducible refine Kd.C_drew ?_))); rintro e w' ⟨rfl, ⟨nd, rfl⟩⟩))
      go_ret
      exact ⟨rfl, by repeat (first | exact Drawn0.refl _ | apply Drawn0.step)⟩
  · have f0 : (s == 0) = false := beq_eq_false_iff_ne.2 e0
    have f1 : (s == a) = false := beq_eq_false_iff_ne.2 e1
    have hh := holds_here l0 (a - 1) (s - 1) hl (by omega) (by omega) (by omega) (by omega)
    have hk := holds_here l0 (a - 1) s hl (by omega) (by omega) (by omega) (by omega)
    have e2 : impl_fewerAre.so l0 a s = (hd l0 (a - 1) (s - 1) && hd l0 (a - 1) s) := by unfold impl_fewerAre.so; rw [decide_eq_false e0, decide_eq_false e1]; simp only [Bool.true_or, Bool.false_or, Bool.true_and, Bool.and_true]
    rw [e2]
    obtain ⟨x0, ex⟩ : ∃ b, hd l0 (a - 1) (s - 1) = b := ⟨_, rfl⟩
    rw [ex] at hh ⊢
    have H1 := Aside0.mk hh
    clear hh ex
    obtain ⟨x1, ey⟩ : ∃ b, hd l0 (a - 1) s = b := ⟨_, rfl⟩
    rw [ey] at hk ⊢
    have H2 := Aside0.mk hk
    clear hk ey
    clear e0 e1 e2
    cases x0 <;> cases x1 <;>
    · go_enter Try.func65, Try.ntmps65
      go_wp2_with (first | (go_at_call 37; (with_reducible refine (impl_holds.calls A0 c0 l0 (a - 1) (s - 1) _ _ ?s1 HC0.out H1.out).mono ?_); (case s1 => repeat (first | exact HR0.out | (with_reducible refine Kd.C_alloc ?_ _) | (with_reducible refine Kd.C_drewN ?_ _) | (with_reducible refine Kd.C_drew ?_))); rintro e w' ⟨rfl, ⟨nd, rfl⟩⟩) | (go_at_call 37; (with_reducible refine (impl_holds.calls A0 c0 l0 (a - 1) s _ _ ?s1 HC0.out H2.out).mono ?_); (case s1 => repeat (first | exact HR0.out | (with_reducible refine Kd.C_alloc ?_ _) | (with_reducible refine Kd.C_drewN ?_ _) | (with_reducible refine Kd.C_drew ?_))); rintro e w' ⟨rfl, ⟨nd, rfl⟩⟩))
      go_ret
      exact ⟨rfl, by repeat (first | exact Drawn0.refl _ | apply Drawn0.step)⟩
set_option maxHeartbeats 1000000 in
set_option maxRecDepth 100000 in
theorem impl_fewerAre.calls (A0 : Option Addr) (c0 : Nat) (l0 : List Int) (r : Bool) (w : World) (hr0 : Kd.C (Kd.int .i64) w A0 l0.length l0) (hc0 : l0.length ≤ c0) (h : impl_fewerAre.f l0 = some r) :
    Calls Try.prog 47 #[.slice A0 l0.length c0] w fun e w' => e = .returned (.bool r) ∧ Below w.heap.size w w' := by
  have hl : 21 ≤ l0.length := by
    unfold impl_fewerAre.f at h; split at h
    · assumption
    · cases h
  obtain rfl : staysP l0 (impl_fewerAre.so l0) = r := by unfold impl_fewerAre.f at h; rw [if_pos hl] at h; exact Option.some.inj h
  have HB := Aside0.mk (below_alloc (Below.refl w.heap.size w) (.cells #[.slice A0 l0.length c0] 23))
  have HR0 := Aside0.mk (Kd.C_alloc hr0 (.cells #[.slice A0 l0.length c0] 23))
  have HC0 := Aside0.mk hc0
  have HL := Aside0.mk hl
  have HS := Aside0.mk (show Gives2 65 #[.pointer (some ⟨w.heap.size, 0, none⟩)] (impl_fewerAre.so l0) (w.alloc (.cells #[.slice A0 l0.length c0] 23)) from fun W a s hW h1 h2 h3 h4 =>
    impl_fewerAre.lit A0 c0 l0 w.heap.size W hl ((hW.cell (p := ⟨w.heap.size, 0, none⟩) (by simp)).trans (by simp)) (Kd.C_below HR0.out hW) hc0 a s h1 h2 h3 h4)
  clear h hl hr0 hc0
  go_enter Try.func47, Try.ntmps47
  go_wp2_with (go_at_call 58; refine (impl_stays.calls _ (enters_of Try.func65 (by kernel_rfl) rfl) _ _ _ _ l0 _ HL.out HR0.out HC0.out HS.out).mono ?_; rintro e w' ⟨rfl, ⟨nd, rfl⟩⟩)
  go_ret
  exact ⟨rfl, by repeat (first | (with_reducible first | exact HB.out | apply below_alloc | apply pw_below_drewN | apply below_drew1) | exact HB.out)⟩

end Go.Proofs.Ytbdbklnlpeichaa.P

-- Written by wip/gen/lay.py, a program of this session, with the kit's print as its base. Lean checks every line.
namespace Go.Proofs.Ytbdbklnlpeichaa.P
open Go.RowKit Go.Proofs.YtbdbklnlpeichaaW.PrintWords Go.Proofs.YtbdbklnlpeichaaW.PrintLast Go.Proofs.YtbdbklnlpeichaaW.PrintMore
attribute [local go_sem] max2_int min2_int max_two min_two max_three min_three max_four min_four   -- for this text's walks alone
set_option linter.unusedVariables false
set_option linter.unusedSimpArgs false

/-! ### impl_FewerAre: function 23 -/
def impl_FewerAre.f (k : Nat) (l0 : List Int) : Option (Bool) := (impl_isTriangle.f k l0).bind fun t400 => (if t400 = true then ((impl_fewerAre.f l0).bind fun t401 => (some t401)) else (some false))
theorem impl_FewerAre.mono : ∀ a0 k, LeO (impl_FewerAre.f k a0) (impl_FewerAre.f (k + 1) a0) := by
  intro a0 k
  unfold impl_FewerAre.f
  repeat' first
      | (with_reducible exact impl_isTriangle.mono _ _)
      | (with_reducible exact LeO.refl _)
      | (with_reducible exact LeO.none _)
      | (with_reducible refine LeO.ite ?_ ?_)
      | (with_reducible refine LeO.bind ?_ (fun _ => ?_))
      | exact impl_isTriangle.mono _ _
      | exact LeO.none _
      | refine LeO.ite ?_ ?_
      | refine LeO.bind ?_ (fun _ => ?_)
set_option maxHeartbeats 8000000 in
set_option maxRecDepth 100000 in
theorem impl_FewerAre.calls (k : Nat) (A0 : Option Addr) (c0 : Nat) (l0 : List Int) (r : Bool) (w : World) (hr0 : Kd.C (Kd.int .i64) w A0 l0.length l0) (hc0 : l0.length ≤ c0) (h : impl_FewerAre.f k l0 = some r) :
    Calls Try.prog 23 #[.slice A0 l0.length c0] w fun e w' => e = .returned (.bool r) ∧ Below w.heap.size w w' := by
  have HR0 := Aside0.mk hr0
  have HC0 := Aside0.mk hc0
  clear hr0 hc0
  have HB := Aside0.mk (Below.refl w.heap.size w)
  have H : ((impl_isTriangle.f k l0).bind fun t400 => (if t400 = true then ((impl_fewerAre.f l0).bind fun t401 => (some t401)) else (some false))) = some r := h
  clear h
  replace H := Option.bind_eq_some_iff.mp H
  obtain ⟨t400, A20, H⟩ := H
  replace H : (if t400 = true then ((impl_fewerAre.f l0).bind fun t401 => (some t401)) else (some false)) = some r := H
  have A2 := Aside0.mk A20
  clear A20
  by_cases c3 : t400 = true
  · subst c3
    have H1 : ((impl_fewerAre.f l0).bind fun t401 => (some t401)) = some r := by rw [if_pos rfl] at H; exact H
    clear H
    have H := H1
    clear H1
    replace H := Option.bind_eq_some_iff.mp H
    obtain ⟨t401, A40, H⟩ := H
    replace H : (some t401) = some r := H
    have A4 := Aside0.mk A40
    clear A40
    obtain rfl := Option.some.inj H
    go_enter Try.func23, Try.ntmps23
    go_wp2_with (first | ((with_reducible refine gate_callee (f := 31) rfl ?_); refine goesL_ (some 4) rfl rfl Try.func31 (by kernel_rfl) rfl #[.slice A0 l0.length c0] rfl (by (try simp only [List.map_toArray, List.map_cons, List.map_nil]); first | done | rfl | (simp only [List.length_drop, List.length_take]; rfl)) ?_; (with_reducible refine (impl_isTriangle.calls k _ _ l0 true _ ?side1 ?side2 A2.out).mono ?_); (case side1 => repeat (first | exact HR0.out | (with_reducible refine Kd.C_alloc ?_ _) | (with_reducible refine Kd.C_drewN ?_ _) | (with_reducible refine Kd.C_drew ?_))); (case side2 => exact HC0.out); rintro e w' ⟨rfl, ⟨nd, rfl⟩⟩; refine ⟨_, rfl, ?_⟩) | (go_at_call 47; (with_reducible refine (impl_fewerAre.calls _ _ l0 t401 _ ?side1 ?side2 A4.out).mono ?_); (case side1 => repeat (first | exact HR0.out | (with_reducible refine Kd.C_alloc ?_ _) | (with_reducible refine Kd.C_drewN ?_ _) | (with_reducible refine Kd.C_drew ?_))); (case side2 => exact HC0.out); rintro e w5 ⟨rfl, hb⟩; have n0_ := Aside0.mk (below_step (by repeat (first | (with_reducible first | exact HB.out | apply below_alloc | apply pw_below_drewN | apply below_drew1) | exact HB.out)) hb); clear HB; have HB := n0_; clear n0_; (try clear hb); (try clear hb2); (try clear hk); (try clear hi)))
    go_ret
    exact ⟨by first | rfl | (simp [errW_none, errW_some] <;> rfl) | (simp [*, errW_none, errW_some] <;> rfl), by repeat (first | (with_reducible first | exact HB.out | apply below_alloc | apply pw_below_drewN | apply below_drew1) | exact HB.out)⟩
  · replace c3 := Bool.eq_false_iff.mpr c3
    subst c3
    have H1 : (some false) = some r := by rw [if_neg (show ¬ (false = true) by decide)] at H; exact H
    clear H
    have H := H1
    clear H1
    obtain rfl := Option.some.inj H
    go_enter Try.func23, Try.ntmps23
    go_wp2_with (first | ((with_reducible refine gate_callee (f := 31) rfl ?_); refine goesL_ (some 4) rfl rfl Try.func31 (by kernel_rfl) rfl #[.slice A0 l0.length c0] rfl (by (try simp only [List.map_toArray, List.map_cons, List.map_nil]); first | done | rfl | (simp only [List.length_drop, List.length_take]; rfl)) ?_; (with_reducible refine (impl_isTriangle.calls k _ _ l0 false _ ?side1 ?side2 A2.out).mono ?_); (case side1 => repeat (first | exact HR0.out | (with_reducible refine Kd.C_alloc ?_ _) | (with_reducible refine Kd.C_drewN ?_ _) | (with_reducible refine Kd.C_drew ?_))); (case side2 => exact HC0.out); rintro e w' ⟨rfl, ⟨nd, rfl⟩⟩; refine ⟨_, rfl, ?_⟩))
    go_ret
    exact ⟨by first | rfl | (simp [errW_none, errW_some] <;> rfl) | (simp [*, errW_none, errW_some] <;> rfl), by repeat (first | (with_reducible first | exact HB.out | apply below_alloc | apply pw_below_drewN | apply below_drew1) | exact HB.out)⟩

end Go.Proofs.Ytbdbklnlpeichaa.P

/- Plain facts: what the reference's and the program's MoreDo, FewerDo, MoreAre, FewerAre come to, with enough rounds, for lists of at most 2^20 numbers. -/
namespace Go.Proofs.Ytbdbklnlpeichaa.P
open Go.RowKit Go.Proofs.YtbdbklnlpeichaaW.PrintWords Go.Proofs.YtbdbklnlpeichaaW.PrintLast

theorem plOr_range (a s : Int) : plOr a s = -1 ∨ (0 ≤ plOr a s ∧ plOr a s < 21) := by
  unfold plOr
  split
  · rename_i h
    exact .inr (pl_range a s h.1 h.2.1 h.2.2.1 h.2.2.2)
  · exact .inl rfl
theorem plOr_out (a s : Int) (h : ¬ (0 ≤ a ∧ a ≤ 5 ∧ 0 ≤ s ∧ s ≤ a)) : plOr a s = -1 := if_neg h
/-- What holds at a place holds a step further, if there is such a place. -/
def stP (l : List Int) (da ds a s : Int) : Bool := if plOr (a + da) (s + ds) < 0 then true else decide (rd l (pl a s) ≤ rd l (plOr (a + da) (s + ds)))
theorem spec_l3Stays_eq (l : List Int) (hl : l.length = 21) (da ds a s : Int) (h1 : 0 ≤ a) (h2 : a ≤ 5) (h3 : 0 ≤ s) (h4 : s ≤ a) (d1 : -1 ≤ da) (d2 : da ≤ 1) (d3 : -1 ≤ ds) (d4 : ds ≤ 1) : spec_l3Stays.f l a s da ds = some (stP l da ds a s) := by
  have hr := pl_range a s h1 h2 h3 h4
  have w1 : wrap64 (a + da) = a + da := by unfold wrap64; omega
  have w2 : wrap64 (s + ds) = s + ds := by unfold wrap64; omega
  unfold spec_l3Stays.f stP
  rw [spec_PlaceOf_eq, plOr_in a s h1 h2 h3 h4, Option.bind_some, w1, w2, spec_PlaceOf_eq, Option.bind_some, if_neg (by omega)]
  rcases plOr_range (a + da) (s + ds) with e | e
  · rw [if_pos (by omega), if_pos (by omega)]
  · rw [if_neg (by omega), if_pos hr.1, if_pos (by omega), if_pos e.1, if_pos (by omega), if_neg (by omega)]
theorem spec_l3Each_inner (l : List Int) (hl : l.length = 21) (da ds : Int) (d1 : -1 ≤ da) (d2 : da ≤ 1) (d3 : -1 ≤ ds) (d4 : ds ≤ 1) (a : Nat) (ha : a < 6) (d : Nat) : ∀ (m s : Nat), s + d = a + 1 →
    spec_l3Each.l1 (m + d + 1) l da ds (a : Int) (s : Int) = if ((List.range' s d).all fun (s : Nat) => stP l da ds a s) = true then spec_l3Each.l0 m l da ds ((a + 1 : Nat) : Int) else some false := by
  induction d with
  | zero =>
    intro m s h
    simp only [spec_l3Each.l1]
    rw [if_neg (by omega), wrap_succ6 a (by omega), List.range'_zero, List.all_nil, if_pos rfl]
  | succ d ih =>
    intro m s h
    obtain ⟨M, hM⟩ : ∃ M, M = m + d + 1 := ⟨_, rfl⟩
    rw [show m + (d + 1) + 1 = M + 1 from by omega]
    simp only [spec_l3Each.l1]
    rw [if_pos (by omega), spec_l3Stays_eq l hl da ds a s (by omega) (by omega) (by omega) (by omega) d1 d2 d3 d4, Option.bind_some, wrap_succ6 s (by omega), hM, ih m (s + 1) (by omega), List.range'_succ, List.all_cons]
    cases stP l da ds a s <;> rfl
/-- A step everywhere. -/
def eachP (l : List Int) (da ds : Int) : Bool := (List.range' 0 6).all fun (a : Nat) => (List.range' 0 (a + 1)).all fun (s : Nat) => stP l da ds a s
theorem spec_l3Each_outer (l : List Int) (hl : l.length = 21) (da ds : Int) (d1 : -1 ≤ da) (d2 : da ≤ 1) (d3 : -1 ≤ ds) (d4 : ds ≤ 1) (e : Nat) : ∀ (k a : Nat), a + e = 6 → 10 * e + 10 < k →
    spec_l3Each.l0 k l da ds (a : Int) = some ((List.range' a e).all fun (a : Nat) => (List.range' 0 (a + 1)).all fun (s : Nat) => stP l da ds a s) := by
  induction e with
  | zero =>
    intro k a h hk
    obtain ⟨k, rfl⟩ : ∃ m, k = m + 1 := ⟨k - 1, by omega⟩
    simp only [spec_l3Each.l0]
    rw [if_neg (by omega), List.range'_zero, List.all_nil]
  | succ e ih =>
    intro k a h hk
    obtain ⟨k, rfl⟩ : ∃ m, k = m + (a + 1) + 1 + 1 := ⟨k - (a + 3), by omega⟩
    simp only [spec_l3Each.l0]
    have := spec_l3Each_inner l hl da ds d1 d2 d3 d4 a (by omega) (a + 1) k 0 (by omega)
    rw [if_pos (by omega)]
    refine Eq.trans this ?_
    rw [ih k (a + 1) (by omega) (by omega), show List.range' a (e + 1) = a :: List.range' (a + 1) e from rfl, List.all_cons]
    cases ((List.range' 0 (a + 1)).all fun (s : Nat) => stP l da ds a s) <;> rfl
theorem spec_l3Each_k (l : List Int) (hl : l.length = 21) (da ds : Int) (d1 : -1 ≤ da) (d2 : da ≤ 1) (d3 : -1 ≤ ds) (d4 : ds ≤ 1) (k : Nat) (hk : 100 ≤ k) : spec_l3Each.f k l da ds = some (eachP l da ds) :=
  spec_l3Each_outer l hl da ds d1 d2 d3 d4 6 k 0 (by omega) (by omega)
theorem eachP_iff (l : List Int) (da ds : Int) : eachP l da ds = true ↔ ∀ a s : Nat, a < 6 → s ≤ a → stP l da ds a s = true := by
  simp only [eachP, List.all_eq_true, List.mem_range'_1]
  exact ⟨fun h a s ha hs => h a (by omega) s (by omega), fun h a ha s hs => h a s (by omega) (by omega)⟩
theorem staysP_iff (l : List Int) (so : Int → Int → Bool) : staysP l so = true ↔ ∀ a s : Nat, a < 6 → s ≤ a → okAt l so a s = true := by
  simp only [staysP, List.all_eq_true, List.mem_range]
  exact ⟨fun h a s ha hs => h a ha s (by omega), fun h a ha s hs => h a s ha (by omega)⟩
theorem stP_in (l : List Int) (ht : isTri l = true) (da ds a s : Int) (h1 : 0 ≤ a + da) (h2 : a + da ≤ 5) (h3 : 0 ≤ s + ds) (h4 : s + ds ≤ a + da) : stP l da ds a s = (!(hd l a s) || hd l (a + da) (s + ds)) := by
  have hr := pl_range (a + da) (s + ds) h1 h2 h3 h4
  unfold stP
  rw [plOr_in _ _ h1 h2 h3 h4, if_neg (by omega), bit_of l ht, bit_of l ht]
  cases hd l a s <;> cases hd l (a + da) (s + ds) <;> rfl
theorem stP_out (l : List Int) (da ds a s : Int) (h : ¬ (0 ≤ a + da ∧ a + da ≤ 5 ∧ 0 ≤ s + ds ∧ s + ds ≤ a + da)) : stP l da ds a s = true := by
  unfold stP
  rw [plOr_out _ _ h]
  rfl

theorem fewerDo_at (l : List Int) (ht : isTri l = true) (a s : Nat) (ha : a < 6) (hs : s ≤ a) : stP l 0 (-1) a s = okAt l (impl_fewerDo.so l) a s := by
  unfold okAt impl_fewerDo.so
  by_cases h : (s : Int) = 0
  · rw [stP_out _ _ _ _ _ (by omega), decide_eq_true h, Bool.true_or, Bool.or_true]
  · rw [stP_in l ht _ _ _ _ (by omega) (by omega) (by omega) (by omega), decide_eq_false h, Bool.false_or, Int.add_zero]
    rfl
theorem moreDo_at (l : List Int) (ht : isTri l = true) (a s : Nat) (ha : a < 6) (hs : s ≤ a) : stP l 0 1 a s = okAt l (impl_moreDo.so l) a s := by
  unfold okAt impl_moreDo.so
  by_cases h : (s : Int) = a
  · rw [stP_out _ _ _ _ _ (by omega), decide_eq_true h, Bool.true_or, Bool.or_true]
  · rw [stP_in l ht _ _ _ _ (by omega) (by omega) (by omega) (by omega), decide_eq_false h, Bool.false_or, Int.add_zero]
theorem moreAre_at (l : List Int) (ht : isTri l = true) (a s : Nat) (ha : a < 6) (hs : s ≤ a) : (stP l 1 0 a s && stP l 1 1 a s) = okAt l (impl_moreAre.so l) a s := by
  unfold okAt impl_moreAre.so
  by_cases h : (a : Int) = 5
  · rw [stP_out _ _ _ _ _ (by omega), stP_out _ _ _ _ _ (by omega), decide_eq_true h, Bool.true_or, Bool.or_true]
    rfl
  · rw [stP_in l ht _ _ _ _ (by omega) (by omega) (by omega) (by omega), stP_in l ht _ _ _ _ (by omega) (by omega) (by omega) (by omega), decide_eq_false h, Bool.false_or, Int.add_zero]
    cases hd l a s <;> cases hd l (↑a + 1) s <;> cases hd l (↑a + 1) (↑s + 1) <;> rfl
theorem fewerAre_at (l : List Int) (ht : isTri l = true) (a s : Nat) (ha : a < 6) (hs : s ≤ a) : (stP l (-1) 0 a s && stP l (-1) (-1) a s) = okAt l (impl_fewerAre.so l) a s := by
  unfold okAt impl_fewerAre.so
  have e1 : (a : Int) + -1 = a - 1 := rfl
  have e2 : (s : Int) + -1 = s - 1 := rfl
  by_cases h : (s : Int) = 0
  · rw [stP_out l (-1) (-1) _ _ (by omega), decide_eq_true h, Bool.true_or, Bool.true_and, Bool.and_true]
    by_cases h' : (s : Int) = a
    · rw [stP_out _ _ _ _ _ (by omega), decide_eq_true h', Bool.true_or, Bool.or_true]
    · rw [stP_in l ht _ _ _ _ (by omega) (by omega) (by omega) (by omega), decide_eq_false h', Bool.false_or, Int.add_zero, e1]
  · rw [stP_in l ht (-1) (-1) _ _ (by omega) (by omega) (by omega) (by omega), decide_eq_false h, Bool.false_or, e1, e2]
    by_cases h' : (s : Int) = a
    · rw [stP_out _ _ _ _ _ (by omega), decide_eq_true h', Bool.true_or, Bool.true_and, Bool.and_true]
    · rw [stP_in l ht _ _ _ _ (by omega) (by omega) (by omega) (by omega), decide_eq_false h', Bool.false_or, Int.add_zero, e1]
      cases hd l a s <;> cases hd l (↑a - 1) s <;> cases hd l (↑a - 1) (↑s - 1) <;> rfl

def fewerDoP (l : List Int) : Bool := isTri l && staysP l (impl_fewerDo.so l)
def moreDoP (l : List Int) : Bool := isTri l && staysP l (impl_moreDo.so l)
def fewerAreP (l : List Int) : Bool := isTri l && staysP l (impl_fewerAre.so l)
def moreAreP (l : List Int) : Bool := isTri l && staysP l (impl_moreAre.so l)
theorem one_each (l : List Int) (da ds : Int) (so : Int → Int → Bool) (h : ∀ a s : Nat, a < 6 → s ≤ a → stP l da ds a s = okAt l so a s) : eachP l da ds = staysP l so := by
  rw [Bool.eq_iff_iff, eachP_iff, staysP_iff]
  exact ⟨fun g a s ha hs => (h a s ha hs).symm.trans (g a s ha hs), fun g a s ha hs => (h a s ha hs).trans (g a s ha hs)⟩
theorem two_each (l : List Int) (da ds da' ds' : Int) (so : Int → Int → Bool) (h : ∀ a s : Nat, a < 6 → s ≤ a → (stP l da ds a s && stP l da' ds' a s) = okAt l so a s) : (eachP l da ds && eachP l da' ds') = staysP l so := by
  rw [Bool.eq_iff_iff, Bool.and_eq_true, eachP_iff, eachP_iff, staysP_iff]
  constructor
  · intro g a s ha hs
    rw [← h a s ha hs, g.1 a s ha hs, g.2 a s ha hs]
    rfl
  · intro g
    constructor <;> intro a s ha hs
    · have := g a s ha hs
      rw [← h a s ha hs, Bool.and_eq_true] at this
      exact this.1
    · have := g a s ha hs
      rw [← h a s ha hs, Bool.and_eq_true] at this
      exact this.2
theorem spec_FewerDo_k (l : List Int) (hl : l.length ≤ 1048576) (k : Nat) (hk : 2097153 ≤ k) : spec_FewerDo.f k l = some (fewerDoP l) := by
  unfold spec_FewerDo.f fewerDoP
  rw [spec_TriangleOk_k l hl k (by omega), Option.bind_some]
  by_cases ht : isTri l = true
  · rw [if_pos ht, spec_l3Each_k l (isTri_length ht) 0 (-1) (by omega) (by omega) (by omega) (by omega) k (by omega), Option.bind_some, one_each l 0 (-1) _ (fewerDo_at l ht), ht, Bool.true_and]
  · rw [if_neg ht, Bool.eq_false_iff.mpr ht, Bool.false_and]
theorem spec_MoreDo_k (l : List Int) (hl : l.length ≤ 1048576) (k : Nat) (hk : 2097153 ≤ k) : spec_MoreDo.f k l = some (moreDoP l) := by
  unfold spec_MoreDo.f moreDoP
  rw [spec_TriangleOk_k l hl k (by omega), Option.bind_some]
  by_cases ht : isTri l = true
  · rw [if_pos ht, spec_l3Each_k l (isTri_length ht) 0 1 (by omega) (by omega) (by omega) (by omega) k (by omega), Option.bind_some, one_each l 0 1 _ (moreDo_at l ht), ht, Bool.true_and]
  · rw [if_neg ht, Bool.eq_false_iff.mpr ht, Bool.false_and]
theorem spec_MoreAre_k (l : List Int) (hl : l.length ≤ 1048576) (k : Nat) (hk : 2097153 ≤ k) : spec_MoreAre.f k l = some (moreAreP l) := by
  unfold spec_MoreAre.f moreAreP
  rw [spec_TriangleOk_k l hl k (by omega), Option.bind_some]
  by_cases ht : isTri l = true
  · rw [if_pos ht, spec_l3Each_k l (isTri_length ht) 1 0 (by omega) (by omega) (by omega) (by omega) k (by omega), Option.bind_some, spec_l3Each_k l (isTri_length ht) 1 1 (by omega) (by omega) (by omega) (by omega) k (by omega), ← two_each l 1 0 1 1 _ (moreAre_at l ht), ht, Bool.true_and]
    cases eachP l 1 0 <;> rfl
  · rw [if_neg ht, Bool.eq_false_iff.mpr ht, Bool.false_and]
theorem impl_FewerDo_k (l : List Int) (hl : l.length ≤ 1048576) (k : Nat) (hk : 2097153 ≤ k) : impl_FewerDo.f k l = some (fewerDoP l) := by
  unfold impl_FewerDo.f fewerDoP impl_fewerDo.f
  rw [impl_isTriangle_k l hl k (by omega), Option.bind_some]
  by_cases ht : isTri l = true
  · rw [if_pos ht, if_pos (Nat.le_of_eq (isTri_length ht).symm), Option.bind_some, ht, Bool.true_and]
  · rw [if_neg ht, Bool.eq_false_iff.mpr ht, Bool.false_and]
theorem impl_MoreDo_k (l : List Int) (hl : l.length ≤ 1048576) (k : Nat) (hk : 2097153 ≤ k) : impl_MoreDo.f k l = some (moreDoP l) := by
  unfold impl_MoreDo.f moreDoP impl_moreDo.f
  rw [impl_isTriangle_k l hl k (by omega), Option.bind_some]
  by_cases ht : isTri l = true
  · rw [if_pos ht, if_pos (Nat.le_of_eq (isTri_length ht).symm), Option.bind_some, ht, Bool.true_and]
  · rw [if_neg ht, Bool.eq_false_iff.mpr ht, Bool.false_and]
theorem impl_FewerAre_k (l : List Int) (hl : l.length ≤ 1048576) (k : Nat) (hk : 2097153 ≤ k) : impl_FewerAre.f k l = some (fewerAreP l) := by
  unfold impl_FewerAre.f fewerAreP impl_fewerAre.f
  rw [impl_isTriangle_k l hl k (by omega), Option.bind_some]
  by_cases ht : isTri l = true
  · rw [if_pos ht, if_pos (Nat.le_of_eq (isTri_length ht).symm), Option.bind_some, ht, Bool.true_and]
  · rw [if_neg ht, Bool.eq_false_iff.mpr ht, Bool.false_and]
theorem impl_MoreAre_k (l : List Int) (hl : l.length ≤ 1048576) (k : Nat) (hk : 2097153 ≤ k) : impl_MoreAre.f k l = some (moreAreP l) := by
  unfold impl_MoreAre.f moreAreP impl_moreAre.f
  rw [impl_isTriangle_k l hl k (by omega), Option.bind_some]
  by_cases ht : isTri l = true
  · rw [if_pos ht, if_pos (Nat.le_of_eq (isTri_length ht).symm), Option.bind_some, ht, Bool.true_and]
  · rw [if_neg ht, Bool.eq_false_iff.mpr ht, Bool.false_and]

end Go.Proofs.Ytbdbklnlpeichaa.P
