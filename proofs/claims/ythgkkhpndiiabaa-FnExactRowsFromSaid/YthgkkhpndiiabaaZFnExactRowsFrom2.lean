-- Texts of this claim, laid one behind the other by wip/gen/merge.py.
import Derived.Test.YthgkkhpndiiabaaZFnExactRowsFrom0
-- Written by wip/gen/lay.py, a program of this session, with the kit's print as its base. Lean checks every line.
namespace Go.Proofs.Ythgkkhpndiiabaa.P
open Go.RowKit Go.Proofs.YthgkkhpndiiabaaW.PrintWords Go.Proofs.YthgkkhpndiiabaaW.PrintLast Go.Proofs.YthgkkhpndiiabaaW.PrintMore
attribute [local go_sem] max2_int min2_int max_two min_two max_three min_three max_four min_four   -- for this text's walks alone
set_option linter.unusedVariables false
set_option linter.unusedSimpArgs false

/-! ### spec_HoldsOf: function 19 -/
def spec_HoldsOf.f (k : Nat) (a0 : Int) (l1 : List Int) (a2 : Int) (a3 : Int) : Option (Bool) := (spec_RelationOk.f k a0 l1).bind fun t125 => (if t125 = true then (if 0 ≤ a0 then ((spec_l1In.f a2 0 (wrap64 ((shl .i64 1 a0) - 1))).bind fun t126 => (if t126 = true then ((spec_l1In.f a3 0 (wrap64 ((shl .i64 1 a0) - 1))).bind fun t127 => (if t127 = true then (if 0 ≤ (wrap64 ((shl .i64 a2 a0) + a3)) then (if (wrap64 ((shl .i64 a2 a0) + a3)) < (l1.length : Int) then (some ((rd l1 (wrap64 ((shl .i64 a2 a0) + a3))) == 1)) else (none)) else (none)) else (some false))) else (some false))) else (none)) else (some false))
theorem spec_HoldsOf.mono : ∀ a0 a1 a2 a3 k, LeO (spec_HoldsOf.f k a0 a1 a2 a3) (spec_HoldsOf.f (k + 1) a0 a1 a2 a3) := by
  intro a0 a1 a2 a3 k
  unfold spec_HoldsOf.f
  repeat' first
      | (with_reducible exact spec_RelationOk.mono _ _ _)
      | (with_reducible exact LeO.refl _)
      | (with_reducible exact LeO.none _)
      | (with_reducible refine LeO.ite ?_ ?_)
      | (with_reducible refine LeO.bind ?_ (fun _ => ?_))
      | exact spec_RelationOk.mono _ _ _
      | exact LeO.none _
      | refine LeO.ite ?_ ?_
      | refine LeO.bind ?_ (fun _ => ?_)
set_option maxHeartbeats 8000000 in
set_option maxRecDepth 100000 in
theorem spec_HoldsOf.calls (k : Nat) (a0 : Int) (A1 : Option Addr) (c1 : Nat) (l1 : List Int) (a2 : Int) (a3 : Int) (r : Bool) (w : World) (hr1 : Kd.C (Kd.int .i64) w A1 l1.length l1) (hc1 : l1.length ≤ c1) (h : spec_HoldsOf.f k a0 l1 a2 a3 = some r) :
    Calls Try.prog 19 #[.int .i64 a0, .slice A1 l1.length c1, .int .i64 a2, .int .i64 a3] w fun e w' => e = .returned (.bool r) ∧ Drawn0 w w' := by
  have HR1 := Aside0.mk hr1
  have HC1 := Aside0.mk hc1
  clear hr1 hc1
  have H : ((spec_RelationOk.f k a0 l1).bind fun t125 => (if t125 = true then (if 0 ≤ a0 then ((spec_l1In.f a2 0 (wrap64 ((shl .i64 1 a0) - 1))).bind fun t126 => (if t126 = true then ((spec_l1In.f a3 0 (wrap64 ((shl .i64 1 a0) - 1))).bind fun t127 => (if t127 = true then (if 0 ≤ (wrap64 ((shl .i64 a2 a0) + a3)) then (if (wrap64 ((shl .i64 a2 a0) + a3)) < (l1.length : Int) then (some ((rd l1 (wrap64 ((shl .i64 a2 a0) + a3))) == 1)) else (none)) else (none)) else (some false))) else (some false))) else (none)) else (some false))) = some r := h
  clear h
  replace H := Option.bind_eq_some_iff.mp H
  obtain ⟨t125, A50, H⟩ := H
  replace H : (if t125 = true then (if 0 ≤ a0 then ((spec_l1In.f a2 0 (wrap64 ((shl .i64 1 a0) - 1))).bind fun t126 => (if t126 = true then ((spec_l1In.f a3 0 (wrap64 ((shl .i64 1 a0) - 1))).bind fun t127 => (if t127 = true then (if 0 ≤ (wrap64 ((shl .i64 a2 a0) + a3)) then (if (wrap64 ((shl .i64 a2 a0) + a3)) < (l1.length : Int) then (some ((rd l1 (wrap64 ((shl .i64 a2 a0) + a3))) == 1)) else (none)) else (none)) else (some false))) else (some false))) else (none)) else (some false)) = some r := H
  have A5 := Aside0.mk A50
  clear A50
  by_cases c6 : t125 = true
  · subst c6
    have H1 : (if 0 ≤ a0 then ((spec_l1In.f a2 0 (wrap64 ((shl .i64 1 a0) - 1))).bind fun t126 => (if t126 = true then ((spec_l1In.f a3 0 (wrap64 ((shl .i64 1 a0) - 1))).bind fun t127 => (if t127 = true then (if 0 ≤ (wrap64 ((shl .i64 a2 a0) + a3)) then (if (wrap64 ((shl .i64 a2 a0) + a3)) < (l1.length : Int) then (some ((rd l1 (wrap64 ((shl .i64 a2 a0) + a3))) == 1)) else (none)) else (none)) else (some false))) else (some false))) else (none)) = some r := by rw [if_pos rfl] at H; exact H
    clear H
    have H := H1
    clear H1
    by_cases c7 : 0 ≤ a0
    · rw [if_pos c7] at H
      have c7b0 := eq_true c7
      have c7b1 : decide (0 ≤ a0) = true := decide_eq_true c7
      clear c7
      obtain ⟨ji8, hji8⟩ : ∃ j_ : Int, (shl .i64 1 a0) = j_ := ⟨_, rfl⟩
      replace H : ((spec_l1In.f a2 0 (wrap64 ((ji8) - 1))).bind fun t126 => (if t126 = true then ((spec_l1In.f a3 0 (wrap64 ((ji8) - 1))).bind fun t127 => (if t127 = true then (if 0 ≤ (wrap64 ((shl .i64 a2 a0) + a3)) then (if (wrap64 ((shl .i64 a2 a0) + a3)) < (l1.length : Int) then (some ((rd l1 (wrap64 ((shl .i64 a2 a0) + a3))) == 1)) else (none)) else (none)) else (some false))) else (some false))) = some r := by first | (rw [hji8] at H; exact H) | (simp only [hji8] at H ⊢; exact H)
      (try rw [hji8] at A5)
      have hji8_ : (IntKind.i64.wrap (1 * 2 ^ min a0.toNat 64)) = ji8 := hji8
      have hji8z : a0 ≤ 64 → (IntKind.i64.wrap (1 * 2 ^ a0.toNat)) = ji8 := shl_small hji8
      have hji8u : (IntKind.i64.wrap (2 ^ min a0.toNat 64)) = ji8 := by have h_ := hji8_; rw [Int.one_mul] at h_; exact h_
      have hji8v : a0 ≤ 64 → (IntKind.i64.wrap (2 ^ a0.toNat)) = ji8 := fun hle_ => by have h_ := hji8z hle_; rw [Int.one_mul] at h_; exact h_
      have hji8y : (wrap64 (1 * 2 ^ min a0.toNat 64)) = ji8 := (i64_w _).symm.trans hji8_
      have hji8x : a0 ≤ 64 → (wrap64 (1 * 2 ^ a0.toNat)) = ji8 := fun h_ => (i64_w _).symm.trans (hji8z h_)
      replace H := Option.bind_eq_some_iff.mp H
      obtain ⟨t126, A90, H⟩ := H
      replace H : (if t126 = true then ((spec_l1In.f a3 0 (wrap64 ((ji8) - 1))).bind fun t127 => (if t127 = true then (if 0 ≤ (wrap64 ((shl .i64 a2 a0) + a3)) then (if (wrap64 ((shl .i64 a2 a0) + a3)) < (l1.length : Int) then (some ((rd l1 (wrap64 ((shl .i64 a2 a0) + a3))) == 1)) else (none)) else (none)) else (some false))) else (some false)) = some r := H
      have A9 := Aside0.mk A90
      clear A90
      by_cases c10 : t126 = true
      · subst c10
        have H1 : ((spec_l1In.f a3 0 (wrap64 ((ji8) - 1))).bind fun t127 => (if t127 = true then (if 0 ≤ (wrap64 ((shl .i64 a2 a0) + a3)) then (if (wrap64 ((shl .i64 a2 a0) + a3)) < (l1.length : Int) then (some ((rd l1 (wrap64 ((shl .i64 a2 a0) + a3))) == 1)) else (none)) else (none)) else (some false))) = some r := by rw [if_pos rfl] at H; exact H
        clear H
        have H := H1
        clear H1
        have c11b0 := eq_true (of_decide_eq_true (by first | (with_reducible assumption) | assumption) : 0 ≤ a0)
        replace H := Option.bind_eq_some_iff.mp H
        obtain ⟨t127, A120, H⟩ := H
        replace H : (if t127 = true then (if 0 ≤ (wrap64 ((shl .i64 a2 a0) + a3)) then (if (wrap64 ((shl .i64 a2 a0) + a3)) < (l1.length : Int) then (some ((rd l1 (wrap64 ((shl .i64 a2 a0) + a3))) == 1)) else (none)) else (none)) else (some false)) = some r := H
        have A12 := Aside0.mk A120
        clear A120
        by_cases c13 : t127 = true
        · subst c13
          have H1 : (if 0 ≤ (wrap64 ((shl .i64 a2 a0) + a3)) then (if (wrap64 ((shl .i64 a2 a0) + a3)) < (l1.length : Int) then (some ((rd l1 (wrap64 ((shl .i64 a2 a0) + a3))) == 1)) else (none)) else (none)) = some r := by rw [if_pos rfl] at H; exact H
          clear H
          have H := H1
          clear H1
          have c14b0 := eq_true (of_decide_eq_true (by first | (with_reducible assumption) | assumption) : 0 ≤ a0)
          obtain ⟨ji15, hji15⟩ : ∃ j_ : Int, (shl .i64 a2 a0) = j_ := ⟨_, rfl⟩
          replace H : (if 0 ≤ (wrap64 ((ji15) + a3)) then (if (wrap64 ((ji15) + a3)) < (l1.length : Int) then (some ((rd l1 (wrap64 ((ji15) + a3))) == 1)) else (none)) else (none)) = some r := by first | (rw [hji15] at H; exact H) | (simp only [hji15] at H ⊢; exact H)
          (try rw [hji15] at A5)
          (try rw [hji15] at A9)
          (try rw [hji15] at A12)
          have hji15_ : (IntKind.i64.wrap (a2 * 2 ^ min a0.toNat 64)) = ji15 := hji15
          have hji15z : a0 ≤ 64 → (IntKind.i64.wrap (a2 * 2 ^ a0.toNat)) = ji15 := shl_small hji15
          have hji15y : (wrap64 (a2 * 2 ^ min a0.toNat 64)) = ji15 := (i64_w _).symm.trans hji15_
          have hji15x : a0 ≤ 64 → (wrap64 (a2 * 2 ^ a0.toNat)) = ji15 := fun h_ => (i64_w _).symm.trans (hji15z h_)
          obtain ⟨ji16, hji16⟩ : ∃ j_ : Int, (wrap64 ((ji15) + a3)) = j_ := ⟨_, rfl⟩
          replace H : (if 0 ≤ (ji16) then (if (ji16) < (l1.length : Int) then (some ((rd l1 (ji16)) == 1)) else (none)) else (none)) = some r := by first | (rw [hji16] at H; exact H) | (simp only [hji16] at H ⊢; exact H)
          (try rw [hji16] at A5)
          (try rw [hji16] at A9)
          (try rw [hji16] at A12)
          have hji16w : (IntKind.i64.wrap ((ji15) + a3)) = ji16 := (i64_w _).trans hji16
          by_cases c17 : 0 ≤ (ji16)
          · rw [if_pos c17] at H
            have c17b0 : decide (0 ≤ (ji16)) = true := decide_eq_true c17
            clear c17
            by_cases c18 : (ji16) < (l1.length : Int)
            · rw [if_pos c18] at H
              have c18b0 : decide ((ji16) < (l1.length : Int)) = true := decide_eq_true c18
              clear c18
              obtain rfl := Option.some.inj H
              go_enter Try.func19, Try.ntmps19
              go_wp2_with (first | ((with_reducible refine gate_callee (f := 15) rfl ?_); refine goesL_ (some 11) rfl rfl Try.func15 (by kernel_rfl) rfl #[.int .i64 a0, .slice A1 l1.length c1] rfl (by (try simp only [List.map_toArray, List.map_cons, List.map_nil]); first | done | rfl | (simp only [List.length_drop, List.length_take]; rfl)) ?_; (with_reducible refine (spec_RelationOk.calls k a0 _ _ l1 true _ ?side1 ?side2 A5.out).mono ?_); (case side1 => repeat (first | exact HR1.out | (with_reducible refine Kd.C_alloc ?_ _) | (with_reducible refine Kd.C_drewN ?_ _) | (with_reducible refine Kd.C_drew ?_))); (case side2 => exact HC1.out); rintro e w' ⟨rfl, ⟨nd, rfl⟩⟩; refine ⟨_, rfl, ?_⟩) | (go_at_call 43; (with_reducible refine (spec_l1In.calls a2 0 (wrap64 ((ji8) - 1)) true _ A9.out).mono ?_); rintro e w' ⟨rfl, ⟨nd, rfl⟩⟩) | (go_at_call 43; (with_reducible refine (spec_l1In.calls a3 0 (wrap64 ((ji8) - 1)) true _ A12.out).mono ?_); rintro e w' ⟨rfl, ⟨nd, rfl⟩⟩; have p128 : 0 ≤ ((ji16) : Int) := of_decide_eq_true (by first | (with_reducible assumption) | assumption); have q128 : (ji16) < (l1.length : Int) := of_decide_eq_true (by first | (with_reducible assumption) | assumption); obtain ⟨ad128, e128, hx128_0⟩ := Kd.at_int HR1.out (ji16) p128 q128; cases e128; replace p128 := eq_true p128; replace q128 := eq_true q128))
              go_ret
              exact ⟨by first | rfl | (simp; done) | (simp only [← hji8, ← hji15, ← hji16] <;> (first | rfl | simp)) | (simp [*]; done), by repeat (first | exact Drawn0.refl _ | apply Drawn0.step)⟩
            · rw [if_neg c18] at H
              exact absurd H (by simp)
          · rw [if_neg c17] at H
            exact absurd H (by simp)
        · replace c13 := Bool.eq_false_iff.mpr c13
          subst c13
          have H1 : (some false) = some r := by rw [if_neg (show ¬ (false = true) by decide)] at H; exact H
          clear H
          have H := H1
          clear H1
          obtain rfl := Option.some.inj H
          go_enter Try.func19, Try.ntmps19
          go_wp2_with (first | ((with_reducible refine gate_callee (f := 15) rfl ?_); refine goesL_ (some 11) rfl rfl Try.func15 (by kernel_rfl) rfl #[.int .i64 a0, .slice A1 l1.length c1] rfl (by (try simp only [List.map_toArray, List.map_cons, List.map_nil]); first | done | rfl | (simp only [List.length_drop, List.length_take]; rfl)) ?_; (with_reducible refine (spec_RelationOk.calls k a0 _ _ l1 true _ ?side1 ?side2 A5.out).mono ?_); (case side1 => repeat (first | exact HR1.out | (with_reducible refine Kd.C_alloc ?_ _) | (with_reducible refine Kd.C_drewN ?_ _) | (with_reducible refine Kd.C_drew ?_))); (case side2 => exact HC1.out); rintro e w' ⟨rfl, ⟨nd, rfl⟩⟩; refine ⟨_, rfl, ?_⟩) | (go_at_call 43; (with_reducible refine (spec_l1In.calls a2 0 (wrap64 ((ji8) - 1)) true _ A9.out).mono ?_); rintro e w' ⟨rfl, ⟨nd, rfl⟩⟩) | (go_at_call 43; (with_reducible refine (spec_l1In.calls a3 0 (wrap64 ((ji8) - 1)) false _ A12.out).mono ?_); rintro e w' ⟨rfl, ⟨nd, rfl⟩⟩))
          go_ret
          exact ⟨by first | rfl | (simp; done) | (simp only [← hji8] <;> (first | rfl | simp)) | (simp [*]; done), by repeat (first | exact Drawn0.refl _ | apply Drawn0.step)⟩
      · replace c10 := Bool.eq_false_iff.mpr c10
        subst c10
        have H1 : (some false) = some r := by rw [if_neg (show ¬ (false = true) by decide)] at H; exact H
        clear H
        have H := H1
        clear H1
        obtain rfl := Option.some.inj H
        go_enter Try.func19, Try.ntmps19
        go_wp2_with (first | ((with_reducible refine gate_callee (f := 15) rfl ?_); refine goesL_ (some 11) rfl rfl Try.func15 (by kernel_rfl) rfl #[.int .i64 a0, .slice A1 l1.length c1] rfl (by (try simp only [List.map_toArray, List.map_cons, List.map_nil]); first | done | rfl | (simp only [List.length_drop, List.length_take]; rfl)) ?_; (with_reducible refine (spec_RelationOk.calls k a0 _ _ l1 true _ ?side1 ?side2 A5.out).mono ?_); (case side1 => repeat (first | exact HR1.out | (with_reducible refine Kd.C_alloc ?_ _) | (with_reducible refine Kd.C_drewN ?_ _) | (with_reducible refine Kd.C_drew ?_))); (case side2 => exact HC1.out); rintro e w' ⟨rfl, ⟨nd, rfl⟩⟩; refine ⟨_, rfl, ?_⟩) | (go_at_call 43; (with_reducible refine (spec_l1In.calls a2 0 (wrap64 ((ji8) - 1)) false _ A9.out).mono ?_); rintro e w' ⟨rfl, ⟨nd, rfl⟩⟩))
        go_ret
        exact ⟨by first | rfl | (simp; done) | (simp only [← hji8] <;> (first | rfl | simp)) | (simp [*]; done), by repeat (first | exact Drawn0.refl _ | apply Drawn0.step)⟩
    · rw [if_neg c7] at H
      exact absurd H (by simp)
  · replace c6 := Bool.eq_false_iff.mpr c6
    subst c6
    have H1 : (some false) = some r := by rw [if_neg (show ¬ (false = true) by decide)] at H; exact H
    clear H
    have H := H1
    clear H1
    obtain rfl := Option.some.inj H
    go_enter Try.func19, Try.ntmps19
    go_wp2_with (first | ((with_reducible refine gate_callee (f := 15) rfl ?_); refine goesL_ (some 11) rfl rfl Try.func15 (by kernel_rfl) rfl #[.int .i64 a0, .slice A1 l1.length c1] rfl (by (try simp only [List.map_toArray, List.map_cons, List.map_nil]); first | done | rfl | (simp only [List.length_drop, List.length_take]; rfl)) ?_; (with_reducible refine (spec_RelationOk.calls k a0 _ _ l1 false _ ?side1 ?side2 A5.out).mono ?_); (case side1 => repeat (first | exact HR1.out | (with_reducible refine Kd.C_alloc ?_ _) | (with_reducible refine Kd.C_drewN ?_ _) | (with_reducible refine Kd.C_drew ?_))); (case side2 => exact HC1.out); rintro e w' ⟨rfl, ⟨nd, rfl⟩⟩; refine ⟨_, rfl, ?_⟩))
    go_ret
    exact ⟨by first | rfl | (simp; done) | (simp [*]; done), by repeat (first | exact Drawn0.refl _ | apply Drawn0.step)⟩

/-! ### impl_holdsOf: function 45 -/
def impl_holdsOf.f (a0 : Int) (l1 : List Int) (a2 : Int) (a3 : Int) : Option (Bool) := if 0 ≤ a0 then (if 0 ≤ (wrap64 ((shl .i64 a2 a0) + a3)) then (if (wrap64 ((shl .i64 a2 a0) + a3)) < (l1.length : Int) then (some ((rd l1 (wrap64 ((shl .i64 a2 a0) + a3))) == 1)) else (none)) else (none)) else (none)
set_option maxHeartbeats 8000000 in
set_option maxRecDepth 100000 in
theorem impl_holdsOf.calls (a0 : Int) (A1 : Option Addr) (c1 : Nat) (l1 : List Int) (a2 : Int) (a3 : Int) (r : Bool) (w : World) (hr1 : Kd.C (Kd.int .i64) w A1 l1.length l1) (hc1 : l1.length ≤ c1) (h : impl_holdsOf.f a0 l1 a2 a3 = some r) :
    Calls Try.prog 45 #[.int .i64 a0, .slice A1 l1.length c1, .int .i64 a2, .int .i64 a3] w fun e w' => e = .returned (.bool r) ∧ Drawn0 w w' := by
  have HR1 := Aside0.mk hr1
  have HC1 := Aside0.mk hc1
  clear hr1 hc1
  have H : (if 0 ≤ a0 then (if 0 ≤ (wrap64 ((shl .i64 a2 a0) + a3)) then (if (wrap64 ((shl .i64 a2 a0) + a3)) < (l1.length : Int) then (some ((rd l1 (wrap64 ((shl .i64 a2 a0) + a3))) == 1)) else (none)) else (none)) else (none)) = some r := h
  clear h
  by_cases c5 : 0 ≤ a0
  · rw [if_pos c5] at H
    have c5b0 := eq_true c5
    have c5b1 : decide (0 ≤ a0) = true := decide_eq_true c5
    clear c5
    obtain ⟨ji6, hji6⟩ : ∃ j_ : Int, (shl .i64 a2 a0) = j_ := ⟨_, rfl⟩
    replace H : (if 0 ≤ (wrap64 ((ji6) + a3)) then (if (wrap64 ((ji6) + a3)) < (l1.length : Int) then (some ((rd l1 (wrap64 ((ji6) + a3))) == 1)) else (none)) else (none)) = some r := by first | (rw [hji6] at H; exact H) | (simp only [hji6] at H ⊢; exact H)
    have hji6_ : (IntKind.i64.wrap (a2 * 2 ^ min a0.toNat 64)) = ji6 := hji6
    have hji6z : a0 ≤ 64 → (IntKind.i64.wrap (a2 * 2 ^ a0.toNat)) = ji6 := shl_small hji6
    have hji6y : (wrap64 (a2 * 2 ^ min a0.toNat 64)) = ji6 := (i64_w _).symm.trans hji6_
    have hji6x : a0 ≤ 64 → (wrap64 (a2 * 2 ^ a0.toNat)) = ji6 := fun h_ => (i64_w _).symm.trans (hji6z h_)
    obtain ⟨ji7, hji7⟩ : ∃ j_ : Int, (wrap64 ((ji6) + a3)) = j_ := ⟨_, rfl⟩
    replace H : (if 0 ≤ (ji7) then (if (ji7) < (l1.length : Int) then (some ((rd l1 (ji7)) == 1)) else (none)) else (none)) = some r := by first | (rw [hji7] at H; exact H) | (simp only [hji7] at H ⊢; exact H)
    have hji7w : (IntKind.i64.wrap ((ji6) + a3)) = ji7 := (i64_w _).trans hji7
    by_cases c8 : 0 ≤ (ji7)
    · rw [if_pos c8] at H
      have c8b0 : decide (0 ≤ (ji7)) = true := decide_eq_true c8
      clear c8
      by_cases c9 : (ji7) < (l1.length : Int)
      · rw [if_pos c9] at H
        have c9b0 : decide ((ji7) < (l1.length : Int)) = true := decide_eq_true c9
        clear c9
        obtain rfl := Option.some.inj H
        have p129 : 0 ≤ ((ji7) : Int) := of_decide_eq_true (by first | (with_reducible assumption) | assumption)
        have q129 : (ji7) < (l1.length : Int) := of_decide_eq_true (by first | (with_reducible assumption) | assumption)
        obtain ⟨ad129, e129, hx129_0⟩ := Kd.at_int HR1.out (ji7) p129 q129
        cases e129
        replace p129 := eq_true p129
        replace q129 := eq_true q129
        go_enter Try.func45, Try.ntmps45
        go_wp2
        go_ret
        exact ⟨by first | rfl | (simp; done) | (simp only [← hji6, ← hji7] <;> (first | rfl | simp)) | (simp [*]; done), by repeat (first | exact Drawn0.refl _ | apply Drawn0.step)⟩
      · rw [if_neg c9] at H
        exact absurd H (by simp)
    · rw [if_neg c8] at H
      exact absurd H (by simp)
  · rw [if_neg c5] at H
    exact absurd H (by simp)

end Go.Proofs.Ythgkkhpndiiabaa.P

-- Written by wip/gen/lay.py, a program of this session, with the kit's print as its base. Lean checks every line.
namespace Go.Proofs.Ythgkkhpndiiabaa.P
open Go.RowKit Go.Proofs.YthgkkhpndiiabaaW.PrintWords Go.Proofs.YthgkkhpndiiabaaW.PrintLast Go.Proofs.YthgkkhpndiiabaaW.PrintMore
attribute [local go_sem] max2_int min2_int max_two min_two max_three min_three max_four min_four   -- for this text's walks alone
set_option linter.unusedVariables false
set_option linter.unusedSimpArgs false

/-! ### spec_BothWays: function 21 -/
mutual
def spec_BothWays.l0 : Nat → Int → List Int → Int → Option (Bool)
  | 0, _, _, _ => none
  | k + 1, x0, x1, x5 => if 0 ≤ x0 then (if x5 < (shl .i64 1 x0) then (spec_BothWays.l1 k x0 x1 x5 0) else (some true)) else (none)
def spec_BothWays.l1 : Nat → Int → List Int → Int → Int → Option (Bool)
  | 0, _, _, _, _ => none
  | k + 1, x0, x1, x5, x6 => if 0 ≤ x0 then (if x6 < (shl .i64 1 x0) then (if 0 ≤ (wrap64 ((shl .i64 x5 x0) + x6)) then (if (wrap64 ((shl .i64 x5 x0) + x6)) < (x1.length : Int) then (if 0 ≤ (wrap64 ((shl .i64 x6 x0) + x5)) then (if (wrap64 ((shl .i64 x6 x0) + x5)) < (x1.length : Int) then (if (rd x1 (wrap64 ((shl .i64 x5 x0) + x6))) = (rd x1 (wrap64 ((shl .i64 x6 x0) + x5))) then (spec_BothWays.l1 k x0 x1 x5 (wrap64 (x6 + 1))) else (some false)) else (none)) else (none)) else (none)) else (none)) else (spec_BothWays.l0 k x0 x1 (wrap64 (x5 + 1)))) else (none)
end
def spec_BothWays.f (k : Nat) (a0 : Int) (l1 : List Int) : Option (Bool) := (spec_RelationOk.f k a0 l1).bind fun t144 => (if t144 = true then (spec_BothWays.l0 k a0 l1 0) else (some false))
theorem spec_BothWays.mono_l : ∀ k, (∀ y0 y1 y2, LeO (spec_BothWays.l0 k y0 y1 y2) (spec_BothWays.l0 (k + 1) y0 y1 y2)) ∧ (∀ y0 y1 y2 y3, LeO (spec_BothWays.l1 k y0 y1 y2 y3) (spec_BothWays.l1 (k + 1) y0 y1 y2 y3))
  | 0 => ⟨fun _ _ _ r h => by simp [spec_BothWays.l0] at h, fun _ _ _ _ r h => by simp [spec_BothWays.l1] at h⟩
  | k + 1 => by
    obtain ⟨ih0, ih1⟩ := spec_BothWays.mono_l k
    refine ⟨?_, ?_⟩
    · intro y0 y1 y2
      unfold spec_BothWays.l0
      repeat' first
      | (with_reducible exact ih0 _ _ _)
      | (with_reducible exact ih1 _ _ _ _)
      | (with_reducible exact spec_RelationOk.mono _ _ _)
      | (with_reducible exact LeO.refl _)
      | (with_reducible exact LeO.none _)
      | (with_reducible refine LeO.ite ?_ ?_)
      | (with_reducible refine LeO.bind ?_ (fun _ => ?_))
      | exact ih0 _ _ _
      | exact ih1 _ _ _ _
      | exact spec_RelationOk.mono _ _ _
      | exact LeO.none _
      | refine LeO.ite ?_ ?_
      | refine LeO.bind ?_ (fun _ => ?_)
    · intro y0 y1 y2 y3
      unfold spec_BothWays.l1
      repeat' first
      | (with_reducible exact ih0 _ _ _)
      | (with_reducible exact ih1 _ _ _ _)
      | (with_reducible exact spec_RelationOk.mono _ _ _)
      | (with_reducible exact LeO.refl _)
      | (with_reducible exact LeO.none _)
      | (with_reducible refine LeO.ite ?_ ?_)
      | (with_reducible refine LeO.bind ?_ (fun _ => ?_))
      | exact ih0 _ _ _
      | exact ih1 _ _ _ _
      | exact spec_RelationOk.mono _ _ _
      | exact LeO.none _
      | refine LeO.ite ?_ ?_
      | refine LeO.bind ?_ (fun _ => ?_)
theorem spec_BothWays.mono : ∀ a0 a1 k, LeO (spec_BothWays.f k a0 a1) (spec_BothWays.f (k + 1) a0 a1) := by
  intro a0 a1 k
  obtain ⟨ih0, ih1⟩ := spec_BothWays.mono_l k
  unfold spec_BothWays.f
  repeat' first
      | (with_reducible exact ih0 _ _ _)
      | (with_reducible exact ih1 _ _ _ _)
      | (with_reducible exact spec_RelationOk.mono _ _ _)
      | (with_reducible exact LeO.refl _)
      | (with_reducible exact LeO.none _)
      | (with_reducible refine LeO.ite ?_ ?_)
      | (with_reducible refine LeO.bind ?_ (fun _ => ?_))
      | exact ih0 _ _ _
      | exact ih1 _ _ _ _
      | exact spec_RelationOk.mono _ _ _
      | exact LeO.none _
      | refine LeO.ite ?_ ?_
      | refine LeO.bind ?_ (fun _ => ?_)
set_option maxHeartbeats 8000000 in
set_option maxRecDepth 100000 in
theorem spec_BothWays.calls (k : Nat) (a0 : Int) (A1 : Option Addr) (c1 : Nat) (l1 : List Int) (r : Bool) (w : World) (hr1 : Kd.C (Kd.int .i64) w A1 l1.length l1) (hc1 : l1.length ≤ c1) (h : spec_BothWays.f k a0 l1 = some r) :
    Calls Try.prog 21 #[.int .i64 a0, .slice A1 l1.length c1] w fun e w' => e = .returned (.bool r) ∧ Drawn0 w w' := by
  have HR1 := Aside0.mk hr1
  have HC1 := Aside0.mk hc1
  clear hr1 hc1
  have H : ((spec_RelationOk.f k a0 l1).bind fun t144 => (if t144 = true then (spec_BothWays.l0 k a0 l1 0) else (some false))) = some r := h
  clear h
  replace H := Option.bind_eq_some_iff.mp H
  obtain ⟨t144, A30, H⟩ := H
  replace H : (if t144 = true then (spec_BothWays.l0 k a0 l1 0) else (some false)) = some r := H
  have A3 := Aside0.mk A30
  clear A30
  by_cases c4 : t144 = true
  · subst c4
    have H1 : (spec_BothWays.l0 k a0 l1 0) = some r := by rw [if_pos rfl] at H; exact H
    clear H
    have H := H1
    clear H1
    have H' := Aside0.mk H
    clear H
    go_enter Try.func21, Try.ntmps21
    go_wp2_with (first | (go_at_call 15; (with_reducible refine (spec_RelationOk.calls k a0 _ _ l1 true _ ?side1 ?side2 A3.out).mono ?_); (case side1 => repeat (first | exact HR1.out | (with_reducible refine Kd.C_alloc ?_ _) | (with_reducible refine Kd.C_drewN ?_ _) | (with_reducible refine Kd.C_drew ?_))); (case side2 => exact HC1.out); rintro e w' ⟨rfl, ⟨nd, rfl⟩⟩; (try first | exact ⟨rfl, _, World.drewN_drewN _ _ _⟩ | exact ⟨rfl, _, Eq.trans (World.drewN_drewN _ _ _) (congrArg (World.drewN _) (Nat.add_assoc _ _ _))⟩)))
    repeat (go_quiet (first | (go_at_call 15; (with_reducible refine (spec_RelationOk.calls k a0 _ _ l1 true _ ?side1 ?side2 A3.out).mono ?_); (case side1 => repeat (first | exact HR1.out | (with_reducible refine Kd.C_alloc ?_ _) | (with_reducible refine Kd.C_drewN ?_ _) | (with_reducible refine Kd.C_drew ?_))); (case side2 => exact HC1.out); rintro e w' ⟨rfl, ⟨nd, rfl⟩⟩; (try first | exact ⟨rfl, _, World.drewN_drewN _ _ _⟩ | exact ⟨rfl, _, Eq.trans (World.drewN_drewN _ _ _) (congrArg (World.drewN _) (Nat.add_assoc _ _ _))⟩))); try go_wp2_with (first | (go_at_call 15; (with_reducible refine (spec_RelationOk.calls k a0 _ _ l1 true _ ?side1 ?side2 A3.out).mono ?_); (case side1 => repeat (first | exact HR1.out | (with_reducible refine Kd.C_alloc ?_ _) | (with_reducible refine Kd.C_drewN ?_ _) | (with_reducible refine Kd.C_drew ?_))); (case side2 => exact HC1.out); rintro e w' ⟨rfl, ⟨nd, rfl⟩⟩; (try first | exact ⟨rfl, _, World.drewN_drewN _ _ _⟩ | exact ⟨rfl, _, Eq.trans (World.drewN_drewN _ _ _) (congrArg (World.drewN _) (Nat.add_assoc _ _ _))⟩))))
    go_loopg [5] k (fun kq v5 w' => ∃ (x5_1 : Int), v5 = .int .i64 x5_1 ∧ Aside0 (spec_BothWays.l0 kq a0 l1 x5_1 = some r) ∧ Aside0 (kq ≤ k) ∧ Drawn0 w w')
    case atStart => exact ⟨(0), (by first | rfl | (simp; done) | (simp [*]; done)), H', ⟨Nat.le_refl _⟩, by repeat (first | exact Drawn0.refl _ | apply Drawn0.step)⟩
    case round =>
      clear H'
      try clear c1
      try clear c2
      try clear p2
      try clear c4
      obtain ⟨x5_1, rfl, HA, HK1, ⟨m1, rfl⟩⟩ := hrel
      cases gk with
      | zero => exact absurd HA.out (by simp [spec_BothWays.l0])
      | succ k1 =>
        have H := HA.out
        clear HA
        simp only [spec_BothWays.l0] at H
        by_cases c5 : 0 ≤ a0
        · rw [if_pos c5] at H
          have c5b0 := eq_true c5
          have c5b1 : decide (0 ≤ a0) = true := decide_eq_true c5
          clear c5
          obtain ⟨ji6, hji6⟩ : ∃ j_ : Int, (shl .i64 1 a0) = j_ := ⟨_, rfl⟩
          replace H : (if x5_1 < (ji6) then (spec_BothWays.l1 k1 a0 l1 x5_1 0) else (some true)) = some r := by first | (rw [hji6] at H; exact H) | (simp only [hji6] at H ⊢; exact H)
          have hji6_ : (IntKind.i64.wrap (1 * 2 ^ min a0.toNat 64)) = ji6 := hji6
          have hji6z : a0 ≤ 64 → (IntKind.i64.wrap (1 * 2 ^ a0.toNat)) = ji6 := shl_small hji6
          have hji6u : (IntKind.i64.wrap (2 ^ min a0.toNat 64)) = ji6 := by have h_ := hji6_; rw [Int.one_mul] at h_; exact h_
          have hji6v : a0 ≤ 64 → (IntKind.i64.wrap (2 ^ a0.toNat)) = ji6 := fun hle_ => by have h_ := hji6z hle_; rw [Int.one_mul] at h_; exact h_
          have hji6y : (wrap64 (1 * 2 ^ min a0.toNat 64)) = ji6 := (i64_w _).symm.trans hji6_
          have hji6x : a0 ≤ 64 → (wrap64 (1 * 2 ^ a0.toNat)) = ji6 := fun h_ => (i64_w _).symm.trans (hji6z h_)
          by_cases c7 : x5_1 < (ji6)
          · rw [if_pos c7] at H
            have c7b0 : decide (x5_1 < (ji6)) = true := decide_eq_true c7
            clear c7
            have H' := Aside0.mk H
            clear H
            go_wp2
            repeat (go_quiet (fail); try go_wp2)
            go_loopg [6] k1 (fun kq v6 w' => ∃ (x6_2 : Int), v6 = .int .i64 x6_2 ∧ Aside0 (spec_BothWays.l1 kq a0 l1 x5_1 x6_2 = some r) ∧ Aside0 (kq ≤ k1) ∧ Drawn0 w w')
            case atStart => exact ⟨(0), (by first | rfl | (simp; done) | (simp [*]; done)), H', ⟨Nat.le_refl _⟩, by repeat (first | exact Drawn0.refl _ | apply Drawn0.step)⟩
            case round =>
              clear H'
              try clear c1
              try clear c2
              try clear p2
              try clear c4
              try clear c5
              try clear c5b0
              try clear c5b1
              try clear p6
              try clear c7
              try clear c7b0
              try clear p2
              obtain ⟨x6_2, rfl, HA, HK2, ⟨m2, rfl⟩⟩ := hrel
              cases gk with
              | zero => exact absurd HA.out (by simp [spec_BothWays.l1])
              | succ k2 =>
                have H := HA.out
                clear HA
                simp only [spec_BothWays.l1] at H
                by_cases c8 : 0 ≤ a0
                · rw [if_pos c8] at H
                  have c8b0 := eq_true c8
                  have c8b1 : decide (0 ≤ a0) = true := decide_eq_true c8
                  clear c8
                  replace H : (if x6_2 < (ji6) then (if 0 ≤ (wrap64 ((shl .i64 x5_1 a0) + x6_2)) then (if (wrap64 ((shl .i64 x5_1 a0) + x6_2)) < (l1.length : Int) then (if 0 ≤ (wrap64 ((shl .i64 x6_2 a0) + x5_1)) then (if (wrap64 ((shl .i64 x6_2 a0) + x5_1)) < (l1.length : Int) then (if (rd l1 (wrap64 ((shl .i64 x5_1 a0) + x6_2))) = (rd l1 (wrap64 ((shl .i64 x6_2 a0) + x5_1))) then (spec_BothWays.l1 k2 a0 l1 x5_1 (wrap64 (x6_2 + 1))) else (some false)) else (none)) else (none)) else (none)) else (none)) else (spec_BothWays.l0 k2 a0 l1 (wrap64 (x5_1 + 1)))) = some r := by first | exact H | (rw [hji6] at H; exact H) | (simp only [hji6] at H ⊢; exact H)
                  by_cases c9 : x6_2 < (ji6)
                  · rw [if_pos c9] at H
                    have c9b0 : decide (x6_2 < (ji6)) = true := decide_eq_true c9
                    clear c9
                    have c10b0 := eq_true (of_decide_eq_true (by first | (with_reducible assumption) | assumption) : 0 ≤ a0)
                    obtain ⟨ji11, hji11⟩ : ∃ j_ : Int, (shl .i64 x5_1 a0) = j_ := ⟨_, rfl⟩
                    replace H : (if 0 ≤ (wrap64 ((ji11) + x6_2)) then (if (wrap64 ((ji11) + x6_2)) < (l1.length : Int) then (if 0 ≤ (wrap64 ((shl .i64 x6_2 a0) + x5_1)) then (if (wrap64 ((shl .i64 x6_2 a0) + x5_1)) < (l1.length : Int) then (if (rd l1 (wrap64 ((ji11) + x6_2))) = (rd l1 (wrap64 ((shl .i64 x6_2 a0) + x5_1))) then (spec_BothWays.l1 k2 a0 l1 x5_1 (wrap64 (x6_2 + 1))) else (some false)) else (none)) else (none)) else (none)) else (none)) = some r := by first | (rw [hji11] at H; exact H) | (simp only [hji11] at H ⊢; exact H)
                    have hji11_ : (IntKind.i64.wrap (x5_1 * 2 ^ min a0.toNat 64)) = ji11 := hji11
                    have hji11z : a0 ≤ 64 → (IntKind.i64.wrap (x5_1 * 2 ^ a0.toNat)) = ji11 := shl_small hji11
                    have hji11y : (wrap64 (x5_1 * 2 ^ min a0.toNat 64)) = ji11 := (i64_w _).symm.trans hji11_
                    have hji11x : a0 ≤ 64 → (wrap64 (x5_1 * 2 ^ a0.toNat)) = ji11 := fun h_ => (i64_w _).symm.trans (hji11z h_)
                    obtain ⟨ji12, hji12⟩ : ∃ j_ : Int, (wrap64 ((ji11) + x6_2)) = j_ := ⟨_, rfl⟩
                    replace H : (if 0 ≤ (ji12) then (if (ji12) < (l1.length : Int) then (if 0 ≤ (wrap64 ((shl .i64 x6_2 a0) + x5_1)) then (if (wrap64 ((shl .i64 x6_2 a0) + x5_1)) < (l1.length : Int) then (if (rd l1 (ji12)) = (rd l1 (wrap64 ((shl .i64 x6_2 a0) + x5_1))) then (spec_BothWays.l1 k2 a0 l1 x5_1 (wrap64 (x6_2 + 1))) else (some false)) else (none)) else (none)) else (none)) else (none)) = some r := by first | (rw [hji12] at H; exact H) | (simp only [hji12] at H ⊢; exact H)
                    have hji12w : (IntKind.i64.wrap ((ji11) + x6_2)) = ji12 := (i64_w _).trans hji12
                    by_cases c13 : 0 ≤ (ji12)
                    · rw [if_pos c13] at H
                      have c13b0 : decide (0 ≤ (ji12)) = true := decide_eq_true c13
                      clear c13
                      by_cases c14 : (ji12) < (l1.length : Int)
                      · rw [if_pos c14] at H
                        have c14b0 : decide ((ji12) < (l1.length : Int)) = true := decide_eq_true c14
                        clear c14
                        have c15b0 := eq_true (of_decide_eq_true (by first | (with_reducible assumption) | assumption) : 0 ≤ a0)
                        obtain ⟨ji16, hji16⟩ : ∃ j_ : Int, (shl .i64 x6_2 a0) = j_ := ⟨_, rfl⟩
                        replace H : (if 0 ≤ (wrap64 ((ji16) + x5_1)) then (if (wrap64 ((ji16) + x5_1)) < (l1.length : Int) then (if (rd l1 (ji12)) = (rd l1 (wrap64 ((ji16) + x5_1))) then (spec_BothWays.l1 k2 a0 l1 x5_1 (wrap64 (x6_2 + 1))) else (some false)) else (none)) else (none)) = some r := by first | (rw [hji16] at H; exact H) | (simp only [hji16] at H ⊢; exact H)
                        have hji16_ : (IntKind.i64.wrap (x6_2 * 2 ^ min a0.toNat 64)) = ji16 := hji16
                        have hji16z : a0 ≤ 64 → (IntKind.i64.wrap (x6_2 * 2 ^ a0.toNat)) = ji16 := shl_small hji16
                        have hji16y : (wrap64 (x6_2 * 2 ^ min a0.toNat 64)) = ji16 := (i64_w _).symm.trans hji16_
                        have hji16x : a0 ≤ 64 → (wrap64 (x6_2 * 2 ^ a0.toNat)) = ji16 := fun h_ => (i64_w _).symm.trans (hji16z h_)
                        obtain ⟨ji17, hji17⟩ : ∃ j_ : Int, (wrap64 ((ji16) + x5_1)) = j_ := ⟨_, rfl⟩
                        replace H : (if 0 ≤ (ji17) then (if (ji17) < (l1.length : Int) then (if (rd l1 (ji12)) = (rd l1 (ji17)) then (spec_BothWays.l1 k2 a0 l1 x5_1 (wrap64 (x6_2 + 1))) else (some false)) else (none)) else (none)) = some r := by first | (rw [hji17] at H; exact H) | (simp only [hji17] at H ⊢; exact H)
                        have hji17w : (IntKind.i64.wrap ((ji16) + x5_1)) = ji17 := (i64_w _).trans hji17
                        by_cases c18 : 0 ≤ (ji17)
                        · rw [if_pos c18] at H
                          have c18b0 : decide (0 ≤ (ji17)) = true := decide_eq_true c18
                          clear c18
                          by_cases c19 : (ji17) < (l1.length : Int)
                          · rw [if_pos c19] at H
                            have c19b0 : decide ((ji17) < (l1.length : Int)) = true := decide_eq_true c19
                            clear c19
                            by_cases c20 : (rd l1 (ji12)) = (rd l1 (ji17))
                            · rw [if_pos c20] at H
                              have c20b0 : ((rd l1 (ji12)) == (rd l1 (ji17))) = true := beq_iff_eq.mpr c20
                              have c20b1 : ((rd l1 (ji12)) != (rd l1 (ji17))) = false := bne_eq_false_iff_eq.mpr c20
                              clear c20
                              have H' := Aside0.mk H
                              clear H
                              have p145 : 0 ≤ ((ji12) : Int) := of_decide_eq_true (by first | (with_reducible assumption) | assumption)
                              have q145 : (ji12) < (l1.length : Int) := of_decide_eq_true (by first | (with_reducible assumption) | assumption)
                              obtain ⟨ad145, e145, hx145_0⟩ := Kd.at_int HR1.out (ji12) p145 q145
                              cases e145
                              replace p145 := eq_true p145
                              replace q145 := eq_true q145
                              have p146 : 0 ≤ ((ji17) : Int) := of_decide_eq_true (by first | (with_reducible assumption) | assumption)
                              have q146 : (ji17) < (l1.length : Int) := of_decide_eq_true (by first | (with_reducible assumption) | assumption)
                              obtain ⟨ad146, e146, hx146_0⟩ := Kd.at_int HR1.out (ji17) p146 q146
                              obtain rfl : ad145 = ad146 := (by injection e146)
                              replace p146 := eq_true p146
                              replace q146 := eq_true q146
                              go_wp2
                              repeat (go_quiet (fail); try go_wp2)
                              go_roundg k2
                              case measure => have := HK1.out; have := HK2.out; omega
                              case rel => exact ⟨(wrap64 (x6_2 + 1)), (by first | rfl | (simp; done) | (simp [*]; done)), H', ⟨by have := HK1.out; have := HK2.out; omega⟩, by repeat (first | exact Drawn0.refl _ | apply Drawn0.step)⟩
                            · rw [if_neg c20] at H
                              have c20b0 : ((rd l1 (ji12)) == (rd l1 (ji17))) = false := beq_eq_false_iff_ne.mpr c20
                              have c20b1 : ((rd l1 (ji12)) != (rd l1 (ji17))) = true := bne_iff_ne.mpr c20
                              obtain rfl := Option.some.inj H
                              have p145 : 0 ≤ ((ji12) : Int) := of_decide_eq_true (by first | (with_reducible assumption) | assumption)
                              have q145 : (ji12) < (l1.length : Int) := of_decide_eq_true (by first | (with_reducible assumption) | assumption)
                              obtain ⟨ad145, e145, hx145_0⟩ := Kd.at_int HR1.out (ji12) p145 q145
                              cases e145
                              replace p145 := eq_true p145
                              replace q145 := eq_true q145
                              have p146 : 0 ≤ ((ji17) : Int) := of_decide_eq_true (by first | (with_reducible assumption) | assumption)
                              have q146 : (ji17) < (l1.length : Int) := of_decide_eq_true (by first | (with_reducible assumption) | assumption)
                              obtain ⟨ad146, e146, hx146_0⟩ := Kd.at_int HR1.out (ji17) p146 q146
                              obtain rfl : ad145 = ad146 := (by injection e146)
                              replace p146 := eq_true p146
                              replace q146 := eq_true q146
                              go_wp2
                              repeat (go_quiet (fail); try go_wp2)
                              go_ret
                              exact ⟨by first | rfl | (simp; done) | (simp only [← hji6, ← hji11, ← hji12, ← hji16, ← hji17] <;> (first | rfl | simp)) | (simp [*]; done), by repeat (first | exact Drawn0.refl _ | apply Drawn0.step)⟩
                          · rw [if_neg c19] at H
                            exact absurd H (by simp)
                        · rw [if_neg c18] at H
                          exact absurd H (by simp)
                      · rw [if_neg c14] at H
                        exact absurd H (by simp)
                    · rw [if_neg c13] at H
                      exact absurd H (by simp)
                  · rw [if_neg c9] at H
                    have c9b0 : decide (x6_2 < (ji6)) = false := decide_eq_false c9
                    clear c9
                    have H' := Aside0.mk H
                    clear H
                    go_wp2
                    repeat (go_quiet (fail); try go_wp2)
                    go_roundg k2
                    case measure => have := HK1.out; have := HK2.out; omega
                    case rel => exact ⟨(wrap64 (x5_1 + 1)), (by first | rfl | (simp; done) | (simp [*]; done)), H', ⟨by have := HK1.out; have := HK2.out; omega⟩, by repeat (first | exact Drawn0.refl _ | apply Drawn0.step)⟩
                · rw [if_neg c8] at H
                  exact absurd H (by simp)
          · rw [if_neg c7] at H
            have c7b0 : decide (x5_1 < (ji6)) = false := decide_eq_false c7
            clear c7
            obtain rfl := Option.some.inj H
            go_wp2
            repeat (go_quiet (fail); try go_wp2)
            go_ret
            exact ⟨by first | rfl | (simp; done) | (simp only [← hji6] <;> (first | rfl | simp)) | (simp [*]; done), by repeat (first | exact Drawn0.refl _ | apply Drawn0.step)⟩
        · rw [if_neg c5] at H
          exact absurd H (by simp)
  · replace c4 := Bool.eq_false_iff.mpr c4
    subst c4
    have H1 : (some false) = some r := by rw [if_neg (show ¬ (false = true) by decide)] at H; exact H
    clear H
    have H := H1
    clear H1
    obtain rfl := Option.some.inj H
    go_enter Try.func21, Try.ntmps21
    go_wp2_with (first | (go_at_call 15; (with_reducible refine (spec_RelationOk.calls k a0 _ _ l1 false _ ?side1 ?side2 A3.out).mono ?_); (case side1 => repeat (first | exact HR1.out | (with_reducible refine Kd.C_alloc ?_ _) | (with_reducible refine Kd.C_drewN ?_ _) | (with_reducible refine Kd.C_drew ?_))); (case side2 => exact HC1.out); rintro e w' ⟨rfl, ⟨nd, rfl⟩⟩; (try first | exact ⟨rfl, _, World.drewN_drewN _ _ _⟩ | exact ⟨rfl, _, Eq.trans (World.drewN_drewN _ _ _) (congrArg (World.drewN _) (Nat.add_assoc _ _ _))⟩)))
    repeat (go_quiet (first | (go_at_call 15; (with_reducible refine (spec_RelationOk.calls k a0 _ _ l1 false _ ?side1 ?side2 A3.out).mono ?_); (case side1 => repeat (first | exact HR1.out | (with_reducible refine Kd.C_alloc ?_ _) | (with_reducible refine Kd.C_drewN ?_ _) | (with_reducible refine Kd.C_drew ?_))); (case side2 => exact HC1.out); rintro e w' ⟨rfl, ⟨nd, rfl⟩⟩; (try first | exact ⟨rfl, _, World.drewN_drewN _ _ _⟩ | exact ⟨rfl, _, Eq.trans (World.drewN_drewN _ _ _) (congrArg (World.drewN _) (Nat.add_assoc _ _ _))⟩))); try go_wp2_with (first | (go_at_call 15; (with_reducible refine (spec_RelationOk.calls k a0 _ _ l1 false _ ?side1 ?side2 A3.out).mono ?_); (case side1 => repeat (first | exact HR1.out | (with_reducible refine Kd.C_alloc ?_ _) | (with_reducible refine Kd.C_drewN ?_ _) | (with_reducible refine Kd.C_drew ?_))); (case side2 => exact HC1.out); rintro e w' ⟨rfl, ⟨nd, rfl⟩⟩; (try first | exact ⟨rfl, _, World.drewN_drewN _ _ _⟩ | exact ⟨rfl, _, Eq.trans (World.drewN_drewN _ _ _) (congrArg (World.drewN _) (Nat.add_assoc _ _ _))⟩))))
    go_ret
    exact ⟨by first | rfl | (simp; done) | (simp [*]; done), by repeat (first | exact Drawn0.refl _ | apply Drawn0.step)⟩

end Go.Proofs.Ythgkkhpndiiabaa.P

-- Written by wip/gen/lay.py, a program of this session, with the kit's print as its base. Lean checks every line.
namespace Go.Proofs.Ythgkkhpndiiabaa.P
open Go.RowKit Go.Proofs.YthgkkhpndiiabaaW.PrintWords Go.Proofs.YthgkkhpndiiabaaW.PrintLast Go.Proofs.YthgkkhpndiiabaaW.PrintMore
attribute [local go_sem] max2_int min2_int max_two min_two max_three min_three max_four min_four   -- for this text's walks alone
set_option linter.unusedVariables false
set_option linter.unusedSimpArgs false

/-! ### HAND impl_forAllSets: function 46 -/
/-- What a function value of two sets hands back, for all sets of a world of t things. -/
def GivesSets (g : Nat) (cap : Array Value) (t : Int) (so : Int → Int → Bool) (w : World) : Prop :=
  ∀ (W : World) (a b : Int), Below w.heap.size w W → 0 ≤ a → a < pw t → 0 ≤ b → b < pw t →
    Calls Try.prog g (#[.int .i64 a, .int .i64 b] ++ cap) W fun e w' => e = .returned (.bool (so a b)) ∧ Drawn0 W w'
theorem shl_at (a t : Int) (h1 : 0 ≤ t) (h2 : t ≤ 3) (h3 : 0 ≤ a) (h4 : a < 8) : shl .i64 a t = a * pw t := by
  have hm : (2 : Int) ^ min t.toNat (IntKind.i64).bits = pw t := by
    rcases three t h1 h2 with rfl | rfl | rfl | rfl <;> decide +kernel
  have hp : pw t = 1 ∨ pw t = 2 ∨ pw t = 4 ∨ pw t = 8 := by
    rcases three t h1 h2 with rfl | rfl | rfl | rfl <;> decide +kernel
  unfold shl
  rw [hm, i64_w]
  unfold wrap64
  rcases hp with e | e | e | e <;> rw [e] <;> omega
theorem holdsOf_here (t : Int) (rel : List Int) (a b : Int) (h1 : 0 ≤ t) (h2 : t ≤ 3) (hl : rel.length = 4 ^ t.toNat) (h3 : 0 ≤ a) (h4 : a < pw t) (h5 : 0 ≤ b) (h6 : b < pw t) : impl_holdsOf.f t rel a b = some (hr t rel a b) := by
  have hp := pw_range t h1 h2
  have hi := index_range t a b h1 h2 h3 h4 h5 h6
  have hw : wrap64 (shl .i64 a t + b) = a * pw t + b := by rw [shl_at a t h1 h2 h3 (by omega)]; unfold wrap64; omega
  unfold impl_holdsOf.f hr
  rw [if_pos h1, hw, if_pos hi.1, if_pos (by rw [hl]; exact hi.2.1)]
theorem isRelation_round (l : List Int) (hl : l.length ≤ 9223372036854775807) (d : Nat) : ∀ (k i : Nat), i + d = l.length → d < k → impl_isRelation.l0 k l (l.length : Int) (i : Int) = some ((l.drop i).all (fun x => x == 0 || x == 1)) := by
  induction d with
  | zero =>
    intro k i h hk
    obtain ⟨k, rfl⟩ : ∃ m, k = m + 1 := ⟨k - 1, by omega⟩
    simp only [impl_isRelation.l0]
    rw [if_neg (by omega), List.drop_of_length_le (by omega), List.all_nil]
  | succ d ih =>
    intro k i h hk
    obtain ⟨k, rfl⟩ : ∃ m, k = m + 1 := ⟨k - 1, by omega⟩
    have hi : i < l.length := by omega
    have hr : rd l (i : Int) = l[i] := by simp [rd, List.getD_eq_getElem?_getD, List.getElem?_eq_getElem hi]
    have hd_ : l.drop i = l[i] :: l.drop (i + 1) := List.drop_eq_getElem_cons hi
    have hw : wrap64 ((i : Int) + 1) = ((i + 1 : Nat) : Int) := by unfold wrap64; omega
    simp only [impl_isRelation.l0]
    rw [if_pos (by omega), if_pos (by omega), if_pos (by omega), hr, hw, ih k (i + 1) (by omega) (by omega), hd_, List.all_cons]
    by_cases h0 : l[i] = 0
    · rw [if_pos h0, show (l[i] == 0 || l[i] == 1) = true from by simp [h0], Bool.true_and]
    · by_cases h1 : l[i] = 1
      · rw [if_neg h0, if_pos h1, show (l[i] == 0 || l[i] == 1) = true from by simp [h1], Bool.true_and]
      · rw [if_neg h0, if_neg h1, show (l[i] == 0 || l[i] == 1) = false from by simp [h0, h1], Bool.false_and]
theorem isRelation_k (t : Int) (l : List Int) (hl : l.length ≤ 9223372036854775807) (k : Nat) (hk : l.length + 1 < k) : impl_isRelation.f k t l = some (isRel t l) := by
  obtain ⟨k, rfl⟩ : ∃ m, k = m + 1 := ⟨k - 1, by omega⟩
  unfold impl_isRelation.f isRel
  by_cases h1 : t < 0
  · rw [if_pos h1, show decide (0 ≤ t ∧ t ≤ 3) = false from decide_eq_false (by omega), Bool.false_and]
    simp only [impl_isRelation.j0]; rfl
  · by_cases h2 : t > 3
    · rw [if_neg h1, if_pos h2, show decide (0 ≤ t ∧ t ≤ 3) = false from decide_eq_false (by omega), Bool.false_and]
      simp only [impl_isRelation.j0]; rfl
    · have hs : shl .i64 1 (wrap64 (2 * t)) = ((4 ^ t.toNat : Nat) : Int) := by
        rcases three t (by omega) (by omega) with rfl | rfl | rfl | rfl <;> decide +kernel
      have hw : 0 ≤ wrap64 (2 * t) := by unfold wrap64; omega
      have hr := isRelation_round l hl l.length k 0 (by omega) (by omega)
      rw [List.drop_zero] at hr
      rw [if_neg h1, if_neg h2, if_pos hw, hs, show decide (0 ≤ t ∧ t ≤ 3) = true from decide_eq_true (by omega), Bool.true_and]
      simp only [impl_isRelation.j0]
      by_cases h3 : l.length = 4 ^ t.toNat
      · rw [show ((l.length : Int) != ((4 ^ t.toNat : Nat) : Int)) = false from by rw [h3]; simp, if_neg (by decide), show (l.length == 4 ^ t.toNat) = true from by rw [h3]; simp, Bool.true_and]
        exact hr
      · rw [show ((l.length : Int) != ((4 ^ t.toNat : Nat) : Int)) = true from by rw [bne_iff_ne]; omega, if_pos rfl, show (l.length == 4 ^ t.toNat) = false from by simpa using h3, Bool.false_and]
set_option maxHeartbeats 1000000 in
set_option maxRecDepth 100000 in
theorem impl_forAllSets.at0 (g : Nat) (eg : ∀ args w, (callFunc g args).run Try.prog w = .ok (.enter g args) w) (cap : Array Value) (so : Int → Int → Bool) (w : World) (hs : GivesSets g cap 0 so w) :
    Calls Try.prog 46 #[.int .i64 0, .func (.func g) #[] cap] w fun e w' => e = .returned (.bool (forAllP 0 so)) ∧ Drawn0 w w' := by
  have HS := Aside0.mk hs
  clear hs
  go_enter Try.func46, Try.ntmps46
  go_wp2
  go_loopg [9] 1 (fun kq v9 w' => ∃ (n : Nat), v9 = .int .i64 n ∧ Aside0 (n + kq = 1 ∧ ∀ a b : Nat, a < n → b < 1 → so a b = true) ∧ Drawn0 w w')
  case atStart => exact ⟨0, rfl, ⟨rfl, fun a b h => absurd h (by omega)⟩, by repeat (first | exact Drawn0.refl _ | apply Drawn0.step)⟩
  case round =>
    obtain ⟨n, rfl, HN, ⟨m1, rfl⟩⟩ := hrel
    by_cases hn : n < 1
    · obtain ⟨k1, rfl⟩ : ∃ m, gk = m + 1 := ⟨gk - 1, by have := HN.out.1; omega⟩
      have hn0 : decide ((n : Int) < 1) = true := decide_eq_true (by omega)
      go_wp2
      go_loopg [14] 1 (fun kq v14 w' => ∃ (m : Nat), v14 = .int .i64 m ∧ Aside0 (m + kq = 1 ∧ ∀ b : Nat, b < m → so n b = true) ∧ Drawn0 w w')
      case atStart => exact ⟨0, rfl, ⟨by omega, fun s h => absurd h (by omega)⟩, by repeat (first | exact Drawn0.refl _ | apply Drawn0.step)⟩
      case round =>
        obtain ⟨m, rfl, HM, ⟨m2, rfl⟩⟩ := hrel
        by_cases hm : m < 1
        · obtain ⟨k2, rfl⟩ : ∃ j, gk = j + 1 := ⟨gk - 1, by have := HM.out.1; omega⟩
          obtain ⟨y, ey⟩ : ∃ b, so n m = b := ⟨_, rfl⟩
          have HS1 := Aside0.mk (fun W hW => show Calls Try.prog g (#[.int .i64 (n : Int), .int .i64 (m : Int)] ++ cap) W (fun e w' => e = .returned (.bool y) ∧ Drawn0 W w') from by
            rw [← ey]
            exact HS.out W n m hW (by omega) (by show (n : Int) < 1; omega) (by omega) (by show (m : Int) < 1; omega))
          have EY := Aside0.mk ey
          clear ey
          cases y with
          | true =>
            go_wp2_with (first | (go_at_fn g; refine (HS1.out _ (pw_below_drewN (Below.refl _ _) _)).mono ?_; rintro e w' ⟨rfl, ⟨nd, rfl⟩⟩))
            go_roundg k2
            case measure => omega
            case rel => exact ⟨m + 1, by go_num, ⟨by have := HM.out.1; omega, fun b hb => by
              rcases Nat.lt_or_ge b m with h' | h'
              · exact HM.out.2 b h'
              · obtain rfl : b = m := by omega
                exact EY.out⟩, by repeat (first | exact Drawn0.refl _ | apply Drawn0.step)⟩
          | false =>
            go_wp2_with (first | (go_at_fn g; refine (HS1.out _ (pw_below_drewN (Below.refl _ _) _)).mono ?_; rintro e w' ⟨rfl, ⟨nd, rfl⟩⟩))
            go_ret
            exact ⟨by rw [forAllP_false 0 so 1 rfl n m hn hm EY.out]; rfl, by repeat (first | exact Drawn0.refl _ | apply Drawn0.step)⟩
        · go_wp2
          go_roundg k1
          case measure => omega
          case rel =>
            have hmn : m = 1 := by have := HM.out.1; omega
            exact ⟨n + 1, by go_num, ⟨by have := HN.out.1; omega, fun a b ha hb => by
              rcases Nat.lt_or_ge a n with h' | h'
              · exact HN.out.2 a b h' hb
              · obtain rfl : a = n := by omega
                exact HM.out.2 b (by omega)⟩, by repeat (first | exact Drawn0.refl _ | apply Drawn0.step)⟩
    · go_wp2
      go_ret
      have hn6 : n = 1 := by have := HN.out.1; omega
      exact ⟨by rw [forAllP_true 0 so 1 rfl (fun a b ha hb => HN.out.2 a b (by omega) hb)]; rfl, by repeat (first | exact Drawn0.refl _ | apply Drawn0.step)⟩
set_option maxHeartbeats 1000000 in
set_option maxRecDepth 100000 in
theorem impl_forAllSets.at1 (g : Nat) (eg : ∀ args w, (callFunc g args).run Try.prog w = .ok (.enter g args) w) (cap : Array Value) (so : Int → Int → Bool) (w : World) (hs : GivesSets g cap 1 so w) :
    Calls Try.prog 46 #[.int .i64 1, .func (.func g) #[] cap] w fun e w' => e = .returned (.bool (forAllP 1 so)) ∧ Drawn0 w w' := by
  have HS := Aside0.mk hs
  clear hs
  go_enter Try.func46, Try.ntmps46
  go_wp2
  go_loopg [9] 2 (fun kq v9 w' => ∃ (n : Nat), v9 = .int .i64 n ∧ Aside0 (n + kq = 2 ∧ ∀ a b : Nat, a < n → b < 2 → so a b = true) ∧ Drawn0 w w')
  case atStart => exact ⟨0, rfl, ⟨rfl, fun a b h => absurd h (by omega)⟩, by repeat (first | exact Drawn0.refl _ | apply Drawn0.step)⟩
  case round =>
    obtain ⟨n, rfl, HN, ⟨m1, rfl⟩⟩ := hrel
    by_cases hn : n < 2
    · obtain ⟨k1, rfl⟩ : ∃ m, gk = m + 1 := ⟨gk - 1, by have := HN.out.1; omega⟩
      have hn0 : decide ((n : Int) < 2) = true := decide_eq_true (by omega)
      go_wp2
      go_loopg [14] 2 (fun kq v14 w' => ∃ (m : Nat), v14 = .int .i64 m ∧ Aside0 (m + kq = 2 ∧ ∀ b : Nat, b < m → so n b = true) ∧ Drawn0 w w')
      case atStart => exact ⟨0, rfl, ⟨by omega, fun s h => absurd h (by omega)⟩, by repeat (first | exact Drawn0.refl _ | apply Drawn0.step)⟩
      case round =>
        obtain ⟨m, rfl, HM, ⟨m2, rfl⟩⟩ := hrel
        by_cases hm : m < 2
        · obtain ⟨k2, rfl⟩ : ∃ j, gk = j + 1 := ⟨gk - 1, by have := HM.out.1; omega⟩
          obtain ⟨y, ey⟩ : ∃ b, so n m = b := ⟨_, rfl⟩
          have HS1 := Aside0.mk (fun W hW => show Calls Try.prog g (#[.int .i64 (n : Int), .int .i64 (m : Int)] ++ cap) W (fun e w' => e = .returned (.bool y) ∧ Drawn0 W w') from by
            rw [← ey]
            exact HS.out W n m hW (by omega) (by show (n : Int) < 2; omega) (by omega) (by show (m : Int) < 2; omega))
          have EY := Aside0.mk ey
          clear ey
          cases y with
          | true =>
            go_wp2_with (first | (go_at_fn g; refine (HS1.out _ (pw_below_drewN (Below.refl _ _) _)).mono ?_; rintro e w' ⟨rfl, ⟨nd, rfl⟩⟩))
            go_roundg k2
            case measure => omega
            case rel => exact ⟨m + 1, by go_num, ⟨by have := HM.out.1; omega, fun b hb => by
              rcases Nat.lt_or_ge b m with h' | h'
              · exact HM.out.2 b h'
              · obtain rfl : b = m := by omega
                exact EY.out⟩, by repeat (first | exact Drawn0.refl _ | apply Drawn0.step)⟩
          | false =>
            go_wp2_with (first | (go_at_fn g; refine (HS1.out _ (pw_below_drewN (Below.refl _ _) _)).mono ?_; rintro e w' ⟨rfl, ⟨nd, rfl⟩⟩))
            go_ret
            exact ⟨by rw [forAllP_false 1 so 2 rfl n m hn hm EY.out]; rfl, by repeat (first | exact Drawn0.refl _ | apply Drawn0.step)⟩
        · go_wp2
          go_roundg k1
          case measure => omega
          case rel =>
            have hmn : m = 2 := by have := HM.out.1; omega
            exact ⟨n + 1, by go_num, ⟨by have := HN.out.1; omega, fun a b ha hb => by
              rcases Nat.lt_or_ge a n with h' | h'
              · exact HN.out.2 a b h' hb
              · obtain rfl : a = n := by omega
                exact HM.out.2 b (by omega)⟩, by repeat (first | exact Drawn0.refl _ | apply Drawn0.step)⟩
    · go_wp2
      go_ret
      have hn6 : n = 2 := by have := HN.out.1; omega
      exact ⟨by rw [forAllP_true 1 so 2 rfl (fun a b ha hb => HN.out.2 a b (by omega) hb)]; rfl, by repeat (first | exact Drawn0.refl _ | apply Drawn0.step)⟩
set_option maxHeartbeats 1000000 in
set_option maxRecDepth 100000 in
theorem impl_forAllSets.at2 (g : Nat) (eg : ∀ args w, (callFunc g args).run Try.prog w = .ok (.enter g args) w) (cap : Array Value) (so : Int → Int → Bool) (w : World) (hs : GivesSets g cap 2 so w) :
    Calls Try.prog 46 #[.int .i64 2, .func (.func g) #[] cap] w fun e w' => e = .returned (.bool (forAllP 2 so)) ∧ Drawn0 w w' := by
  have HS := Aside0.mk hs
  clear hs
  go_enter Try.func46, Try.ntmps46
  go_wp2
  go_loopg [9] 4 (fun kq v9 w' => ∃ (n : Nat), v9 = .int .i64 n ∧ Aside0 (n + kq = 4 ∧ ∀ a b : Nat, a < n → b < 4 → so a b = true) ∧ Drawn0 w w')
  case atStart => exact ⟨0, rfl, ⟨rfl, fun a b h => absurd h (by omega)⟩, by repeat (first | exact Drawn0.refl _ | apply Drawn0.step)⟩
  case round =>
    obtain ⟨n, rfl, HN, ⟨m1, rfl⟩⟩ := hrel
    by_cases hn : n < 4
    · obtain ⟨k1, rfl⟩ : ∃ m, gk = m + 1 := ⟨gk - 1, by have := HN.out.1; omega⟩
      have hn0 : decide ((n : Int) < 4) = true := decide_eq_true (by omega)
      go_wp2
      go_loopg [14] 4 (fun kq v14 w' => ∃ (m : Nat), v14 = .int .i64 m ∧ Aside0 (m + kq = 4 ∧ ∀ b : Nat, b < m → so n b = true) ∧ Drawn0 w w')
      case atStart => exact ⟨0, rfl, ⟨by omega, fun s h => absurd h (by omega)⟩, by repeat (first | exact Drawn0.refl _ | apply Drawn0.step)⟩
      case round =>
        obtain ⟨m, rfl, HM, ⟨m2, rfl⟩⟩ := hrel
        by_cases hm : m < 4
        · obtain ⟨k2, rfl⟩ : ∃ j, gk = j + 1 := ⟨gk - 1, by have := HM.out.1; omega⟩
          obtain ⟨y, ey⟩ : ∃ b, so n m = b := ⟨_, rfl⟩
          have HS1 := Aside0.mk (fun W hW => show Calls Try.prog g (#[.int .i64 (n : Int), .int .i64 (m : Int)] ++ cap) W (fun e w' => e = .returned (.bool y) ∧ Drawn0 W w') from by
            rw [← ey]
            exact HS.out W n m hW (by omega) (by show (n : Int) < 4; omega) (by omega) (by show (m : Int) < 4; omega))
          have EY := Aside0.mk ey
          clear ey
          cases y with
          | true =>
            go_wp2_with (first | (go_at_fn g; refine (HS1.out _ (pw_below_drewN (Below.refl _ _) _)).mono ?_; rintro e w' ⟨rfl, ⟨nd, rfl⟩⟩))
            go_roundg k2
            case measure => omega
            case rel => exact ⟨m + 1, by go_num, ⟨by have := HM.out.1; omega, fun b hb => by
              rcases Nat.lt_or_ge b m with h' | h'
              · exact HM.out.2 b h'
              · obtain rfl : b = m := by omega
                exact EY.out⟩, by repeat (first | exact Drawn0.refl _ | apply Drawn0.step)⟩
          | false =>
            go_wp2_with (first | (go_at_fn g; refine (HS1.out _ (pw_below_drewN (Below.refl _ _) _)).mono ?_; rintro e w' ⟨rfl, ⟨nd, rfl⟩⟩))
            go_ret
            exact ⟨by rw [forAllP_false 2 so 4 rfl n m hn hm EY.out]; rfl, by repeat (first | exact Drawn0.refl _ | apply Drawn0.step)⟩
        · go_wp2
          go_roundg k1
          case measure => omega
          case rel =>
            have hmn : m = 4 := by have := HM.out.1; omega
            exact ⟨n + 1, by go_num, ⟨by have := HN.out.1; omega, fun a b ha hb => by
              rcases Nat.lt_or_ge a n with h' | h'
              · exact HN.out.2 a b h' hb
              · obtain rfl : a = n := by omega
                exact HM.out.2 b (by omega)⟩, by repeat (first | exact Drawn0.refl _ | apply Drawn0.step)⟩
    · go_wp2
      go_ret
      have hn6 : n = 4 := by have := HN.out.1; omega
      exact ⟨by rw [forAllP_true 2 so 4 rfl (fun a b ha hb => HN.out.2 a b (by omega) hb)]; rfl, by repeat (first | exact Drawn0.refl _ | apply Drawn0.step)⟩
set_option maxHeartbeats 1000000 in
set_option maxRecDepth 100000 in
theorem impl_forAllSets.at3 (g : Nat) (eg : ∀ args w, (callFunc g args).run Try.prog w = .ok (.enter g args) w) (cap : Array Value) (so : Int → Int → Bool) (w : World) (hs : GivesSets g cap 3 so w) :
    Calls Try.prog 46 #[.int .i64 3, .func (.func g) #[] cap] w fun e w' => e = .returned (.bool (forAllP 3 so)) ∧ Drawn0 w w' := by
  have HS := Aside0.mk hs
  clear hs
  go_enter Try.func46, Try.ntmps46
  go_wp2
  go_loopg [9] 8 (fun kq v9 w' => ∃ (n : Nat), v9 = .int .i64 n ∧ Aside0 (n + kq = 8 ∧ ∀ a b : Nat, a < n → b < 8 → so a b = true) ∧ Drawn0 w w')
  case atStart => exact ⟨0, rfl, ⟨rfl, fun a b h => absurd h (by omega)⟩, by repeat (first | exact Drawn0.refl _ | apply Drawn0.step)⟩
  case round =>
    obtain ⟨n, rfl, HN, ⟨m1, rfl⟩⟩ := hrel
    by_cases hn : n < 8
    · obtain ⟨k1, rfl⟩ : ∃ m, gk = m + 1 := ⟨gk - 1, by have := HN.out.1; omega⟩
      have hn0 : decide ((n : Int) < 8) = true := decide_eq_true (by omega)
      go_wp2
      go_loopg [14] 8 (fun kq v14 w' => ∃ (m : Nat), v14 = .int .i64 m ∧ Aside0 (m + kq = 8 ∧ ∀ b : Nat, b < m → so n b = true) ∧ Drawn0 w w')
      case atStart => exact ⟨0, rfl, ⟨by omega, fun s h => absurd h (by omega)⟩, by repeat (first | exact Drawn0.refl _ | apply Drawn0.step)⟩
      case round =>
        obtain ⟨m, rfl, HM, ⟨m2, rfl⟩⟩ := hrel
        by_cases hm : m < 8
        · obtain ⟨k2, rfl⟩ : ∃ j, gk = j + 1 := ⟨gk - 1, by have := HM.out.1; omega⟩
          obtain ⟨y, ey⟩ : ∃ b, so n m = b := ⟨_, rfl⟩
          have HS1 := Aside0.mk (fun W hW => show Calls Try.prog g (#[.int .i64 (n : Int), .int .i64 (m : Int)] ++ cap) W (fun e w' => e = .returned (.bool y) ∧ Drawn0 W w') from by
            rw [← ey]
            exact HS.out W n m hW (by omega) (by show (n : Int) < 8; omega) (by omega) (by show (m : Int) < 8; omega))
          have EY := Aside0.mk ey
          clear ey
          cases y with
          | true =>
            go_wp2_with (first | (go_at_fn g; refine (HS1.out _ (pw_below_drewN (Below.refl _ _) _)).mono ?_; rintro e w' ⟨rfl, ⟨nd, rfl⟩⟩))
            go_roundg k2
            case measure => omega
            case rel => exact ⟨m + 1, by go_num, ⟨by have := HM.out.1; omega, fun b hb => by
              rcases Nat.lt_or_ge b m with h' | h'
              · exact HM.out.2 b h'
              · obtain rfl : b = m := by omega
                exact EY.out⟩, by repeat (first | exact Drawn0.refl _ | apply Drawn0.step)⟩
          | false =>
            go_wp2_with (first | (go_at_fn g; refine (HS1.out _ (pw_below_drewN (Below.refl _ _) _)).mono ?_; rintro e w' ⟨rfl, ⟨nd, rfl⟩⟩))
            go_ret
            exact ⟨by rw [forAllP_false 3 so 8 rfl n m hn hm EY.out]; rfl, by repeat (first | exact Drawn0.refl _ | apply Drawn0.step)⟩
        · go_wp2
          go_roundg k1
          case measure => omega
          case rel =>
            have hmn : m = 8 := by have := HM.out.1; omega
            exact ⟨n + 1, by go_num, ⟨by have := HN.out.1; omega, fun a b ha hb => by
              rcases Nat.lt_or_ge a n with h' | h'
              · exact HN.out.2 a b h' hb
              · obtain rfl : a = n := by omega
                exact HM.out.2 b (by omega)⟩, by repeat (first | exact Drawn0.refl _ | apply Drawn0.step)⟩
    · go_wp2
      go_ret
      have hn6 : n = 8 := by have := HN.out.1; omega
      exact ⟨by rw [forAllP_true 3 so 8 rfl (fun a b ha hb => HN.out.2 a b (by omega) hb)]; rfl, by repeat (first | exact Drawn0.refl _ | apply Drawn0.step)⟩
theorem impl_forAllSets.calls (g : Nat) (eg : ∀ args w, (callFunc g args).run Try.prog w = .ok (.enter g args) w) (cap : Array Value) (t : Int) (h1 : 0 ≤ t) (h2 : t ≤ 3) (so : Int → Int → Bool) (w : World) (hs : GivesSets g cap t so w) :
    Calls Try.prog 46 #[.int .i64 t, .func (.func g) #[] cap] w fun e w' => e = .returned (.bool (forAllP t so)) ∧ Drawn0 w w' := by
  rcases three t h1 h2 with rfl | rfl | rfl | rfl
  · exact impl_forAllSets.at0 g eg cap so w hs
  · exact impl_forAllSets.at1 g eg cap so w hs
  · exact impl_forAllSets.at2 g eg cap so w hs
  · exact impl_forAllSets.at3 g eg cap so w hs

end Go.Proofs.Ythgkkhpndiiabaa.P
