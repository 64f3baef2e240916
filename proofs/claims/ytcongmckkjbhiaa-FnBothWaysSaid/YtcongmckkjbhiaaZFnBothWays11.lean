-- Texts of this claim, laid one behind the other by wip/gen/merge.py.
import Derived.Test.YtcongmckkjbhiaaZFnBothWays0
import Derived.Test.YtcongmckkjbhiaaZFnBothWays10
import Derived.Test.YtcongmckkjbhiaaZFnBothWays1
import Derived.RowKit
import Derived.Test.YtcongmckkjbhiaaWWords
import Derived.Test.YtcongmckkjbhiaaWLast
namespace Go.Proofs.Ytcongmckkjbhiaa.P
open Go.RowKit Go.Proofs.YtcongmckkjbhiaaW.PrintWords Go.Proofs.YtcongmckkjbhiaaW.PrintLast Go.Proofs.YtcongmckkjbhiaaW.PrintMore
attribute [local go_sem] max2_int min2_int max_two min_two max_three min_three max_four min_four
set_option linter.unusedVariables false
set_option linter.unusedSimpArgs false
/-! ### spec_BothWays: function 30 -/
mutual
def spec_BothWays.l0 : Nat → Int → List Int → Int → Option (Bool)
 | 0, _, _, _ => none
 | k + 1, x0, x1, x5 => if 0 ≤ x0 then (if x5 < (shl .i64 1 x0) then (spec_BothWays.l1 k x0 x1 x5 0) else (some true)) else (none)
def spec_BothWays.l1 : Nat → Int → List Int → Int → Int → Option (Bool)
 | 0, _, _, _, _ => none
 | k + 1, x0, x1, x5, x6 => if 0 ≤ x0 then (if x6 < (shl .i64 1 x0) then (if 0 ≤ (wrap64 ((shl .i64 x5 x0) + x6)) then (if (wrap64 ((shl .i64 x5 x0) + x6)) < (x1.length : Int) then (if 0 ≤ (wrap64 ((shl .i64 x6 x0) + x5)) then (if (wrap64 ((shl .i64 x6 x0) + x5)) < (x1.length : Int) then (if (rd x1 (wrap64 ((shl .i64 x5 x0) + x6))) = (rd x1 (wrap64 ((shl .i64 x6 x0) + x5))) then (spec_BothWays.l1 k x0 x1 x5 (wrap64 (x6 + 1))) else (some false)) else (none)) else (none)) else (none)) else (none)) else (spec_BothWays.l0 k x0 x1 (wrap64 (x5 + 1)))) else (none)
end
def spec_BothWays.f (k : Nat) (a0 : Int) (l1 : List Int) : Option (Bool) := (spec_RelationOk.f k a0 l1).bind fun t520 => (if t520 = true then (spec_BothWays.l0 k a0 l1 0) else (some false))
theorem spec_BothWays.mono_l : ∀ k, (∀ y0 y1 y2, LeO (spec_BothWays.l0 k y0 y1 y2) (spec_BothWays.l0 (k + 1) y0 y1 y2)) ∧ (∀ y0 y1 y2 y3, LeO (spec_BothWays.l1 k y0 y1 y2 y3) (spec_BothWays.l1 (k + 1) y0 y1 y2 y3))
 | 0 => ⟨fun _ _ _ r h => by simp [spec_BothWays.l0] at h, fun _ _ _ _ r h => by simp [spec_BothWays.l1] at h⟩
 | k + 1 => by
  obtain ⟨ih0, ih1⟩ := spec_BothWays.mono_l k
  refine ⟨?_, ?_⟩
  ·intro y0 y1 y2
   unfold spec_BothWays.l0
   repeat' first
   | (with_reducible exact ih0 _ _ _)
   | (with_reducible exact ih1 _ _ _ _)
   | (with_reducible exact spec_RelationOk.mono _ _ _)
   | (with_reducible exact LeO.refl _)
   | (with_reducible exact LeO.none _)
   | (with_reducible refine LeO.ite ?_ ?_)
   | (with_reducible refine LeO.bind ?_ (fun _ => ?_))
  ·intro y0 y1 y2 y3
   unfold spec_BothWays.l1
   repeat' first
   | (with_reducible exact ih0 _ _ _)
   | (with_reducible exact ih1 _ _ _ _)
   | (with_reducible exact spec_RelationOk.mono _ _ _)
   | (with_reducible exact LeO.refl _)
   | (with_reducible exact LeO.none _)
   | (with_reducible refine LeO.ite ?_ ?_)
   | (with_reducible refine LeO.bind ?_ (fun _ => ?_))
theorem spec_BothWays.mono : ∀ a0 a1 k, LeO (spec_BothWays.f k a0 a1) (spec_BothWays.f (k + 1) a0 a1) := by
 intro a0 a1 k
 obtain ⟨ih0, ih1⟩ := spec_BothWays.mono_l k
 unfold spec_BothWays.f
 repeat' first
   | (with_reducible exact ih0 _ _ _)
   | (with_reducible exact ih1 _ _ _ _)
   | (with_reducible exact spec_RelationOk.mono _ _ _)
   | (with_reducible exact LeO.refl _)
   | (with_reducible exact LeO.none _)
   | (with_reducible refine LeO.ite ?_ ?_)
   | (with_reducible refine LeO.bind ?_ (fun _ => ?_))
set_option maxHeartbeats 8000000 in
set_option maxRecDepth 100000 in
theorem spec_BothWays.calls (k : Nat) (a0 : Int) (A1 : Option Addr) (c1 : Nat) (l1 : List Int) (r : Bool) (w : World) (hr1 : Kd.C (Kd.int .i64) w A1 l1.length l1) (hc1 : l1.length ≤ c1) (h : spec_BothWays.f k a0 l1 = some r) :
  Calls Try.prog 30 #[.int .i64 a0, .slice A1 l1.length c1] w fun e w' => e = .returned (.bool r) ∧ Drawn0 w w' := by
 have HR1 := Aside0.mk hr1
 have HC1 := Aside0.mk hc1
 clear hr1 hc1
 have H : ((spec_RelationOk.f k a0 l1).bind fun t520 => (if t520 = true then (spec_BothWays.l0 k a0 l1 0) else (some false))) = some r := h
 clear h
 replace H := Option.bind_eq_some_iff.mp H
 obtain ⟨t520, A30, H⟩ := H
 replace H : (if t520 = true then (spec_BothWays.l0 k a0 l1 0) else (some false)) = some r := H
 have A3 := Aside0.mk A30
 clear A30
 by_cases c4 : t520 = true
 ·subst c4
  have H1 : (spec_BothWays.l0 k a0 l1 0) = some r := by rw [if_pos rfl] at H; exact H
  clear H
  have H := H1
  clear H1
  have H' := Aside0.mk H
  clear H
  go_enter Try.func30, Try.ntmps30
  go_wp2_with (first | (go_at_call 21; (with_reducible refine (spec_RelationOk.calls k a0 _ _ l1 true _ ?side1 ?side2 A3.out).mono ?_); (case side1 => repeat (first | exact HR1.out | (with_reducible refine Kd.C_alloc ?_ _) | (with_reducible refine Kd.C_drewN ?_ _) | (with_reducible refine Kd.C_drew ?_))); (case side2 => exact HC1.out); rintro e w' ⟨rfl, ⟨nd, rfl⟩⟩; (try first | exact ⟨rfl, _, World.drewN_drewN _ _ _⟩ | exact ⟨rfl, _, Eq.trans (World.drewN_drewN _ _ _) (congrArg (World.drewN _) (Nat.add_assoc _ _ _))⟩)))
  repeat (go_quiet (first | (go_at_call 21; (with_reducible refine (spec_RelationOk.calls k a0 _ _ l1 true _ ?side1 ?side2 A3.out).mono ?_); (case side1 => repeat (first | exact HR1.out | (with_reducible refine Kd.C_alloc ?_ _) | (with_reducible refine Kd.C_drewN ?_ _) | (with_reducible refine Kd.C_drew ?_))); (case side2 => exact HC1.out); rintro e w' ⟨rfl, ⟨nd, rfl⟩⟩; (try first | exact ⟨rfl, _, World.drewN_drewN _ _ _⟩ | exact ⟨rfl, _, Eq.trans (World.drewN_drewN _ _ _) (congrArg (World.drewN _) (Nat.add_assoc _ _ _))⟩))); try go_wp2_with (first | (go_at_call 21; (with_reducible refine (spec_RelationOk.calls k a0 _ _ l1 true _ ?side1 ?side2 A3.out).mono ?_); (case side1 => repeat (first | exact HR1.out | (with_reducible refine Kd.C_alloc ?_ _) | (with_reducible refine Kd.C_drewN ?_ _) | (with_reducible refine Kd.C_drew ?_))); (case side2 => exact HC1.out); rintro e w' ⟨rfl, ⟨nd, rfl⟩⟩; (try first | exact ⟨rfl, _, World.drewN_drewN _ _ _⟩ | exact ⟨rfl, _, Eq.trans (World.drewN_drewN _ _ _) (congrArg (World.drewN _) (Nat.add_assoc _ _ _))⟩))))
  go_loopg [5] k (fun kq v5 w' => ∃ (x5_1 : Int), v5 = .int .i64 x5_1 ∧ Aside0 (spec_BothWays.l0 kq a0 l1 x5_1 = some r) ∧ Aside0 (kq ≤ k) ∧ Drawn0 w w')
  case atStart => exact ⟨(0), (by first | rfl | (simp; done) | (simp [*]; done)), H', ⟨Nat.le_refl _⟩, by repeat (first | exact Drawn0.refl _ | apply Drawn0.step)⟩
  case round =>
   clear H'
   try clear c1
   try clear p2
   try clear c3
   try clear c4
   obtain ⟨x5_1, rfl, HA, HK1, ⟨m1, rfl⟩⟩ := hrel
   cases gk with
   | zero => exact absurd HA.out (by simp [spec_BothWays.l0])
   | succ k1 =>
    have H := HA.out
    clear HA
    simp only [spec_BothWays.l0] at H
    by_cases c5 : 0 ≤ a0
    ·rw [if_pos c5] at H
     have c5b0 := eq_true c5
     have c5b1 : decide (0 ≤ a0) = true := decide_eq_true c5
     clear c5
     obtain ⟨ji6, hji6⟩ : ∃ j_ : Int, (shl .i64 1 a0) = j_ := ⟨_, rfl⟩
     replace H : (if x5_1 < (ji6) then (spec_BothWays.l1 k1 a0 l1 x5_1 0) else (some true)) = some r := by first | (rw [hji6] at H; exact H) | (simp only [hji6] at H ⊢; exact H)
     have hji6_ : (IntKind.i64.wrap (1 * 2 ^ min a0.toNat 64)) = ji6 := hji6
     have hji6z : a0 ≤ 64 → (IntKind.i64.wrap (1 * 2 ^ a0.toNat)) = ji6 := shl_small hji6
     have hji6u : (IntKind.i64.wrap (2 ^ min a0.toNat 64)) = ji6 := by have h_ := hji6_; rw [Int.one_mul] at h_; exact h_
     have hji6v : a0 ≤ 64 → (IntKind.i64.wrap (2 ^ a0.toNat)) = ji6 := fun hle_ => by have h_ := hji6z hle_; rw [Int.one_mul] at h_; exact h_
     have hji6y : (wrap64 (1 * 2 ^ min a0.toNat 64)) = ji6 := (i64_w _).symm.trans hji6_
     have hji6x : a0 ≤ 64 → (wrap64 (1 * 2 ^ a0.toNat)) = ji6 := fun h_ => (i64_w _).symm.trans (hji6z h_)
     by_cases c7 : x5_1 < (ji6)
     ·rw [if_pos c7] at H
      have c7b0 : decide (x5_1 < (ji6)) = true := decide_eq_true c7
      clear c7
      have H' := Aside0.mk H
      clear H
      go_wp2
      repeat (go_quiet (fail); try go_wp2)
      go_loopg [6] k1 (fun kq v6 w' => ∃ (x6_2 : Int), v6 = .int .i64 x6_2 ∧ Aside0 (spec_BothWays.l1 kq a0 l1 x5_1 x6_2 = some r) ∧ Aside0 (kq ≤ k1) ∧ Drawn0 w w')
      case atStart => exact ⟨(0), (by first | rfl | (simp; done) | (simp [*]; done)), H', ⟨Nat.le_refl _⟩, by repeat (first | exact Drawn0.refl _ | apply Drawn0.step)⟩
      case round =>
       clear H'
       try clear c1
       try clear p2
       try clear c3
       try clear c4
       try clear c5
       try clear c5b0
       try clear c5b1
       try clear p6
       try clear c7
       try clear c7b0
       try clear p2
       obtain ⟨x6_2, rfl, HA, HK2, ⟨m2, rfl⟩⟩ := hrel
       cases gk with
       | zero => exact absurd HA.out (by simp [spec_BothWays.l1])
       | succ k2 =>
        have H := HA.out
        clear HA
        simp only [spec_BothWays.l1] at H
        by_cases c8 : 0 ≤ a0
        ·rw [if_pos c8] at H
         have c8b0 := eq_true c8
         have c8b1 : decide (0 ≤ a0) = true := decide_eq_true c8
         clear c8
         replace H : (if x6_2 < (ji6) then (if 0 ≤ (wrap64 ((shl .i64 x5_1 a0) + x6_2)) then (if (wrap64 ((shl .i64 x5_1 a0) + x6_2)) < (l1.length : Int) then (if 0 ≤ (wrap64 ((shl .i64 x6_2 a0) + x5_1)) then (if (wrap64 ((shl .i64 x6_2 a0) + x5_1)) < (l1.length : Int) then (if (rd l1 (wrap64 ((shl .i64 x5_1 a0) + x6_2))) = (rd l1 (wrap64 ((shl .i64 x6_2 a0) + x5_1))) then (spec_BothWays.l1 k2 a0 l1 x5_1 (wrap64 (x6_2 + 1))) else (some false)) else (none)) else (none)) else (none)) else (none)) else (spec_BothWays.l0 k2 a0 l1 (wrap64 (x5_1 + 1)))) = some r := by first | exact H | (rw [hji6] at H; exact H) | (simp only [hji6] at H ⊢; exact H)
         by_cases c9 : x6_2 < (ji6)
         ·rw [if_pos c9] at H
          have c9b0 : decide (x6_2 < (ji6)) = true := decide_eq_true c9
          clear c9
          have c10b0 := eq_true (of_decide_eq_true (by first | (with_reducible assumption) | assumption) : 0 ≤ a0)
          obtain ⟨ji11, hji11⟩ : ∃ j_ : Int, (shl .i64 x5_1 a0) = j_ := ⟨_, rfl⟩
          replace H : (if 0 ≤ (wrap64 ((ji11) + x6_2)) then (if (wrap64 ((ji11) + x6_2)) < (l1.length : Int) then (if 0 ≤ (wrap64 ((shl .i64 x6_2 a0) + x5_1)) then (if (wrap64 ((shl .i64 x6_2 a0) + x5_1)) < (l1.length : Int) then (if (rd l1 (wrap64 ((ji11) + x6_2))) = (rd l1 (wrap64 ((shl .i64 x6_2 a0) + x5_1))) then (spec_BothWays.l1 k2 a0 l1 x5_1 (wrap64 (x6_2 + 1))) else (some false)) else (none)) else (none)) else (none)) else (none)) = some r := by first | (rw [hji11] at H; exact H) | (simp only [hji11] at H ⊢; exact H)
          have hji11_ : (IntKind.i64.wrap (x5_1 * 2 ^ min a0.toNat 64)) = ji11 := hji11
          have hji11z : a0 ≤ 64 → (IntKind.i64.wrap (x5_1 * 2 ^ a0.toNat)) = ji11 := shl_small hji11
          have hji11y : (wrap64 (x5_1 * 2 ^ min a0.toNat 64)) = ji11 := (i64_w _).symm.trans hji11_
          have hji11x : a0 ≤ 64 → (wrap64 (x5_1 * 2 ^ a0.toNat)) = ji11 := fun h_ => (i64_w _).symm.trans (hji11z h_)
          obtain ⟨ji12, hji12⟩ : ∃ j_ : Int, (wrap64 ((ji11) + x6_2)) = j_ := ⟨_, rfl⟩
          replace H : (if 0 ≤ (ji12) then (if (ji12) < (l1.length : Int) then (if 0 ≤ (wrap64 ((shl .i64 x6_2 a0) + x5_1)) then (if (wrap64 ((shl .i64 x6_2 a0) + x5_1)) < (l1.length : Int) then (if (rd l1 (ji12)) = (rd l1 (wrap64 ((shl .i64 x6_2 a0) + x5_1))) then (spec_BothWays.l1 k2 a0 l1 x5_1 (wrap64 (x6_2 + 1))) else (some false)) else (none)) else (none)) else (none)) else (none)) = some r := by first | (rw [hji12] at H; exact H) | (simp only [hji12] at H ⊢; exact H)
          have hji12w : (IntKind.i64.wrap ((ji11) + x6_2)) = ji12 := (i64_w _).trans hji12
          by_cases c13 : 0 ≤ (ji12)
          ·rw [if_pos c13] at H
           have c13b0 : decide (0 ≤ (ji12)) = true := decide_eq_true c13
           clear c13
           by_cases c14 : (ji12) < (l1.length : Int)
           ·rw [if_pos c14] at H
            have c14b0 : decide ((ji12) < (l1.length : Int)) = true := decide_eq_true c14
            clear c14
            have c15b0 := eq_true (of_decide_eq_true (by first | (with_reducible assumption) | assumption) : 0 ≤ a0)
            obtain ⟨ji16, hji16⟩ : ∃ j_ : Int, (shl .i64 x6_2 a0) = j_ := ⟨_, rfl⟩
            replace H : (if 0 ≤ (wrap64 ((ji16) + x5_1)) then (if (wrap64 ((ji16) + x5_1)) < (l1.length : Int) then (if (rd l1 (ji12)) = (rd l1 (wrap64 ((ji16) + x5_1))) then (spec_BothWays.l1 k2 a0 l1 x5_1 (wrap64 (x6_2 + 1))) else (some false)) else (none)) else (none)) = some r := by first | (rw [hji16] at H; exact H) | (simp only [hji16] at H ⊢; exact H)
            have hji16_ : (IntKind.i64.wrap (x6_2 * 2 ^ min a0.toNat 64)) = ji16 := hji16
            have hji16z : a0 ≤ 64 → (IntKind.i64.wrap (x6_2 * 2 ^ a0.toNat)) = ji16 := shl_small hji16
            have hji16y : (wrap64 (x6_2 * 2 ^ min a0.toNat 64)) = ji16 := (i64_w _).symm.trans hji16_
            have hji16x : a0 ≤ 64 → (wrap64 (x6_2 * 2 ^ a0.toNat)) = ji16 := fun h_ => (i64_w _).symm.trans (hji16z h_)
            obtain ⟨ji17, hji17⟩ : ∃ j_ : Int, (wrap64 ((ji16) + x5_1)) = j_ := ⟨_, rfl⟩
            replace H : (if 0 ≤ (ji17) then (if (ji17) < (l1.length : Int) then (if (rd l1 (ji12)) = (rd l1 (ji17)) then (spec_BothWays.l1 k2 a0 l1 x5_1 (wrap64 (x6_2 + 1))) else (some false)) else (none)) else (none)) = some r := by first | (rw [hji17] at H; exact H) | (simp only [hji17] at H ⊢; exact H)
            have hji17w : (IntKind.i64.wrap ((ji16) + x5_1)) = ji17 := (i64_w _).trans hji17
            by_cases c18 : 0 ≤ (ji17)
            ·rw [if_pos c18] at H
             have c18b0 : decide (0 ≤ (ji17)) = true := decide_eq_true c18
             clear c18
             by_cases c19 : (ji17) < (l1.length : Int)
             ·rw [if_pos c19] at H
              have c19b0 : decide ((ji17) < (l1.length : Int)) = true := decide_eq_true c19
              clear c19
              by_cases c20 : (rd l1 (ji12)) = (rd l1 (ji17))
              ·rw [if_pos c20] at H
               have c20b0 : ((rd l1 (ji12)) == (rd l1 (ji17))) = true := beq_iff_eq.mpr c20
               have c20b1 : ((rd l1 (ji12)) != (rd l1 (ji17))) = false := bne_eq_false_iff_eq.mpr c20
               clear c20
               have H' := Aside0.mk H
               clear H
               have p521 : 0 ≤ ((ji12) : Int) := of_decide_eq_true (by first | (with_reducible assumption) | assumption)
               have q521 : (ji12) < (l1.length : Int) := of_decide_eq_true (by first | (with_reducible assumption) | assumption)
               obtain ⟨ad521, e521, hx521_0⟩ := Kd.at_int HR1.out (ji12) p521 q521
               cases e521
               replace p521 := eq_true p521
               replace q521 := eq_true q521
               have p522 : 0 ≤ ((ji17) : Int) := of_decide_eq_true (by first | (with_reducible assumption) | assumption)
               have q522 : (ji17) < (l1.length : Int) := of_decide_eq_true (by first | (with_reducible assumption) | assumption)
               obtain ⟨ad522, e522, hx522_0⟩ := Kd.at_int HR1.out (ji17) p522 q522
               obtain rfl : ad521 = ad522 := (by injection e522)
               replace p522 := eq_true p522
               replace q522 := eq_true q522
               go_wp2
               repeat (go_quiet (fail); try go_wp2)
               go_roundg k2
               case measure => have := HK1.out; have := HK2.out; omega
               case rel => exact ⟨(wrap64 (x6_2 + 1)), (by first | rfl | (simp; done) | (simp [*]; done)), H', ⟨by have := HK1.out; have := HK2.out; omega⟩, by repeat (first | exact Drawn0.refl _ | apply Drawn0.step)⟩
              ·rw [if_neg c20] at H
               have c20b0 : ((rd l1 (ji12)) == (rd l1 (ji17))) = false := beq_eq_false_iff_ne.mpr c20
               have c20b1 : ((rd l1 (ji12)) != (rd l1 (ji17))) = true := bne_iff_ne.mpr c20
               obtain rfl := Option.some.inj H
               have p521 : 0 ≤ ((ji12) : Int) := of_decide_eq_true (by first | (with_reducible assumption) | assumption)
               have q521 : (ji12) < (l1.length : Int) := of_decide_eq_true (by first | (with_reducible assumption) | assumption)
               obtain ⟨ad521, e521, hx521_0⟩ := Kd.at_int HR1.out (ji12) p521 q521
               cases e521
               replace p521 := eq_true p521
               replace q521 := eq_true q521
               have p522 : 0 ≤ ((ji17) : Int) := of_decide_eq_true (by first | (with_reducible assumption) | assumption)
               have q522 : (ji17) < (l1.length : Int) := of_decide_eq_true (by first | (with_reducible assumption) | assumption)
               obtain ⟨ad522, e522, hx522_0⟩ := Kd.at_int HR1.out (ji17) p522 q522
               obtain rfl : ad521 = ad522 := (by injection e522)
               replace p522 := eq_true p522
               replace q522 := eq_true q522
               go_wp2
               repeat (go_quiet (fail); try go_wp2)
               go_ret
               exact ⟨by first | rfl | (simp; done) | (simp only [← hji6, ← hji11, ← hji12, ← hji16, ← hji17] <;> (first | rfl | simp)) | (simp [*]; done), by repeat (first | exact Drawn0.refl _ | apply Drawn0.step)⟩
             ·rw [if_neg c19] at H
              exact absurd H (by simp)
            ·rw [if_neg c18] at H
             exact absurd H (by simp)
           ·rw [if_neg c14] at H
            exact absurd H (by simp)
          ·rw [if_neg c13] at H
           exact absurd H (by simp)
         ·rw [if_neg c9] at H
          have c9b0 : decide (x6_2 < (ji6)) = false := decide_eq_false c9
          clear c9
          have H' := Aside0.mk H
          clear H
          go_wp2
          repeat (go_quiet (fail); try go_wp2)
          go_roundg k2
          case measure => have := HK1.out; have := HK2.out; omega
          case rel => exact ⟨(wrap64 (x5_1 + 1)), (by first | rfl | (simp; done) | (simp [*]; done)), H', ⟨by have := HK1.out; have := HK2.out; omega⟩, by repeat (first | exact Drawn0.refl _ | apply Drawn0.step)⟩
        ·rw [if_neg c8] at H
         exact absurd H (by simp)
     ·rw [if_neg c7] at H
      have c7b0 : decide (x5_1 < (ji6)) = false := decide_eq_false c7
      clear c7
      obtain rfl := Option.some.inj H
      go_wp2
      repeat (go_quiet (fail); try go_wp2)
      go_ret
      exact ⟨by first | rfl | (simp; done) | (simp only [← hji6] <;> (first | rfl | simp)) | (simp [*]; done), by repeat (first | exact Drawn0.refl _ | apply Drawn0.step)⟩
    ·rw [if_neg c5] at H
     exact absurd H (by simp)
 ·replace c4 := Bool.eq_false_iff.mpr c4
  subst c4
  have H1 : (some false) = some r := by rw [if_neg (show ¬ (false = true) by decide)] at H; exact H
  clear H
  have H := H1
  clear H1
  obtain rfl := Option.some.inj H
  go_enter Try.func30, Try.ntmps30
  go_wp2_with (first | (go_at_call 21; (with_reducible refine (spec_RelationOk.calls k a0 _ _ l1 false _ ?side1 ?side2 A3.out).mono ?_); (case side1 => repeat (first | exact HR1.out | (with_reducible refine Kd.C_alloc ?_ _) | (with_reducible refine Kd.C_drewN ?_ _) | (with_reducible refine Kd.C_drew ?_))); (case side2 => exact HC1.out); rintro e w' ⟨rfl, ⟨nd, rfl⟩⟩; (try first | exact ⟨rfl, _, World.drewN_drewN _ _ _⟩ | exact ⟨rfl, _, Eq.trans (World.drewN_drewN _ _ _) (congrArg (World.drewN _) (Nat.add_assoc _ _ _))⟩)))
  repeat (go_quiet (first | (go_at_call 21; (with_reducible refine (spec_RelationOk.calls k a0 _ _ l1 false _ ?side1 ?side2 A3.out).mono ?_); (case side1 => repeat (first | exact HR1.out | (with_reducible refine Kd.C_alloc ?_ _) | (with_reducible refine Kd.C_drewN ?_ _) | (with_reducible refine Kd.C_drew ?_))); (case side2 => exact HC1.out); rintro e w' ⟨rfl, ⟨nd, rfl⟩⟩; (try first | exact ⟨rfl, _, World.drewN_drewN _ _ _⟩ | exact ⟨rfl, _, Eq.trans (World.drewN_drewN _ _ _) (congrArg (World.drewN _) (Nat.add_assoc _ _ _))⟩))); try go_wp2_with (first | (go_at_call 21; (with_reducible refine (spec_RelationOk.calls k a0 _ _ l1 false _ ?side1 ?side2 A3.out).mono ?_); (case side1 => repeat (first | exact HR1.out | (with_reducible refine Kd.C_alloc ?_ _) | (with_reducible refine Kd.C_drewN ?_ _) | (with_reducible refine Kd.C_drew ?_))); (case side2 => exact HC1.out); rintro e w' ⟨rfl, ⟨nd, rfl⟩⟩; (try first | exact ⟨rfl, _, World.drewN_drewN _ _ _⟩ | exact ⟨rfl, _, Eq.trans (World.drewN_drewN _ _ _) (congrArg (World.drewN _) (Nat.add_assoc _ _ _))⟩))))
  go_ret
  exact ⟨by first | rfl | (simp; done) | (simp [*]; done), by repeat (first | exact Drawn0.refl _ | apply Drawn0.step)⟩
/-! ### laws_FnBothWays: function 7 -/
mutual
def laws_FnBothWays.l0 : Nat → Int → List Int → Bool → Bool → Int → Option (Bool)
 | 0, _, _, _, _, _ => none
 | k + 1, x3, x4, x5, x6, x7 => if 0 ≤ x3 then (if x7 < (shl .i64 1 x3) then (laws_FnBothWays.l1 k x3 x4 x5 x6 x7 0) else (some (x6 == x5))) else (none)
def laws_FnBothWays.l1 : Nat → Int → List Int → Bool → Bool → Int → Int → Option (Bool)
 | 0, _, _, _, _, _, _ => none
 | k + 1, x3, x4, x5, x6, x7, x8 => if 0 ≤ x3 then (if x8 < (shl .i64 1 x3) then ((laws_common.f k x7 x8).bind fun t531 => ((impl_HoldsOf.f k x3 x4 x7 x8).bind fun t532 => ((impl_HoldsOf.f k x3 x4 t531 t531).bind fun t533 => (if (t532 != t533) = true then (laws_FnBothWays.l1 k x3 x4 x5 false x7 (wrap64 (x8 + 1))) else (laws_FnBothWays.l1 k x3 x4 x5 x6 x7 (wrap64 (x8 + 1))))))) else (laws_FnBothWays.l0 k x3 x4 x5 x6 (wrap64 (x7 + 1)))) else (none)
end
def laws_FnBothWays.f (k : Nat) (l0 : List Int) : Option (Bool) := if (l0.length : Int) > 1048576 then (some true) else ((spec_DrawBothWays.f k l0).bind fun bt523 => ((impl_BothWays.f bt523.1 bt523.2).bind fun t527 => ((spec_BothWays.f k bt523.1 bt523.2).bind fun t528 => (if (t527 != t528) = true then (some false) else ((impl_LooksInside.f bt523.1 bt523.2).bind fun t529 => (if t529 = true then (laws_FnBothWays.l0 k bt523.1 bt523.2 t527 true 0) else ((laws_alive.f).bind fun t530 => (some t530))))))))
theorem laws_FnBothWays.mono_l : ∀ k, (∀ y0 y1 y2 y3 y4, LeO (laws_FnBothWays.l0 k y0 y1 y2 y3 y4) (laws_FnBothWays.l0 (k + 1) y0 y1 y2 y3 y4)) ∧ (∀ y0 y1 y2 y3 y4 y5, LeO (laws_FnBothWays.l1 k y0 y1 y2 y3 y4 y5) (laws_FnBothWays.l1 (k + 1) y0 y1 y2 y3 y4 y5))
 | 0 => ⟨fun _ _ _ _ _ r h => by simp [laws_FnBothWays.l0] at h, fun _ _ _ _ _ _ r h => by simp [laws_FnBothWays.l1] at h⟩
 | k + 1 => by
  obtain ⟨ih0, ih1⟩ := laws_FnBothWays.mono_l k
  refine ⟨?_, ?_⟩
  ·intro y0 y1 y2 y3 y4
   unfold laws_FnBothWays.l0
   repeat' first
   | (with_reducible exact ih0 _ _ _ _ _)
   | (with_reducible exact ih1 _ _ _ _ _ _)
   | (with_reducible exact impl_HoldsOf.mono _ _ _ _ _)
   | (with_reducible exact laws_common.mono _ _ _)
   | (with_reducible exact spec_BothWays.mono _ _ _)
   | (with_reducible exact spec_DrawBothWays.mono _ _)
   | (with_reducible exact LeO.refl _)
   | (with_reducible exact LeO.none _)
   | (with_reducible refine LeO.ite ?_ ?_)
   | (with_reducible refine LeO.bind ?_ (fun _ => ?_))
  ·intro y0 y1 y2 y3 y4 y5
   unfold laws_FnBothWays.l1
   repeat' first
   | (with_reducible exact ih0 _ _ _ _ _)
   | (with_reducible exact ih1 _ _ _ _ _ _)
   | (with_reducible exact impl_HoldsOf.mono _ _ _ _ _)
   | (with_reducible exact laws_common.mono _ _ _)
   | (with_reducible exact spec_BothWays.mono _ _ _)
   | (with_reducible exact spec_DrawBothWays.mono _ _)
   | (with_reducible exact LeO.refl _)
   | (with_reducible exact LeO.none _)
   | (with_reducible refine LeO.ite ?_ ?_)
   | (with_reducible refine LeO.bind ?_ (fun _ => ?_))
theorem laws_FnBothWays.mono : ∀ a0 k, LeO (laws_FnBothWays.f k a0) (laws_FnBothWays.f (k + 1) a0) := by
 intro a0 k
 obtain ⟨ih0, ih1⟩ := laws_FnBothWays.mono_l k
 unfold laws_FnBothWays.f
 repeat' first
   | (with_reducible exact ih0 _ _ _ _ _)
   | (with_reducible exact ih1 _ _ _ _ _ _)
   | (with_reducible exact impl_HoldsOf.mono _ _ _ _ _)
   | (with_reducible exact laws_common.mono _ _ _)
   | (with_reducible exact spec_BothWays.mono _ _ _)
   | (with_reducible exact spec_DrawBothWays.mono _ _)
   | (with_reducible exact LeO.refl _)
   | (with_reducible exact LeO.none _)
   | (with_reducible refine LeO.ite ?_ ?_)
   | (with_reducible refine LeO.bind ?_ (fun _ => ?_))
set_option maxHeartbeats 8000000 in
set_option maxRecDepth 100000 in
theorem laws_FnBothWays.calls (k : Nat) (A0 : Option Addr) (c0 : Nat) (l0 : List Int) (r : Bool) (w : World) (hr0 : Kd.C (Kd.int .u8) w A0 l0.length l0) (hc0 : l0.length ≤ c0) (h : laws_FnBothWays.f k l0 = some r) :
  Calls Try.prog 7 #[.slice A0 l0.length c0] w fun e w' => e = .returned (.bool r) ∧ Below w.heap.size w w' := by
 have HR0 := Aside0.mk hr0
 have HC0 := Aside0.mk hc0
 clear hr0 hc0
 have HB := Aside0.mk (Below.refl w.heap.size w)
 have H : (if (l0.length : Int) > 1048576 then (some true) else ((spec_DrawBothWays.f k l0).bind fun bt523 => ((impl_BothWays.f bt523.1 bt523.2).bind fun t527 => ((spec_BothWays.f k bt523.1 bt523.2).bind fun t528 => (if (t527 != t528) = true then (some false) else ((impl_LooksInside.f bt523.1 bt523.2).bind fun t529 => (if t529 = true then (laws_FnBothWays.l0 k bt523.1 bt523.2 t527 true 0) else ((laws_alive.f).bind fun t530 => (some t530))))))))) = some r := h
 clear h
 by_cases c2 : (l0.length : Int) > 1048576
 ·rw [if_pos c2] at H
  have c2b0 : decide (1048576 < (l0.length : Int)) = true := decide_eq_true c2
  have c2b1 : decide (1048576 < l0.length) = true := decide_eq_true (by omega)
  clear c2
  obtain rfl := Option.some.inj H
  go_enter Try.func7, Try.ntmps7
  go_wp2
  go_ret
  exact ⟨by first | rfl | (simp [errW_none, errW_some] <;> rfl) | (simp [*, errW_none, errW_some] <;> rfl), by repeat (first | (with_reducible first | exact HB.out | apply below_alloc | apply pw_below_drewN | apply below_drew1) | exact HB.out)⟩
 ·rw [if_neg c2] at H
  have c2b0 : decide (1048576 < (l0.length : Int)) = false := decide_eq_false c2
  have c2b1 : decide (1048576 < l0.length) = false := decide_eq_false (by omega)
  clear c2
  replace H := Option.bind_eq_some_iff.mp H
  obtain ⟨⟨t523, t524⟩, A30, H⟩ := H
  replace H : ((impl_BothWays.f t523 t524).bind fun t527 => ((spec_BothWays.f k t523 t524).bind fun t528 => (if (t527 != t528) = true then (some false) else ((impl_LooksInside.f t523 t524).bind fun t529 => (if t529 = true then (laws_FnBothWays.l0 k t523 t524 t527 true 0) else ((laws_alive.f).bind fun t530 => (some t530))))))) = some r := H
  have A3 := Aside0.mk A30
  clear A30
  replace H := Option.bind_eq_some_iff.mp H
  obtain ⟨t527, A40, H⟩ := H
  replace H : ((spec_BothWays.f k t523 t524).bind fun t528 => (if (t527 != t528) = true then (some false) else ((impl_LooksInside.f t523 t524).bind fun t529 => (if t529 = true then (laws_FnBothWays.l0 k t523 t524 t527 true 0) else ((laws_alive.f).bind fun t530 => (some t530)))))) = some r := H
  have A4 := Aside0.mk A40
  clear A40
  replace H := Option.bind_eq_some_iff.mp H
  obtain ⟨t528, A50, H⟩ := H
  replace H : (if (t527 != t528) = true then (some false) else ((impl_LooksInside.f t523 t524).bind fun t529 => (if t529 = true then (laws_FnBothWays.l0 k t523 t524 t527 true 0) else ((laws_alive.f).bind fun t530 => (some t530))))) = some r := H
  have A5 := Aside0.mk A50
  clear A50
  by_cases c6 : (t527 != t528) = true
  ·rw [if_pos c6] at H
   have c6b0 : (t527 != t528) = true := c6
   (try (have c6b1 : decide (t527 = t528) = false := by simpa using c6))
   (try (have c6b2 : (t527 == t528) = false := by simpa using c6))
   (try (have c6b3 : ¬ (t527 = t528) := by simpa using c6))
   clear c6
   obtain rfl := Option.some.inj H
   go_enter Try.func7, Try.ntmps7
   go_wp2_with (first | ((with_reducible refine gate_callee (f := 28) rfl ?_); refine goesL_ (some 15) rfl rfl Try.func28 (by kernel_rfl) rfl #[.slice A0 l0.length c0] rfl (by (try simp only [List.map_toArray, List.map_cons, List.map_nil]); first | done | rfl | (simp only [List.length_drop, List.length_take]; rfl)) ?_; (with_reducible refine (spec_DrawBothWays.calls k _ _ l0 t523 t524 _ ?side1 ?side2 A3.out).mono ?_); (case side1 => repeat (first | exact HR0.out | (with_reducible refine Kd.C_alloc ?_ _) | (with_reducible refine Kd.C_drewN ?_ _) | (with_reducible refine Kd.C_drew ?_))); (case side2 => exact HC0.out); rintro e w7 ⟨v525, rfl, ho0, hb⟩; refine ⟨_, rfl, ?_⟩; have n0_ := Aside0.mk (Kd.R_lower ho0 (below_size (by repeat (first | (with_reducible first | exact HB.out | apply below_alloc | apply pw_below_drewN | apply below_drew1) | exact HB.out)))); have n1_ := Aside0.mk (below_step (by repeat (first | (with_reducible first | exact HB.out | apply below_alloc | apply pw_below_drewN | apply below_drew1) | exact HB.out)) hb); clear HB; have HO526 := n0_; have HB := n1_; clear n0_ n1_; (try clear hb); (try clear hb2); (try clear hk); (try clear hi); (try clear ho0); obtain ⟨Ao8, co8, eo8⟩ := Kd.R_slice HO526.out; subst eo8) | ((with_reducible refine gate_callee (f := 29) rfl ?_); refine goesL_ (some 20) rfl rfl Try.func29 (by kernel_rfl) rfl #[.int .i64 t523, .slice Ao8 t524.length co8] rfl (by (try simp only [List.map_toArray, List.map_cons, List.map_nil]); first | done | rfl | (simp only [List.length_drop, List.length_take]; rfl)) ?_; (with_reducible refine (impl_BothWays.calls t523 _ _ t524 t527 _ ?side1 ?side2 A4.out).mono ?_); (case side1 => repeat (first | exact (Kd.R_reads' HO526.out).2.2 | (with_reducible refine Kd.C_alloc ?_ _) | (with_reducible refine Kd.C_drewN ?_ _) | (with_reducible refine Kd.C_drew ?_))); (case side2 => exact (Kd.R_reads' HO526.out).2.1); rintro e w9 ⟨rfl, hb⟩; refine ⟨_, rfl, ?_⟩; have n0_ := Aside0.mk (Kd.R_below (by (with_reducible repeat (first | apply Kd.R_alloc | apply Kd.R_drewN | apply Kd.R_drew)); exact HO526.out) hb); have n1_ := Aside0.mk (below_step (by repeat (first | (with_reducible first | exact HB.out | apply below_alloc | apply pw_below_drewN | apply below_drew1) | exact HB.out)) hb); clear HO526; clear HB; have HO526 := n0_; have HB := n1_; clear n0_ n1_; (try clear hb); (try clear hb2); (try clear hk); (try clear hi)) | ((with_reducible refine gate_callee (f := 30) rfl ?_); refine goesL_ (some 24) rfl rfl Try.func30 (by kernel_rfl) rfl #[.int .i64 t523, .slice Ao8 t524.length co8] rfl (by (try simp only [List.map_toArray, List.map_cons, List.map_nil]); first | done | rfl | (simp only [List.length_drop, List.length_take]; rfl)) ?_; (with_reducible refine (spec_BothWays.calls k t523 _ _ t524 t528 _ ?side1 ?side2 A5.out).mono ?_); (case side1 => repeat (first | exact (Kd.R_reads' HO526.out).2.2 | (with_reducible refine Kd.C_alloc ?_ _) | (with_reducible refine Kd.C_drewN ?_ _) | (with_reducible refine Kd.C_drew ?_))); (case side2 => exact (Kd.R_reads' HO526.out).2.1); rintro e w' ⟨rfl, ⟨nd, rfl⟩⟩; refine ⟨_, rfl, ?_⟩))
   go_ret
   exact ⟨by first | rfl | (simp [errW_none, errW_some] <;> rfl) | (simp [*, errW_none, errW_some] <;> rfl), by repeat (first | (with_reducible first | exact HB.out | apply below_alloc | apply pw_below_drewN | apply below_drew1) | exact HB.out)⟩
  ·rw [if_neg c6] at H
   have c6b0 : (t527 != t528) = false := by simpa using c6
   (try (have c6b1 : decide (t527 = t528) = true := by simpa using c6))
   (try (have c6b2 : (t527 == t528) = true := by simpa using c6))
   clear c6
   replace H := Option.bind_eq_some_iff.mp H
   obtain ⟨t529, A100, H⟩ := H
   replace H : (if t529 = true then (laws_FnBothWays.l0 k t523 t524 t527 true 0) else ((laws_alive.f).bind fun t530 => (some t530))) = some r := H
   have A10 := Aside0.mk A100
   clear A100
   by_cases c11 : t529 = true
   ·subst c11
    have H1 : (laws_FnBothWays.l0 k t523 t524 t527 true 0) = some r := by rw [if_pos rfl] at H; exact H
    clear H
    have H := H1
    clear H1
    have H' := Aside0.mk H
    clear H
    go_enter Try.func7, Try.ntmps7
    go_wp2_with (first | ((with_reducible refine gate_callee (f := 28) rfl ?_); refine goesL_ (some 15) rfl rfl Try.func28 (by kernel_rfl) rfl #[.slice A0 l0.length c0] rfl (by (try simp only [List.map_toArray, List.map_cons, List.map_nil]); first | done | rfl | (simp only [List.length_drop, List.length_take]; rfl)) ?_; (with_reducible refine (spec_DrawBothWays.calls k _ _ l0 t523 t524 _ ?side1 ?side2 A3.out).mono ?_); (case side1 => repeat (first | exact HR0.out | (with_reducible refine Kd.C_alloc ?_ _) | (with_reducible refine Kd.C_drewN ?_ _) | (with_reducible refine Kd.C_drew ?_))); (case side2 => exact HC0.out); rintro e w12 ⟨v525, rfl, ho0, hb⟩; refine ⟨_, rfl, ?_⟩; have n0_ := Aside0.mk (Kd.R_lower ho0 (below_size (by repeat (first | (with_reducible first | exact HB.out | apply below_alloc | apply pw_below_drewN | apply below_drew1) | exact HB.out)))); have n1_ := Aside0.mk (below_step (by repeat (first | (with_reducible first | exact HB.out | apply below_alloc | apply pw_below_drewN | apply below_drew1) | exact HB.out)) hb); clear HB; have HO526 := n0_; have HB := n1_; clear n0_ n1_; (try clear hb); (try clear hb2); (try clear hk); (try clear hi); (try clear ho0); obtain ⟨Ao13, co13, eo13⟩ := Kd.R_slice HO526.out; subst eo13) | ((with_reducible refine gate_callee (f := 29) rfl ?_); refine goesL_ (some 20) rfl rfl Try.func29 (by kernel_rfl) rfl #[.int .i64 t523, .slice Ao13 t524.length co13] rfl (by (try simp only [List.map_toArray, List.map_cons, List.map_nil]); first | done | rfl | (simp only [List.length_drop, List.length_take]; rfl)) ?_; (with_reducible refine (impl_BothWays.calls t523 _ _ t524 t527 _ ?side1 ?side2 A4.out).mono ?_); (case side1 => repeat (first | exact (Kd.R_reads' HO526.out).2.2 | (with_reducible refine Kd.C_alloc ?_ _) | (with_reducible refine Kd.C_drewN ?_ _) | (with_reducible refine Kd.C_drew ?_))); (case side2 => exact (Kd.R_reads' HO526.out).2.1); rintro e w14 ⟨rfl, hb⟩; refine ⟨_, rfl, ?_⟩; have n0_ := Aside0.mk (Kd.R_below (by (with_reducible repeat (first | apply Kd.R_alloc | apply Kd.R_drewN | apply Kd.R_drew)); exact HO526.out) hb); have n1_ := Aside0.mk (below_step (by repeat (first | (with_reducible first | exact HB.out | apply below_alloc | apply pw_below_drewN | apply below_drew1) | exact HB.out)) hb); clear HO526; clear HB; have HO526 := n0_; have HB := n1_; clear n0_ n1_; (try clear hb); (try clear hb2); (try clear hk); (try clear hi)) | ((with_reducible refine gate_callee (f := 30) rfl ?_); refine goesL_ (some 24) rfl rfl Try.func30 (by kernel_rfl) rfl #[.int .i64 t523, .slice Ao13 t524.length co13] rfl (by (try simp only [List.map_toArray, List.map_cons, List.map_nil]); first | done | rfl | (simp only [List.length_drop, List.length_take]; rfl)) ?_; (with_reducible refine (spec_BothWays.calls k t523 _ _ t524 t528 _ ?side1 ?side2 A5.out).mono ?_); (case side1 => repeat (first | exact (Kd.R_reads' HO526.out).2.2 | (with_reducible refine Kd.C_alloc ?_ _) | (with_reducible refine Kd.C_drewN ?_ _) | (with_reducible refine Kd.C_drew ?_))); (case side2 => exact (Kd.R_reads' HO526.out).2.1); rintro e w' ⟨rfl, ⟨nd, rfl⟩⟩; refine ⟨_, rfl, ?_⟩) | ((with_reducible refine gate_callee (f := 15) rfl ?_); refine goesL_ (some 28) rfl rfl Try.func15 (by kernel_rfl) rfl #[.int .i64 t523, .slice Ao13 t524.length co13] rfl (by (try simp only [List.map_toArray, List.map_cons, List.map_nil]); first | done | rfl | (simp only [List.length_drop, List.length_take]; rfl)) ?_; (with_reducible refine (impl_LooksInside.calls t523 _ _ t524 true _ ?side1 ?side2 A10.out).mono ?_); (case side1 => repeat (first | exact (Kd.R_reads' HO526.out).2.2 | (with_reducible refine Kd.C_alloc ?_ _) | (with_reducible refine Kd.C_drewN ?_ _) | (with_reducible refine Kd.C_drew ?_))); (case side2 => exact (Kd.R_reads' HO526.out).2.1); rintro e w15 ⟨rfl, hb⟩; refine ⟨_, rfl, ?_⟩; have n0_ := Aside0.mk (Kd.R_below (by (with_reducible repeat (first | apply Kd.R_alloc | apply Kd.R_drewN | apply Kd.R_drew)); exact HO526.out) hb); have n1_ := Aside0.mk (below_step (by repeat (first | (with_reducible first | exact HB.out | apply below_alloc | apply pw_below_drewN | apply below_drew1) | exact HB.out)) hb); clear HO526; clear HB; have HO526 := n0_; have HB := n1_; clear n0_ n1_; (try clear hb); (try clear hb2); (try clear hk); (try clear hi)))
    go_loopg [6, 7] k (fun kq v6 v7 w' => ∃ (x6_1 : Bool) (x7_1 : Int), v6 = .bool x6_1 ∧ v7 = .int .i64 x7_1 ∧ Aside0 (laws_FnBothWays.l0 kq t523 t524 t527 x6_1 x7_1 = some r) ∧ Aside0 (kq ≤ k) ∧ Aside0 (Kd.R (Kd.int .i64) 3 w' w.heap.size (fun _ => True) (.slice Ao13 t524.length co13) t524) ∧ Aside0 (Below w.heap.size w w'))
    case atStart => exact ⟨(true), (0), (by first | rfl | (simp; done) | (simp [*]; done)), (by first | rfl | (simp; done) | (simp [*]; done)), H', ⟨Nat.le_refl _⟩, ⟨by (with_reducible repeat (first | apply Kd.R_alloc | apply Kd.R_drewN | apply Kd.R_drew)); exact HO526.out⟩, ⟨by repeat (first | (with_reducible first | exact HB.out | apply below_alloc | apply pw_below_drewN | apply below_drew1) | exact HB.out)⟩⟩
    case round =>
     clear H'
     try clear c1
     try clear c2
     try clear c2b0
     try clear c2b1
     try clear p2
     try clear c3
     try clear c6
     try clear c6b0
     try clear c6b1
     try clear c6b2
     try clear c7
     try clear c11
     try clear c15
     obtain ⟨x6_1, x7_1, rfl, rfl, HA, HK1, HO_4, HB⟩ := hrel
     cases gk with
     | zero => exact absurd HA.out (by simp [laws_FnBothWays.l0])
     | succ k1 =>
      have H := HA.out
      clear HA
      simp only [laws_FnBothWays.l0] at H
      by_cases c16 : 0 ≤ t523
      ·rw [if_pos c16] at H
       have c16b0 := eq_true c16
       have c16b1 : decide (0 ≤ t523) = true := decide_eq_true c16
       clear c16
       obtain ⟨ji17, hji17⟩ : ∃ j_ : Int, (shl .i64 1 t523) = j_ := ⟨_, rfl⟩
       replace H : (if x7_1 < (ji17) then (laws_FnBothWays.l1 k1 t523 t524 t527 x6_1 x7_1 0) else (some (x6_1 == t527))) = some r := by first | (rw [hji17] at H; exact H) | (simp only [hji17] at H ⊢; exact H)
       have hji17_ : (IntKind.i64.wrap (1 * 2 ^ min t523.toNat 64)) = ji17 := hji17
       have hji17z : t523 ≤ 64 → (IntKind.i64.wrap (1 * 2 ^ t523.toNat)) = ji17 := shl_small hji17
       have hji17u : (IntKind.i64.wrap (2 ^ min t523.toNat 64)) = ji17 := by have h_ := hji17_; rw [Int.one_mul] at h_; exact h_
       have hji17v : t523 ≤ 64 → (IntKind.i64.wrap (2 ^ t523.toNat)) = ji17 := fun hle_ => by have h_ := hji17z hle_; rw [Int.one_mul] at h_; exact h_
       have hji17y : (wrap64 (1 * 2 ^ min t523.toNat 64)) = ji17 := (i64_w _).symm.trans hji17_
       have hji17x : t523 ≤ 64 → (wrap64 (1 * 2 ^ t523.toNat)) = ji17 := fun h_ => (i64_w _).symm.trans (hji17z h_)
       by_cases c18 : x7_1 < (ji17)
       ·rw [if_pos c18] at H
        have c18b0 : decide (x7_1 < (ji17)) = true := decide_eq_true c18
        clear c18
        have H' := Aside0.mk H
        clear H
        go_wp2
        go_loopg [6, 8] k1 (fun kq v6 v8 w' => ∃ (x6_2 : Bool) (x8_2 : Int), v6 = .bool x6_2 ∧ v8 = .int .i64 x8_2 ∧ Aside0 (laws_FnBothWays.l1 kq t523 t524 t527 x6_2 x7_1 x8_2 = some r) ∧ Aside0 (kq ≤ k1) ∧ Aside0 (Kd.R (Kd.int .i64) 3 w' w.heap.size (fun _ => True) (.slice Ao13 t524.length co13) t524) ∧ Aside0 (Below w.heap.size w w'))
        case atStart => exact ⟨(x6_1), (0), (by first | rfl | (simp; done) | (simp [*]; done)), (by first | rfl | (simp; done) | (simp [*]; done)), H', ⟨Nat.le_refl _⟩, ⟨by (with_reducible repeat (first | apply Kd.R_alloc | apply Kd.R_drewN | apply Kd.R_drew)); exact HO_4.out⟩, ⟨by repeat (first | (with_reducible first | exact HB.out | apply below_alloc | apply pw_below_drewN | apply below_drew1) | exact HB.out)⟩⟩
        case round =>
         clear H'
         try clear c1
         try clear c2
         try clear c2b0
         try clear c2b1
         try clear p2
         try clear c3
         try clear c6
         try clear c6b0
         try clear c6b1
         try clear c6b2
         try clear p6
         try clear c7
         try clear c11
         try clear c15
         try clear c16
         try clear c16b0
         try clear c16b1
         try clear c18
         try clear c18b0
         try clear p2
         obtain ⟨x6_2, x8_2, rfl, rfl, HA, HK2, HO_4, HB⟩ := hrel
         cases gk with
         | zero => exact absurd HA.out (by simp [laws_FnBothWays.l1])
         | succ k2 =>
          have H := HA.out
          clear HA
          simp only [laws_FnBothWays.l1] at H
          by_cases c19 : 0 ≤ t523
          ·rw [if_pos c19] at H
           have c19b0 := eq_true c19
           have c19b1 : decide (0 ≤ t523) = true := decide_eq_true c19
           clear c19
           replace H : (if x8_2 < (ji17) then ((laws_common.f k2 x7_1 x8_2).bind fun t531 => ((impl_HoldsOf.f k2 t523 t524 x7_1 x8_2).bind fun t532 => ((impl_HoldsOf.f k2 t523 t524 t531 t531).bind fun t533 => (if (t532 != t533) = true then (laws_FnBothWays.l1 k2 t523 t524 t527 false x7_1 (wrap64 (x8_2 + 1))) else (laws_FnBothWays.l1 k2 t523 t524 t527 x6_2 x7_1 (wrap64 (x8_2 + 1))))))) else (laws_FnBothWays.l0 k2 t523 t524 t527 x6_2 (wrap64 (x7_1 + 1)))) = some r := by first | exact H | (rw [hji17] at H; exact H) | (simp only [hji17] at H ⊢; exact H)
           by_cases c20 : x8_2 < (ji17)
           ·rw [if_pos c20] at H
            have c20b0 : decide (x8_2 < (ji17)) = true := decide_eq_true c20
            clear c20
            replace H := Option.bind_eq_some_iff.mp H
            obtain ⟨t531, A210, H⟩ := H
            replace H : ((impl_HoldsOf.f k2 t523 t524 x7_1 x8_2).bind fun t532 => ((impl_HoldsOf.f k2 t523 t524 t531 t531).bind fun t533 => (if (t532 != t533) = true then (laws_FnBothWays.l1 k2 t523 t524 t527 false x7_1 (wrap64 (x8_2 + 1))) else (laws_FnBothWays.l1 k2 t523 t524 t527 x6_2 x7_1 (wrap64 (x8_2 + 1)))))) = some r := H
            have A21 := Aside0.mk A210
            clear A210
            replace H := Option.bind_eq_some_iff.mp H
            obtain ⟨t532, A220, H⟩ := H
            replace H : ((impl_HoldsOf.f k2 t523 t524 t531 t531).bind fun t533 => (if (t532 != t533) = true then (laws_FnBothWays.l1 k2 t523 t524 t527 false x7_1 (wrap64 (x8_2 + 1))) else (laws_FnBothWays.l1 k2 t523 t524 t527 x6_2 x7_1 (wrap64 (x8_2 + 1))))) = some r := H
            have A22 := Aside0.mk A220
            clear A220
            replace H := Option.bind_eq_some_iff.mp H
            obtain ⟨t533, A230, H⟩ := H
            replace H : (if (t532 != t533) = true then (laws_FnBothWays.l1 k2 t523 t524 t527 false x7_1 (wrap64 (x8_2 + 1))) else (laws_FnBothWays.l1 k2 t523 t524 t527 x6_2 x7_1 (wrap64 (x8_2 + 1)))) = some r := H
            have A23 := Aside0.mk A230
            clear A230
            by_cases c24 : (t532 != t533) = true
            ·rw [if_pos c24] at H
             have c24b0 : (t532 != t533) = true := c24
             (try (have c24b1 : decide (t532 = t533) = false := by simpa using c24))
             (try (have c24b2 : (t532 == t533) = false := by simpa using c24))
             (try (have c24b3 : ¬ (t532 = t533) := by simpa using c24))
             clear c24
             have H' := Aside0.mk H
             clear H
             go_wp2_with (first | ((with_reducible refine gate_callee (f := 27) rfl ?_); refine goesL_ (some 45) rfl rfl Try.func27 (by kernel_rfl) rfl #[.int .i64 x7_1, .int .i64 x8_2] rfl (by (try simp only [List.map_toArray, List.map_cons, List.map_nil]); first | done | rfl | (simp only [List.length_drop, List.length_take]; rfl)) ?_; (with_reducible refine (laws_common.calls k2 x7_1 x8_2 t531 _ A21.out).mono ?_); rintro e w' ⟨rfl, ⟨nd, rfl⟩⟩; refine ⟨_, rfl, ?_⟩) | ((with_reducible refine gate_callee (f := 23) rfl ?_); refine goesL_ (some 50) rfl rfl Try.func23 (by kernel_rfl) rfl #[.int .i64 t523, .slice Ao13 t524.length co13, .int .i64 x7_1, .int .i64 x8_2] rfl (by (try simp only [List.map_toArray, List.map_cons, List.map_nil]); first | done | rfl | (simp only [List.length_drop, List.length_take]; rfl)) ?_; (with_reducible refine (impl_HoldsOf.calls k2 t523 _ _ t524 x7_1 x8_2 t532 _ ?side1 ?side2 A22.out).mono ?_); (case side1 => repeat (first | exact (Kd.R_reads' HO_4.out).2.2 | (with_reducible refine Kd.C_alloc ?_ _) | (with_reducible refine Kd.C_drewN ?_ _) | (with_reducible refine Kd.C_drew ?_))); (case side2 => exact (Kd.R_reads' HO_4.out).2.1); rintro e w' ⟨rfl, ⟨nd, rfl⟩⟩; refine ⟨_, rfl, ?_⟩) | ((with_reducible refine gate_callee (f := 23) rfl ?_); refine goesL_ (some 55) rfl rfl Try.func23 (by kernel_rfl) rfl #[.int .i64 t523, .slice Ao13 t524.length co13, .int .i64 t531, .int .i64 t531] rfl (by (try simp only [List.map_toArray, List.map_cons, List.map_nil]); first | done | rfl | (simp only [List.length_drop, List.length_take]; rfl)) ?_; (with_reducible refine (impl_HoldsOf.calls k2 t523 _ _ t524 t531 t531 t533 _ ?side1 ?side2 A23.out).mono ?_); (case side1 => repeat (first | exact (Kd.R_reads' HO_4.out).2.2 | (with_reducible refine Kd.C_alloc ?_ _) | (with_reducible refine Kd.C_drewN ?_ _) | (with_reducible refine Kd.C_drew ?_))); (case side2 => exact (Kd.R_reads' HO_4.out).2.1); rintro e w' ⟨rfl, ⟨nd, rfl⟩⟩; refine ⟨_, rfl, ?_⟩))
             go_roundg k2
             case measure => have := HK1.out; have := HK2.out; omega
             case rel => exact ⟨(false), (wrap64 (x8_2 + 1)), (by first | rfl | (simp; done) | (simp [*]; done)), (by first | rfl | (simp; done) | (simp [*]; done)), H', ⟨by have := HK1.out; have := HK2.out; omega⟩, ⟨by (with_reducible repeat (first | apply Kd.R_alloc | apply Kd.R_drewN | apply Kd.R_drew)); exact HO_4.out⟩, ⟨by repeat (first | (with_reducible first | exact HB.out | apply below_alloc | apply pw_below_drewN | apply below_drew1) | exact HB.out)⟩⟩
            ·rw [if_neg c24] at H
             have c24b0 : (t532 != t533) = false := by simpa using c24
             (try (have c24b1 : decide (t532 = t533) = true := by simpa using c24))
             (try (have c24b2 : (t532 == t533) = true := by simpa using c24))
             clear c24
             have H' := Aside0.mk H
             clear H
             go_wp2_with (first | ((with_reducible refine gate_callee (f := 27) rfl ?_); refine goesL_ (some 45) rfl rfl Try.func27 (by kernel_rfl) rfl #[.int .i64 x7_1, .int .i64 x8_2] rfl (by (try simp only [List.map_toArray, List.map_cons, List.map_nil]); first | done | rfl | (simp only [List.length_drop, List.length_take]; rfl)) ?_; (with_reducible refine (laws_common.calls k2 x7_1 x8_2 t531 _ A21.out).mono ?_); rintro e w' ⟨rfl, ⟨nd, rfl⟩⟩; refine ⟨_, rfl, ?_⟩) | ((with_reducible refine gate_callee (f := 23) rfl ?_); refine goesL_ (some 50) rfl rfl Try.func23 (by kernel_rfl) rfl #[.int .i64 t523, .slice Ao13 t524.length co13, .int .i64 x7_1, .int .i64 x8_2] rfl (by (try simp only [List.map_toArray, List.map_cons, List.map_nil]); first | done | rfl | (simp only [List.length_drop, List.length_take]; rfl)) ?_; (with_reducible refine (impl_HoldsOf.calls k2 t523 _ _ t524 x7_1 x8_2 t532 _ ?side1 ?side2 A22.out).mono ?_); (case side1 => repeat (first | exact (Kd.R_reads' HO_4.out).2.2 | (with_reducible refine Kd.C_alloc ?_ _) | (with_reducible refine Kd.C_drewN ?_ _) | (with_reducible refine Kd.C_drew ?_))); (case side2 => exact (Kd.R_reads' HO_4.out).2.1); rintro e w' ⟨rfl, ⟨nd, rfl⟩⟩; refine ⟨_, rfl, ?_⟩) | ((with_reducible refine gate_callee (f := 23) rfl ?_); refine goesL_ (some 55) rfl rfl Try.func23 (by kernel_rfl) rfl #[.int .i64 t523, .slice Ao13 t524.length co13, .int .i64 t531, .int .i64 t531] rfl (by (try simp only [List.map_toArray, List.map_cons, List.map_nil]); first | done | rfl | (simp only [List.length_drop, List.length_take]; rfl)) ?_; (with_reducible refine (impl_HoldsOf.calls k2 t523 _ _ t524 t531 t531 t533 _ ?side1 ?side2 A23.out).mono ?_); (case side1 => repeat (first | exact (Kd.R_reads' HO_4.out).2.2 | (with_reducible refine Kd.C_alloc ?_ _) | (with_reducible refine Kd.C_drewN ?_ _) | (with_reducible refine Kd.C_drew ?_))); (case side2 => exact (Kd.R_reads' HO_4.out).2.1); rintro e w' ⟨rfl, ⟨nd, rfl⟩⟩; refine ⟨_, rfl, ?_⟩))
             go_roundg k2
             case measure => have := HK1.out; have := HK2.out; omega
             case rel => exact ⟨(x6_2), (wrap64 (x8_2 + 1)), (by first | rfl | (simp; done) | (simp [*]; done)), (by first | rfl | (simp; done) | (simp [*]; done)), H', ⟨by have := HK1.out; have := HK2.out; omega⟩, ⟨by (with_reducible repeat (first | apply Kd.R_alloc | apply Kd.R_drewN | apply Kd.R_drew)); exact HO_4.out⟩, ⟨by repeat (first | (with_reducible first | exact HB.out | apply below_alloc | apply pw_below_drewN | apply below_drew1) | exact HB.out)⟩⟩
           ·rw [if_neg c20] at H
            have c20b0 : decide (x8_2 < (ji17)) = false := decide_eq_false c20
            clear c20
            have H' := Aside0.mk H
            clear H
            go_wp2
            go_roundg k2
            case measure => have := HK1.out; have := HK2.out; omega
            case rel => exact ⟨(x6_2), (wrap64 (x7_1 + 1)), (by first | rfl | (simp; done) | (simp [*]; done)), (by first | rfl | (simp; done) | (simp [*]; done)), H', ⟨by have := HK1.out; have := HK2.out; omega⟩, ⟨by (with_reducible repeat (first | apply Kd.R_alloc | apply Kd.R_drewN | apply Kd.R_drew)); exact HO_4.out⟩, ⟨by repeat (first | (with_reducible first | exact HB.out | apply below_alloc | apply pw_below_drewN | apply below_drew1) | exact HB.out)⟩⟩
          ·rw [if_neg c19] at H
           exact absurd H (by simp)
       ·rw [if_neg c18] at H
        have c18b0 : decide (x7_1 < (ji17)) = false := decide_eq_false c18
        clear c18
        obtain rfl := Option.some.inj H
        go_wp2
        go_ret
        exact ⟨by first | rfl | (simp [errW_none, errW_some] <;> rfl) | (simp only [← hji17]; first | rfl | (simp [errW_none, errW_some] <;> rfl)) | (simp [*, errW_none, errW_some] <;> rfl), by repeat (first | (with_reducible first | exact HB.out | apply below_alloc | apply pw_below_drewN | apply below_drew1) | exact HB.out)⟩
      ·rw [if_neg c16] at H
       exact absurd H (by simp)
   ·replace c11 := Bool.eq_false_iff.mpr c11
    subst c11
    have H1 : ((laws_alive.f).bind fun t530 => (some t530)) = some r := by rw [if_neg (show ¬ (false = true) by decide)] at H; exact H
    clear H
    have H := H1
    clear H1
    replace H := Option.bind_eq_some_iff.mp H
    obtain ⟨t530, A250, H⟩ := H
    replace H : (some t530) = some r := H
    have A25 := Aside0.mk A250
    clear A250
    obtain rfl := Option.some.inj H
    go_enter Try.func7, Try.ntmps7
    go_wp2_with (first | ((with_reducible refine gate_callee (f := 28) rfl ?_); refine goesL_ (some 15) rfl rfl Try.func28 (by kernel_rfl) rfl #[.slice A0 l0.length c0] rfl (by (try simp only [List.map_toArray, List.map_cons, List.map_nil]); first | done | rfl | (simp only [List.length_drop, List.length_take]; rfl)) ?_; (with_reducible refine (spec_DrawBothWays.calls k _ _ l0 t523 t524 _ ?side1 ?side2 A3.out).mono ?_); (case side1 => repeat (first | exact HR0.out | (with_reducible refine Kd.C_alloc ?_ _) | (with_reducible refine Kd.C_drewN ?_ _) | (with_reducible refine Kd.C_drew ?_))); (case side2 => exact HC0.out); rintro e w26 ⟨v525, rfl, ho0, hb⟩; refine ⟨_, rfl, ?_⟩; have n0_ := Aside0.mk (Kd.R_lower ho0 (below_size (by repeat (first | (with_reducible first | exact HB.out | apply below_alloc | apply pw_below_drewN | apply below_drew1) | exact HB.out)))); have n1_ := Aside0.mk (below_step (by repeat (first | (with_reducible first | exact HB.out | apply below_alloc | apply pw_below_drewN | apply below_drew1) | exact HB.out)) hb); clear HB; have HO526 := n0_; have HB := n1_; clear n0_ n1_; (try clear hb); (try clear hb2); (try clear hk); (try clear hi); (try clear ho0); obtain ⟨Ao27, co27, eo27⟩ := Kd.R_slice HO526.out; subst eo27) | ((with_reducible refine gate_callee (f := 29) rfl ?_); refine goesL_ (some 20) rfl rfl Try.func29 (by kernel_rfl) rfl #[.int .i64 t523, .slice Ao27 t524.length co27] rfl (by (try simp only [List.map_toArray, List.map_cons, List.map_nil]); first | done | rfl | (simp only [List.length_drop, List.length_take]; rfl)) ?_; (with_reducible refine (impl_BothWays.calls t523 _ _ t524 t527 _ ?side1 ?side2 A4.out).mono ?_); (case side1 => repeat (first | exact (Kd.R_reads' HO526.out).2.2 | (with_reducible refine Kd.C_alloc ?_ _) | (with_reducible refine Kd.C_drewN ?_ _) | (with_reducible refine Kd.C_drew ?_))); (case side2 => exact (Kd.R_reads' HO526.out).2.1); rintro e w28 ⟨rfl, hb⟩; refine ⟨_, rfl, ?_⟩; have n0_ := Aside0.mk (Kd.R_below (by (with_reducible repeat (first | apply Kd.R_alloc | apply Kd.R_drewN | apply Kd.R_drew)); exact HO526.out) hb); have n1_ := Aside0.mk (below_step (by repeat (first | (with_reducible first | exact HB.out | apply below_alloc | apply pw_below_drewN | apply below_drew1) | exact HB.out)) hb); clear HO526; clear HB; have HO526 := n0_; have HB := n1_; clear n0_ n1_; (try clear hb); (try clear hb2); (try clear hk); (try clear hi)) | ((with_reducible refine gate_callee (f := 30) rfl ?_); refine goesL_ (some 24) rfl rfl Try.func30 (by kernel_rfl) rfl #[.int .i64 t523, .slice Ao27 t524.length co27] rfl (by (try simp only [List.map_toArray, List.map_cons, List.map_nil]); first | done | rfl | (simp only [List.length_drop, List.length_take]; rfl)) ?_; (with_reducible refine (spec_BothWays.calls k t523 _ _ t524 t528 _ ?side1 ?side2 A5.out).mono ?_); (case side1 => repeat (first | exact (Kd.R_reads' HO526.out).2.2 | (with_reducible refine Kd.C_alloc ?_ _) | (with_reducible refine Kd.C_drewN ?_ _) | (with_reducible refine Kd.C_drew ?_))); (case side2 => exact (Kd.R_reads' HO526.out).2.1); rintro e w' ⟨rfl, ⟨nd, rfl⟩⟩; refine ⟨_, rfl, ?_⟩) | ((with_reducible refine gate_callee (f := 15) rfl ?_); refine goesL_ (some 28) rfl rfl Try.func15 (by kernel_rfl) rfl #[.int .i64 t523, .slice Ao27 t524.length co27] rfl (by (try simp only [List.map_toArray, List.map_cons, List.map_nil]); first | done | rfl | (simp only [List.length_drop, List.length_take]; rfl)) ?_; (with_reducible refine (impl_LooksInside.calls t523 _ _ t524 false _ ?side1 ?side2 A10.out).mono ?_); (case side1 => repeat (first | exact (Kd.R_reads' HO526.out).2.2 | (with_reducible refine Kd.C_alloc ?_ _) | (with_reducible refine Kd.C_drewN ?_ _) | (with_reducible refine Kd.C_drew ?_))); (case side2 => exact (Kd.R_reads' HO526.out).2.1); rintro e w29 ⟨rfl, hb⟩; refine ⟨_, rfl, ?_⟩; have n0_ := Aside0.mk (Kd.R_below (by (with_reducible repeat (first | apply Kd.R_alloc | apply Kd.R_drewN | apply Kd.R_drew)); exact HO526.out) hb); have n1_ := Aside0.mk (below_step (by repeat (first | (with_reducible first | exact HB.out | apply below_alloc | apply pw_below_drewN | apply below_drew1) | exact HB.out)) hb); clear HO526; clear HB; have HO526 := n0_; have HB := n1_; clear n0_ n1_; (try clear hb); (try clear hb2); (try clear hk); (try clear hi)) | ((with_reducible refine gate_callee (f := 17) rfl ?_); refine goesL_ (some 30) rfl rfl Try.func17 (by kernel_rfl) rfl #[] rfl (by (try simp only [List.map_toArray, List.map_cons, List.map_nil]); first | done | rfl | (simp only [List.length_drop, List.length_take]; rfl)) ?_; (with_reducible refine (laws_alive.calls  t530 _ A25.out).mono ?_); rintro e w' ⟨rfl, ⟨nd, rfl⟩⟩; refine ⟨_, rfl, ?_⟩))
    go_ret
    exact ⟨by first | rfl | (simp [errW_none, errW_some] <;> rfl) | (simp [*, errW_none, errW_some] <;> rfl), by repeat (first | (with_reducible first | exact HB.out | apply below_alloc | apply pw_below_drewN | apply below_drew1) | exact HB.out)⟩
/-- THE ONE PURE STATEMENT of laws_FnBothWays: yours. -/
def laws_FnBothWays.Pure : Prop := ∀ (l0 : List Int), l0.length ≤ maxLen → l0.length * 1 ≤ 140737488351232 → (∀ x ∈ l0, (Lit.int .u8 x).wf = true) → ∃ k, laws_FnBothWays.f k l0 = some true
theorem laws_FnBothWays.walk (P : laws_FnBothWays.Pure) (a0 : Option Addr) (len0 cap0 : Nat) (z0 : List Int) (w : World) (w0 : (a0 = none ∧ len0 = 0 ∧ cap0 = 0 ∧ z0 = []) ∨ ∃ x, a0 = some x ∧ len0 ≤ cap0 ∧ cap0 ≤ maxLen ∧ z0.length = cap0 ∧ (∀ i, i < z0.length → w.cell? (x.add i) = some (.int .u8 (z0.getD i 0))) ∧ ∀ n ∈ z0, (Lit.int .u8 n).wf = true) (y0 : len0 * 1 ≤ 140737488351232) :
  Calls Try.prog 7 #[.slice a0 len0 cap0] w fun e w' => e = .returned (.bool true) ∧ Below w.heap.size w w' := by
 obtain ⟨l0, rfl, hr0, hm0, hw0, hc0⟩ := ReadsInt.ofRowC w0
 obtain ⟨k, h⟩ := P l0 hm0 y0 hw0
 refine (laws_FnBothWays.calls k _ _ l0 true w (Kd.C_of_reads (d := (0 : Int)) (h1 := fun _ => rfl) hr0) hc0 h).mono ?_
 rintro e w' ⟨rfl, hd⟩
 exact ⟨rfl, hd⟩
end Go.Proofs.Ytcongmckkjbhiaa.P
/- Plain facts on the helpers of the laws (toIntS, eqIntS, markIntS, heldIntS) for lists of at most 2^20 numbers, with enough rounds. -/
namespace Go.Proofs.Ytcongmckkjbhiaa.P
open Go.RowKit Go.Proofs.YtcongmckkjbhiaaW.PrintWords Go.Proofs.YtcongmckkjbhiaaW.PrintLast
theorem wrap_succ (i n : Nat) (h : i < n) (hn : n ≤ 1048576) : wrap64 ((i : Int) + 1) = ((i + 1 : Nat) : Int) := by unfold wrap64; omega
theorem rd_get (l : List Int) (i : Nat) (h : i < l.length) : rd l (i : Int) = l[i] := by simp [rd, List.getD_eq_getElem?_getD, List.getElem?_eq_getElem h]
/- Plain facts on relations: what the reference's RelationOk and the program's isRelation come to, indexes, entries. No condition beyond those typed. -/
theorem l1In_eqR (n a b : Int) : spec_l1In.f n a b = some (decide (a ≤ n ∧ n ≤ b)) := by
 unfold spec_l1In.f
 by_cases h : n ≥ a
 ·rw [if_pos h]; congr 1; rw [decide_eq_decide]; omega
 ·rw [if_neg h]; congr 1; symm; rw [decide_eq_false_iff_not]; omega
theorem shl_four (t : Int) (h1 : 0 ≤ t) (h2 : t ≤ 3) : shl .i64 1 (wrap64 (2 * t)) = ((4 ^ t.toNat : Nat) : Int) := by
 rcases three t h1 h2 with rfl | rfl | rfl | rfl <;> decide +kernel
theorem spec_RelationOk_round (t : Int) (l : List Int) (hl : l.length ≤ 1048576) (d : Nat) : ∀ (k i : Nat), i + d = l.length → d < k → spec_RelationOk.l0 k t l (i : Int) = some ((l.drop i).all (fun x => x == 0 || x == 1) && (decide (0 ≤ t ∧ t ≤ 3) && l.length == 4 ^ t.toNat)) := by
 induction d with
 | zero =>
  intro k i h hk
  obtain ⟨k, rfl⟩ : ∃ m, k = m + 1 := ⟨k - 1, by omega⟩
  simp only [spec_RelationOk.l0]
  rw [if_neg (by omega), List.drop_of_length_le (by omega), List.all_nil, Bool.true_and, l1In_eqR, Option.bind_some]
  by_cases h3 : 0 ≤ t ∧ t ≤ 3
  ·rw [if_pos (decide_eq_true h3), decide_eq_true h3, Bool.true_and, shl_four t h3.1 h3.2, if_pos (by unfold wrap64; omega)]
   congr 1
   rw [Bool.eq_iff_iff, beq_iff_eq, beq_iff_eq]
   omega
  ·rw [if_neg (by rw [decide_eq_true_eq]; exact h3), decide_eq_false h3, Bool.false_and]
 | succ d ih =>
  intro k i h hk
  obtain ⟨k, rfl⟩ : ∃ m, k = m + 1 := ⟨k - 1, by omega⟩
  have hi : i < l.length := by omega
  have hd_ : l.drop i = l[i] :: l.drop (i + 1) := List.drop_eq_getElem_cons hi
  simp only [spec_RelationOk.l0]
  rw [if_pos (by omega), if_pos (by omega), rd_get l i hi, l1In_eqR, Option.bind_some, wrap_succ i l.length hi hl, ih k (i + 1) (by omega) (by omega), hd_, List.all_cons]
  by_cases h0 : l[i] = 0 ∨ l[i] = 1
  ·rw [if_pos (decide_eq_true (by omega)), show (l[i] == 0 || l[i] == 1) = true from by simpa using h0, Bool.true_and]
  ·rw [if_neg (by rw [decide_eq_true_eq]; omega), show (l[i] == 0 || l[i] == 1) = false from by simpa using h0, Bool.false_and, Bool.false_and]
theorem spec_RelationOk_k (t : Int) (l : List Int) (hl : l.length ≤ 1048576) (k : Nat) (hk : 1048600 ≤ k) : spec_RelationOk.f k t l = some (isRel t l) := by
 unfold spec_RelationOk.f isRel
 have h := spec_RelationOk_round t l hl l.length k 0 (by omega) (by omega)
 rw [List.drop_zero] at h
 refine Eq.trans h ?_
 congr 1
 cases decide (0 ≤ t ∧ t ≤ 3) <;> cases l.length == 4 ^ t.toNat <;> cases l.all (fun x => x == 0 || x == 1) <;> rfl
theorem impl_isRelation_k (t : Int) (l : List Int) (hl : l.length ≤ 1048576) (k : Nat) (hk : 1048600 ≤ k) : impl_isRelation.f k t l = some (isRel t l) := isRelation_k t l (by omega) k (by omega)
theorem shl_one (t : Int) (h1 : 0 ≤ t) (h2 : t ≤ 3) : shl .i64 1 t = pw t := by
 rw [shl_at 1 t h1 h2 (by omega) (by omega), Int.one_mul]
theorem idx_wrap (t a b : Int) (h1 : 0 ≤ t) (h2 : t ≤ 3) (h3 : 0 ≤ a) (h4 : a < pw t) (h5 : 0 ≤ b) (h6 : b < pw t) : wrap64 (shl .i64 a t + b) = a * pw t + b := by
 have hp := pw_range t h1 h2
 have hi := index_range t a b h1 h2 h3 h4 h5 h6
 rw [shl_at a t h1 h2 h3 (by omega)]
 unfold wrap64
 omega
/-! What is asked for all two sets. -/
theorem rel_bit (t : Int) (l : List Int) (h : isRel t l = true) (i : Int) : rd l i = 0 ∨ rd l i = 1 := by
 unfold rd
 rw [List.getD_eq_getElem?_getD]
 by_cases hi : i.toNat < l.length
 ·rw [List.getElem?_eq_getElem hi, Option.getD_some]
  simp only [isRel, Bool.and_eq_true, List.all_eq_true] at h
  have := h.2.2 _ (List.getElem_mem hi)
  simpa using this
 ·rw [List.getElem?_eq_none (by omega)]
  exact .inl rfl
theorem rel_same (t : Int) (l : List Int) (h : isRel t l = true) (a b c d : Int) : (rd l (a * pw t + b) = rd l (c * pw t + d)) ↔ (hr t l a b == hr t l c d) = true := by
 unfold hr
 rcases rel_bit t l h (a * pw t + b) with e | e <;> rcases rel_bit t l h (c * pw t + d) with f | f <;> rw [e, f] <;> decide
theorem pw_nat (t : Int) (h1 : 0 ≤ t) (h2 : t ≤ 3) : ∃ B : Nat, pw t = (B : Int) ∧ B ≤ 8 ∧ 2 ^ t.toNat = B := by
 refine ⟨2 ^ t.toNat, ?_, ?_, rfl⟩
 ·unfold pw; simp
 ·rcases three t h1 h2 with rfl | rfl | rfl | rfl <;> decide
theorem forAll_range (t : Int) (B : Nat) (hB : 2 ^ t.toNat = B) (so : Int → Int → Bool) : ((List.range' 0 B).all fun (a : Nat) => (List.range' 0 B).all fun (b : Nat) => so a b) = forAllP t so := by
 unfold forAllP
 rw [hB, List.range_eq_range']
end Go.Proofs.Ytcongmckkjbhiaa.P
