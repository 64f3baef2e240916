-- Texts of this claim, laid one behind the other by wip/gen/merge.py.
import Derived.Test.YtcongmckkjbhiaaZFnRelationFrom0
import Derived.Test.YtcongmckkjbhiaaZFnRelationFrom12
import Derived.Test.YtcongmckkjbhiaaZFnRelationFrom1
namespace Go.Proofs.Ytcongmckkjbhiaa.P
open Go.RowKit Go.Proofs.YtcongmckkjbhiaaW.PrintWords Go.Proofs.YtcongmckkjbhiaaW.PrintLast Go.Proofs.YtcongmckkjbhiaaW.PrintMore
attribute [local go_sem] max2_int min2_int max_two min_two max_three min_three max_four min_four
set_option linter.unusedVariables false
set_option linter.unusedSimpArgs false
/-! ### spec_RelationOk: function 21 -/
def spec_RelationOk.l0 : Nat → Int → List Int → Int → Option (Bool)
 | 0, _, _, _ => none
 | k + 1, x0, x1, x5 => if x5 < (x1.length : Int) then (if 0 ≤ x5 then ((spec_l1In.f (rd x1 x5) 0 1).bind fun t350 => (if t350 = true then (spec_RelationOk.l0 k x0 x1 (wrap64 (x5 + 1))) else (some false))) else (none)) else ((spec_l1In.f x0 0 3).bind fun t351 => (if t351 = true then (if 0 ≤ (wrap64 (2 * x0)) then (some ((x1.length : Int) == (shl .i64 1 (wrap64 (2 * x0))))) else (none)) else (some false)))
def spec_RelationOk.f (k : Nat) (a0 : Int) (l1 : List Int) : Option (Bool) := spec_RelationOk.l0 k a0 l1 0
theorem spec_RelationOk.mono_l : ∀ k, (∀ y0 y1 y2, LeO (spec_RelationOk.l0 k y0 y1 y2) (spec_RelationOk.l0 (k + 1) y0 y1 y2))
 | 0 => fun _ _ _ r h => by simp [spec_RelationOk.l0] at h
 | k + 1 => by
  have ih0 := spec_RelationOk.mono_l k
  ·intro y0 y1 y2
   unfold spec_RelationOk.l0
   repeat' first
   | (with_reducible exact ih0 _ _ _)
   | (with_reducible exact LeO.refl _)
   | (with_reducible exact LeO.none _)
   | (with_reducible refine LeO.ite ?_ ?_)
   | (with_reducible refine LeO.bind ?_ (fun _ => ?_))
theorem spec_RelationOk.mono : ∀ a0 a1 k, LeO (spec_RelationOk.f k a0 a1) (spec_RelationOk.f (k + 1) a0 a1) := by
 intro a0 a1 k
 have ih0 := spec_RelationOk.mono_l k
 unfold spec_RelationOk.f
 repeat' first
   | (with_reducible exact ih0 _ _ _)
   | (with_reducible exact LeO.refl _)
   | (with_reducible exact LeO.none _)
   | (with_reducible refine LeO.ite ?_ ?_)
   | (with_reducible refine LeO.bind ?_ (fun _ => ?_))
set_option maxHeartbeats 8000000 in
set_option maxRecDepth 100000 in
theorem spec_RelationOk.calls (k : Nat) (a0 : Int) (A1 : Option Addr) (c1 : Nat) (l1 : List Int) (r : Bool) (w : World) (hr1 : Kd.C (Kd.int .i64) w A1 l1.length l1) (hc1 : l1.length ≤ c1) (h : spec_RelationOk.f k a0 l1 = some r) :
  Calls Try.prog 21 #[.int .i64 a0, .slice A1 l1.length c1] w fun e w' => e = .returned (.bool r) ∧ Drawn0 w w' := by
 have HR1 := Aside0.mk hr1
 have HC1 := Aside0.mk hc1
 clear hr1 hc1
 have H : (spec_RelationOk.l0 k a0 l1 0) = some r := h
 clear h
 have H' := Aside0.mk H
 clear H
 go_enter Try.func21, Try.ntmps21
 go_wp2
 go_loopg [5] k (fun kq v5 w' => ∃ (x5_1 : Int), v5 = .int .i64 x5_1 ∧ Aside0 (spec_RelationOk.l0 kq a0 l1 x5_1 = some r) ∧ Aside0 (kq ≤ k) ∧ Drawn0 w w')
 case atStart => exact ⟨(0), (by first | rfl | (simp; done) | (simp [*]; done)), H', ⟨Nat.le_refl _⟩, by repeat (first | exact Drawn0.refl _ | apply Drawn0.step)⟩
 case round =>
  clear H'
  try clear c1
  try clear c2
  try clear p2
  obtain ⟨x5_1, rfl, HA, HK1, ⟨m1, rfl⟩⟩ := hrel
  cases gk with
  | zero => exact absurd HA.out (by simp [spec_RelationOk.l0])
  | succ k1 =>
   have H := HA.out
   clear HA
   simp only [spec_RelationOk.l0] at H
   by_cases c3 : x5_1 < (l1.length : Int)
   ·rw [if_pos c3] at H
    have c3b0 : decide (x5_1 < (l1.length : Int)) = true := decide_eq_true c3
    clear c3
    by_cases c4 : 0 ≤ x5_1
    ·rw [if_pos c4] at H
     have c4b0 : decide (0 ≤ x5_1) = true := decide_eq_true c4
     clear c4
     replace H := Option.bind_eq_some_iff.mp H
     obtain ⟨t350, A50, H⟩ := H
     replace H : (if t350 = true then (spec_RelationOk.l0 k1 a0 l1 (wrap64 (x5_1 + 1))) else (some false)) = some r := H
     have A5 := Aside0.mk A50
     clear A50
     by_cases c6 : t350 = true
     ·subst c6
      have H1 : (spec_RelationOk.l0 k1 a0 l1 (wrap64 (x5_1 + 1))) = some r := by rw [if_pos rfl] at H; exact H
      clear H
      have H := H1
      clear H1
      have H' := Aside0.mk H
      clear H
      have p349 : 0 ≤ (x5_1 : Int) := of_decide_eq_true (by first | (with_reducible assumption) | assumption)
      have q349 : x5_1 < (l1.length : Int) := of_decide_eq_true (by first | (with_reducible assumption) | assumption)
      obtain ⟨ad349, e349, hx349_0⟩ := Kd.at_int HR1.out x5_1 p349 q349
      cases e349
      replace p349 := eq_true p349
      replace q349 := eq_true q349
      go_wp2_with (first | ((with_reducible refine gate_callee (f := 52) rfl ?_); refine goesL_ (some 16) rfl rfl Try.func52 (by kernel_rfl) rfl #[.int .i64 (rd l1 x5_1), .int .i64 0, .int .i64 1] rfl (by (try simp only [List.map_toArray, List.map_cons, List.map_nil]); first | done | rfl | (simp only [List.length_drop, List.length_take]; rfl)) ?_; (with_reducible refine (spec_l1In.calls (rd l1 x5_1) 0 1 true _ A5.out).mono ?_); rintro e w' ⟨rfl, ⟨nd, rfl⟩⟩; refine ⟨_, rfl, ?_⟩))
      go_roundg k1
      case measure => have := HK1.out; omega
      case rel => exact ⟨(wrap64 (x5_1 + 1)), (by first | rfl | (simp; done) | (simp [*]; done)), H', ⟨by have := HK1.out; omega⟩, by repeat (first | exact Drawn0.refl _ | apply Drawn0.step)⟩
     ·replace c6 := Bool.eq_false_iff.mpr c6
      subst c6
      have H1 : (some false) = some r := by rw [if_neg (show ¬ (false = true) by decide)] at H; exact H
      clear H
      have H := H1
      clear H1
      obtain rfl := Option.some.inj H
      have p349 : 0 ≤ (x5_1 : Int) := of_decide_eq_true (by first | (with_reducible assumption) | assumption)
      have q349 : x5_1 < (l1.length : Int) := of_decide_eq_true (by first | (with_reducible assumption) | assumption)
      obtain ⟨ad349, e349, hx349_0⟩ := Kd.at_int HR1.out x5_1 p349 q349
      cases e349
      replace p349 := eq_true p349
      replace q349 := eq_true q349
      go_wp2_with (first | ((with_reducible refine gate_callee (f := 52) rfl ?_); refine goesL_ (some 16) rfl rfl Try.func52 (by kernel_rfl) rfl #[.int .i64 (rd l1 x5_1), .int .i64 0, .int .i64 1] rfl (by (try simp only [List.map_toArray, List.map_cons, List.map_nil]); first | done | rfl | (simp only [List.length_drop, List.length_take]; rfl)) ?_; (with_reducible refine (spec_l1In.calls (rd l1 x5_1) 0 1 false _ A5.out).mono ?_); rintro e w' ⟨rfl, ⟨nd, rfl⟩⟩; refine ⟨_, rfl, ?_⟩))
      go_ret
      exact ⟨by first | rfl | (simp; done) | (simp [*]; done), by repeat (first | exact Drawn0.refl _ | apply Drawn0.step)⟩
    ·rw [if_neg c4] at H
     exact absurd H (by simp)
   ·rw [if_neg c3] at H
    have c3b0 : decide (x5_1 < (l1.length : Int)) = false := decide_eq_false c3
    clear c3
    replace H := Option.bind_eq_some_iff.mp H
    obtain ⟨t351, A70, H⟩ := H
    replace H : (if t351 = true then (if 0 ≤ (wrap64 (2 * a0)) then (some ((l1.length : Int) == (shl .i64 1 (wrap64 (2 * a0))))) else (none)) else (some false)) = some r := H
    have A7 := Aside0.mk A70
    clear A70
    by_cases c8 : t351 = true
    ·subst c8
     have H1 : (if 0 ≤ (wrap64 (2 * a0)) then (some ((l1.length : Int) == (shl .i64 1 (wrap64 (2 * a0))))) else (none)) = some r := by rw [if_pos rfl] at H; exact H
     clear H
     have H := H1
     clear H1
     obtain ⟨ji9, hji9⟩ : ∃ j_ : Int, (wrap64 (2 * a0)) = j_ := ⟨_, rfl⟩
     replace H : (if 0 ≤ (ji9) then (some ((l1.length : Int) == (shl .i64 1 (ji9)))) else (none)) = some r := by first | (rw [hji9] at H; exact H) | (simp only [hji9] at H ⊢; exact H)
     (try rw [hji9] at A7)
     have hji9w : (IntKind.i64.wrap (2 * a0)) = ji9 := (i64_w _).trans hji9
     by_cases c10 : 0 ≤ (ji9)
     ·rw [if_pos c10] at H
      have c10b0 := eq_true c10
      have c10b1 : decide (0 ≤ (ji9)) = true := decide_eq_true c10
      clear c10
      obtain ⟨ji11, hji11⟩ : ∃ j_ : Int, (shl .i64 1 (ji9)) = j_ := ⟨_, rfl⟩
      replace H : (some ((l1.length : Int) == (ji11))) = some r := by first | (rw [hji11] at H; exact H) | (simp only [hji11] at H ⊢; exact H)
      (try rw [hji11] at A7)
      have hji11_ : (IntKind.i64.wrap (1 * 2 ^ min (ji9).toNat 64)) = ji11 := hji11
      have hji11z : (ji9) ≤ 64 → (IntKind.i64.wrap (1 * 2 ^ (ji9).toNat)) = ji11 := shl_small hji11
      have hji11u : (IntKind.i64.wrap (2 ^ min (ji9).toNat 64)) = ji11 := by have h_ := hji11_; rw [Int.one_mul] at h_; exact h_
      have hji11v : (ji9) ≤ 64 → (IntKind.i64.wrap (2 ^ (ji9).toNat)) = ji11 := fun hle_ => by have h_ := hji11z hle_; rw [Int.one_mul] at h_; exact h_
      have hji11y : (wrap64 (1 * 2 ^ min (ji9).toNat 64)) = ji11 := (i64_w _).symm.trans hji11_
      have hji11x : (ji9) ≤ 64 → (wrap64 (1 * 2 ^ (ji9).toNat)) = ji11 := fun h_ => (i64_w _).symm.trans (hji11z h_)
      obtain rfl := Option.some.inj H
      go_wp2_with (first | ((with_reducible refine gate_callee (f := 52) rfl ?_); refine goesL_ (some 19) rfl rfl Try.func52 (by kernel_rfl) rfl #[.int .i64 a0, .int .i64 0, .int .i64 3] rfl (by (try simp only [List.map_toArray, List.map_cons, List.map_nil]); first | done | rfl | (simp only [List.length_drop, List.length_take]; rfl)) ?_; (with_reducible refine (spec_l1In.calls a0 0 3 true _ A7.out).mono ?_); rintro e w' ⟨rfl, ⟨nd, rfl⟩⟩; refine ⟨_, rfl, ?_⟩))
      go_ret
      exact ⟨by first | rfl | (simp; done) | (simp only [← hji9, ← hji11] <;> (first | rfl | simp)) | (simp [*]; done), by repeat (first | exact Drawn0.refl _ | apply Drawn0.step)⟩
     ·rw [if_neg c10] at H
      exact absurd H (by simp)
    ·replace c8 := Bool.eq_false_iff.mpr c8
     subst c8
     have H1 : (some false) = some r := by rw [if_neg (show ¬ (false = true) by decide)] at H; exact H
     clear H
     have H := H1
     clear H1
     obtain rfl := Option.some.inj H
     go_wp2_with (first | ((with_reducible refine gate_callee (f := 52) rfl ?_); refine goesL_ (some 19) rfl rfl Try.func52 (by kernel_rfl) rfl #[.int .i64 a0, .int .i64 0, .int .i64 3] rfl (by (try simp only [List.map_toArray, List.map_cons, List.map_nil]); first | done | rfl | (simp only [List.length_drop, List.length_take]; rfl)) ?_; (with_reducible refine (spec_l1In.calls a0 0 3 false _ A7.out).mono ?_); rintro e w' ⟨rfl, ⟨nd, rfl⟩⟩; refine ⟨_, rfl, ?_⟩))
     go_ret
     exact ⟨by first | rfl | (simp; done) | (simp [*]; done), by repeat (first | exact Drawn0.refl _ | apply Drawn0.step)⟩
end Go.Proofs.Ytcongmckkjbhiaa.P
/- Plain facts on relations: what the reference's RelationOk and the program's isRelation come to, indexes, entries. No condition beyond those typed. -/
namespace Go.Proofs.Ytcongmckkjbhiaa.P
open Go.RowKit Go.Proofs.YtcongmckkjbhiaaW.PrintWords Go.Proofs.YtcongmckkjbhiaaW.PrintLast
theorem impl_isRelation_k (t : Int) (l : List Int) (hl : l.length ≤ 1048576) (k : Nat) (hk : 1048600 ≤ k) : impl_isRelation.f k t l = some (isRel t l) := isRelation_k t l (by omega) k (by omega)
theorem idx_wrap (t a b : Int) (h1 : 0 ≤ t) (h2 : t ≤ 3) (h3 : 0 ≤ a) (h4 : a < pw t) (h5 : 0 ≤ b) (h6 : b < pw t) : wrap64 (shl .i64 a t + b) = a * pw t + b := by
 have hp := pw_range t h1 h2
 have hi := index_range t a b h1 h2 h3 h4 h5 h6
 rw [shl_at a t h1 h2 h3 (by omega)]
 unfold wrap64
 omega
/-! What is asked for all two sets. -/
theorem pw_nat (t : Int) (h1 : 0 ≤ t) (h2 : t ≤ 3) : ∃ B : Nat, pw t = (B : Int) ∧ B ≤ 8 ∧ 2 ^ t.toNat = B := by
 refine ⟨2 ^ t.toNat, ?_, ?_, rfl⟩
 ·unfold pw; simp
 ·rcases three t h1 h2 with rfl | rfl | rfl | rfl <;> decide
end Go.Proofs.Ytcongmckkjbhiaa.P
namespace Go.Proofs.Ytcongmckkjbhiaa.P
open Go.RowKit Go.Proofs.YtcongmckkjbhiaaW.PrintWords Go.Proofs.YtcongmckkjbhiaaW.PrintLast Go.Proofs.YtcongmckkjbhiaaW.PrintMore
attribute [local go_sem] max2_int min2_int max_two min_two max_three min_three max_four min_four
set_option linter.unusedVariables false
set_option linter.unusedSimpArgs false
/-! ### spec_l2Swap: function 57 -/
def spec_l2Swap.f (a0 : Int) (a1 : Int) (a2 : Int) : Option (Int) := if 0 ≤ a1 then (if 0 ≤ a2 then (some (wrap64 ((wrap64 (a0 + (shl .i64 (wrap64 ((Int.tmod (shr .i64 a0 a2) 2) - (Int.tmod (shr .i64 a0 a1) 2))) a1))) + (shl .i64 (wrap64 ((Int.tmod (shr .i64 a0 a1) 2) - (Int.tmod (shr .i64 a0 a2) 2))) a2)))) else (none)) else (none)
set_option maxHeartbeats 8000000 in
set_option maxRecDepth 100000 in
theorem spec_l2Swap.calls (a0 : Int) (a1 : Int) (a2 : Int) (r : Int) (w : World) (h : spec_l2Swap.f a0 a1 a2 = some r) :
  Calls Try.prog 57 #[.int .i64 a0, .int .i64 a1, .int .i64 a2] w fun e w' => e = .returned (.int .i64 r) ∧ Drawn0 w w' := by
 have H : (if 0 ≤ a1 then (if 0 ≤ a2 then (some (wrap64 ((wrap64 (a0 + (shl .i64 (wrap64 ((Int.tmod (shr .i64 a0 a2) 2) - (Int.tmod (shr .i64 a0 a1) 2))) a1))) + (shl .i64 (wrap64 ((Int.tmod (shr .i64 a0 a1) 2) - (Int.tmod (shr .i64 a0 a2) 2))) a2)))) else (none)) else (none)) = some r := h
 clear h
 by_cases c4 : 0 ≤ a1
 ·rw [if_pos c4] at H
  have c4b0 := eq_true c4
  have c4b1 : decide (0 ≤ a1) = true := decide_eq_true c4
  clear c4
  obtain ⟨ji5, hji5⟩ : ∃ j_ : Int, (shr .i64 a0 a1) = j_ := ⟨_, rfl⟩
  replace H : (if 0 ≤ a2 then (some (wrap64 ((wrap64 (a0 + (shl .i64 (wrap64 ((Int.tmod (shr .i64 a0 a2) 2) - (Int.tmod (ji5) 2))) a1))) + (shl .i64 (wrap64 ((Int.tmod (ji5) 2) - (Int.tmod (shr .i64 a0 a2) 2))) a2)))) else (none)) = some r := by first | (rw [hji5] at H; exact H) | (simp only [hji5] at H ⊢; exact H)
  have hji5_ : (a0 / 2 ^ min a1.toNat 64) = ji5 := hji5
  have hji5z : a1 ≤ 64 → (a0 / 2 ^ a1.toNat) = ji5 := shr_small hji5
  by_cases c6 : 0 ≤ a2
  ·rw [if_pos c6] at H
   have c6b0 := eq_true c6
   have c6b1 : decide (0 ≤ a2) = true := decide_eq_true c6
   clear c6
   obtain ⟨ji7, hji7⟩ : ∃ j_ : Int, (shr .i64 a0 a2) = j_ := ⟨_, rfl⟩
   replace H : (some (wrap64 ((wrap64 (a0 + (shl .i64 (wrap64 ((Int.tmod (ji7) 2) - (Int.tmod (ji5) 2))) a1))) + (shl .i64 (wrap64 ((Int.tmod (ji5) 2) - (Int.tmod (ji7) 2))) a2)))) = some r := by first | (rw [hji7] at H; exact H) | (simp only [hji7] at H ⊢; exact H)
   have hji7_ : (a0 / 2 ^ min a2.toNat 64) = ji7 := hji7
   have hji7z : a2 ≤ 64 → (a0 / 2 ^ a2.toNat) = ji7 := shr_small hji7
   have c8b0 := eq_true (of_decide_eq_true (by first | (with_reducible assumption) | assumption) : 0 ≤ a1)
   obtain ⟨ji9, hji9⟩ : ∃ j_ : Int, (shl .i64 (wrap64 ((Int.tmod (ji7) 2) - (Int.tmod (ji5) 2))) a1) = j_ := ⟨_, rfl⟩
   replace H : (some (wrap64 ((wrap64 (a0 + (ji9))) + (shl .i64 (wrap64 ((Int.tmod (ji5) 2) - (Int.tmod (ji7) 2))) a2)))) = some r := by first | (rw [hji9] at H; exact H) | (simp only [hji9] at H ⊢; exact H)
   have hji9_ : (IntKind.i64.wrap ((wrap64 ((Int.tmod (ji7) 2) - (Int.tmod (ji5) 2))) * 2 ^ min a1.toNat 64)) = ji9 := hji9
   have hji9z : a1 ≤ 64 → (IntKind.i64.wrap ((wrap64 ((Int.tmod (ji7) 2) - (Int.tmod (ji5) 2))) * 2 ^ a1.toNat)) = ji9 := shl_small hji9
   have hji9y : (wrap64 ((wrap64 ((Int.tmod (ji7) 2) - (Int.tmod (ji5) 2))) * 2 ^ min a1.toNat 64)) = ji9 := (i64_w _).symm.trans hji9_
   have hji9x : a1 ≤ 64 → (wrap64 ((wrap64 ((Int.tmod (ji7) 2) - (Int.tmod (ji5) 2))) * 2 ^ a1.toNat)) = ji9 := fun h_ => (i64_w _).symm.trans (hji9z h_)
   have c10b0 := eq_true (of_decide_eq_true (by first | (with_reducible assumption) | assumption) : 0 ≤ a2)
   obtain ⟨ji11, hji11⟩ : ∃ j_ : Int, (shl .i64 (wrap64 ((Int.tmod (ji5) 2) - (Int.tmod (ji7) 2))) a2) = j_ := ⟨_, rfl⟩
   replace H : (some (wrap64 ((wrap64 (a0 + (ji9))) + (ji11)))) = some r := by first | (rw [hji11] at H; exact H) | (simp only [hji11] at H ⊢; exact H)
   have hji11_ : (IntKind.i64.wrap ((wrap64 ((Int.tmod (ji5) 2) - (Int.tmod (ji7) 2))) * 2 ^ min a2.toNat 64)) = ji11 := hji11
   have hji11z : a2 ≤ 64 → (IntKind.i64.wrap ((wrap64 ((Int.tmod (ji5) 2) - (Int.tmod (ji7) 2))) * 2 ^ a2.toNat)) = ji11 := shl_small hji11
   have hji11y : (wrap64 ((wrap64 ((Int.tmod (ji5) 2) - (Int.tmod (ji7) 2))) * 2 ^ min a2.toNat 64)) = ji11 := (i64_w _).symm.trans hji11_
   have hji11x : a2 ≤ 64 → (wrap64 ((wrap64 ((Int.tmod (ji5) 2) - (Int.tmod (ji7) 2))) * 2 ^ a2.toNat)) = ji11 := fun h_ => (i64_w _).symm.trans (hji11z h_)
   obtain rfl := Option.some.inj H
   go_enter Try.func57, Try.ntmps57
   go_wp2
   repeat (go_quiet (fail); try go_wp2)
   go_ret
   exact ⟨by first | rfl | (simp; done) | (simp only [← hji5, ← hji7, ← hji9, ← hji11] <;> (first | rfl | simp)) | (simp [*]; done), by repeat (first | exact Drawn0.refl _ | apply Drawn0.step)⟩
  ·rw [if_neg c6] at H
   exact absurd H (by simp)
 ·rw [if_neg c4] at H
  exact absurd H (by simp)
/-! ### spec_KnowsNoThing: function 32 -/
mutual
def spec_KnowsNoThing.l0 : Nat → Int → List Int → Int → Option (Bool)
 | 0, _, _, _ => none
 | k + 1, x0, x1, x5 => if 0 ≤ x0 then (if x5 < (shl .i64 1 x0) then (spec_KnowsNoThing.l1 k x0 x1 x5 0) else (some true)) else (none)
def spec_KnowsNoThing.l1 : Nat → Int → List Int → Int → Int → Option (Bool)
 | 0, _, _, _, _ => none
 | k + 1, x0, x1, x5, x6 => if 0 ≤ x0 then (if x6 < (shl .i64 1 x0) then (spec_KnowsNoThing.l2 k x0 x1 x5 x6 0) else (spec_KnowsNoThing.l0 k x0 x1 (wrap64 (x5 + 1)))) else (none)
def spec_KnowsNoThing.l2 : Nat → Int → List Int → Int → Int → Int → Option (Bool)
 | 0, _, _, _, _, _ => none
 | k + 1, x0, x1, x5, x6, x7 => if x7 < x0 then (spec_KnowsNoThing.l3 k x0 x1 x5 x6 x7 0) else (spec_KnowsNoThing.l1 k x0 x1 x5 (wrap64 (x6 + 1)))
def spec_KnowsNoThing.l3 : Nat → Int → List Int → Int → Int → Int → Int → Option (Bool)
 | 0, _, _, _, _, _, _ => none
 | k + 1, x0, x1, x5, x6, x7, x8 => if x8 < x7 then (if 0 ≤ x0 then (if 0 ≤ (wrap64 ((shl .i64 x5 x0) + x6)) then (if (wrap64 ((shl .i64 x5 x0) + x6)) < (x1.length : Int) then ((spec_l2Swap.f x5 x7 x8).bind fun t358 => ((spec_l2Swap.f x6 x7 x8).bind fun t359 => (if 0 ≤ (wrap64 ((shl .i64 t358 x0) + t359)) then (if (wrap64 ((shl .i64 t358 x0) + t359)) < (x1.length : Int) then (if (rd x1 (wrap64 ((shl .i64 x5 x0) + x6))) = (rd x1 (wrap64 ((shl .i64 t358 x0) + t359))) then (spec_KnowsNoThing.l3 k x0 x1 x5 x6 x7 (wrap64 (x8 + 1))) else (some false)) else (none)) else (none)))) else (none)) else (none)) else (none)) else (spec_KnowsNoThing.l2 k x0 x1 x5 x6 (wrap64 (x7 + 1)))
end
def spec_KnowsNoThing.f (k : Nat) (a0 : Int) (l1 : List Int) : Option (Bool) := (spec_RelationOk.f k a0 l1).bind fun t356 => (if t356 = true then (spec_KnowsNoThing.l0 k a0 l1 0) else (some false))
theorem spec_KnowsNoThing.mono_l : ∀ k, (∀ y0 y1 y2, LeO (spec_KnowsNoThing.l0 k y0 y1 y2) (spec_KnowsNoThing.l0 (k + 1) y0 y1 y2)) ∧ (∀ y0 y1 y2 y3, LeO (spec_KnowsNoThing.l1 k y0 y1 y2 y3) (spec_KnowsNoThing.l1 (k + 1) y0 y1 y2 y3)) ∧ (∀ y0 y1 y2 y3 y4, LeO (spec_KnowsNoThing.l2 k y0 y1 y2 y3 y4) (spec_KnowsNoThing.l2 (k + 1) y0 y1 y2 y3 y4)) ∧ (∀ y0 y1 y2 y3 y4 y5, LeO (spec_KnowsNoThing.l3 k y0 y1 y2 y3 y4 y5) (spec_KnowsNoThing.l3 (k + 1) y0 y1 y2 y3 y4 y5))
 | 0 => ⟨fun _ _ _ r h => by simp [spec_KnowsNoThing.l0] at h, fun _ _ _ _ r h => by simp [spec_KnowsNoThing.l1] at h, fun _ _ _ _ _ r h => by simp [spec_KnowsNoThing.l2] at h, fun _ _ _ _ _ _ r h => by simp [spec_KnowsNoThing.l3] at h⟩
 | k + 1 => by
  obtain ⟨ih0, ih1, ih2, ih3⟩ := spec_KnowsNoThing.mono_l k
  refine ⟨?_, ?_, ?_, ?_⟩
  ·intro y0 y1 y2
   unfold spec_KnowsNoThing.l0
   repeat' first
   | (with_reducible exact ih0 _ _ _)
   | (with_reducible exact ih1 _ _ _ _)
   | (with_reducible exact ih2 _ _ _ _ _)
   | (with_reducible exact ih3 _ _ _ _ _ _)
   | (with_reducible exact spec_RelationOk.mono _ _ _)
   | (with_reducible exact LeO.refl _)
   | (with_reducible exact LeO.none _)
   | (with_reducible refine LeO.ite ?_ ?_)
   | (with_reducible refine LeO.bind ?_ (fun _ => ?_))
  ·intro y0 y1 y2 y3
   unfold spec_KnowsNoThing.l1
   repeat' first
   | (with_reducible exact ih0 _ _ _)
   | (with_reducible exact ih1 _ _ _ _)
   | (with_reducible exact ih2 _ _ _ _ _)
   | (with_reducible exact ih3 _ _ _ _ _ _)
   | (with_reducible exact spec_RelationOk.mono _ _ _)
   | (with_reducible exact LeO.refl _)
   | (with_reducible exact LeO.none _)
   | (with_reducible refine LeO.ite ?_ ?_)
   | (with_reducible refine LeO.bind ?_ (fun _ => ?_))
  ·intro y0 y1 y2 y3 y4
   unfold spec_KnowsNoThing.l2
   repeat' first
   | (with_reducible exact ih0 _ _ _)
   | (with_reducible exact ih1 _ _ _ _)
   | (with_reducible exact ih2 _ _ _ _ _)
   | (with_reducible exact ih3 _ _ _ _ _ _)
   | (with_reducible exact spec_RelationOk.mono _ _ _)
   | (with_reducible exact LeO.refl _)
   | (with_reducible exact LeO.none _)
   | (with_reducible refine LeO.ite ?_ ?_)
   | (with_reducible refine LeO.bind ?_ (fun _ => ?_))
  ·intro y0 y1 y2 y3 y4 y5
   unfold spec_KnowsNoThing.l3
   repeat' first
   | (with_reducible exact ih0 _ _ _)
   | (with_reducible exact ih1 _ _ _ _)
   | (with_reducible exact ih2 _ _ _ _ _)
   | (with_reducible exact ih3 _ _ _ _ _ _)
   | (with_reducible exact spec_RelationOk.mono _ _ _)
   | (with_reducible exact LeO.refl _)
   | (with_reducible exact LeO.none _)
   | (with_reducible refine LeO.ite ?_ ?_)
   | (with_reducible refine LeO.bind ?_ (fun _ => ?_))
theorem spec_KnowsNoThing.mono : ∀ a0 a1 k, LeO (spec_KnowsNoThing.f k a0 a1) (spec_KnowsNoThing.f (k + 1) a0 a1) := by
 intro a0 a1 k
 obtain ⟨ih0, ih1, ih2, ih3⟩ := spec_KnowsNoThing.mono_l k
 unfold spec_KnowsNoThing.f
 repeat' first
   | (with_reducible exact ih0 _ _ _)
   | (with_reducible exact ih1 _ _ _ _)
   | (with_reducible exact ih2 _ _ _ _ _)
   | (with_reducible exact ih3 _ _ _ _ _ _)
   | (with_reducible exact spec_RelationOk.mono _ _ _)
   | (with_reducible exact LeO.refl _)
   | (with_reducible exact LeO.none _)
   | (with_reducible refine LeO.ite ?_ ?_)
   | (with_reducible refine LeO.bind ?_ (fun _ => ?_))
set_option maxHeartbeats 8000000 in
set_option maxRecDepth 100000 in
theorem spec_KnowsNoThing.calls (k : Nat) (a0 : Int) (A1 : Option Addr) (c1 : Nat) (l1 : List Int) (r : Bool) (w : World) (hr1 : Kd.C (Kd.int .i64) w A1 l1.length l1) (hc1 : l1.length ≤ c1) (h : spec_KnowsNoThing.f k a0 l1 = some r) :
  Calls Try.prog 32 #[.int .i64 a0, .slice A1 l1.length c1] w fun e w' => e = .returned (.bool r) ∧ Drawn0 w w' := by
 have HR1 := Aside0.mk hr1
 have HC1 := Aside0.mk hc1
 clear hr1 hc1
 have H : ((spec_RelationOk.f k a0 l1).bind fun t356 => (if t356 = true then (spec_KnowsNoThing.l0 k a0 l1 0) else (some false))) = some r := h
 clear h
 replace H := Option.bind_eq_some_iff.mp H
 obtain ⟨t356, A30, H⟩ := H
 replace H : (if t356 = true then (spec_KnowsNoThing.l0 k a0 l1 0) else (some false)) = some r := H
 have A3 := Aside0.mk A30
 clear A30
 by_cases c4 : t356 = true
 ·subst c4
  have H1 : (spec_KnowsNoThing.l0 k a0 l1 0) = some r := by rw [if_pos rfl] at H; exact H
  clear H
  have H := H1
  clear H1
  have H' := Aside0.mk H
  clear H
  go_enter Try.func32, Try.ntmps32
  go_wp2_with (first | (go_at_call 21; (with_reducible refine (spec_RelationOk.calls k a0 _ _ l1 true _ ?side1 ?side2 A3.out).mono ?_); (case side1 => repeat (first | exact HR1.out | (with_reducible refine Kd.C_alloc ?_ _) | (with_reducible refine Kd.C_drewN ?_ _) | (with_reducible refine Kd.C_drew ?_))); (case side2 => exact HC1.out); rintro e w' ⟨rfl, ⟨nd, rfl⟩⟩; (try first | exact ⟨rfl, _, World.drewN_drewN _ _ _⟩ | exact ⟨rfl, _, Eq.trans (World.drewN_drewN _ _ _) (congrArg (World.drewN _) (Nat.add_assoc _ _ _))⟩)))
  repeat (go_quiet (first | (go_at_call 21; (with_reducible refine (spec_RelationOk.calls k a0 _ _ l1 true _ ?side1 ?side2 A3.out).mono ?_); (case side1 => repeat (first | exact HR1.out | (with_reducible refine Kd.C_alloc ?_ _) | (with_reducible refine Kd.C_drewN ?_ _) | (with_reducible refine Kd.C_drew ?_))); (case side2 => exact HC1.out); rintro e w' ⟨rfl, ⟨nd, rfl⟩⟩; (try first | exact ⟨rfl, _, World.drewN_drewN _ _ _⟩ | exact ⟨rfl, _, Eq.trans (World.drewN_drewN _ _ _) (congrArg (World.drewN _) (Nat.add_assoc _ _ _))⟩))); try go_wp2_with (first | (go_at_call 21; (with_reducible refine (spec_RelationOk.calls k a0 _ _ l1 true _ ?side1 ?side2 A3.out).mono ?_); (case side1 => repeat (first | exact HR1.out | (with_reducible refine Kd.C_alloc ?_ _) | (with_reducible refine Kd.C_drewN ?_ _) | (with_reducible refine Kd.C_drew ?_))); (case side2 => exact HC1.out); rintro e w' ⟨rfl, ⟨nd, rfl⟩⟩; (try first | exact ⟨rfl, _, World.drewN_drewN _ _ _⟩ | exact ⟨rfl, _, Eq.trans (World.drewN_drewN _ _ _) (congrArg (World.drewN _) (Nat.add_assoc _ _ _))⟩))))
  go_loopg [5] k (fun kq v5 w' => ∃ (x5_1 : Int), v5 = .int .i64 x5_1 ∧ Aside0 (spec_KnowsNoThing.l0 kq a0 l1 x5_1 = some r) ∧ Aside0 (kq ≤ k) ∧ Drawn0 w w')
  case atStart => exact ⟨(0), (by first | rfl | (simp; done) | (simp [*]; done)), H', ⟨Nat.le_refl _⟩, by repeat (first | exact Drawn0.refl _ | apply Drawn0.step)⟩
  case round =>
   clear H'
   try clear c1
   try clear p2
   try clear c3
   try clear c4
   obtain ⟨x5_1, rfl, HA, HK1, ⟨m1, rfl⟩⟩ := hrel
   cases gk with
   | zero => exact absurd HA.out (by simp [spec_KnowsNoThing.l0])
   | succ k1 =>
    have H := HA.out
    clear HA
    simp only [spec_KnowsNoThing.l0] at H
    by_cases c5 : 0 ≤ a0
    ·rw [if_pos c5] at H
     have c5b0 := eq_true c5
     have c5b1 : decide (0 ≤ a0) = true := decide_eq_true c5
     clear c5
     obtain ⟨ji6, hji6⟩ : ∃ j_ : Int, (shl .i64 1 a0) = j_ := ⟨_, rfl⟩
     replace H : (if x5_1 < (ji6) then (spec_KnowsNoThing.l1 k1 a0 l1 x5_1 0) else (some true)) = some r := by first | (rw [hji6] at H; exact H) | (simp only [hji6] at H ⊢; exact H)
     have hji6_ : (IntKind.i64.wrap (1 * 2 ^ min a0.toNat 64)) = ji6 := hji6
     have hji6z : a0 ≤ 64 → (IntKind.i64.wrap (1 * 2 ^ a0.toNat)) = ji6 := shl_small hji6
     have hji6u : (IntKind.i64.wrap (2 ^ min a0.toNat 64)) = ji6 := by have h_ := hji6_; rw [Int.one_mul] at h_; exact h_
     have hji6v : a0 ≤ 64 → (IntKind.i64.wrap (2 ^ a0.toNat)) = ji6 := fun hle_ => by have h_ := hji6z hle_; rw [Int.one_mul] at h_; exact h_
     have hji6y : (wrap64 (1 * 2 ^ min a0.toNat 64)) = ji6 := (i64_w _).symm.trans hji6_
     have hji6x : a0 ≤ 64 → (wrap64 (1 * 2 ^ a0.toNat)) = ji6 := fun h_ => (i64_w _).symm.trans (hji6z h_)
     by_cases c7 : x5_1 < (ji6)
     ·rw [if_pos c7] at H
      have c7b0 : decide (x5_1 < (ji6)) = true := decide_eq_true c7
      clear c7
      have H' := Aside0.mk H
      clear H
      go_wp2
      repeat (go_quiet (fail); try go_wp2)
      go_loopg [6] k1 (fun kq v6 w' => ∃ (x6_2 : Int), v6 = .int .i64 x6_2 ∧ Aside0 (spec_KnowsNoThing.l1 kq a0 l1 x5_1 x6_2 = some r) ∧ Aside0 (kq ≤ k1) ∧ Drawn0 w w')
      case atStart => exact ⟨(0), (by first | rfl | (simp; done) | (simp [*]; done)), H', ⟨Nat.le_refl _⟩, by repeat (first | exact Drawn0.refl _ | apply Drawn0.step)⟩
      case round =>
       clear H'
       try clear c1
       try clear p2
       try clear c3
       try clear c4
       try clear c5
       try clear c5b0
       try clear c5b1
       try clear p6
       try clear c7
       try clear c7b0
       try clear p2
       obtain ⟨x6_2, rfl, HA, HK2, ⟨m2, rfl⟩⟩ := hrel
       cases gk with
       | zero => exact absurd HA.out (by simp [spec_KnowsNoThing.l1])
       | succ k2 =>
        have H := HA.out
        clear HA
        simp only [spec_KnowsNoThing.l1] at H
        by_cases c8 : 0 ≤ a0
        ·rw [if_pos c8] at H
         have c8b0 := eq_true c8
         have c8b1 : decide (0 ≤ a0) = true := decide_eq_true c8
         clear c8
         replace H : (if x6_2 < (ji6) then (spec_KnowsNoThing.l2 k2 a0 l1 x5_1 x6_2 0) else (spec_KnowsNoThing.l0 k2 a0 l1 (wrap64 (x5_1 + 1)))) = some r := by first | exact H | (rw [hji6] at H; exact H) | (simp only [hji6] at H ⊢; exact H)
         by_cases c9 : x6_2 < (ji6)
         ·rw [if_pos c9] at H
          have c9b0 : decide (x6_2 < (ji6)) = true := decide_eq_true c9
          clear c9
          have H' := Aside0.mk H
          clear H
          go_wp2
          repeat (go_quiet (fail); try go_wp2)
          go_loopg [7] k2 (fun kq v7 w' => ∃ (x7_3 : Int), v7 = .int .i64 x7_3 ∧ Aside0 (spec_KnowsNoThing.l2 kq a0 l1 x5_1 x6_2 x7_3 = some r) ∧ Aside0 (kq ≤ k2) ∧ Drawn0 w w')
          case atStart => exact ⟨(0), (by first | rfl | (simp; done) | (simp [*]; done)), H', ⟨Nat.le_refl _⟩, by repeat (first | exact Drawn0.refl _ | apply Drawn0.step)⟩
          case round =>
           clear H'
           try clear c1
           try clear p2
           try clear c3
           try clear c4
           try clear c5
           try clear c5b0
           try clear c5b1
           try clear p6
           try clear c7
           try clear c7b0
           try clear c8
           try clear c8b0
           try clear c8b1
           try clear c9
           try clear c9b0
           try clear p2
           try clear p6
           obtain ⟨x7_3, rfl, HA, HK3, ⟨m3, rfl⟩⟩ := hrel
           cases gk with
           | zero => exact absurd HA.out (by simp [spec_KnowsNoThing.l2])
           | succ k3 =>
            have H := HA.out
            clear HA
            simp only [spec_KnowsNoThing.l2] at H
            by_cases c10 : x7_3 < a0
            ·rw [if_pos c10] at H
             have c10b0 : decide (x7_3 < a0) = true := decide_eq_true c10
             clear c10
             have H' := Aside0.mk H
             clear H
             go_wp2
             repeat (go_quiet (fail); try go_wp2)
             go_loopg [8] k3 (fun kq v8 w' => ∃ (x8_4 : Int), v8 = .int .i64 x8_4 ∧ Aside0 (spec_KnowsNoThing.l3 kq a0 l1 x5_1 x6_2 x7_3 x8_4 = some r) ∧ Aside0 (kq ≤ k3) ∧ Drawn0 w w')
             case atStart => exact ⟨(0), (by first | rfl | (simp; done) | (simp [*]; done)), H', ⟨Nat.le_refl _⟩, by repeat (first | exact Drawn0.refl _ | apply Drawn0.step)⟩
             case round =>
              clear H'
              try clear c1
              try clear p2
              try clear c3
              try clear c4
              try clear c5
              try clear c5b0
              try clear c5b1
              try clear p6
              try clear c7
              try clear c7b0
              try clear c8
              try clear c8b0
              try clear c8b1
              try clear c9
              try clear c9b0
              try clear c10
              try clear c10b0
              try clear p2
              try clear p6
              obtain ⟨x8_4, rfl, HA, HK4, ⟨m4, rfl⟩⟩ := hrel
              cases gk with
              | zero => exact absurd HA.out (by simp [spec_KnowsNoThing.l3])
              | succ k4 =>
               have H := HA.out
               clear HA
               simp only [spec_KnowsNoThing.l3] at H
               by_cases c11 : x8_4 < x7_3
               ·rw [if_pos c11] at H
                have c11b0 : decide (x8_4 < x7_3) = true := decide_eq_true c11
                clear c11
                by_cases c12 : 0 ≤ a0
                ·rw [if_pos c12] at H
                 have c12b0 := eq_true c12
                 have c12b1 : decide (0 ≤ a0) = true := decide_eq_true c12
                 clear c12
                 obtain ⟨ji13, hji13⟩ : ∃ j_ : Int, (shl .i64 x5_1 a0) = j_ := ⟨_, rfl⟩
                 replace H : (if 0 ≤ (wrap64 ((ji13) + x6_2)) then (if (wrap64 ((ji13) + x6_2)) < (l1.length : Int) then ((spec_l2Swap.f x5_1 x7_3 x8_4).bind fun t358 => ((spec_l2Swap.f x6_2 x7_3 x8_4).bind fun t359 => (if 0 ≤ (wrap64 ((shl .i64 t358 a0) + t359)) then (if (wrap64 ((shl .i64 t358 a0) + t359)) < (l1.length : Int) then (if (rd l1 (wrap64 ((ji13) + x6_2))) = (rd l1 (wrap64 ((shl .i64 t358 a0) + t359))) then (spec_KnowsNoThing.l3 k4 a0 l1 x5_1 x6_2 x7_3 (wrap64 (x8_4 + 1))) else (some false)) else (none)) else (none)))) else (none)) else (none)) = some r := by first | (rw [hji13] at H; exact H) | (simp only [hji13] at H ⊢; exact H)
                 have hji13_ : (IntKind.i64.wrap (x5_1 * 2 ^ min a0.toNat 64)) = ji13 := hji13
                 have hji13z : a0 ≤ 64 → (IntKind.i64.wrap (x5_1 * 2 ^ a0.toNat)) = ji13 := shl_small hji13
                 have hji13y : (wrap64 (x5_1 * 2 ^ min a0.toNat 64)) = ji13 := (i64_w _).symm.trans hji13_
                 have hji13x : a0 ≤ 64 → (wrap64 (x5_1 * 2 ^ a0.toNat)) = ji13 := fun h_ => (i64_w _).symm.trans (hji13z h_)
                 obtain ⟨ji14, hji14⟩ : ∃ j_ : Int, (wrap64 ((ji13) + x6_2)) = j_ := ⟨_, rfl⟩
                 replace H : (if 0 ≤ (ji14) then (if (ji14) < (l1.length : Int) then ((spec_l2Swap.f x5_1 x7_3 x8_4).bind fun t358 => ((spec_l2Swap.f x6_2 x7_3 x8_4).bind fun t359 => (if 0 ≤ (wrap64 ((shl .i64 t358 a0) + t359)) then (if (wrap64 ((shl .i64 t358 a0) + t359)) < (l1.length : Int) then (if (rd l1 (ji14)) = (rd l1 (wrap64 ((shl .i64 t358 a0) + t359))) then (spec_KnowsNoThing.l3 k4 a0 l1 x5_1 x6_2 x7_3 (wrap64 (x8_4 + 1))) else (some false)) else (none)) else (none)))) else (none)) else (none)) = some r := by first | (rw [hji14] at H; exact H) | (simp only [hji14] at H ⊢; exact H)
                 have hji14w : (IntKind.i64.wrap ((ji13) + x6_2)) = ji14 := (i64_w _).trans hji14
                 by_cases c15 : 0 ≤ (ji14)
                 ·rw [if_pos c15] at H
                  have c15b0 : decide (0 ≤ (ji14)) = true := decide_eq_true c15
                  clear c15
                  by_cases c16 : (ji14) < (l1.length : Int)
                  ·rw [if_pos c16] at H
                   have c16b0 : decide ((ji14) < (l1.length : Int)) = true := decide_eq_true c16
                   clear c16
                   replace H := Option.bind_eq_some_iff.mp H
                   obtain ⟨t358, A170, H⟩ := H
                   replace H : ((spec_l2Swap.f x6_2 x7_3 x8_4).bind fun t359 => (if 0 ≤ (wrap64 ((shl .i64 t358 a0) + t359)) then (if (wrap64 ((shl .i64 t358 a0) + t359)) < (l1.length : Int) then (if (rd l1 (ji14)) = (rd l1 (wrap64 ((shl .i64 t358 a0) + t359))) then (spec_KnowsNoThing.l3 k4 a0 l1 x5_1 x6_2 x7_3 (wrap64 (x8_4 + 1))) else (some false)) else (none)) else (none))) = some r := H
                   have A17 := Aside0.mk A170
                   clear A170
                   have c18b0 := eq_true (of_decide_eq_true (by first | (with_reducible assumption) | assumption) : 0 ≤ a0)
                   obtain ⟨ji19, hji19⟩ : ∃ j_ : Int, (shl .i64 t358 a0) = j_ := ⟨_, rfl⟩
                   replace H : ((spec_l2Swap.f x6_2 x7_3 x8_4).bind fun t359 => (if 0 ≤ (wrap64 ((ji19) + t359)) then (if (wrap64 ((ji19) + t359)) < (l1.length : Int) then (if (rd l1 (ji14)) = (rd l1 (wrap64 ((ji19) + t359))) then (spec_KnowsNoThing.l3 k4 a0 l1 x5_1 x6_2 x7_3 (wrap64 (x8_4 + 1))) else (some false)) else (none)) else (none))) = some r := by first | (rw [hji19] at H; exact H) | (simp only [hji19] at H ⊢; exact H)
                   (try rw [hji19] at A17)
                   have hji19_ : (IntKind.i64.wrap (t358 * 2 ^ min a0.toNat 64)) = ji19 := hji19
                   have hji19z : a0 ≤ 64 → (IntKind.i64.wrap (t358 * 2 ^ a0.toNat)) = ji19 := shl_small hji19
                   have hji19y : (wrap64 (t358 * 2 ^ min a0.toNat 64)) = ji19 := (i64_w _).symm.trans hji19_
                   have hji19x : a0 ≤ 64 → (wrap64 (t358 * 2 ^ a0.toNat)) = ji19 := fun h_ => (i64_w _).symm.trans (hji19z h_)
                   replace H := Option.bind_eq_some_iff.mp H
                   obtain ⟨t359, A200, H⟩ := H
                   replace H : (if 0 ≤ (wrap64 ((ji19) + t359)) then (if (wrap64 ((ji19) + t359)) < (l1.length : Int) then (if (rd l1 (ji14)) = (rd l1 (wrap64 ((ji19) + t359))) then (spec_KnowsNoThing.l3 k4 a0 l1 x5_1 x6_2 x7_3 (wrap64 (x8_4 + 1))) else (some false)) else (none)) else (none)) = some r := H
                   have A20 := Aside0.mk A200
                   clear A200
                   obtain ⟨ji21, hji21⟩ : ∃ j_ : Int, (wrap64 ((ji19) + t359)) = j_ := ⟨_, rfl⟩
                   replace H : (if 0 ≤ (ji21) then (if (ji21) < (l1.length : Int) then (if (rd l1 (ji14)) = (rd l1 (ji21)) then (spec_KnowsNoThing.l3 k4 a0 l1 x5_1 x6_2 x7_3 (wrap64 (x8_4 + 1))) else (some false)) else (none)) else (none)) = some r := by first | (rw [hji21] at H; exact H) | (simp only [hji21] at H ⊢; exact H)
                   (try rw [hji21] at A17)
                   (try rw [hji21] at A20)
                   have hji21w : (IntKind.i64.wrap ((ji19) + t359)) = ji21 := (i64_w _).trans hji21
                   by_cases c22 : 0 ≤ (ji21)
                   ·rw [if_pos c22] at H
                    have c22b0 : decide (0 ≤ (ji21)) = true := decide_eq_true c22
                    clear c22
                    by_cases c23 : (ji21) < (l1.length : Int)
                    ·rw [if_pos c23] at H
                     have c23b0 : decide ((ji21) < (l1.length : Int)) = true := decide_eq_true c23
                     clear c23
                     by_cases c24 : (rd l1 (ji14)) = (rd l1 (ji21))
                     ·rw [if_pos c24] at H
                      have c24b0 : ((rd l1 (ji14)) == (rd l1 (ji21))) = true := beq_iff_eq.mpr c24
                      have c24b1 : ((rd l1 (ji14)) != (rd l1 (ji21))) = false := bne_eq_false_iff_eq.mpr c24
                      clear c24
                      have H' := Aside0.mk H
                      clear H
                      have p357 : 0 ≤ ((ji14) : Int) := of_decide_eq_true (by first | (with_reducible assumption) | assumption)
                      have q357 : (ji14) < (l1.length : Int) := of_decide_eq_true (by first | (with_reducible assumption) | assumption)
                      obtain ⟨ad357, e357, hx357_0⟩ := Kd.at_int HR1.out (ji14) p357 q357
                      cases e357
                      replace p357 := eq_true p357
                      replace q357 := eq_true q357
                      go_wp2_with (first | (go_at_call 57; (with_reducible refine (spec_l2Swap.calls x5_1 x7_3 x8_4 t358 _ A17.out).mono ?_); rintro e w' ⟨rfl, ⟨nd, rfl⟩⟩; (try first | exact ⟨rfl, _, World.drewN_drewN _ _ _⟩ | exact ⟨rfl, _, Eq.trans (World.drewN_drewN _ _ _) (congrArg (World.drewN _) (Nat.add_assoc _ _ _))⟩)) | (go_at_call 57; (with_reducible refine (spec_l2Swap.calls x6_2 x7_3 x8_4 t359 _ A20.out).mono ?_); rintro e w' ⟨rfl, ⟨nd, rfl⟩⟩; (try first | exact ⟨rfl, _, World.drewN_drewN _ _ _⟩ | exact ⟨rfl, _, Eq.trans (World.drewN_drewN _ _ _) (congrArg (World.drewN _) (Nat.add_assoc _ _ _))⟩); have p360 : 0 ≤ ((ji21) : Int) := of_decide_eq_true (by first | (with_reducible assumption) | assumption); have q360 : (ji21) < (l1.length : Int) := of_decide_eq_true (by first | (with_reducible assumption) | assumption); obtain ⟨ad360, e360, hx360_0⟩ := Kd.at_int HR1.out (ji21) p360 q360; obtain rfl : ad357 = ad360 := (by injection e360); replace p360 := eq_true p360; replace q360 := eq_true q360))
                      repeat (go_quiet (first | (go_at_call 57; (with_reducible refine (spec_l2Swap.calls x5_1 x7_3 x8_4 t358 _ A17.out).mono ?_); rintro e w' ⟨rfl, ⟨nd, rfl⟩⟩; (try first | exact ⟨rfl, _, World.drewN_drewN _ _ _⟩ | exact ⟨rfl, _, Eq.trans (World.drewN_drewN _ _ _) (congrArg (World.drewN _) (Nat.add_assoc _ _ _))⟩)) | (go_at_call 57; (with_reducible refine (spec_l2Swap.calls x6_2 x7_3 x8_4 t359 _ A20.out).mono ?_); rintro e w' ⟨rfl, ⟨nd, rfl⟩⟩; (try first | exact ⟨rfl, _, World.drewN_drewN _ _ _⟩ | exact ⟨rfl, _, Eq.trans (World.drewN_drewN _ _ _) (congrArg (World.drewN _) (Nat.add_assoc _ _ _))⟩); have p360 : 0 ≤ ((ji21) : Int) := of_decide_eq_true (by first | (with_reducible assumption) | assumption); have q360 : (ji21) < (l1.length : Int) := of_decide_eq_true (by first | (with_reducible assumption) | assumption); obtain ⟨ad360, e360, hx360_0⟩ := Kd.at_int HR1.out (ji21) p360 q360; obtain rfl : ad357 = ad360 := (by injection e360); replace p360 := eq_true p360; replace q360 := eq_true q360)); try go_wp2_with (first | (go_at_call 57; (with_reducible refine (spec_l2Swap.calls x5_1 x7_3 x8_4 t358 _ A17.out).mono ?_); rintro e w' ⟨rfl, ⟨nd, rfl⟩⟩; (try first | exact ⟨rfl, _, World.drewN_drewN _ _ _⟩ | exact ⟨rfl, _, Eq.trans (World.drewN_drewN _ _ _) (congrArg (World.drewN _) (Nat.add_assoc _ _ _))⟩)) | (go_at_call 57; (with_reducible refine (spec_l2Swap.calls x6_2 x7_3 x8_4 t359 _ A20.out).mono ?_); rintro e w' ⟨rfl, ⟨nd, rfl⟩⟩; (try first | exact ⟨rfl, _, World.drewN_drewN _ _ _⟩ | exact ⟨rfl, _, Eq.trans (World.drewN_drewN _ _ _) (congrArg (World.drewN _) (Nat.add_assoc _ _ _))⟩); have p360 : 0 ≤ ((ji21) : Int) := of_decide_eq_true (by first | (with_reducible assumption) | assumption); have q360 : (ji21) < (l1.length : Int) := of_decide_eq_true (by first | (with_reducible assumption) | assumption); obtain ⟨ad360, e360, hx360_0⟩ := Kd.at_int HR1.out (ji21) p360 q360; obtain rfl : ad357 = ad360 := (by injection e360); replace p360 := eq_true p360; replace q360 := eq_true q360)))
                      go_roundg k4
                      case measure => have := HK1.out; have := HK2.out; have := HK3.out; have := HK4.out; omega
                      case rel => exact ⟨(wrap64 (x8_4 + 1)), (by first | rfl | (simp; done) | (simp [*]; done)), H', ⟨by have := HK1.out; have := HK2.out; have := HK3.out; have := HK4.out; omega⟩, by repeat (first | exact Drawn0.refl _ | apply Drawn0.step)⟩
                     ·rw [if_neg c24] at H
                      have c24b0 : ((rd l1 (ji14)) == (rd l1 (ji21))) = false := beq_eq_false_iff_ne.mpr c24
                      have c24b1 : ((rd l1 (ji14)) != (rd l1 (ji21))) = true := bne_iff_ne.mpr c24
                      obtain rfl := Option.some.inj H
                      have p357 : 0 ≤ ((ji14) : Int) := of_decide_eq_true (by first | (with_reducible assumption) | assumption)
                      have q357 : (ji14) < (l1.length : Int) := of_decide_eq_true (by first | (with_reducible assumption) | assumption)
                      obtain ⟨ad357, e357, hx357_0⟩ := Kd.at_int HR1.out (ji14) p357 q357
                      cases e357
                      replace p357 := eq_true p357
                      replace q357 := eq_true q357
                      go_wp2_with (first | (go_at_call 57; (with_reducible refine (spec_l2Swap.calls x5_1 x7_3 x8_4 t358 _ A17.out).mono ?_); rintro e w' ⟨rfl, ⟨nd, rfl⟩⟩; (try first | exact ⟨rfl, _, World.drewN_drewN _ _ _⟩ | exact ⟨rfl, _, Eq.trans (World.drewN_drewN _ _ _) (congrArg (World.drewN _) (Nat.add_assoc _ _ _))⟩)) | (go_at_call 57; (with_reducible refine (spec_l2Swap.calls x6_2 x7_3 x8_4 t359 _ A20.out).mono ?_); rintro e w' ⟨rfl, ⟨nd, rfl⟩⟩; (try first | exact ⟨rfl, _, World.drewN_drewN _ _ _⟩ | exact ⟨rfl, _, Eq.trans (World.drewN_drewN _ _ _) (congrArg (World.drewN _) (Nat.add_assoc _ _ _))⟩); have p360 : 0 ≤ ((ji21) : Int) := of_decide_eq_true (by first | (with_reducible assumption) | assumption); have q360 : (ji21) < (l1.length : Int) := of_decide_eq_true (by first | (with_reducible assumption) | assumption); obtain ⟨ad360, e360, hx360_0⟩ := Kd.at_int HR1.out (ji21) p360 q360; obtain rfl : ad357 = ad360 := (by injection e360); replace p360 := eq_true p360; replace q360 := eq_true q360))
                      repeat (go_quiet (first | (go_at_call 57; (with_reducible refine (spec_l2Swap.calls x5_1 x7_3 x8_4 t358 _ A17.out).mono ?_); rintro e w' ⟨rfl, ⟨nd, rfl⟩⟩; (try first | exact ⟨rfl, _, World.drewN_drewN _ _ _⟩ | exact ⟨rfl, _, Eq.trans (World.drewN_drewN _ _ _) (congrArg (World.drewN _) (Nat.add_assoc _ _ _))⟩)) | (go_at_call 57; (with_reducible refine (spec_l2Swap.calls x6_2 x7_3 x8_4 t359 _ A20.out).mono ?_); rintro e w' ⟨rfl, ⟨nd, rfl⟩⟩; (try first | exact ⟨rfl, _, World.drewN_drewN _ _ _⟩ | exact ⟨rfl, _, Eq.trans (World.drewN_drewN _ _ _) (congrArg (World.drewN _) (Nat.add_assoc _ _ _))⟩); have p360 : 0 ≤ ((ji21) : Int) := of_decide_eq_true (by first | (with_reducible assumption) | assumption); have q360 : (ji21) < (l1.length : Int) := of_decide_eq_true (by first | (with_reducible assumption) | assumption); obtain ⟨ad360, e360, hx360_0⟩ := Kd.at_int HR1.out (ji21) p360 q360; obtain rfl : ad357 = ad360 := (by injection e360); replace p360 := eq_true p360; replace q360 := eq_true q360)); try go_wp2_with (first | (go_at_call 57; (with_reducible refine (spec_l2Swap.calls x5_1 x7_3 x8_4 t358 _ A17.out).mono ?_); rintro e w' ⟨rfl, ⟨nd, rfl⟩⟩; (try first | exact ⟨rfl, _, World.drewN_drewN _ _ _⟩ | exact ⟨rfl, _, Eq.trans (World.drewN_drewN _ _ _) (congrArg (World.drewN _) (Nat.add_assoc _ _ _))⟩)) | (go_at_call 57; (with_reducible refine (spec_l2Swap.calls x6_2 x7_3 x8_4 t359 _ A20.out).mono ?_); rintro e w' ⟨rfl, ⟨nd, rfl⟩⟩; (try first | exact ⟨rfl, _, World.drewN_drewN _ _ _⟩ | exact ⟨rfl, _, Eq.trans (World.drewN_drewN _ _ _) (congrArg (World.drewN _) (Nat.add_assoc _ _ _))⟩); have p360 : 0 ≤ ((ji21) : Int) := of_decide_eq_true (by first | (with_reducible assumption) | assumption); have q360 : (ji21) < (l1.length : Int) := of_decide_eq_true (by first | (with_reducible assumption) | assumption); obtain ⟨ad360, e360, hx360_0⟩ := Kd.at_int HR1.out (ji21) p360 q360; obtain rfl : ad357 = ad360 := (by injection e360); replace p360 := eq_true p360; replace q360 := eq_true q360)))
                      go_ret
                      exact ⟨by first | rfl | (simp; done) | (simp only [← hji6, ← hji13, ← hji14, ← hji19, ← hji21] <;> (first | rfl | simp)) | (simp [*]; done), by repeat (first | exact Drawn0.refl _ | apply Drawn0.step)⟩
                    ·rw [if_neg c23] at H
                     exact absurd H (by simp)
                   ·rw [if_neg c22] at H
                    exact absurd H (by simp)
                  ·rw [if_neg c16] at H
                   exact absurd H (by simp)
                 ·rw [if_neg c15] at H
                  exact absurd H (by simp)
                ·rw [if_neg c12] at H
                 exact absurd H (by simp)
               ·rw [if_neg c11] at H
                have c11b0 : decide (x8_4 < x7_3) = false := decide_eq_false c11
                clear c11
                have H' := Aside0.mk H
                clear H
                go_wp2
                repeat (go_quiet (fail); try go_wp2)
                go_roundg k4
                case measure => have := HK1.out; have := HK2.out; have := HK3.out; have := HK4.out; omega
                case rel => exact ⟨(wrap64 (x7_3 + 1)), (by first | rfl | (simp; done) | (simp [*]; done)), H', ⟨by have := HK1.out; have := HK2.out; have := HK3.out; have := HK4.out; omega⟩, by repeat (first | exact Drawn0.refl _ | apply Drawn0.step)⟩
            ·rw [if_neg c10] at H
             have c10b0 : decide (x7_3 < a0) = false := decide_eq_false c10
             clear c10
             have H' := Aside0.mk H
             clear H
             go_wp2
             repeat (go_quiet (fail); try go_wp2)
             go_roundg k3
             case measure => have := HK1.out; have := HK2.out; have := HK3.out; omega
             case rel => exact ⟨(wrap64 (x6_2 + 1)), (by first | rfl | (simp; done) | (simp [*]; done)), H', ⟨by have := HK1.out; have := HK2.out; have := HK3.out; omega⟩, by repeat (first | exact Drawn0.refl _ | apply Drawn0.step)⟩
         ·rw [if_neg c9] at H
          have c9b0 : decide (x6_2 < (ji6)) = false := decide_eq_false c9
          clear c9
          have H' := Aside0.mk H
          clear H
          go_wp2
          repeat (go_quiet (fail); try go_wp2)
          go_roundg k2
          case measure => have := HK1.out; have := HK2.out; omega
          case rel => exact ⟨(wrap64 (x5_1 + 1)), (by first | rfl | (simp; done) | (simp [*]; done)), H', ⟨by have := HK1.out; have := HK2.out; omega⟩, by repeat (first | exact Drawn0.refl _ | apply Drawn0.step)⟩
        ·rw [if_neg c8] at H
         exact absurd H (by simp)
     ·rw [if_neg c7] at H
      have c7b0 : decide (x5_1 < (ji6)) = false := decide_eq_false c7
      clear c7
      obtain rfl := Option.some.inj H
      go_wp2
      repeat (go_quiet (fail); try go_wp2)
      go_ret
      exact ⟨by first | rfl | (simp; done) | (simp only [← hji6] <;> (first | rfl | simp)) | (simp [*]; done), by repeat (first | exact Drawn0.refl _ | apply Drawn0.step)⟩
    ·rw [if_neg c5] at H
     exact absurd H (by simp)
 ·replace c4 := Bool.eq_false_iff.mpr c4
  subst c4
  have H1 : (some false) = some r := by rw [if_neg (show ¬ (false = true) by decide)] at H; exact H
  clear H
  have H := H1
  clear H1
  obtain rfl := Option.some.inj H
  go_enter Try.func32, Try.ntmps32
  go_wp2_with (first | (go_at_call 21; (with_reducible refine (spec_RelationOk.calls k a0 _ _ l1 false _ ?side1 ?side2 A3.out).mono ?_); (case side1 => repeat (first | exact HR1.out | (with_reducible refine Kd.C_alloc ?_ _) | (with_reducible refine Kd.C_drewN ?_ _) | (with_reducible refine Kd.C_drew ?_))); (case side2 => exact HC1.out); rintro e w' ⟨rfl, ⟨nd, rfl⟩⟩; (try first | exact ⟨rfl, _, World.drewN_drewN _ _ _⟩ | exact ⟨rfl, _, Eq.trans (World.drewN_drewN _ _ _) (congrArg (World.drewN _) (Nat.add_assoc _ _ _))⟩)))
  repeat (go_quiet (first | (go_at_call 21; (with_reducible refine (spec_RelationOk.calls k a0 _ _ l1 false _ ?side1 ?side2 A3.out).mono ?_); (case side1 => repeat (first | exact HR1.out | (with_reducible refine Kd.C_alloc ?_ _) | (with_reducible refine Kd.C_drewN ?_ _) | (with_reducible refine Kd.C_drew ?_))); (case side2 => exact HC1.out); rintro e w' ⟨rfl, ⟨nd, rfl⟩⟩; (try first | exact ⟨rfl, _, World.drewN_drewN _ _ _⟩ | exact ⟨rfl, _, Eq.trans (World.drewN_drewN _ _ _) (congrArg (World.drewN _) (Nat.add_assoc _ _ _))⟩))); try go_wp2_with (first | (go_at_call 21; (with_reducible refine (spec_RelationOk.calls k a0 _ _ l1 false _ ?side1 ?side2 A3.out).mono ?_); (case side1 => repeat (first | exact HR1.out | (with_reducible refine Kd.C_alloc ?_ _) | (with_reducible refine Kd.C_drewN ?_ _) | (with_reducible refine Kd.C_drew ?_))); (case side2 => exact HC1.out); rintro e w' ⟨rfl, ⟨nd, rfl⟩⟩; (try first | exact ⟨rfl, _, World.drewN_drewN _ _ _⟩ | exact ⟨rfl, _, Eq.trans (World.drewN_drewN _ _ _) (congrArg (World.drewN _) (Nat.add_assoc _ _ _))⟩))))
  go_ret
  exact ⟨by first | rfl | (simp; done) | (simp [*]; done), by repeat (first | exact Drawn0.refl _ | apply Drawn0.step)⟩
end Go.Proofs.Ytcongmckkjbhiaa.P
