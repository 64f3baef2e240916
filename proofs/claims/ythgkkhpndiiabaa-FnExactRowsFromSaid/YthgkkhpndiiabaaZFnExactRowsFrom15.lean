-- Texts of this claim, laid one behind the other by wip/gen/merge.py.
import Derived.Test.YthgkkhpndiiabaaZFnExactRowsFrom0
import Derived.Test.YthgkkhpndiiabaaZFnExactRowsFrom12
import Derived.Test.YthgkkhpndiiabaaZFnExactRowsFrom14
-- Written by wip/gen/lay.py, a program of this session, with the kit's print as its base. Lean checks every line.
namespace Go.Proofs.Ythgkkhpndiiabaa.P
open Go.RowKit Go.Proofs.YthgkkhpndiiabaaW.PrintWords Go.Proofs.YthgkkhpndiiabaaW.PrintLast Go.Proofs.YthgkkhpndiiabaaW.PrintMore
attribute [local go_sem] max2_int min2_int max_two min_two max_three min_three max_four min_four   -- for this text's walks alone
set_option linter.unusedVariables false
set_option linter.unusedSimpArgs false

/-! ### spec_WithoutLast: function 29 -/
mutual
def spec_WithoutLast.j0 : Nat → Int → List Int → List Int → Bool → Option (List Int)
  | 0, _, _, _, _ => none
  | k + 1, x0, x1, x5, x16 => if x16 = true then (some x5) else (spec_WithoutLast.l0 k x0 x1 x5 0)
def spec_WithoutLast.l0 : Nat → Int → List Int → List Int → Int → Option (List Int)
  | 0, _, _, _, _ => none
  | k + 1, x0, x1, x5, x6 => if 0 ≤ (wrap64 (x0 - 1)) then (if x6 < (shl .i64 1 (wrap64 (x0 - 1))) then (spec_WithoutLast.l1 k x0 x1 x5 x6 0) else (some x5)) else (none)
def spec_WithoutLast.l1 : Nat → Int → List Int → List Int → Int → Int → Option (List Int)
  | 0, _, _, _, _, _ => none
  | k + 1, x0, x1, x5, x6, x7 => if 0 ≤ (wrap64 (x0 - 1)) then (if x7 < (shl .i64 1 (wrap64 (x0 - 1))) then (if 0 ≤ x0 then (if 0 ≤ (wrap64 ((shl .i64 x6 x0) + x7)) then (if (wrap64 ((shl .i64 x6 x0) + x7)) < (x1.length : Int) then (if x5.length < 17592186044416 then (spec_WithoutLast.l1 k x0 x1 (x5 ++ [rd x1 (wrap64 ((shl .i64 x6 x0) + x7))]) x6 (wrap64 (x7 + 1))) else (none)) else (none)) else (none)) else (none)) else (spec_WithoutLast.l0 k x0 x1 x5 (wrap64 (x6 + 1)))) else (none)
end
def spec_WithoutLast.f (k : Nat) (a0 : Int) (l1 : List Int) : Option (List Int) := (some (([] : List Int) : List Int)).bind fun y219 => ((spec_RelationOk.f k a0 l1).bind fun t222 => (if t222 = true then (spec_WithoutLast.j0 k a0 l1 y219 (a0 == 0)) else (spec_WithoutLast.j0 k a0 l1 y219 true)))
theorem spec_WithoutLast.mono_l : ∀ k, (∀ y0 y1 y2 y3, LeO (spec_WithoutLast.j0 k y0 y1 y2 y3) (spec_WithoutLast.j0 (k + 1) y0 y1 y2 y3)) ∧ (∀ y0 y1 y2 y3, LeO (spec_WithoutLast.l0 k y0 y1 y2 y3) (spec_WithoutLast.l0 (k + 1) y0 y1 y2 y3)) ∧ (∀ y0 y1 y2 y3 y4, LeO (spec_WithoutLast.l1 k y0 y1 y2 y3 y4) (spec_WithoutLast.l1 (k + 1) y0 y1 y2 y3 y4))
  | 0 => ⟨fun _ _ _ _ r h => by simp [spec_WithoutLast.j0] at h, fun _ _ _ _ r h => by simp [spec_WithoutLast.l0] at h, fun _ _ _ _ _ r h => by simp [spec_WithoutLast.l1] at h⟩
  | k + 1 => by
    obtain ⟨ih0, ih1, ih2⟩ := spec_WithoutLast.mono_l k
    refine ⟨?_, ?_, ?_⟩
    · intro y0 y1 y2 y3
      unfold spec_WithoutLast.j0
      repeat' first
      | (with_reducible exact ih0 _ _ _ _)
      | (with_reducible exact ih1 _ _ _ _)
      | (with_reducible exact ih2 _ _ _ _ _)
      | (with_reducible exact spec_RelationOk.mono _ _ _)
      | (with_reducible exact LeO.refl _)
      | (with_reducible exact LeO.none _)
      | (with_reducible refine LeO.ite ?_ ?_)
      | (with_reducible refine LeO.bind ?_ (fun _ => ?_))
      | exact ih0 _ _ _ _
      | exact ih1 _ _ _ _
      | exact ih2 _ _ _ _ _
      | exact spec_RelationOk.mono _ _ _
      | exact LeO.none _
      | refine LeO.ite ?_ ?_
      | refine LeO.bind ?_ (fun _ => ?_)
    · intro y0 y1 y2 y3
      unfold spec_WithoutLast.l0
      repeat' first
      | (with_reducible exact ih0 _ _ _ _)
      | (with_reducible exact ih1 _ _ _ _)
      | (with_reducible exact ih2 _ _ _ _ _)
      | (with_reducible exact spec_RelationOk.mono _ _ _)
      | (with_reducible exact LeO.refl _)
      | (with_reducible exact LeO.none _)
      | (with_reducible refine LeO.ite ?_ ?_)
      | (with_reducible refine LeO.bind ?_ (fun _ => ?_))
      | exact ih0 _ _ _ _
      | exact ih1 _ _ _ _
      | exact ih2 _ _ _ _ _
      | exact spec_RelationOk.mono _ _ _
      | exact LeO.none _
      | refine LeO.ite ?_ ?_
      | refine LeO.bind ?_ (fun _ => ?_)
    · intro y0 y1 y2 y3 y4
      unfold spec_WithoutLast.l1
      repeat' first
      | (with_reducible exact ih0 _ _ _ _)
      | (with_reducible exact ih1 _ _ _ _)
      | (with_reducible exact ih2 _ _ _ _ _)
      | (with_reducible exact spec_RelationOk.mono _ _ _)
      | (with_reducible exact LeO.refl _)
      | (with_reducible exact LeO.none _)
      | (with_reducible refine LeO.ite ?_ ?_)
      | (with_reducible refine LeO.bind ?_ (fun _ => ?_))
      | exact ih0 _ _ _ _
      | exact ih1 _ _ _ _
      | exact ih2 _ _ _ _ _
      | exact spec_RelationOk.mono _ _ _
      | exact LeO.none _
      | refine LeO.ite ?_ ?_
      | refine LeO.bind ?_ (fun _ => ?_)
theorem spec_WithoutLast.mono : ∀ a0 a1 k, LeO (spec_WithoutLast.f k a0 a1) (spec_WithoutLast.f (k + 1) a0 a1) := by
  intro a0 a1 k
  obtain ⟨ih0, ih1, ih2⟩ := spec_WithoutLast.mono_l k
  unfold spec_WithoutLast.f
  repeat' first
      | (with_reducible exact ih0 _ _ _ _)
      | (with_reducible exact ih1 _ _ _ _)
      | (with_reducible exact ih2 _ _ _ _ _)
      | (with_reducible exact spec_RelationOk.mono _ _ _)
      | (with_reducible exact LeO.refl _)
      | (with_reducible exact LeO.none _)
      | (with_reducible refine LeO.ite ?_ ?_)
      | (with_reducible refine LeO.bind ?_ (fun _ => ?_))
      | exact ih0 _ _ _ _
      | exact ih1 _ _ _ _
      | exact ih2 _ _ _ _ _
      | exact spec_RelationOk.mono _ _ _
      | exact LeO.none _
      | refine LeO.ite ?_ ?_
      | refine LeO.bind ?_ (fun _ => ?_)
set_option maxHeartbeats 8000000 in
set_option maxRecDepth 100000 in
theorem spec_WithoutLast.calls (k : Nat) (a0 : Int) (A1 : Option Addr) (c1 : Nat) (l1 : List Int) (r : List Int) (w : World) (hr1 : Kd.C (Kd.int .i64) w A1 l1.length l1) (hc1 : l1.length ≤ c1) (h : spec_WithoutLast.f k a0 l1 = some r) :
    Calls Try.prog 29 #[.int .i64 a0, .slice A1 l1.length c1] w fun e w' => ∃ v0_ : Value, e = .returned (v0_) ∧ Kd.R (Kd.int .i64) 3 w' w.heap.size (fun _ => True) v0_ r ∧ Below w.heap.size w w' := by
  have HR1 := Aside0.mk hr1
  have HC1 := Aside0.mk hc1
  clear hr1 hc1
  have HB := Aside0.mk (Below.refl w.heap.size w)
  have H : ((some (([] : List Int) : List Int)).bind fun y219 => ((spec_RelationOk.f k a0 l1).bind fun t222 => (if t222 = true then (spec_WithoutLast.j0 k a0 l1 y219 (a0 == 0)) else (spec_WithoutLast.j0 k a0 l1 y219 true)))) = some r := h
  clear h
  obtain ⟨y219, hy219⟩ : ∃ y_ : List Int, y_ = (([] : List Int)) := ⟨_, rfl⟩
  replace H : ((spec_RelationOk.f k a0 l1).bind fun t222 => (if t222 = true then (spec_WithoutLast.j0 k a0 l1 y219 (a0 == 0)) else (spec_WithoutLast.j0 k a0 l1 y219 true))) = some r := by first | (rw [hy219]; with_reducible exact H) | (have H2_ := (Option.bind_some _ _).symm.trans H; rw [hy219]; with_reducible exact H2_) | (have H2_ := (Option.bind_some _ _).symm.trans H; with_reducible exact H2_) | with_reducible exact H | (rw [hy219]; exact H) | exact H
  have Ny219 := Aside0.mk hy219
  clear hy219
  have HC3 := Aside0.mk H
  clear H
  go_enter Try.func29, Try.ntmps29
  go_upto_region 2 with (first | ((with_reducible refine gate_dst (N := 8) rfl ?_); refine Kd.R_lit (Kd.int .i64) _ 3 ?hg (N := 8) ?hd (xs := ([] : List Int)) (inner := []) (ok := fun _ => True) (okp := fun _ => True) ?hr ?hp (fun _ hk => hk) trivial (Below.refl _ _) (Nat.le_refl _) (by simp) ?_; (case hd => rfl); (case hg => rfl); (case hr => first | (go_simp; done) | (go_simp; rfl)); (case hp => exact (Reps.none _ _)); intro v220 w4 ho5 hb hg_ hnew_; clear hg_ hnew_; (first | rw [← Ny219.out] at ho5 | (simp only [Int.reduceToNat] at ho5; rw [← Ny219.out] at ho5)); have n0_ := Aside0.mk (Kd.R_lower ho5 (below_size (by repeat (first | (with_reducible first | exact HB.out | apply below_alloc | apply pw_below_drewN | apply below_drew1) | exact HB.out)))); have n1_ := Aside0.mk (below_step (by repeat (first | (with_reducible first | exact HB.out | apply below_alloc | apply pw_below_drewN | apply below_drew1) | exact HB.out)) hb); clear HB; have HO221 := n0_; have HB := n1_; clear n0_ n1_; clear hb ho5))
  (try simp only [Act.put, List.setIfInBounds_toArray, List.set_cons_zero, List.set_cons_succ])
  go_cut [16] (fun v16 wc => ∃ (kq : Nat) (x16_2 : Bool), v16 = .bool x16_2 ∧ Aside0 (spec_WithoutLast.j0 kq a0 l1 y219 x16_2 = some r) ∧ Aside0 (kq ≤ k) ∧ Aside0 (Kd.R (Kd.int .i64) 3 wc w.heap.size (fun _ => True) v220 y219) ∧ Aside0 (Below w.heap.size w wc))
  case first =>
    have H := HC3.out
    clear HC3
    replace H := Option.bind_eq_some_iff.mp H
    obtain ⟨t222, A60, H⟩ := H
    replace H : (if t222 = true then (spec_WithoutLast.j0 k a0 l1 y219 (a0 == 0)) else (spec_WithoutLast.j0 k a0 l1 y219 true)) = some r := H
    have A6 := Aside0.mk A60
    clear A60
    by_cases c7 : t222 = true
    · subst c7
      have H1 : (spec_WithoutLast.j0 k a0 l1 y219 (a0 == 0)) = some r := by rw [if_pos rfl] at H; exact H
      clear H
      have H := H1
      clear H1
      have H' := Aside0.mk H
      clear H
      go_wp2_with (first | ((with_reducible refine gate_callee (f := 15) rfl ?_); refine goesL_ (some 11) rfl rfl Try.func15 (by kernel_rfl) rfl #[.int .i64 a0, .slice A1 l1.length c1] rfl (by (try simp only [List.map_toArray, List.map_cons, List.map_nil]); first | done | rfl | (simp only [List.length_drop, List.length_take]; rfl)) ?_; (with_reducible refine (spec_RelationOk.calls k a0 _ _ l1 true _ ?side1 ?side2 A6.out).mono ?_); (case side1 => repeat (first | exact (Kd.C_below HR1.out HB.out) | (with_reducible refine Kd.C_alloc ?_ _) | (with_reducible refine Kd.C_drewN ?_ _) | (with_reducible refine Kd.C_drew ?_))); (case side2 => exact HC1.out); rintro e w' ⟨rfl, ⟨nd, rfl⟩⟩; refine ⟨_, rfl, ?_⟩))
      go_meet
      case rel => exact ⟨_, ((a0 == 0)), (by first | rfl | (simp; done) | (simp [*]; done)), H', ⟨by first | omega | exact Nat.le_refl _⟩, ⟨by (with_reducible repeat (first | apply Kd.R_alloc | apply Kd.R_drewN | apply Kd.R_drew)); exact HO221.out⟩, ⟨by repeat (first | (with_reducible first | exact HB.out | apply below_alloc | apply pw_below_drewN | apply below_drew1) | exact HB.out)⟩⟩
    · replace c7 := Bool.eq_false_iff.mpr c7
      subst c7
      have H1 : (spec_WithoutLast.j0 k a0 l1 y219 true) = some r := by rw [if_neg (show ¬ (false = true) by decide)] at H; exact H
      clear H
      have H := H1
      clear H1
      have H' := Aside0.mk H
      clear H
      go_wp2_with (first | ((with_reducible refine gate_callee (f := 15) rfl ?_); refine goesL_ (some 11) rfl rfl Try.func15 (by kernel_rfl) rfl #[.int .i64 a0, .slice A1 l1.length c1] rfl (by (try simp only [List.map_toArray, List.map_cons, List.map_nil]); first | done | rfl | (simp only [List.length_drop, List.length_take]; rfl)) ?_; (with_reducible refine (spec_RelationOk.calls k a0 _ _ l1 false _ ?side1 ?side2 A6.out).mono ?_); (case side1 => repeat (first | exact (Kd.C_below HR1.out HB.out) | (with_reducible refine Kd.C_alloc ?_ _) | (with_reducible refine Kd.C_drewN ?_ _) | (with_reducible refine Kd.C_drew ?_))); (case side2 => exact HC1.out); rintro e w' ⟨rfl, ⟨nd, rfl⟩⟩; refine ⟨_, rfl, ?_⟩))
      go_meet
      case rel => exact ⟨_, (true), (by first | rfl | (simp; done) | (simp [*]; done)), H', ⟨by first | omega | exact Nat.le_refl _⟩, ⟨by (with_reducible repeat (first | apply Kd.R_alloc | apply Kd.R_drewN | apply Kd.R_drew)); exact HO221.out⟩, ⟨by repeat (first | (with_reducible first | exact HB.out | apply below_alloc | apply pw_below_drewN | apply below_drew1) | exact HB.out)⟩⟩
  case rest =>
    clear HC3
    try clear c1
    try clear c2
    try clear p2
    try clear c7
    obtain ⟨kq, x16_2, rfl, HA, HJ2, HO_5, HB⟩ := hcut
    cases kq with
    | zero => exact absurd HA.out (by simp [spec_WithoutLast.j0])
    | succ kj2 =>
      have H := HA.out
      clear HA
      simp only [spec_WithoutLast.j0] at H
      by_cases c8 : x16_2 = true
      · subst c8
        have H1 : (some y219) = some r := by rw [if_pos rfl] at H; exact H
        clear H
        have H := H1
        clear H1
        obtain rfl := Option.some.inj H
        go_wp2
        go_ret
        exact ⟨_, by first | rfl | (simp [errW_none, errW_some] <;> rfl) | (simp [*, errW_none, errW_some] <;> rfl), by (with_reducible repeat (first | apply Kd.R_alloc | apply Kd.R_drewN | apply Kd.R_drew)); exact HO_5.out, by repeat (first | (with_reducible first | exact HB.out | apply below_alloc | apply pw_below_drewN | apply below_drew1) | exact HB.out)⟩
      · replace c8 := Bool.eq_false_iff.mpr c8
        subst c8
        have H1 : (spec_WithoutLast.l0 kj2 a0 l1 y219 0) = some r := by rw [if_neg (show ¬ (false = true) by decide)] at H; exact H
        clear H
        have H := H1
        clear H1
        have H' := Aside0.mk H
        clear H
        go_wp2
        go_loopg [5, 6] kj2 (fun kq v5 v6 w' => ∃ (x5_2 : List Int) (x6_2 : Int), v6 = .int .i64 x6_2 ∧ Aside0 (spec_WithoutLast.l0 kq a0 l1 x5_2 x6_2 = some r) ∧ Aside0 (kq ≤ kj2) ∧ Aside0 (Kd.R (Kd.int .i64) 3 w' w.heap.size (fun _ => True) v5 x5_2) ∧ Aside0 (Below w.heap.size w w'))
        case atStart => exact ⟨(y219), (0), (by first | rfl | (simp; done) | (simp [*]; done)), H', ⟨Nat.le_refl _⟩, ⟨by (with_reducible repeat (first | apply Kd.R_alloc | apply Kd.R_drewN | apply Kd.R_drew)); exact HO_5.out⟩, ⟨by repeat (first | (with_reducible first | exact HB.out | apply below_alloc | apply pw_below_drewN | apply below_drew1) | exact HB.out)⟩⟩
        case round =>
          clear H'
          try clear c1
          try clear c2
          try clear p2
          try clear c7
          try clear c8
          try clear p2
          obtain ⟨x5_2, x6_2, rfl, HA, HK2, HO_5, HB⟩ := hrel
          cases gk with
          | zero => exact absurd HA.out (by simp [spec_WithoutLast.l0])
          | succ k2 =>
            have H := HA.out
            clear HA
            simp only [spec_WithoutLast.l0] at H
            obtain ⟨ji9, hji9⟩ : ∃ j_ : Int, (wrap64 (a0 - 1)) = j_ := ⟨_, rfl⟩
            replace H : (if 0 ≤ (ji9) then (if x6_2 < (shl .i64 1 (ji9)) then (spec_WithoutLast.l1 k2 a0 l1 x5_2 x6_2 0) else (some x5_2)) else (none)) = some r := by first | (rw [hji9] at H; exact H) | (simp only [hji9] at H ⊢; exact H)
            have hji9w : (IntKind.i64.wrap (a0 - 1)) = ji9 := (i64_w _).trans hji9
            by_cases c10 : 0 ≤ (ji9)
            · rw [if_pos c10] at H
              have c10b0 := eq_true c10
              have c10b1 : decide (0 ≤ (ji9)) = true := decide_eq_true c10
              clear c10
              obtain ⟨ji11, hji11⟩ : ∃ j_ : Int, (shl .i64 1 (ji9)) = j_ := ⟨_, rfl⟩
              replace H : (if x6_2 < (ji11) then (spec_WithoutLast.l1 k2 a0 l1 x5_2 x6_2 0) else (some x5_2)) = some r := by first | (rw [hji11] at H; exact H) | (simp only [hji11] at H ⊢; exact H)
              have hji11_ : (IntKind.i64.wrap (1 * 2 ^ min (ji9).toNat 64)) = ji11 := hji11
              have hji11z : (ji9) ≤ 64 → (IntKind.i64.wrap (1 * 2 ^ (ji9).toNat)) = ji11 := shl_small hji11
              have hji11u : (IntKind.i64.wrap (2 ^ min (ji9).toNat 64)) = ji11 := by have h_ := hji11_; rw [Int.one_mul] at h_; exact h_
              have hji11v : (ji9) ≤ 64 → (IntKind.i64.wrap (2 ^ (ji9).toNat)) = ji11 := fun hle_ => by have h_ := hji11z hle_; rw [Int.one_mul] at h_; exact h_
              have hji11y : (wrap64 (1 * 2 ^ min (ji9).toNat 64)) = ji11 := (i64_w _).symm.trans hji11_
              have hji11x : (ji9) ≤ 64 → (wrap64 (1 * 2 ^ (ji9).toNat)) = ji11 := fun h_ => (i64_w _).symm.trans (hji11z h_)
              by_cases c12 : x6_2 < (ji11)
              · rw [if_pos c12] at H
                have c12b0 : decide (x6_2 < (ji11)) = true := decide_eq_true c12
                clear c12
                have H' := Aside0.mk H
                clear H
                go_wp2
                go_loopg [5, 7] k2 (fun kq v5 v7 w' => ∃ (x5_3 : List Int) (x7_3 : Int), v7 = .int .i64 x7_3 ∧ Aside0 (spec_WithoutLast.l1 kq a0 l1 x5_3 x6_2 x7_3 = some r) ∧ Aside0 (kq ≤ k2) ∧ Aside0 (Kd.R (Kd.int .i64) 3 w' w.heap.size (fun _ => True) v5 x5_3) ∧ Aside0 (Below w.heap.size w w'))
                case atStart => exact ⟨(x5_2), (0), (by first | rfl | (simp; done) | (simp [*]; done)), H', ⟨Nat.le_refl _⟩, ⟨by (with_reducible repeat (first | apply Kd.R_alloc | apply Kd.R_drewN | apply Kd.R_drew)); exact HO_5.out⟩, ⟨by repeat (first | (with_reducible first | exact HB.out | apply below_alloc | apply pw_below_drewN | apply below_drew1) | exact HB.out)⟩⟩
                case round =>
                  clear H'
                  try clear c1
                  try clear c2
                  try clear p2
                  try clear p6
                  try clear c7
                  try clear c8
                  try clear c10
                  try clear c10b0
                  try clear c10b1
                  try clear c12
                  try clear c12b0
                  try clear p2
                  obtain ⟨x5_3, x7_3, rfl, HA, HK3, HO_5, HB⟩ := hrel
                  cases gk with
                  | zero => exact absurd HA.out (by simp [spec_WithoutLast.l1])
                  | succ k3 =>
                    have H := HA.out
                    clear HA
                    simp only [spec_WithoutLast.l1] at H
                    replace H : (if 0 ≤ (ji9) then (if x7_3 < (shl .i64 1 (ji9)) then (if 0 ≤ a0 then (if 0 ≤ (wrap64 ((shl .i64 x6_2 a0) + x7_3)) then (if (wrap64 ((shl .i64 x6_2 a0) + x7_3)) < (l1.length : Int) then (if x5_3.length < 17592186044416 then (spec_WithoutLast.l1 k3 a0 l1 (x5_3 ++ [rd l1 (wrap64 ((shl .i64 x6_2 a0) + x7_3))]) x6_2 (wrap64 (x7_3 + 1))) else (none)) else (none)) else (none)) else (none)) else (spec_WithoutLast.l0 k3 a0 l1 x5_3 (wrap64 (x6_2 + 1)))) else (none)) = some r := by first | exact H | (rw [hji9] at H; exact H) | (simp only [hji9] at H ⊢; exact H)
                    by_cases c13 : 0 ≤ (ji9)
                    · rw [if_pos c13] at H
                      have c13b0 := eq_true c13
                      have c13b1 : decide (0 ≤ (ji9)) = true := decide_eq_true c13
                      clear c13
                      replace H : (if x7_3 < (ji11) then (if 0 ≤ a0 then (if 0 ≤ (wrap64 ((shl .i64 x6_2 a0) + x7_3)) then (if (wrap64 ((shl .i64 x6_2 a0) + x7_3)) < (l1.length : Int) then (if x5_3.length < 17592186044416 then (spec_WithoutLast.l1 k3 a0 l1 (x5_3 ++ [rd l1 (wrap64 ((shl .i64 x6_2 a0) + x7_3))]) x6_2 (wrap64 (x7_3 + 1))) else (none)) else (none)) else (none)) else (none)) else (spec_WithoutLast.l0 k3 a0 l1 x5_3 (wrap64 (x6_2 + 1)))) = some r := by first | exact H | (rw [hji11] at H; exact H) | (simp only [hji11] at H ⊢; exact H)
                      by_cases c14 : x7_3 < (ji11)
                      · rw [if_pos c14] at H
                        have c14b0 : decide (x7_3 < (ji11)) = true := decide_eq_true c14
                        clear c14
                        by_cases c15 : 0 ≤ a0
                        · rw [if_pos c15] at H
                          have c15b0 := eq_true c15
                          have c15b1 : decide (0 ≤ a0) = true := decide_eq_true c15
                          clear c15
                          obtain ⟨ji16, hji16⟩ : ∃ j_ : Int, (shl .i64 x6_2 a0) = j_ := ⟨_, rfl⟩
                          replace H : (if 0 ≤ (wrap64 ((ji16) + x7_3)) then (if (wrap64 ((ji16) + x7_3)) < (l1.length : Int) then (if x5_3.length < 17592186044416 then (spec_WithoutLast.l1 k3 a0 l1 (x5_3 ++ [rd l1 (wrap64 ((ji16) + x7_3))]) x6_2 (wrap64 (x7_3 + 1))) else (none)) else (none)) else (none)) = some r := by first | (rw [hji16] at H; exact H) | (simp only [hji16] at H ⊢; exact H)
                          have hji16_ : (IntKind.i64.wrap (x6_2 * 2 ^ min a0.toNat 64)) = ji16 := hji16
                          have hji16z : a0 ≤ 64 → (IntKind.i64.wrap (x6_2 * 2 ^ a0.toNat)) = ji16 := shl_small hji16
                          have hji16y : (wrap64 (x6_2 * 2 ^ min a0.toNat 64)) = ji16 := (i64_w _).symm.trans hji16_
                          have hji16x : a0 ≤ 64 → (wrap64 (x6_2 * 2 ^ a0.toNat)) = ji16 := fun h_ => (i64_w _).symm.trans (hji16z h_)
                          obtain ⟨ji17, hji17⟩ : ∃ j_ : Int, (wrap64 ((ji16) + x7_3)) = j_ := ⟨_, rfl⟩
                          replace H : (if 0 ≤ (ji17) then (if (ji17) < (l1.length : Int) then (if x5_3.length < 17592186044416 then (spec_WithoutLast.l1 k3 a0 l1 (x5_3 ++ [rd l1 (ji17)]) x6_2 (wrap64 (x7_3 + 1))) else (none)) else (none)) else (none)) = some r := by first | (rw [hji17] at H; exact H) | (simp only [hji17] at H ⊢; exact H)
                          have hji17w : (IntKind.i64.wrap ((ji16) + x7_3)) = ji17 := (i64_w _).trans hji17
                          by_cases c18 : 0 ≤ (ji17)
                          · rw [if_pos c18] at H
                            have c18b0 : decide (0 ≤ (ji17)) = true := decide_eq_true c18
                            clear c18
                            by_cases c19 : (ji17) < (l1.length : Int)
                            · rw [if_pos c19] at H
                              have c19b0 : decide ((ji17) < (l1.length : Int)) = true := decide_eq_true c19
                              clear c19
                              by_cases c20 : x5_3.length < 17592186044416
                              · rw [if_pos c20] at H
                                have LMc20 := Aside0.mk c20
                                clear c20
                                obtain ⟨y224, hy224⟩ : ∃ y_ : List Int, y_ = (x5_3 ++ [rd l1 (ji17)]) := ⟨_, rfl⟩
                                replace H : (spec_WithoutLast.l1 k3 a0 l1 y224 x6_2 (wrap64 (x7_3 + 1))) = some r := by first | (rw [hy224]; with_reducible exact H) | (have H2_ := (Option.bind_some _ _).symm.trans H; rw [hy224]; with_reducible exact H2_) | (have H2_ := (Option.bind_some _ _).symm.trans H; with_reducible exact H2_) | with_reducible exact H | (rw [hy224]; exact H) | exact H
                                have Ny224 := Aside0.mk hy224
                                clear hy224
                                have H' := Aside0.mk H
                                clear H
                                have p223 : 0 ≤ ((ji17) : Int) := of_decide_eq_true (by first | (with_reducible assumption) | assumption)
                                have q223 : (ji17) < (l1.length : Int) := of_decide_eq_true (by first | (with_reducible assumption) | assumption)
                                obtain ⟨ad223, e223, hx223_0⟩ := Kd.at_int HR1.out (ji17) p223 q223
                                cases e223
                                replace hx223_0 := (HB.out.cell (World.block_lt_of_cell? w _ hx223_0)).trans hx223_0
                                replace p223 := eq_true p223
                                replace q223 := eq_true q223
                                go_wp2_with (first | ((with_reducible refine gate_builtin (b := .append) (xs := #[.tmp 32, .tmp 41]) rfl ?_); at_builtin; refine Kd.R_append (Kd.int .i64) (w0 := w) w.heap.size rfl (.tmp 32) (.tmp 41) 22 3 (.int .i64 0) 8 rfl Try.underlying22 info3 rfl (by decide) (by omega) u5 x5_3 (rd l1 (ji17)) [.int .i64 (rd l1 (ji17))] (fun _ => True) (fun _ => False) rfl rfl ?aP (fun _ hk => hk.elim) ?aF ?aO ?aB ?aS ?aL ?_; (case aP => exact rfl); (case aB => exact (by repeat (first | (with_reducible first | exact HB.out | apply below_alloc | apply pw_below_drewN | apply below_drew1) | exact HB.out))); (case aF => exact (fun _ _ => trivial)); (case aO => exact (by (with_reducible repeat (first | apply Kd.R_alloc | apply Kd.R_drewN | apply Kd.R_drew)); exact HO_5.out)); (case aS => exact (below_size (by repeat (first | (with_reducible first | exact HB.out | apply below_alloc | apply pw_below_drewN | apply below_drew1) | exact HB.out)))); (case aL => have := LMc20.out; omega); intro v225 w21 ho hb hg hat; rw [← Ny224.out] at ho; have n0_ := Aside0.mk (hb); have n1_ := Aside0.mk (ho); clear HB; clear HO_5; have HB := n0_; have HO226 := n1_; clear n0_ n1_; clear ho hb hg hat))
                                go_roundg k3
                                case measure => have := HJ2.out; have := HK2.out; have := HK3.out; omega
                                case rel => exact ⟨(y224), (wrap64 (x7_3 + 1)), (by first | rfl | (simp; done) | (simp [*]; done)), H', ⟨by have := HJ2.out; have := HK2.out; have := HK3.out; omega⟩, ⟨by (with_reducible repeat (first | apply Kd.R_alloc | apply Kd.R_drewN | apply Kd.R_drew)); exact HO226.out⟩, ⟨by repeat (first | (with_reducible first | exact HB.out | apply below_alloc | apply pw_below_drewN | apply below_drew1) | exact HB.out)⟩⟩
                              · rw [if_neg c20] at H
                                exact absurd H (by simp)
                            · rw [if_neg c19] at H
                              exact absurd H (by simp)
                          · rw [if_neg c18] at H
                            exact absurd H (by simp)
                        · rw [if_neg c15] at H
                          exact absurd H (by simp)
                      · rw [if_neg c14] at H
                        have c14b0 : decide (x7_3 < (ji11)) = false := decide_eq_false c14
                        clear c14
                        have H' := Aside0.mk H
                        clear H
                        go_wp2
                        go_roundg k3
                        case measure => have := HJ2.out; have := HK2.out; have := HK3.out; omega
                        case rel => exact ⟨(x5_3), (wrap64 (x6_2 + 1)), (by first | rfl | (simp; done) | (simp [*]; done)), H', ⟨by have := HJ2.out; have := HK2.out; have := HK3.out; omega⟩, ⟨by (with_reducible repeat (first | apply Kd.R_alloc | apply Kd.R_drewN | apply Kd.R_drew)); exact HO_5.out⟩, ⟨by repeat (first | (with_reducible first | exact HB.out | apply below_alloc | apply pw_below_drewN | apply below_drew1) | exact HB.out)⟩⟩
                    · rw [if_neg c13] at H
                      exact absurd H (by simp)
              · rw [if_neg c12] at H
                have c12b0 : decide (x6_2 < (ji11)) = false := decide_eq_false c12
                clear c12
                obtain rfl := Option.some.inj H
                go_wp2
                go_ret
                exact ⟨_, by first | rfl | (simp [errW_none, errW_some] <;> rfl) | (simp only [← hji9, ← hji11]; first | rfl | (simp [errW_none, errW_some] <;> rfl)) | (simp [*, errW_none, errW_some] <;> rfl), by (with_reducible repeat (first | apply Kd.R_alloc | apply Kd.R_drewN | apply Kd.R_drew)); exact HO_5.out, by repeat (first | (with_reducible first | exact HB.out | apply below_alloc | apply pw_below_drewN | apply below_drew1) | exact HB.out)⟩
            · rw [if_neg c10] at H
              exact absurd H (by simp)

end Go.Proofs.Ythgkkhpndiiabaa.P

-- Written by wip/gen/lay.py, a program of this session, with the kit's print as its base. Lean checks every line.
namespace Go.Proofs.Ythgkkhpndiiabaa.P
open Go.RowKit Go.Proofs.YthgkkhpndiiabaaW.PrintWords Go.Proofs.YthgkkhpndiiabaaW.PrintLast Go.Proofs.YthgkkhpndiiabaaW.PrintMore
attribute [local go_sem] max2_int min2_int max_two min_two max_three min_three max_four min_four   -- for this text's walks alone
set_option linter.unusedVariables false
set_option linter.unusedSimpArgs false

/-! ### impl_WithoutLast: function 30 -/
mutual
def impl_WithoutLast.j0 : Nat → Int → List Int → Bool → Option (List Int)
  | 0, _, _, _ => none
  | k + 1, x0, x1, x15 => if x15 = true then (some ([] : List Int)) else (if 0 ≤ (wrap64 (x0 - 1)) then (impl_WithoutLast.l0 k x0 x1 (([] : List Int)) (shl .i64 1 (wrap64 (x0 - 1))) 0) else (none))
def impl_WithoutLast.l0 : Nat → Int → List Int → List Int → Int → Int → Option (List Int)
  | 0, _, _, _, _, _ => none
  | k + 1, x0, x1, x5, x19, x20 => if x20 < x19 then (if 0 ≤ (wrap64 (x0 - 1)) then (impl_WithoutLast.l1 k x0 x1 x5 x20 x19 x20 (shl .i64 1 (wrap64 (x0 - 1))) 0) else (none)) else (some x5)
def impl_WithoutLast.l1 : Nat → Int → List Int → List Int → Int → Int → Int → Int → Int → Option (List Int)
  | 0, _, _, _, _, _, _, _, _ => none
  | k + 1, x0, x1, x5, x6, x19, x20, x25, x26 => if x26 < x25 then (if 0 ≤ x0 then (if 0 ≤ (wrap64 ((shl .i64 x6 x0) + x26)) then (if (wrap64 ((shl .i64 x6 x0) + x26)) < (x1.length : Int) then (if x5.length < 17592186044416 then (impl_WithoutLast.l1 k x0 x1 (x5 ++ [rd x1 (wrap64 ((shl .i64 x6 x0) + x26))]) x6 x19 x20 x25 (wrap64 (x26 + 1))) else (none)) else (none)) else (none)) else (none)) else (impl_WithoutLast.l0 k x0 x1 x5 x19 (wrap64 (x20 + 1)))
end
def impl_WithoutLast.f (k : Nat) (a0 : Int) (l1 : List Int) : Option (List Int) := (impl_isRelation.f k a0 l1).bind fun t227 => (if t227 = true then (impl_WithoutLast.j0 k a0 l1 (decide (a0 < 1))) else (impl_WithoutLast.j0 k a0 l1 true))
theorem impl_WithoutLast.mono_l : ∀ k, (∀ y0 y1 y2, LeO (impl_WithoutLast.j0 k y0 y1 y2) (impl_WithoutLast.j0 (k + 1) y0 y1 y2)) ∧ (∀ y0 y1 y2 y3 y4, LeO (impl_WithoutLast.l0 k y0 y1 y2 y3 y4) (impl_WithoutLast.l0 (k + 1) y0 y1 y2 y3 y4)) ∧ (∀ y0 y1 y2 y3 y4 y5 y6 y7, LeO (impl_WithoutLast.l1 k y0 y1 y2 y3 y4 y5 y6 y7) (impl_WithoutLast.l1 (k + 1) y0 y1 y2 y3 y4 y5 y6 y7))
  | 0 => ⟨fun _ _ _ r h => by simp [impl_WithoutLast.j0] at h, fun _ _ _ _ _ r h => by simp [impl_WithoutLast.l0] at h, fun _ _ _ _ _ _ _ _ r h => by simp [impl_WithoutLast.l1] at h⟩
  | k + 1 => by
    obtain ⟨ih0, ih1, ih2⟩ := impl_WithoutLast.mono_l k
    refine ⟨?_, ?_, ?_⟩
    · intro y0 y1 y2
      unfold impl_WithoutLast.j0
      repeat' first
      | (with_reducible exact ih0 _ _ _)
      | (with_reducible exact ih1 _ _ _ _ _)
      | (with_reducible exact ih2 _ _ _ _ _ _ _ _)
      | (with_reducible exact impl_isRelation.mono _ _ _)
      | (with_reducible exact LeO.refl _)
      | (with_reducible exact LeO.none _)
      | (with_reducible refine LeO.ite ?_ ?_)
      | (with_reducible refine LeO.bind ?_ (fun _ => ?_))
      | exact ih0 _ _ _
      | exact ih1 _ _ _ _ _
      | exact ih2 _ _ _ _ _ _ _ _
      | exact impl_isRelation.mono _ _ _
      | exact LeO.none _
      | refine LeO.ite ?_ ?_
      | refine LeO.bind ?_ (fun _ => ?_)
    · intro y0 y1 y2 y3 y4
      unfold impl_WithoutLast.l0
      repeat' first
      | (with_reducible exact ih0 _ _ _)
      | (with_reducible exact ih1 _ _ _ _ _)
      | (with_reducible exact ih2 _ _ _ _ _ _ _ _)
      | (with_reducible exact impl_isRelation.mono _ _ _)
      | (with_reducible exact LeO.refl _)
      | (with_reducible exact LeO.none _)
      | (with_reducible refine LeO.ite ?_ ?_)
      | (with_reducible refine LeO.bind ?_ (fun _ => ?_))
      | exact ih0 _ _ _
      | exact ih1 _ _ _ _ _
      | exact ih2 _ _ _ _ _ _ _ _
      | exact impl_isRelation.mono _ _ _
      | exact LeO.none _
      | refine LeO.ite ?_ ?_
      | refine LeO.bind ?_ (fun _ => ?_)
    · intro y0 y1 y2 y3 y4 y5 y6 y7
      unfold impl_WithoutLast.l1
      repeat' first
      | (with_reducible exact ih0 _ _ _)
      | (with_reducible exact ih1 _ _ _ _ _)
      | (with_reducible exact ih2 _ _ _ _ _ _ _ _)
      | (with_reducible exact impl_isRelation.mono _ _ _)
      | (with_reducible exact LeO.refl _)
      | (with_reducible exact LeO.none _)
      | (with_reducible refine LeO.ite ?_ ?_)
      | (with_reducible refine LeO.bind ?_ (fun _ => ?_))
      | exact ih0 _ _ _
      | exact ih1 _ _ _ _ _
      | exact ih2 _ _ _ _ _ _ _ _
      | exact impl_isRelation.mono _ _ _
      | exact LeO.none _
      | refine LeO.ite ?_ ?_
      | refine LeO.bind ?_ (fun _ => ?_)
theorem impl_WithoutLast.mono : ∀ a0 a1 k, LeO (impl_WithoutLast.f k a0 a1) (impl_WithoutLast.f (k + 1) a0 a1) := by
  intro a0 a1 k
  obtain ⟨ih0, ih1, ih2⟩ := impl_WithoutLast.mono_l k
  unfold impl_WithoutLast.f
  repeat' first
      | (with_reducible exact ih0 _ _ _)
      | (with_reducible exact ih1 _ _ _ _ _)
      | (with_reducible exact ih2 _ _ _ _ _ _ _ _)
      | (with_reducible exact impl_isRelation.mono _ _ _)
      | (with_reducible exact LeO.refl _)
      | (with_reducible exact LeO.none _)
      | (with_reducible refine LeO.ite ?_ ?_)
      | (with_reducible refine LeO.bind ?_ (fun _ => ?_))
      | exact ih0 _ _ _
      | exact ih1 _ _ _ _ _
      | exact ih2 _ _ _ _ _ _ _ _
      | exact impl_isRelation.mono _ _ _
      | exact LeO.none _
      | refine LeO.ite ?_ ?_
      | refine LeO.bind ?_ (fun _ => ?_)
set_option maxHeartbeats 8000000 in
set_option maxRecDepth 100000 in
theorem impl_WithoutLast.calls (k : Nat) (a0 : Int) (A1 : Option Addr) (c1 : Nat) (l1 : List Int) (r : List Int) (w : World) (hr1 : Kd.C (Kd.int .i64) w A1 l1.length l1) (hc1 : l1.length ≤ c1) (h : impl_WithoutLast.f k a0 l1 = some r) :
    Calls Try.prog 30 #[.int .i64 a0, .slice A1 l1.length c1] w fun e w' => ∃ v0_ : Value, e = .returned (v0_) ∧ Kd.R (Kd.int .i64) 3 w' w.heap.size (fun _ => True) v0_ r ∧ Below w.heap.size w w' := by
  have HR1 := Aside0.mk hr1
  have HC1 := Aside0.mk hc1
  clear hr1 hc1
  have HB := Aside0.mk (Below.refl w.heap.size w)
  have H : ((impl_isRelation.f k a0 l1).bind fun t227 => (if t227 = true then (impl_WithoutLast.j0 k a0 l1 (decide (a0 < 1))) else (impl_WithoutLast.j0 k a0 l1 true))) = some r := h
  clear h
  have HC3 := Aside0.mk H
  clear H
  go_enter Try.func30, Try.ntmps30
  go_upto_region 1 with (fail)
  go_cut [15] (fun v15 wc => ∃ (kq : Nat) (x15_2 : Bool), v15 = .bool x15_2 ∧ Aside0 (impl_WithoutLast.j0 kq a0 l1 x15_2 = some r) ∧ Aside0 (kq ≤ k) ∧ Aside0 (Below w.heap.size w wc))
  case first =>
    have H := HC3.out
    clear HC3
    replace H := Option.bind_eq_some_iff.mp H
    obtain ⟨t227, A40, H⟩ := H
    replace H : (if t227 = true then (impl_WithoutLast.j0 k a0 l1 (decide (a0 < 1))) else (impl_WithoutLast.j0 k a0 l1 true)) = some r := H
    have A4 := Aside0.mk A40
    clear A40
    by_cases c5 : t227 = true
    · subst c5
      have H1 : (impl_WithoutLast.j0 k a0 l1 (decide (a0 < 1))) = some r := by rw [if_pos rfl] at H; exact H
      clear H
      have H := H1
      clear H1
      have H' := Aside0.mk H
      clear H
      go_wp2_with (first | ((with_reducible refine gate_callee (f := 44) rfl ?_); refine goesL_ (some 10) rfl rfl Try.func44 (by kernel_rfl) rfl #[.int .i64 a0, .slice A1 l1.length c1] rfl (by (try simp only [List.map_toArray, List.map_cons, List.map_nil]); first | done | rfl | (simp only [List.length_drop, List.length_take]; rfl)) ?_; (with_reducible refine (impl_isRelation.calls k a0 _ _ l1 true _ ?side1 ?side2 A4.out).mono ?_); (case side1 => repeat (first | exact (Kd.C_below HR1.out HB.out) | (with_reducible refine Kd.C_alloc ?_ _) | (with_reducible refine Kd.C_drewN ?_ _) | (with_reducible refine Kd.C_drew ?_))); (case side2 => exact HC1.out); rintro e w' ⟨rfl, ⟨nd, rfl⟩⟩; refine ⟨_, rfl, ?_⟩))
      go_meet
      case rel => exact ⟨_, (decide (a0 < 1)), (by first | rfl | (simp; done) | (simp [*]; done)), H', ⟨by first | omega | exact Nat.le_refl _⟩, ⟨by repeat (first | (with_reducible first | exact HB.out | apply below_alloc | apply pw_below_drewN | apply below_drew1) | exact HB.out)⟩⟩
    · replace c5 := Bool.eq_false_iff.mpr c5
      subst c5
      have H1 : (impl_WithoutLast.j0 k a0 l1 true) = some r := by rw [if_neg (show ¬ (false = true) by decide)] at H; exact H
      clear H
      have H := H1
      clear H1
      have H' := Aside0.mk H
      clear H
      go_wp2_with (first | ((with_reducible refine gate_callee (f := 44) rfl ?_); refine goesL_ (some 10) rfl rfl Try.func44 (by kernel_rfl) rfl #[.int .i64 a0, .slice A1 l1.length c1] rfl (by (try simp only [List.map_toArray, List.map_cons, List.map_nil]); first | done | rfl | (simp only [List.length_drop, List.length_take]; rfl)) ?_; (with_reducible refine (impl_isRelation.calls k a0 _ _ l1 false _ ?side1 ?side2 A4.out).mono ?_); (case side1 => repeat (first | exact (Kd.C_below HR1.out HB.out) | (with_reducible refine Kd.C_alloc ?_ _) | (with_reducible refine Kd.C_drewN ?_ _) | (with_reducible refine Kd.C_drew ?_))); (case side2 => exact HC1.out); rintro e w' ⟨rfl, ⟨nd, rfl⟩⟩; refine ⟨_, rfl, ?_⟩))
      go_meet
      case rel => exact ⟨_, (true), (by first | rfl | (simp; done) | (simp [*]; done)), H', ⟨by first | omega | exact Nat.le_refl _⟩, ⟨by repeat (first | (with_reducible first | exact HB.out | apply below_alloc | apply pw_below_drewN | apply below_drew1) | exact HB.out)⟩⟩
  case rest =>
    clear HC3
    try clear c1
    try clear p2
    try clear c3
    try clear c4
    try clear c5
    obtain ⟨kq, x15_2, rfl, HA, HJ2, HB⟩ := hcut
    cases kq with
    | zero => exact absurd HA.out (by simp [impl_WithoutLast.j0])
    | succ kj2 =>
      have H := HA.out
      clear HA
      simp only [impl_WithoutLast.j0] at H
      by_cases c6 : x15_2 = true
      · subst c6
        have H1 : (some ([] : List Int)) = some r := by rw [if_pos rfl] at H; exact H
        clear H
        have H := H1
        clear H1
        obtain rfl := Option.some.inj H
        go_wp2
        go_ret
        exact ⟨_, by first | rfl | (simp [errW_none, errW_some] <;> rfl) | (simp [*, errW_none, errW_some] <;> rfl), by first | exact Kd.R_nil _ _ _ _ _ | exact Kd.N_nil _ _ _ _ _ | exact Kd.V_nil _ _ _ _ _ | exact Kd.Q_nil _ _ _ _ _ | exact Kd.S_nil _ _ _ _ _, by repeat (first | (with_reducible first | exact HB.out | apply below_alloc | apply pw_below_drewN | apply below_drew1) | exact HB.out)⟩
      · replace c6 := Bool.eq_false_iff.mpr c6
        subst c6
        have H1 : (if 0 ≤ (wrap64 (a0 - 1)) then (impl_WithoutLast.l0 kj2 a0 l1 (([] : List Int)) (shl .i64 1 (wrap64 (a0 - 1))) 0) else (none)) = some r := by rw [if_neg (show ¬ (false = true) by decide)] at H; exact H
        clear H
        have H := H1
        clear H1
        obtain ⟨y228, hy228⟩ : ∃ y_ : List Int, y_ = (([] : List Int)) := ⟨_, rfl⟩
        replace H : (if 0 ≤ (wrap64 (a0 - 1)) then (impl_WithoutLast.l0 kj2 a0 l1 y228 (shl .i64 1 (wrap64 (a0 - 1))) 0) else (none)) = some r := by first | (rw [hy228]; with_reducible exact H) | (have H2_ := (Option.bind_some _ _).symm.trans H; rw [hy228]; with_reducible exact H2_) | (have H2_ := (Option.bind_some _ _).symm.trans H; with_reducible exact H2_) | with_reducible exact H | (rw [hy228]; exact H) | exact H
        have Ny228 := Aside0.mk hy228
        clear hy228
        obtain ⟨ji7, hji7⟩ : ∃ j_ : Int, (wrap64 (a0 - 1)) = j_ := ⟨_, rfl⟩
        replace H : (if 0 ≤ (ji7) then (impl_WithoutLast.l0 kj2 a0 l1 y228 (shl .i64 1 (ji7)) 0) else (none)) = some r := by first | (rw [hji7] at H; exact H) | (simp only [hji7] at H ⊢; exact H)
        have hji7w : (IntKind.i64.wrap (a0 - 1)) = ji7 := (i64_w _).trans hji7
        by_cases c8 : 0 ≤ (ji7)
        · rw [if_pos c8] at H
          have c8b0 := eq_true c8
          have c8b1 : decide (0 ≤ (ji7)) = true := decide_eq_true c8
          clear c8
          obtain ⟨ji9, hji9⟩ : ∃ j_ : Int, (shl .i64 1 (ji7)) = j_ := ⟨_, rfl⟩
          replace H : (impl_WithoutLast.l0 kj2 a0 l1 y228 ji9 0) = some r := by first | (rw [hji9] at H; exact H) | (simp only [hji9] at H ⊢; exact H)
          have hji9_ : (IntKind.i64.wrap (1 * 2 ^ min (ji7).toNat 64)) = ji9 := hji9
          have hji9z : (ji7) ≤ 64 → (IntKind.i64.wrap (1 * 2 ^ (ji7).toNat)) = ji9 := shl_small hji9
          have hji9u : (IntKind.i64.wrap (2 ^ min (ji7).toNat 64)) = ji9 := by have h_ := hji9_; rw [Int.one_mul] at h_; exact h_
          have hji9v : (ji7) ≤ 64 → (IntKind.i64.wrap (2 ^ (ji7).toNat)) = ji9 := fun hle_ => by have h_ := hji9z hle_; rw [Int.one_mul] at h_; exact h_
          have hji9y : (wrap64 (1 * 2 ^ min (ji7).toNat 64)) = ji9 := (i64_w _).symm.trans hji9_
          have hji9x : (ji7) ≤ 64 → (wrap64 (1 * 2 ^ (ji7).toNat)) = ji9 := fun h_ => (i64_w _).symm.trans (hji9z h_)
          have H' := Aside0.mk H
          clear H
          go_wp2_with (first | ((with_reducible refine gate_dst (N := 16) rfl ?_); refine Kd.R_lit (Kd.int .i64) _ 3 ?hg (N := 16) ?hd (xs := ([] : List Int)) (inner := []) (ok := fun _ => True) (okp := fun _ => True) ?hr ?hp (fun _ hk => hk) trivial (Below.refl _ _) (Nat.le_refl _) (by simp) ?_; (case hd => rfl); (case hg => rfl); (case hr => first | (go_simp; done) | (go_simp; rfl)); (case hp => exact (Reps.none _ _)); intro v229 w10 ho11 hb hg_ hnew_; clear hg_ hnew_; (first | rw [← Ny228.out] at ho11 | (simp only [Int.reduceToNat] at ho11; rw [← Ny228.out] at ho11)); have n0_ := Aside0.mk (Kd.R_lower ho11 (below_size (by repeat (first | (with_reducible first | exact HB.out | apply below_alloc | apply pw_below_drewN | apply below_drew1) | exact HB.out)))); have n1_ := Aside0.mk (below_step (by repeat (first | (with_reducible first | exact HB.out | apply below_alloc | apply pw_below_drewN | apply below_drew1) | exact HB.out)) hb); clear HB; have HO230 := n0_; have HB := n1_; clear n0_ n1_; clear hb ho11))
          go_loopg [5, 20] kj2 (fun kq v5 v20 w' => ∃ (x5_2 : List Int) (x20_2 : Int), v20 = .int .i64 x20_2 ∧ Aside0 (impl_WithoutLast.l0 kq a0 l1 x5_2 ji9 x20_2 = some r) ∧ Aside0 (kq ≤ kj2) ∧ Aside0 (Kd.R (Kd.int .i64) 3 w' w.heap.size (fun _ => True) v5 x5_2) ∧ Aside0 (Below w.heap.size w w'))
          case atStart => exact ⟨(y228), (0), (by first | rfl | (simp; done) | (simp [*]; done)), H', ⟨Nat.le_refl _⟩, ⟨by (with_reducible repeat (first | apply Kd.R_alloc | apply Kd.R_drewN | apply Kd.R_drew)); exact HO230.out⟩, ⟨by repeat (first | (with_reducible first | exact HB.out | apply below_alloc | apply pw_below_drewN | apply below_drew1) | exact HB.out)⟩⟩
          case round =>
            clear H'
            try clear c1
            try clear p2
            try clear c3
            try clear c4
            try clear c5
            try clear c6
            try clear p6
            try clear c8
            try clear c8b0
            try clear c8b1
            try clear p2
            obtain ⟨x5_2, x20_2, rfl, HA, HK2, HO_5, HB⟩ := hrel
            cases gk with
            | zero => exact absurd HA.out (by simp [impl_WithoutLast.l0])
            | succ k2 =>
              have H := HA.out
              clear HA
              simp only [impl_WithoutLast.l0] at H
              by_cases c12 : x20_2 < ji9
              · rw [if_pos c12] at H
                have c12b0 : decide (x20_2 < ji9) = true := decide_eq_true c12
                clear c12
                replace H : (if 0 ≤ (ji7) then (impl_WithoutLast.l1 k2 a0 l1 x5_2 x20_2 ji9 x20_2 (shl .i64 1 (ji7)) 0) else (none)) = some r := by first | exact H | (rw [hji7] at H; exact H) | (simp only [hji7] at H ⊢; exact H)
                by_cases c13 : 0 ≤ (ji7)
                · rw [if_pos c13] at H
                  have c13b0 := eq_true c13
                  have c13b1 : decide (0 ≤ (ji7)) = true := decide_eq_true c13
                  clear c13
                  replace H : (impl_WithoutLast.l1 k2 a0 l1 x5_2 x20_2 ji9 x20_2 ji9 0) = some r := by first | exact H | (rw [hji9] at H; exact H) | (simp only [hji9] at H ⊢; exact H)
                  have H' := Aside0.mk H
                  clear H
                  go_wp2
                  go_loopg [5, 26] k2 (fun kq v5 v26 w' => ∃ (x5_3 : List Int) (x26_3 : Int), v26 = .int .i64 x26_3 ∧ Aside0 (impl_WithoutLast.l1 kq a0 l1 x5_3 x20_2 ji9 x20_2 ji9 x26_3 = some r) ∧ Aside0 (kq ≤ k2) ∧ Aside0 (Kd.R (Kd.int .i64) 3 w' w.heap.size (fun _ => True) v5 x5_3) ∧ Aside0 (Below w.heap.size w w'))
                  case atStart => exact ⟨(x5_2), (0), (by first | rfl | (simp; done) | (simp [*]; done)), H', ⟨Nat.le_refl _⟩, ⟨by (with_reducible repeat (first | apply Kd.R_alloc | apply Kd.R_drewN | apply Kd.R_drew)); exact HO_5.out⟩, ⟨by repeat (first | (with_reducible first | exact HB.out | apply below_alloc | apply pw_below_drewN | apply below_drew1) | exact HB.out)⟩⟩
                  case round =>
                    clear H'
                    try clear c1
                    try clear p2
                    try clear c3
                    try clear c4
                    try clear c5
                    try clear c6
                    try clear p6
                    try clear c8
                    try clear c8b0
                    try clear c8b1
                    try clear c12
                    try clear c12b0
                    try clear c13
                    try clear c13b0
                    try clear c13b1
                    try clear p2
                    try clear p6
                    obtain ⟨x5_3, x26_3, rfl, HA, HK3, HO_5, HB⟩ := hrel
                    cases gk with
                    | zero => exact absurd HA.out (by simp [impl_WithoutLast.l1])
                    | succ k3 =>
                      have H := HA.out
                      clear HA
                      simp only [impl_WithoutLast.l1] at H
                      by_cases c14 : x26_3 < ji9
                      · rw [if_pos c14] at H
                        have c14b0 : decide (x26_3 < ji9) = true := decide_eq_true c14
                        clear c14
                        by_cases c15 : 0 ≤ a0
                        · rw [if_pos c15] at H
                          have c15b0 := eq_true c15
                          have c15b1 : decide (0 ≤ a0) = true := decide_eq_true c15
                          clear c15
                          obtain ⟨ji16, hji16⟩ : ∃ j_ : Int, (shl .i64 x20_2 a0) = j_ := ⟨_, rfl⟩
                          replace H : (if 0 ≤ (wrap64 ((ji16) + x26_3)) then (if (wrap64 ((ji16) + x26_3)) < (l1.length : Int) then (if x5_3.length < 17592186044416 then (impl_WithoutLast.l1 k3 a0 l1 (x5_3 ++ [rd l1 (wrap64 ((ji16) + x26_3))]) x20_2 ji9 x20_2 ji9 (wrap64 (x26_3 + 1))) else (none)) else (none)) else (none)) = some r := by first | (rw [hji16] at H; exact H) | (simp only [hji16] at H ⊢; exact H)
                          have hji16_ : (IntKind.i64.wrap (x20_2 * 2 ^ min a0.toNat 64)) = ji16 := hji16
                          have hji16z : a0 ≤ 64 → (IntKind.i64.wrap (x20_2 * 2 ^ a0.toNat)) = ji16 := shl_small hji16
                          have hji16y : (wrap64 (x20_2 * 2 ^ min a0.toNat 64)) = ji16 := (i64_w _).symm.trans hji16_
                          have hji16x : a0 ≤ 64 → (wrap64 (x20_2 * 2 ^ a0.toNat)) = ji16 := fun h_ => (i64_w _).symm.trans (hji16z h_)
                          obtain ⟨ji17, hji17⟩ : ∃ j_ : Int, (wrap64 ((ji16) + x26_3)) = j_ := ⟨_, rfl⟩
                          replace H : (if 0 ≤ (ji17) then (if (ji17) < (l1.length : Int) then (if x5_3.length < 17592186044416 then (impl_WithoutLast.l1 k3 a0 l1 (x5_3 ++ [rd l1 (ji17)]) x20_2 ji9 x20_2 ji9 (wrap64 (x26_3 + 1))) else (none)) else (none)) else (none)) = some r := by first | (rw [hji17] at H; exact H) | (simp only [hji17] at H ⊢; exact H)
                          have hji17w : (IntKind.i64.wrap ((ji16) + x26_3)) = ji17 := (i64_w _).trans hji17
                          by_cases c18 : 0 ≤ (ji17)
                          · rw [if_pos c18] at H
                            have c18b0 : decide (0 ≤ (ji17)) = true := decide_eq_true c18
                            clear c18
                            by_cases c19 : (ji17) < (l1.length : Int)
                            · rw [if_pos c19] at H
                              have c19b0 : decide ((ji17) < (l1.length : Int)) = true := decide_eq_true c19
                              clear c19
                              by_cases c20 : x5_3.length < 17592186044416
                              · rw [if_pos c20] at H
                                have LMc20 := Aside0.mk c20
                                clear c20
                                obtain ⟨y232, hy232⟩ : ∃ y_ : List Int, y_ = (x5_3 ++ [rd l1 (ji17)]) := ⟨_, rfl⟩
                                replace H : (impl_WithoutLast.l1 k3 a0 l1 y232 x20_2 ji9 x20_2 ji9 (wrap64 (x26_3 + 1))) = some r := by first | (rw [hy232]; with_reducible exact H) | (have H2_ := (Option.bind_some _ _).symm.trans H; rw [hy232]; with_reducible exact H2_) | (have H2_ := (Option.bind_some _ _).symm.trans H; with_reducible exact H2_) | with_reducible exact H | (rw [hy232]; exact H) | exact H
                                have Ny232 := Aside0.mk hy232
                                clear hy232
                                have H' := Aside0.mk H
                                clear H
                                have p231 : 0 ≤ ((ji17) : Int) := of_decide_eq_true (by first | (with_reducible assumption) | assumption)
                                have q231 : (ji17) < (l1.length : Int) := of_decide_eq_true (by first | (with_reducible assumption) | assumption)
                                obtain ⟨ad231, e231, hx231_0⟩ := Kd.at_int HR1.out (ji17) p231 q231
                                cases e231
                                replace hx231_0 := (HB.out.cell (World.block_lt_of_cell? w _ hx231_0)).trans hx231_0
                                replace p231 := eq_true p231
                                replace q231 := eq_true q231
                                go_wp2_with (first | ((with_reducible refine gate_builtin (b := .append) (xs := #[.tmp 29, .tmp 38]) rfl ?_); at_builtin; refine Kd.R_append (Kd.int .i64) (w0 := w) w.heap.size rfl (.tmp 29) (.tmp 38) 22 3 (.int .i64 0) 8 rfl Try.underlying22 info3 rfl (by decide) (by omega) u5 x5_3 (rd l1 (ji17)) [.int .i64 (rd l1 (ji17))] (fun _ => True) (fun _ => False) rfl rfl ?aP (fun _ hk => hk.elim) ?aF ?aO ?aB ?aS ?aL ?_; (case aP => exact rfl); (case aB => exact (by repeat (first | (with_reducible first | exact HB.out | apply below_alloc | apply pw_below_drewN | apply below_drew1) | exact HB.out))); (case aF => exact (fun _ _ => trivial)); (case aO => exact (by (with_reducible repeat (first | apply Kd.R_alloc | apply Kd.R_drewN | apply Kd.R_drew)); exact HO_5.out)); (case aS => exact (below_size (by repeat (first | (with_reducible first | exact HB.out | apply below_alloc | apply pw_below_drewN | apply below_drew1) | exact HB.out)))); (case aL => have := LMc20.out; omega); intro v233 w21 ho hb hg hat; rw [← Ny232.out] at ho; have n0_ := Aside0.mk (hb); have n1_ := Aside0.mk (ho); clear HB; clear HO_5; have HB := n0_; have HO234 := n1_; clear n0_ n1_; clear ho hb hg hat))
                                go_roundg k3
                                case measure => have := HJ2.out; have := HK2.out; have := HK3.out; omega
                                case rel => exact ⟨(y232), (wrap64 (x26_3 + 1)), (by first | rfl | (simp; done) | (simp [*]; done)), H', ⟨by have := HJ2.out; have := HK2.out; have := HK3.out; omega⟩, ⟨by (with_reducible repeat (first | apply Kd.R_alloc | apply Kd.R_drewN | apply Kd.R_drew)); exact HO234.out⟩, ⟨by repeat (first | (with_reducible first | exact HB.out | apply below_alloc | apply pw_below_drewN | apply below_drew1) | exact HB.out)⟩⟩
                              · rw [if_neg c20] at H
                                exact absurd H (by simp)
                            · rw [if_neg c19] at H
                              exact absurd H (by simp)
                          · rw [if_neg c18] at H
                            exact absurd H (by simp)
                        · rw [if_neg c15] at H
                          exact absurd H (by simp)
                      · rw [if_neg c14] at H
                        have c14b0 : decide (x26_3 < ji9) = false := decide_eq_false c14
                        clear c14
                        have H' := Aside0.mk H
                        clear H
                        go_wp2
                        go_roundg k3
                        case measure => have := HJ2.out; have := HK2.out; have := HK3.out; omega
                        case rel => exact ⟨(x5_3), (wrap64 (x20_2 + 1)), (by first | rfl | (simp; done) | (simp [*]; done)), H', ⟨by have := HJ2.out; have := HK2.out; have := HK3.out; omega⟩, ⟨by (with_reducible repeat (first | apply Kd.R_alloc | apply Kd.R_drewN | apply Kd.R_drew)); exact HO_5.out⟩, ⟨by repeat (first | (with_reducible first | exact HB.out | apply below_alloc | apply pw_below_drewN | apply below_drew1) | exact HB.out)⟩⟩
                · rw [if_neg c13] at H
                  exact absurd H (by simp)
              · rw [if_neg c12] at H
                have c12b0 : decide (x20_2 < ji9) = false := decide_eq_false c12
                clear c12
                obtain rfl := Option.some.inj H
                go_wp2
                go_ret
                exact ⟨_, by first | rfl | (simp [errW_none, errW_some] <;> rfl) | (simp only [← hji7, ← hji9]; first | rfl | (simp [errW_none, errW_some] <;> rfl)) | (simp [*, errW_none, errW_some] <;> rfl), by (with_reducible repeat (first | apply Kd.R_alloc | apply Kd.R_drewN | apply Kd.R_drew)); exact HO_5.out, by repeat (first | (with_reducible first | exact HB.out | apply below_alloc | apply pw_below_drewN | apply below_drew1) | exact HB.out)⟩
        · rw [if_neg c8] at H
          exact absurd H (by simp)

end Go.Proofs.Ythgkkhpndiiabaa.P

/- Plain facts: what the reference's and the program's WithoutLast come to, with enough rounds, for relations of at most 2^20 numbers. -/
namespace Go.Proofs.Ythgkkhpndiiabaa.P
open Go.RowKit Go.Proofs.YthgkkhpndiiabaaW.PrintWords Go.Proofs.YthgkkhpndiiabaaW.PrintLast

def woAt (t : Int) (l : List Int) (a b : Int) : Int := rd l (a * pw t + b)
/-- The entries of sets without the last thing. -/
def woP (t : Int) (l : List Int) : List Int := if (isRel t l && decide (1 ≤ t)) = true then rowsB (woAt t l) (2 ^ (t - 1).toNat) (2 ^ (t - 1).toNat) else []
theorem wo_nat (t : Int) (h1 : 1 ≤ t) (h2 : t ≤ 3) : shl .i64 1 (wrap64 (t - 1)) = ((2 ^ (t - 1).toNat : Nat) : Int) ∧ pw t = ((2 * 2 ^ (t - 1).toNat : Nat) : Int) ∧ 2 ^ (t - 1).toNat ≤ 4 := by
  rcases (show t = 1 ∨ t = 2 ∨ t = 3 from by omega) with rfl | rfl | rfl <;> exact ⟨by decide +kernel, by decide +kernel, by decide⟩
theorem woP_length (t : Int) (l : List Int) : (woP t l).length ≤ 100 := by
  unfold woP
  split
  · rename_i h
    simp only [Bool.and_eq_true, decide_eq_true_eq] at h
    obtain ⟨h1, h2, h3⟩ := isRel_range h.1
    have := (wo_nat t h.2 h2).2.2
    rw [rowsB_length]
    have := Nat.mul_le_mul this this
    omega
  · simp
theorem spec_WithoutLast_l1 (t : Int) (l : List Int) (h1 : 1 ≤ t) (h2 : t ≤ 3) (h3 : l.length = 4 ^ t.toNat) (B : Nat) (e1 : shl .i64 1 (wrap64 (t - 1)) = (B : Int)) (e2 : pw t = ((2 * B : Nat) : Int)) (hB : B ≤ 4) (a : Nat) (ha : a < B) (d : Nat) : ∀ (m b : Nat), b + d = B →
    spec_WithoutLast.l1 (m + d + 1) t l (rowsB (woAt t l) B a ++ rowB (woAt t l) a b) (a : Int) (b : Int) = spec_WithoutLast.l0 m t l (rowsB (woAt t l) B (a + 1)) ((a + 1 : Nat) : Int) := by
  have hw : 0 ≤ wrap64 (t - 1) := by unfold wrap64; omega
  induction d with
  | zero =>
    intro m b g
    obtain rfl : b = B := by omega
    obtain ⟨M, hM⟩ : ∃ M, M = m + 0 := ⟨_, rfl⟩
    rw [← hM, show m = M from by omega]
    simp only [spec_WithoutLast.l1]
    rw [if_pos hw, e1, if_neg (by omega), wrap_succ a 100 (by omega) (by omega), ← rowsB_succ]
  | succ d ih =>
    intro m b g
    obtain ⟨M, hM⟩ : ∃ M, M = m + d + 1 := ⟨_, rfl⟩
    rw [show m + (d + 1) + 1 = M + 1 from by omega]
    simp only [spec_WithoutLast.l1]
    have j1 := index_range t a b (by omega) h2 (by omega) (by omega) (by omega) (by omega)
    rw [if_pos hw, e1, if_pos (by omega), if_pos (by omega), idx_wrap t a b (by omega) h2 (by omega) (by omega) (by omega) (by omega), if_pos j1.1, if_pos (by rw [h3]; exact j1.2.1), if_pos (rowsB_bound _ _ _ _ (by omega) (by omega) (by omega)), wrap_succ b 100 (by omega) (by omega), hM, List.append_assoc, show rowB (woAt t l) a b ++ [rd l (↑a * pw t + ↑b)] = rowB (woAt t l) a (b + 1) from (rowB_succ _ _ _).symm]
    exact ih m (b + 1) (by omega)
theorem spec_WithoutLast_l0 (t : Int) (l : List Int) (h1 : 1 ≤ t) (h2 : t ≤ 3) (h3 : l.length = 4 ^ t.toNat) (B : Nat) (e1 : shl .i64 1 (wrap64 (t - 1)) = (B : Int)) (e2 : pw t = ((2 * B : Nat) : Int)) (hB : B ≤ 4) (e : Nat) : ∀ (k a : Nat), a + e = B → 20 * e + 20 < k →
    spec_WithoutLast.l0 k t l (rowsB (woAt t l) B a) (a : Int) = some (rowsB (woAt t l) B B) := by
  have hw : 0 ≤ wrap64 (t - 1) := by unfold wrap64; omega
  induction e with
  | zero =>
    intro k a g hk
    obtain ⟨k, rfl⟩ : ∃ m, k = m + 1 := ⟨k - 1, by omega⟩
    obtain rfl : a = B := by omega
    simp only [spec_WithoutLast.l0]
    rw [if_pos hw, e1, if_neg (by omega)]
  | succ e ih =>
    intro k a g hk
    obtain ⟨k, rfl⟩ : ∃ m, k = m + B + 1 + 1 := ⟨k - (B + 2), by omega⟩
    have hh1 := spec_WithoutLast_l1 t l h1 h2 h3 B e1 e2 hB a (by omega) B k 0 (by omega)
    rw [rowB_zero, List.append_nil] at hh1
    simp only [spec_WithoutLast.l0]
    rw [if_pos hw, e1, if_pos (by omega)]
    refine Eq.trans hh1 ?_
    exact ih k (a + 1) (by omega) (by omega)
theorem spec_WithoutLast_k (t : Int) (l : List Int) (hl : l.length ≤ 1048576) (k : Nat) (hk : 1048700 ≤ k) : spec_WithoutLast.f k t l = some (woP t l) := by
  obtain ⟨k, rfl⟩ : ∃ m, k = m + 1 := ⟨k - 1, by omega⟩
  unfold spec_WithoutLast.f woP
  rw [Option.bind_some, spec_RelationOk_k t l hl _ (by omega), Option.bind_some]
  by_cases h : isRel t l = true
  · obtain ⟨h1, h2, h3⟩ := isRel_range h
    rw [if_pos h, h, Bool.true_and]
    simp only [spec_WithoutLast.j0]
    by_cases h0 : t = 0
    · rw [if_pos (by simpa using h0), if_neg (by rw [decide_eq_true_eq]; omega)]
    · obtain ⟨e1, e2, e3⟩ := wo_nat t (by omega) h2
      rw [if_neg (by simpa using h0), if_pos (by rw [decide_eq_true_eq]; omega)]
      exact spec_WithoutLast_l0 t l (by omega) h2 h3 _ e1 e2 e3 (2 ^ (t - 1).toNat) k 0 (by omega) (by omega)
  · rw [if_neg h, Bool.eq_false_iff.mpr h, Bool.false_and]
    simp only [spec_WithoutLast.j0]
    rfl
theorem impl_WithoutLast_l1 (t : Int) (l : List Int) (h1 : 1 ≤ t) (h2 : t ≤ 3) (h3 : l.length = 4 ^ t.toNat) (B : Nat) (e2 : pw t = ((2 * B : Nat) : Int)) (hB : B ≤ 4) (a : Nat) (ha : a < B) (d : Nat) : ∀ (m b : Nat), b + d = B →
    impl_WithoutLast.l1 (m + d + 1) t l (rowsB (woAt t l) B a ++ rowB (woAt t l) a b) (a : Int) (B : Int) (a : Int) (B : Int) (b : Int) = impl_WithoutLast.l0 m t l (rowsB (woAt t l) B (a + 1)) (B : Int) ((a + 1 : Nat) : Int) := by
  induction d with
  | zero =>
    intro m b g
    obtain rfl : b = B := by omega
    obtain ⟨M, hM⟩ : ∃ M, M = m + 0 := ⟨_, rfl⟩
    rw [← hM, show m = M from by omega]
    simp only [impl_WithoutLast.l1]
    rw [if_neg (by omega), wrap_succ a 100 (by omega) (by omega), ← rowsB_succ]
  | succ d ih =>
    intro m b g
    obtain ⟨M, hM⟩ : ∃ M, M = m + d + 1 := ⟨_, rfl⟩
    rw [show m + (d + 1) + 1 = M + 1 from by omega]
    simp only [impl_WithoutLast.l1]
    have j1 := index_range t a b (by omega) h2 (by omega) (by omega) (by omega) (by omega)
    rw [if_pos (by omega), if_pos (by omega), idx_wrap t a b (by omega) h2 (by omega) (by omega) (by omega) (by omega), if_pos j1.1, if_pos (by rw [h3]; exact j1.2.1), if_pos (rowsB_bound _ _ _ _ (by omega) (by omega) (by omega)), wrap_succ b 100 (by omega) (by omega), hM, List.append_assoc, show rowB (woAt t l) a b ++ [rd l (↑a * pw t + ↑b)] = rowB (woAt t l) a (b + 1) from (rowB_succ _ _ _).symm]
    exact ih m (b + 1) (by omega)
theorem impl_WithoutLast_l0 (t : Int) (l : List Int) (h1 : 1 ≤ t) (h2 : t ≤ 3) (h3 : l.length = 4 ^ t.toNat) (B : Nat) (e1 : shl .i64 1 (wrap64 (t - 1)) = (B : Int)) (e2 : pw t = ((2 * B : Nat) : Int)) (hB : B ≤ 4) (e : Nat) : ∀ (k a : Nat), a + e = B → 20 * e + 20 < k →
    impl_WithoutLast.l0 k t l (rowsB (woAt t l) B a) (B : Int) (a : Int) = some (rowsB (woAt t l) B B) := by
  have hw : 0 ≤ wrap64 (t - 1) := by unfold wrap64; omega
  induction e with
  | zero =>
    intro k a g hk
    obtain ⟨k, rfl⟩ : ∃ m, k = m + 1 := ⟨k - 1, by omega⟩
    obtain rfl : a = B := by omega
    simp only [impl_WithoutLast.l0]
    rw [if_neg (by omega)]
  | succ e ih =>
    intro k a g hk
    obtain ⟨k, rfl⟩ : ∃ m, k = m + B + 1 + 1 := ⟨k - (B + 2), by omega⟩
    have hh1 := impl_WithoutLast_l1 t l h1 h2 h3 B e2 hB a (by omega) B k 0 (by omega)
    rw [rowB_zero, List.append_nil] at hh1
    simp only [impl_WithoutLast.l0]
    rw [if_pos (by omega), if_pos hw, e1]
    refine Eq.trans hh1 ?_
    exact ih k (a + 1) (by omega) (by omega)
theorem impl_WithoutLast_k (t : Int) (l : List Int) (hl : l.length ≤ 1048576) (k : Nat) (hk : 1048700 ≤ k) : impl_WithoutLast.f k t l = some (woP t l) := by
  obtain ⟨k, rfl⟩ : ∃ m, k = m + 1 := ⟨k - 1, by omega⟩
  unfold impl_WithoutLast.f woP
  rw [impl_isRelation_k t l hl _ (by omega), Option.bind_some]
  by_cases h : isRel t l = true
  · obtain ⟨h1, h2, h3⟩ := isRel_range h
    rw [if_pos h, h, Bool.true_and]
    simp only [impl_WithoutLast.j0]
    by_cases h0 : t < 1
    · rw [if_pos (decide_eq_true h0), if_neg (by rw [decide_eq_true_eq]; omega)]
    · obtain ⟨e1, e2, e3⟩ := wo_nat t (by omega) h2
      rw [if_neg (by rw [decide_eq_true_eq]; exact h0), if_pos (show 0 ≤ wrap64 (t - 1) by unfold wrap64; omega), e1, if_pos (show decide (1 ≤ t) = true by rw [decide_eq_true_eq]; omega)]
      exact impl_WithoutLast_l0 t l (by omega) h2 h3 _ e1 e2 e3 (2 ^ (t - 1).toNat) k 0 (by omega) (by omega)
  · rw [if_neg h, Bool.eq_false_iff.mpr h, Bool.false_and]
    simp only [impl_WithoutLast.j0]
    rfl

end Go.Proofs.Ythgkkhpndiiabaa.P

/- Relations by rows: entries, what is a relation; the relation of a triangle, and what is left without the last thing. -/
namespace Go.Proofs.Ythgkkhpndiiabaa.P
open Go.RowKit Go.Proofs.YthgkkhpndiiabaaW.PrintWords Go.Proofs.YthgkkhpndiiabaaW.PrintLast

theorem rowsB_rd (f : Int → Int → Int) (B : Nat) : ∀ (n a b : Nat), a < n → b < B → rd (rowsB f B n) ((a * B + b : Nat) : Int) = f a b := by
  intro n
  induction n with
  | zero => intro a b h; omega
  | succ n ih =>
    intro a b ha hb
    have hl := rowsB_length f B n
    rcases Nat.lt_or_ge a n with h | h
    · have hi := ih a b h hb
      have hlt : a * B + b < n * B := by
        have := Nat.mul_le_mul_right B (show a + 1 ≤ n from h)
        rw [Nat.succ_mul] at this
        omega
      unfold rd at hi ⊢
      rw [Int.toNat_natCast, List.getD_eq_getElem?_getD] at hi ⊢
      rw [rowsB_succ, List.getElem?_append_left (by rw [hl]; exact hlt)]
      exact hi
    · obtain rfl : a = n := by omega
      unfold rd
      rw [Int.toNat_natCast, List.getD_eq_getElem?_getD, rowsB_succ, List.getElem?_append_right (by rw [hl]; omega), hl, show a * B + b - a * B = b by omega]
      unfold rowB
      rw [List.getElem?_map, List.getElem?_range hb]
      rfl
theorem rowsB_congr (f g : Int → Int → Int) (B n : Nat) (h : ∀ a b : Nat, a < n → b < B → f a b = g a b) : rowsB f B n = rowsB g B n := by
  induction n with
  | zero => rfl
  | succ n ih =>
    rw [rowsB_succ, rowsB_succ, ih (fun a b h1 h2 => h a b (by omega) h2)]
    congr 1
    unfold rowB
    exact List.map_congr_left fun b hb => h n b (by omega) (List.mem_range.mp hb)
theorem rowsB_rel (t : Int) (f : Int → Int → Int) (h1 : 0 ≤ t) (h2 : t ≤ 3) (h : ∀ a b : Nat, a < 2 ^ t.toNat → b < 2 ^ t.toNat → f a b = 0 ∨ f a b = 1) : isRel t (rowsB f (2 ^ t.toNat) (2 ^ t.toNat)) = true := by
  unfold isRel
  have hl : (rowsB f (2 ^ t.toNat) (2 ^ t.toNat)).length = 4 ^ t.toNat := by
    rw [rowsB_length]
    rcases three t h1 h2 with rfl | rfl | rfl | rfl <;> decide
  rw [decide_eq_true (show 0 ≤ t ∧ t ≤ 3 from ⟨h1, h2⟩), hl, beq_self_eq_true, Bool.true_and, Bool.true_and]
  rw [List.all_eq_true]
  intro x hx
  unfold rowsB rowB at hx
  rw [List.mem_flatMap] at hx
  obtain ⟨a, ha, hx⟩ := hx
  rw [List.mem_map] at hx
  obtain ⟨b, hb, rfl⟩ := hx
  rcases h a b (List.mem_range.mp ha) (List.mem_range.mp hb) with e | e <;> rw [e] <;> rfl
theorem rowsB_hr (t : Int) (f : Int → Int → Int) (a b : Int) (h1 : 0 ≤ t) (h2 : t ≤ 3) (a0 : 0 ≤ a) (a1 : a < pw t) (b0 : 0 ≤ b) (b1 : b < pw t) : hr t (rowsB f (2 ^ t.toNat) (2 ^ t.toNat)) a b = (f a b == 1) := by
  obtain ⟨B, e1, e2, e3⟩ := pw_nat t h1 h2
  obtain ⟨x, rfl⟩ := Int.eq_ofNat_of_zero_le a0
  obtain ⟨y, rfl⟩ := Int.eq_ofNat_of_zero_le b0
  unfold hr
  rw [e3, e1, show (x : Int) * (B : Int) + (y : Int) = ((x * B + y : Nat) : Int) by push_cast; rfl, rowsB_rd f B B x y (by omega) (by omega)]
/-- What is left of a relation without the last thing. -/
theorem woP_hr (t : Int) (l : List Int) (h : isRel t l = true) (h1 : 1 ≤ t) (a b : Int) (a0 : 0 ≤ a) (a1 : a < pw (t - 1)) (b0 : 0 ≤ b) (b1 : b < pw (t - 1)) : hr (t - 1) (woP t l) a b = hr t l a b := by
  obtain ⟨t0, t3, _⟩ := isRel_range h
  unfold woP
  rw [if_pos (by rw [h, decide_eq_true h1]; rfl), rowsB_hr (t - 1) _ a b (by omega) (by omega) a0 a1 b0 b1]
  rfl
theorem woP_rel (t : Int) (l : List Int) (h : isRel t l = true) (h1 : 1 ≤ t) : isRel (t - 1) (woP t l) = true := by
  obtain ⟨t0, t3, _⟩ := isRel_range h
  unfold woP
  rw [if_pos (by rw [h, decide_eq_true h1]; rfl)]
  exact rowsB_rel (t - 1) _ (by omega) (by omega) fun a b _ _ => rel_bit t l h _
theorem pw_half (t : Int) (h1 : 1 ≤ t) (h2 : t ≤ 3) : pw (t - 1) < pw t := by
  rcases three t (by omega) h2 with rfl | rfl | rfl | rfl <;> first | omega | decide
theorem rfP_hr (t : Int) (l : List Int) (h : isTri l = true) (h1 : 0 ≤ t) (h2 : t ≤ 3) (a b : Int) (a0 : 0 ≤ a) (a1 : a < pw t) (b0 : 0 ≤ b) (b1 : b < pw t) : hr t (rfP t l) a b = hd l (szI a) (szI (Go.bits .and .i64 a b)) := by
  unfold rfP
  rw [if_pos (by rw [h, decide_eq_true (show 0 ≤ t ∧ t ≤ 3 from ⟨h1, h2⟩)]; rfl), rowsB_hr t _ a b h1 h2 a0 a1 b0 b1]
  rfl
theorem rfP_rel (t : Int) (l : List Int) (h : isTri l = true) (h1 : 0 ≤ t) (h2 : t ≤ 3) : isRel t (rfP t l) = true := by
  unfold rfP
  rw [if_pos (by rw [h, decide_eq_true (show 0 ≤ t ∧ t ≤ 3 from ⟨h1, h2⟩)]; rfl)]
  exact rowsB_rel t _ h1 h2 fun a b _ _ => tri_bit l h _
theorem wo_rf (t : Int) (l : List Int) (h : isTri l = true) (h1 : 1 ≤ t) (h2 : t ≤ 3) : woP t (rfP t l) = rfP (t - 1) l := by
  have hr0 := rfP_rel t l h (by omega) h2
  unfold woP
  rw [if_pos (by rw [hr0, decide_eq_true h1]; rfl)]
  have e : rfP (t - 1) l = rowsB (rfAt l) (2 ^ (t - 1).toNat) (2 ^ (t - 1).toNat) := by
    unfold rfP
    rw [if_pos (by rw [h, decide_eq_true (show 0 ≤ t - 1 ∧ t - 1 ≤ 3 from ⟨by omega, by omega⟩)]; rfl)]
  rw [e]
  obtain ⟨B, e1, e2, e3⟩ := pw_nat t (by omega) h2
  have e0 : rfP t l = rowsB (rfAt l) B B := by
    unfold rfP
    rw [if_pos (by rw [h, decide_eq_true (show 0 ≤ t ∧ t ≤ 3 from ⟨by omega, h2⟩)]; rfl), e3]
  have hlt : 2 ^ (t - 1).toNat < B := by
    rw [← e3]
    rcases three t (by omega) h2 with rfl | rfl | rfl | rfl <;> first | omega | decide
  refine rowsB_congr _ _ _ _ fun a b ha hb => ?_
  unfold woAt
  rw [e1, e0, show (a : Int) * (B : Int) + (b : Int) = ((a * B + b : Nat) : Int) by push_cast; rfl, rowsB_rd _ B B a b (by omega) (by omega)]

end Go.Proofs.Ythgkkhpndiiabaa.P
