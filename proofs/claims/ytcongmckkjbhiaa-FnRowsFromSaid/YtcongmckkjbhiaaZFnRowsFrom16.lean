-- Texts of this claim, laid one behind the other by wip/gen/merge.py.
import Derived.Test.YtcongmckkjbhiaaZFnRowsFrom0
import Derived.Test.YtcongmckkjbhiaaZFnRowsFrom9
import Derived.Test.YtcongmckkjbhiaaZFnRowsFrom15
import Derived.Test.YtcongmckkjbhiaaZFnRowsFrom14
import Derived.Test.YtcongmckkjbhiaaZFnRowsFrom10
import Derived.Test.YtcongmckkjbhiaaZFnRowsFrom12
namespace Go.Proofs.Ytcongmckkjbhiaa.P
open Go.RowKit Go.Proofs.YtcongmckkjbhiaaW.PrintWords Go.Proofs.YtcongmckkjbhiaaW.PrintLast Go.Proofs.YtcongmckkjbhiaaW.PrintMore
attribute [local go_sem] max2_int min2_int max_two min_two max_three min_three max_four min_four
set_option linter.unusedVariables false
set_option linter.unusedSimpArgs false
/-! ### impl_WithoutLast: function 35 -/
mutual
def impl_WithoutLast.j0 : Nat → Int → List Int → Bool → Option (List Int)
 | 0, _, _, _ => none
 | k + 1, x0, x1, x15 => if x15 = true then (some ([] : List Int)) else (if 0 ≤ (wrap64 (x0 - 1)) then (impl_WithoutLast.l0 k x0 x1 (([] : List Int)) (shl .i64 1 (wrap64 (x0 - 1))) 0) else (none))
def impl_WithoutLast.l0 : Nat → Int → List Int → List Int → Int → Int → Option (List Int)
 | 0, _, _, _, _, _ => none
 | k + 1, x0, x1, x5, x19, x20 => if x20 < x19 then (if 0 ≤ (wrap64 (x0 - 1)) then (impl_WithoutLast.l1 k x0 x1 x5 x20 x19 x20 (shl .i64 1 (wrap64 (x0 - 1))) 0) else (none)) else (some x5)
def impl_WithoutLast.l1 : Nat → Int → List Int → List Int → Int → Int → Int → Int → Int → Option (List Int)
 | 0, _, _, _, _, _, _, _, _ => none
 | k + 1, x0, x1, x5, x6, x19, x20, x25, x26 => if x26 < x25 then (if 0 ≤ x0 then (if 0 ≤ (wrap64 ((shl .i64 x6 x0) + x26)) then (if (wrap64 ((shl .i64 x6 x0) + x26)) < (x1.length : Int) then (if x5.length < 17592186044416 then (impl_WithoutLast.l1 k x0 x1 (x5 ++ [rd x1 (wrap64 ((shl .i64 x6 x0) + x26))]) x6 x19 x20 x25 (wrap64 (x26 + 1))) else (none)) else (none)) else (none)) else (none)) else (impl_WithoutLast.l0 k x0 x1 x5 x19 (wrap64 (x20 + 1)))
end
def impl_WithoutLast.f (k : Nat) (a0 : Int) (l1 : List Int) : Option (List Int) := (impl_isRelation.f k a0 l1).bind fun t568 => (if t568 = true then (impl_WithoutLast.j0 k a0 l1 (decide (a0 < 1))) else (impl_WithoutLast.j0 k a0 l1 true))
theorem impl_WithoutLast.mono_l : ∀ k, (∀ y0 y1 y2, LeO (impl_WithoutLast.j0 k y0 y1 y2) (impl_WithoutLast.j0 (k + 1) y0 y1 y2)) ∧ (∀ y0 y1 y2 y3 y4, LeO (impl_WithoutLast.l0 k y0 y1 y2 y3 y4) (impl_WithoutLast.l0 (k + 1) y0 y1 y2 y3 y4)) ∧ (∀ y0 y1 y2 y3 y4 y5 y6 y7, LeO (impl_WithoutLast.l1 k y0 y1 y2 y3 y4 y5 y6 y7) (impl_WithoutLast.l1 (k + 1) y0 y1 y2 y3 y4 y5 y6 y7))
 | 0 => ⟨fun _ _ _ r h => by simp [impl_WithoutLast.j0] at h, fun _ _ _ _ _ r h => by simp [impl_WithoutLast.l0] at h, fun _ _ _ _ _ _ _ _ r h => by simp [impl_WithoutLast.l1] at h⟩
 | k + 1 => by
  obtain ⟨ih0, ih1, ih2⟩ := impl_WithoutLast.mono_l k
  refine ⟨?_, ?_, ?_⟩
  ·intro y0 y1 y2
   unfold impl_WithoutLast.j0
   repeat' first
   | (with_reducible exact ih0 _ _ _)
   | (with_reducible exact ih1 _ _ _ _ _)
   | (with_reducible exact ih2 _ _ _ _ _ _ _ _)
   | (with_reducible exact impl_isRelation.mono _ _ _)
   | (with_reducible exact LeO.refl _)
   | (with_reducible exact LeO.none _)
   | (with_reducible refine LeO.ite ?_ ?_)
   | (with_reducible refine LeO.bind ?_ (fun _ => ?_))
  ·intro y0 y1 y2 y3 y4
   unfold impl_WithoutLast.l0
   repeat' first
   | (with_reducible exact ih0 _ _ _)
   | (with_reducible exact ih1 _ _ _ _ _)
   | (with_reducible exact ih2 _ _ _ _ _ _ _ _)
   | (with_reducible exact impl_isRelation.mono _ _ _)
   | (with_reducible exact LeO.refl _)
   | (with_reducible exact LeO.none _)
   | (with_reducible refine LeO.ite ?_ ?_)
   | (with_reducible refine LeO.bind ?_ (fun _ => ?_))
  ·intro y0 y1 y2 y3 y4 y5 y6 y7
   unfold impl_WithoutLast.l1
   repeat' first
   | (with_reducible exact ih0 _ _ _)
   | (with_reducible exact ih1 _ _ _ _ _)
   | (with_reducible exact ih2 _ _ _ _ _ _ _ _)
   | (with_reducible exact impl_isRelation.mono _ _ _)
   | (with_reducible exact LeO.refl _)
   | (with_reducible exact LeO.none _)
   | (with_reducible refine LeO.ite ?_ ?_)
   | (with_reducible refine LeO.bind ?_ (fun _ => ?_))
theorem impl_WithoutLast.mono : ∀ a0 a1 k, LeO (impl_WithoutLast.f k a0 a1) (impl_WithoutLast.f (k + 1) a0 a1) := by
 intro a0 a1 k
 obtain ⟨ih0, ih1, ih2⟩ := impl_WithoutLast.mono_l k
 unfold impl_WithoutLast.f
 repeat' first
   | (with_reducible exact ih0 _ _ _)
   | (with_reducible exact ih1 _ _ _ _ _)
   | (with_reducible exact ih2 _ _ _ _ _ _ _ _)
   | (with_reducible exact impl_isRelation.mono _ _ _)
   | (with_reducible exact LeO.refl _)
   | (with_reducible exact LeO.none _)
   | (with_reducible refine LeO.ite ?_ ?_)
   | (with_reducible refine LeO.bind ?_ (fun _ => ?_))
set_option maxHeartbeats 8000000 in
set_option maxRecDepth 100000 in
theorem impl_WithoutLast.calls (k : Nat) (a0 : Int) (A1 : Option Addr) (c1 : Nat) (l1 : List Int) (r : List Int) (w : World) (hr1 : Kd.C (Kd.int .i64) w A1 l1.length l1) (hc1 : l1.length ≤ c1) (h : impl_WithoutLast.f k a0 l1 = some r) :
  Calls Try.prog 35 #[.int .i64 a0, .slice A1 l1.length c1] w fun e w' => ∃ v0_ : Value, e = .returned (v0_) ∧ Kd.R (Kd.int .i64) 3 w' w.heap.size (fun _ => True) v0_ r ∧ Below w.heap.size w w' := by
 have HR1 := Aside0.mk hr1
 have HC1 := Aside0.mk hc1
 clear hr1 hc1
 have HB := Aside0.mk (Below.refl w.heap.size w)
 have H : ((impl_isRelation.f k a0 l1).bind fun t568 => (if t568 = true then (impl_WithoutLast.j0 k a0 l1 (decide (a0 < 1))) else (impl_WithoutLast.j0 k a0 l1 true))) = some r := h
 clear h
 have HC3 := Aside0.mk H
 clear H
 go_enter Try.func35, Try.ntmps35
 go_upto_region 1 with (fail)
 go_cut [15] (fun v15 wc => ∃ (kq : Nat) (x15_2 : Bool), v15 = .bool x15_2 ∧ Aside0 (impl_WithoutLast.j0 kq a0 l1 x15_2 = some r) ∧ Aside0 (kq ≤ k) ∧ Aside0 (Below w.heap.size w wc))
 case first =>
  have H := HC3.out
  clear HC3
  replace H := Option.bind_eq_some_iff.mp H
  obtain ⟨t568, A40, H⟩ := H
  replace H : (if t568 = true then (impl_WithoutLast.j0 k a0 l1 (decide (a0 < 1))) else (impl_WithoutLast.j0 k a0 l1 true)) = some r := H
  have A4 := Aside0.mk A40
  clear A40
  by_cases c5 : t568 = true
  ·subst c5
   have H1 : (impl_WithoutLast.j0 k a0 l1 (decide (a0 < 1))) = some r := by rw [if_pos rfl] at H; exact H
   clear H
   have H := H1
   clear H1
   have H' := Aside0.mk H
   clear H
   go_wp2_with (first | ((with_reducible refine gate_callee (f := 41) rfl ?_); refine goesL_ (some 10) rfl rfl Try.func41 (by kernel_rfl) rfl #[.int .i64 a0, .slice A1 l1.length c1] rfl (by (try simp only [List.map_toArray, List.map_cons, List.map_nil]); first | done | rfl | (simp only [List.length_drop, List.length_take]; rfl)) ?_; (with_reducible refine (impl_isRelation.calls k a0 _ _ l1 true _ ?side1 ?side2 A4.out).mono ?_); (case side1 => repeat (first | exact (Kd.C_below HR1.out HB.out) | (with_reducible refine Kd.C_alloc ?_ _) | (with_reducible refine Kd.C_drewN ?_ _) | (with_reducible refine Kd.C_drew ?_))); (case side2 => exact HC1.out); rintro e w' ⟨rfl, ⟨nd, rfl⟩⟩; refine ⟨_, rfl, ?_⟩))
   go_meet
   case rel => exact ⟨_, (decide (a0 < 1)), (by first | rfl | (simp; done) | (simp [*]; done)), H', ⟨by first | omega | exact Nat.le_refl _⟩, ⟨by repeat (first | (with_reducible first | exact HB.out | apply below_alloc | apply pw_below_drewN | apply below_drew1) | exact HB.out)⟩⟩
  ·replace c5 := Bool.eq_false_iff.mpr c5
   subst c5
   have H1 : (impl_WithoutLast.j0 k a0 l1 true) = some r := by rw [if_neg (show ¬ (false = true) by decide)] at H; exact H
   clear H
   have H := H1
   clear H1
   have H' := Aside0.mk H
   clear H
   go_wp2_with (first | ((with_reducible refine gate_callee (f := 41) rfl ?_); refine goesL_ (some 10) rfl rfl Try.func41 (by kernel_rfl) rfl #[.int .i64 a0, .slice A1 l1.length c1] rfl (by (try simp only [List.map_toArray, List.map_cons, List.map_nil]); first | done | rfl | (simp only [List.length_drop, List.length_take]; rfl)) ?_; (with_reducible refine (impl_isRelation.calls k a0 _ _ l1 false _ ?side1 ?side2 A4.out).mono ?_); (case side1 => repeat (first | exact (Kd.C_below HR1.out HB.out) | (with_reducible refine Kd.C_alloc ?_ _) | (with_reducible refine Kd.C_drewN ?_ _) | (with_reducible refine Kd.C_drew ?_))); (case side2 => exact HC1.out); rintro e w' ⟨rfl, ⟨nd, rfl⟩⟩; refine ⟨_, rfl, ?_⟩))
   go_meet
   case rel => exact ⟨_, (true), (by first | rfl | (simp; done) | (simp [*]; done)), H', ⟨by first | omega | exact Nat.le_refl _⟩, ⟨by repeat (first | (with_reducible first | exact HB.out | apply below_alloc | apply pw_below_drewN | apply below_drew1) | exact HB.out)⟩⟩
 case rest =>
  clear HC3
  try clear c1
  try clear p2
  try clear c3
  try clear c4
  try clear c5
  obtain ⟨kq, x15_2, rfl, HA, HJ2, HB⟩ := hcut
  cases kq with
  | zero => exact absurd HA.out (by simp [impl_WithoutLast.j0])
  | succ kj2 =>
   have H := HA.out
   clear HA
   simp only [impl_WithoutLast.j0] at H
   by_cases c6 : x15_2 = true
   ·subst c6
    have H1 : (some ([] : List Int)) = some r := by rw [if_pos rfl] at H; exact H
    clear H
    have H := H1
    clear H1
    obtain rfl := Option.some.inj H
    go_wp2
    go_ret
    exact ⟨_, by first | rfl | (simp [errW_none, errW_some] <;> rfl) | (simp [*, errW_none, errW_some] <;> rfl), by first | exact Kd.R_nil _ _ _ _ _ | exact Kd.N_nil _ _ _ _ _ | exact Kd.V_nil _ _ _ _ _ | exact Kd.Q_nil _ _ _ _ _ | exact Kd.S_nil _ _ _ _ _, by repeat (first | (with_reducible first | exact HB.out | apply below_alloc | apply pw_below_drewN | apply below_drew1) | exact HB.out)⟩
   ·replace c6 := Bool.eq_false_iff.mpr c6
    subst c6
    have H1 : (if 0 ≤ (wrap64 (a0 - 1)) then (impl_WithoutLast.l0 kj2 a0 l1 (([] : List Int)) (shl .i64 1 (wrap64 (a0 - 1))) 0) else (none)) = some r := by rw [if_neg (show ¬ (false = true) by decide)] at H; exact H
    clear H
    have H := H1
    clear H1
    obtain ⟨y569, hy569⟩ : ∃ y_ : List Int, y_ = (([] : List Int)) := ⟨_, rfl⟩
    replace H : (if 0 ≤ (wrap64 (a0 - 1)) then (impl_WithoutLast.l0 kj2 a0 l1 y569 (shl .i64 1 (wrap64 (a0 - 1))) 0) else (none)) = some r := by first | (rw [hy569]; with_reducible exact H) | (have H2_ := (Option.bind_some _ _).symm.trans H; rw [hy569]; with_reducible exact H2_) | (have H2_ := (Option.bind_some _ _).symm.trans H; with_reducible exact H2_) | with_reducible exact H | (rw [hy569]; exact H) | exact H
    have Ny569 := Aside0.mk hy569
    clear hy569
    obtain ⟨ji7, hji7⟩ : ∃ j_ : Int, (wrap64 (a0 - 1)) = j_ := ⟨_, rfl⟩
    replace H : (if 0 ≤ (ji7) then (impl_WithoutLast.l0 kj2 a0 l1 y569 (shl .i64 1 (ji7)) 0) else (none)) = some r := by first | (rw [hji7] at H; exact H) | (simp only [hji7] at H ⊢; exact H)
    have hji7w : (IntKind.i64.wrap (a0 - 1)) = ji7 := (i64_w _).trans hji7
    by_cases c8 : 0 ≤ (ji7)
    ·rw [if_pos c8] at H
     have c8b0 := eq_true c8
     have c8b1 : decide (0 ≤ (ji7)) = true := decide_eq_true c8
     clear c8
     obtain ⟨ji9, hji9⟩ : ∃ j_ : Int, (shl .i64 1 (ji7)) = j_ := ⟨_, rfl⟩
     replace H : (impl_WithoutLast.l0 kj2 a0 l1 y569 ji9 0) = some r := by first | (rw [hji9] at H; exact H) | (simp only [hji9] at H ⊢; exact H)
     have hji9_ : (IntKind.i64.wrap (1 * 2 ^ min (ji7).toNat 64)) = ji9 := hji9
     have hji9z : (ji7) ≤ 64 → (IntKind.i64.wrap (1 * 2 ^ (ji7).toNat)) = ji9 := shl_small hji9
     have hji9u : (IntKind.i64.wrap (2 ^ min (ji7).toNat 64)) = ji9 := by have h_ := hji9_; rw [Int.one_mul] at h_; exact h_
     have hji9v : (ji7) ≤ 64 → (IntKind.i64.wrap (2 ^ (ji7).toNat)) = ji9 := fun hle_ => by have h_ := hji9z hle_; rw [Int.one_mul] at h_; exact h_
     have hji9y : (wrap64 (1 * 2 ^ min (ji7).toNat 64)) = ji9 := (i64_w _).symm.trans hji9_
     have hji9x : (ji7) ≤ 64 → (wrap64 (1 * 2 ^ (ji7).toNat)) = ji9 := fun h_ => (i64_w _).symm.trans (hji9z h_)
     have H' := Aside0.mk H
     clear H
     go_wp2_with (first | ((with_reducible refine gate_dst (N := 16) rfl ?_); refine Kd.R_lit (Kd.int .i64) _ 3 ?hg (N := 16) ?hd (xs := ([] : List Int)) (inner := []) (ok := fun _ => True) (okp := fun _ => True) ?hr ?hp (fun _ hk => hk) trivial (Below.refl _ _) (Nat.le_refl _) (by simp) ?_; (case hd => rfl); (case hg => rfl); (case hr => first | (go_simp; done) | (go_simp; rfl)); (case hp => exact (Reps.none _ _)); intro v570 w10 ho11 hb hg_ hnew_; clear hg_ hnew_; (first | rw [← Ny569.out] at ho11 | (simp only [Int.reduceToNat] at ho11; rw [← Ny569.out] at ho11)); have n0_ := Aside0.mk (Kd.R_lower ho11 (below_size (by repeat (first | (with_reducible first | exact HB.out | apply below_alloc | apply pw_below_drewN | apply below_drew1) | exact HB.out)))); have n1_ := Aside0.mk (below_step (by repeat (first | (with_reducible first | exact HB.out | apply below_alloc | apply pw_below_drewN | apply below_drew1) | exact HB.out)) hb); clear HB; have HO571 := n0_; have HB := n1_; clear n0_ n1_; clear hb ho11))
     go_loopg [5, 20] kj2 (fun kq v5 v20 w' => ∃ (x5_2 : List Int) (x20_2 : Int), v20 = .int .i64 x20_2 ∧ Aside0 (impl_WithoutLast.l0 kq a0 l1 x5_2 ji9 x20_2 = some r) ∧ Aside0 (kq ≤ kj2) ∧ Aside0 (Kd.R (Kd.int .i64) 3 w' w.heap.size (fun _ => True) v5 x5_2) ∧ Aside0 (Below w.heap.size w w'))
     case atStart => exact ⟨(y569), (0), (by first | rfl | (simp; done) | (simp [*]; done)), H', ⟨Nat.le_refl _⟩, ⟨by (with_reducible repeat (first | apply Kd.R_alloc | apply Kd.R_drewN | apply Kd.R_drew)); exact HO571.out⟩, ⟨by repeat (first | (with_reducible first | exact HB.out | apply below_alloc | apply pw_below_drewN | apply below_drew1) | exact HB.out)⟩⟩
     case round =>
      clear H'
      try clear c1
      try clear p2
      try clear c3
      try clear c4
      try clear c5
      try clear c6
      try clear p6
      try clear c8
      try clear c8b0
      try clear c8b1
      try clear p2
      obtain ⟨x5_2, x20_2, rfl, HA, HK2, HO_5, HB⟩ := hrel
      cases gk with
      | zero => exact absurd HA.out (by simp [impl_WithoutLast.l0])
      | succ k2 =>
       have H := HA.out
       clear HA
       simp only [impl_WithoutLast.l0] at H
       by_cases c12 : x20_2 < ji9
       ·rw [if_pos c12] at H
        have c12b0 : decide (x20_2 < ji9) = true := decide_eq_true c12
        clear c12
        replace H : (if 0 ≤ (ji7) then (impl_WithoutLast.l1 k2 a0 l1 x5_2 x20_2 ji9 x20_2 (shl .i64 1 (ji7)) 0) else (none)) = some r := by first | exact H | (rw [hji7] at H; exact H) | (simp only [hji7] at H ⊢; exact H)
        by_cases c13 : 0 ≤ (ji7)
        ·rw [if_pos c13] at H
         have c13b0 := eq_true c13
         have c13b1 : decide (0 ≤ (ji7)) = true := decide_eq_true c13
         clear c13
         replace H : (impl_WithoutLast.l1 k2 a0 l1 x5_2 x20_2 ji9 x20_2 ji9 0) = some r := by first | exact H | (rw [hji9] at H; exact H) | (simp only [hji9] at H ⊢; exact H)
         have H' := Aside0.mk H
         clear H
         go_wp2
         go_loopg [5, 26] k2 (fun kq v5 v26 w' => ∃ (x5_3 : List Int) (x26_3 : Int), v26 = .int .i64 x26_3 ∧ Aside0 (impl_WithoutLast.l1 kq a0 l1 x5_3 x20_2 ji9 x20_2 ji9 x26_3 = some r) ∧ Aside0 (kq ≤ k2) ∧ Aside0 (Kd.R (Kd.int .i64) 3 w' w.heap.size (fun _ => True) v5 x5_3) ∧ Aside0 (Below w.heap.size w w'))
         case atStart => exact ⟨(x5_2), (0), (by first | rfl | (simp; done) | (simp [*]; done)), H', ⟨Nat.le_refl _⟩, ⟨by (with_reducible repeat (first | apply Kd.R_alloc | apply Kd.R_drewN | apply Kd.R_drew)); exact HO_5.out⟩, ⟨by repeat (first | (with_reducible first | exact HB.out | apply below_alloc | apply pw_below_drewN | apply below_drew1) | exact HB.out)⟩⟩
         case round =>
          clear H'
          try clear c1
          try clear p2
          try clear c3
          try clear c4
          try clear c5
          try clear c6
          try clear p6
          try clear c8
          try clear c8b0
          try clear c8b1
          try clear c12
          try clear c12b0
          try clear c13
          try clear c13b0
          try clear c13b1
          try clear p2
          try clear p6
          obtain ⟨x5_3, x26_3, rfl, HA, HK3, HO_5, HB⟩ := hrel
          cases gk with
          | zero => exact absurd HA.out (by simp [impl_WithoutLast.l1])
          | succ k3 =>
           have H := HA.out
           clear HA
           simp only [impl_WithoutLast.l1] at H
           by_cases c14 : x26_3 < ji9
           ·rw [if_pos c14] at H
            have c14b0 : decide (x26_3 < ji9) = true := decide_eq_true c14
            clear c14
            by_cases c15 : 0 ≤ a0
            ·rw [if_pos c15] at H
             have c15b0 := eq_true c15
             have c15b1 : decide (0 ≤ a0) = true := decide_eq_true c15
             clear c15
             obtain ⟨ji16, hji16⟩ : ∃ j_ : Int, (shl .i64 x20_2 a0) = j_ := ⟨_, rfl⟩
             replace H : (if 0 ≤ (wrap64 ((ji16) + x26_3)) then (if (wrap64 ((ji16) + x26_3)) < (l1.length : Int) then (if x5_3.length < 17592186044416 then (impl_WithoutLast.l1 k3 a0 l1 (x5_3 ++ [rd l1 (wrap64 ((ji16) + x26_3))]) x20_2 ji9 x20_2 ji9 (wrap64 (x26_3 + 1))) else (none)) else (none)) else (none)) = some r := by first | (rw [hji16] at H; exact H) | (simp only [hji16] at H ⊢; exact H)
             have hji16_ : (IntKind.i64.wrap (x20_2 * 2 ^ min a0.toNat 64)) = ji16 := hji16
             have hji16z : a0 ≤ 64 → (IntKind.i64.wrap (x20_2 * 2 ^ a0.toNat)) = ji16 := shl_small hji16
             have hji16y : (wrap64 (x20_2 * 2 ^ min a0.toNat 64)) = ji16 := (i64_w _).symm.trans hji16_
             have hji16x : a0 ≤ 64 → (wrap64 (x20_2 * 2 ^ a0.toNat)) = ji16 := fun h_ => (i64_w _).symm.trans (hji16z h_)
             obtain ⟨ji17, hji17⟩ : ∃ j_ : Int, (wrap64 ((ji16) + x26_3)) = j_ := ⟨_, rfl⟩
             replace H : (if 0 ≤ (ji17) then (if (ji17) < (l1.length : Int) then (if x5_3.length < 17592186044416 then (impl_WithoutLast.l1 k3 a0 l1 (x5_3 ++ [rd l1 (ji17)]) x20_2 ji9 x20_2 ji9 (wrap64 (x26_3 + 1))) else (none)) else (none)) else (none)) = some r := by first | (rw [hji17] at H; exact H) | (simp only [hji17] at H ⊢; exact H)
             have hji17w : (IntKind.i64.wrap ((ji16) + x26_3)) = ji17 := (i64_w _).trans hji17
             by_cases c18 : 0 ≤ (ji17)
             ·rw [if_pos c18] at H
              have c18b0 : decide (0 ≤ (ji17)) = true := decide_eq_true c18
              clear c18
              by_cases c19 : (ji17) < (l1.length : Int)
              ·rw [if_pos c19] at H
               have c19b0 : decide ((ji17) < (l1.length : Int)) = true := decide_eq_true c19
               clear c19
               by_cases c20 : x5_3.length < 17592186044416
               ·rw [if_pos c20] at H
                have LMc20 := Aside0.mk c20
                clear c20
                obtain ⟨y573, hy573⟩ : ∃ y_ : List Int, y_ = (x5_3 ++ [rd l1 (ji17)]) := ⟨_, rfl⟩
                replace H : (impl_WithoutLast.l1 k3 a0 l1 y573 x20_2 ji9 x20_2 ji9 (wrap64 (x26_3 + 1))) = some r := by first | (rw [hy573]; with_reducible exact H) | (have H2_ := (Option.bind_some _ _).symm.trans H; rw [hy573]; with_reducible exact H2_) | (have H2_ := (Option.bind_some _ _).symm.trans H; with_reducible exact H2_) | with_reducible exact H | (rw [hy573]; exact H) | exact H
                have Ny573 := Aside0.mk hy573
                clear hy573
                have H' := Aside0.mk H
                clear H
                have p572 : 0 ≤ ((ji17) : Int) := of_decide_eq_true (by first | (with_reducible assumption) | assumption)
                have q572 : (ji17) < (l1.length : Int) := of_decide_eq_true (by first | (with_reducible assumption) | assumption)
                obtain ⟨ad572, e572, hx572_0⟩ := Kd.at_int HR1.out (ji17) p572 q572
                cases e572
                replace hx572_0 := (HB.out.cell (World.block_lt_of_cell? w _ hx572_0)).trans hx572_0
                replace p572 := eq_true p572
                replace q572 := eq_true q572
                go_wp2_with (first | ((with_reducible refine gate_builtin (b := .append) (xs := #[.tmp 29, .tmp 38]) rfl ?_); at_builtin; refine Kd.R_append (Kd.int .i64) (w0 := w) w.heap.size rfl (.tmp 29) (.tmp 38) 23 3 (.int .i64 0) 8 rfl Try.underlying23 info3 rfl (by decide) (by omega) u5 x5_3 (rd l1 (ji17)) [.int .i64 (rd l1 (ji17))] (fun _ => True) (fun _ => False) rfl rfl ?aP (fun _ hk => hk.elim) ?aF ?aO ?aB ?aS ?aL ?_; (case aP => exact rfl); (case aB => exact (by repeat (first | (with_reducible first | exact HB.out | apply below_alloc | apply pw_below_drewN | apply below_drew1) | exact HB.out))); (case aF => exact (fun _ _ => trivial)); (case aO => exact (by (with_reducible repeat (first | apply Kd.R_alloc | apply Kd.R_drewN | apply Kd.R_drew)); exact HO_5.out)); (case aS => exact (below_size (by repeat (first | (with_reducible first | exact HB.out | apply below_alloc | apply pw_below_drewN | apply below_drew1) | exact HB.out)))); (case aL => have := LMc20.out; omega); intro v574 w21 ho hb hg hat; rw [← Ny573.out] at ho; have n0_ := Aside0.mk (hb); have n1_ := Aside0.mk (ho); clear HB; clear HO_5; have HB := n0_; have HO575 := n1_; clear n0_ n1_; clear ho hb hg hat))
                go_roundg k3
                case measure => have := HJ2.out; have := HK2.out; have := HK3.out; omega
                case rel => exact ⟨(y573), (wrap64 (x26_3 + 1)), (by first | rfl | (simp; done) | (simp [*]; done)), H', ⟨by have := HJ2.out; have := HK2.out; have := HK3.out; omega⟩, ⟨by (with_reducible repeat (first | apply Kd.R_alloc | apply Kd.R_drewN | apply Kd.R_drew)); exact HO575.out⟩, ⟨by repeat (first | (with_reducible first | exact HB.out | apply below_alloc | apply pw_below_drewN | apply below_drew1) | exact HB.out)⟩⟩
               ·rw [if_neg c20] at H
                exact absurd H (by simp)
              ·rw [if_neg c19] at H
               exact absurd H (by simp)
             ·rw [if_neg c18] at H
              exact absurd H (by simp)
            ·rw [if_neg c15] at H
             exact absurd H (by simp)
           ·rw [if_neg c14] at H
            have c14b0 : decide (x26_3 < ji9) = false := decide_eq_false c14
            clear c14
            have H' := Aside0.mk H
            clear H
            go_wp2
            go_roundg k3
            case measure => have := HJ2.out; have := HK2.out; have := HK3.out; omega
            case rel => exact ⟨(x5_3), (wrap64 (x20_2 + 1)), (by first | rfl | (simp; done) | (simp [*]; done)), H', ⟨by have := HJ2.out; have := HK2.out; have := HK3.out; omega⟩, ⟨by (with_reducible repeat (first | apply Kd.R_alloc | apply Kd.R_drewN | apply Kd.R_drew)); exact HO_5.out⟩, ⟨by repeat (first | (with_reducible first | exact HB.out | apply below_alloc | apply pw_below_drewN | apply below_drew1) | exact HB.out)⟩⟩
        ·rw [if_neg c13] at H
         exact absurd H (by simp)
       ·rw [if_neg c12] at H
        have c12b0 : decide (x20_2 < ji9) = false := decide_eq_false c12
        clear c12
        obtain rfl := Option.some.inj H
        go_wp2
        go_ret
        exact ⟨_, by first | rfl | (simp [errW_none, errW_some] <;> rfl) | (simp only [← hji7, ← hji9]; first | rfl | (simp [errW_none, errW_some] <;> rfl)) | (simp [*, errW_none, errW_some] <;> rfl), by (with_reducible repeat (first | apply Kd.R_alloc | apply Kd.R_drewN | apply Kd.R_drew)); exact HO_5.out, by repeat (first | (with_reducible first | exact HB.out | apply below_alloc | apply pw_below_drewN | apply below_drew1) | exact HB.out)⟩
    ·rw [if_neg c8] at H
     exact absurd H (by simp)
end Go.Proofs.Ytcongmckkjbhiaa.P
/- Plain facts: what the reference's and the program's WithoutLast come to, with enough rounds, for relations of at most 2^20 numbers. -/
namespace Go.Proofs.Ytcongmckkjbhiaa.P
open Go.RowKit Go.Proofs.YtcongmckkjbhiaaW.PrintWords Go.Proofs.YtcongmckkjbhiaaW.PrintLast
/- Relations by rows: entries, what is a relation; the relation of a triangle, and what is left without the last thing. -/
theorem rowsB_rd (f : Int → Int → Int) (B : Nat) : ∀ (n a b : Nat), a < n → b < B → rd (rowsB f B n) ((a * B + b : Nat) : Int) = f a b := by
 intro n
 induction n with
 | zero => intro a b h; omega
 | succ n ih =>
  intro a b ha hb
  have hl := rowsB_length f B n
  rcases Nat.lt_or_ge a n with h | h
  ·have hi := ih a b h hb
   have hlt : a * B + b < n * B := by
    have := Nat.mul_le_mul_right B (show a + 1 ≤ n from h)
    rw [Nat.succ_mul] at this
    omega
   unfold rd at hi ⊢
   rw [Int.toNat_natCast, List.getD_eq_getElem?_getD] at hi ⊢
   rw [rowsB_succ, List.getElem?_append_left (by rw [hl]; exact hlt)]
   exact hi
  ·obtain rfl : a = n := by omega
   unfold rd
   rw [Int.toNat_natCast, List.getD_eq_getElem?_getD, rowsB_succ, List.getElem?_append_right (by rw [hl]; omega), hl, show a * B + b - a * B = b by omega]
   unfold rowB
   rw [List.getElem?_map, List.getElem?_range hb]
   rfl
/- Plain facts: what the reference's and the program's LooksInside come to, with enough rounds, for relations of at most 2^20 numbers. -/
theorem spec_l2Both_k (a b : Int) (h1 : 0 ≤ a) (h2 : a < 8) (h3 : 0 ≤ b) (h4 : b < 8) (k : Nat) (hk : 20 ≤ k) : spec_l2Both.f k a b = some (Go.bits .and .i64 a b) := by
 obtain ⟨k, rfl⟩ : ∃ m, k = m + 20 := ⟨k - 20, by omega⟩
 clear hk
 have hf : ∀ x y : Fin 8, spec_l2Both.f 20 (x.val : Int) (y.val : Int) = some (Go.bits .and .i64 (x.val : Int) (y.val : Int)) := by decide +kernel
 obtain ⟨x, rfl⟩ := Int.eq_ofNat_of_zero_le h1
 obtain ⟨y, rfl⟩ := Int.eq_ofNat_of_zero_le h3
 have h0 := hf ⟨x, by omega⟩ ⟨y, by omega⟩
 induction k with
 | zero => exact h0
 | succ k ih =>
  have := spec_l2Both.mono (x : Int) (y : Int) (k + 20)
  rw [show k + 1 + 20 = k + 20 + 1 from by omega]
  exact this _ ih
/-! LooksInside -/
theorem spec_LooksInside_l1 (t : Int) (l : List Int) (h : isRel t l = true) (B : Nat) (hp : pw t = (B : Int)) (hb8 : B ≤ 8) (a : Nat) (ha : a < B) (d : Nat) : ∀ (m b : Nat), 40 ≤ m → b + d = B →
  spec_LooksInside.l1 (m + d + 1) t l (a : Int) (b : Int) = if ((List.range' b d).all fun (b : Nat) => impl_LooksInside.so t l a b) = true then spec_LooksInside.l0 m t l ((a + 1 : Nat) : Int) else some false := by
 obtain ⟨h1, h2, h3⟩ := isRel_range h
 induction d with
 | zero =>
  intro m b hm g
  simp only [spec_LooksInside.l1]
  rw [if_pos h1, shl_one t h1 h2, hp, if_neg (by omega), wrap_succ a 100 (by omega) (by omega), List.range'_zero, List.all_nil, if_pos rfl]
 | succ d ih =>
  intro m b hm g
  obtain ⟨M, hM⟩ : ∃ M, M = m + d + 1 := ⟨_, rfl⟩
  rw [show m + (d + 1) + 1 = M + 1 from by omega]
  simp only [spec_LooksInside.l1]
  have j1 := index_range t a b h1 h2 (by omega) (by omega) (by omega) (by omega)
  have x2 := and_range t a b h1 h2 (by omega) (by omega) (by omega) (by omega)
  have j2 := index_range t a (Go.bits .and .i64 a b) h1 h2 (by omega) (by omega) x2.1 x2.2
  have hq := spec_l2Both_k a b (by omega) (by omega) (by omega) (by omega) M (by omega)
  rw [if_pos h1, shl_one t h1 h2, if_pos (show (b : Int) < pw t by omega), idx_wrap t a b h1 h2 (by omega) (by omega) (by omega) (by omega), if_pos j1.1, if_pos (by rw [h3]; exact j1.2.1), hq, Option.bind_some, idx_wrap t a _ h1 h2 (by omega) (by omega) x2.1 x2.2, if_pos j2.1, if_pos (by rw [h3]; exact j2.2.1), wrap_succ b 100 (by omega) (by omega), hM, ih m (b + 1) hm (by omega), show List.range' b (d + 1) = b :: List.range' (b + 1) d from rfl, List.all_cons]
  have hs := rel_same t l h a b a (Go.bits .and .i64 a b)
  by_cases c : rd l (↑a * pw t + ↑b) = rd l (↑a * pw t + Go.bits .and .i64 ↑a ↑b)
  ·rw [if_pos c, show impl_LooksInside.so t l a b = true from hs.1 c, Bool.true_and]
  ·rw [if_neg c, show impl_LooksInside.so t l a b = false from Bool.eq_false_iff.mpr (fun g => c (hs.2 g)), Bool.false_and, if_neg (by decide)]
theorem spec_LooksInside_l0 (t : Int) (l : List Int) (h : isRel t l = true) (B : Nat) (hp : pw t = (B : Int)) (hb8 : B ≤ 8) (e : Nat) : ∀ (k a : Nat), a + e = B → 100 * e + 200 < k →
  spec_LooksInside.l0 k t l (a : Int) = some ((List.range' a e).all fun (a : Nat) => (List.range' 0 B).all fun (b : Nat) => impl_LooksInside.so t l a b) := by
 obtain ⟨h1, h2, h3⟩ := isRel_range h
 induction e with
 | zero =>
  intro k a g hk
  obtain ⟨k, rfl⟩ : ∃ m, k = m + 1 := ⟨k - 1, by omega⟩
  simp only [spec_LooksInside.l0]
  rw [if_pos h1, shl_one t h1 h2, hp, if_neg (by omega), List.range'_zero, List.all_nil]
 | succ e ih =>
  intro k a g hk
  obtain ⟨k, rfl⟩ : ∃ m, k = m + B + 1 + 1 := ⟨k - (B + 2), by omega⟩
  have hh1 := spec_LooksInside_l1 t l h B hp hb8 a (by omega) B k 0 (by omega) (by omega)
  simp only [spec_LooksInside.l0]
  rw [if_pos h1, shl_one t h1 h2, hp, if_pos (by omega)]
  refine Eq.trans hh1 ?_
  rw [ih k (a + 1) (by omega) (by omega), show List.range' a (e + 1) = a :: List.range' (a + 1) e from rfl, List.all_cons]
  cases ((List.range' 0 B).all fun (b : Nat) => impl_LooksInside.so t l a b) <;> first | rfl | simp
def insideP (t : Int) (l : List Int) : Bool := isRel t l && forAllP t (impl_LooksInside.so t l)
theorem spec_LooksInside_k (t : Int) (l : List Int) (hl : l.length ≤ 1048576) (k : Nat) (hk : 1048600 ≤ k) : spec_LooksInside.f k t l = some (insideP t l) := by
 unfold spec_LooksInside.f insideP
 rw [spec_RelationOk_k t l hl k hk, Option.bind_some]
 by_cases h : isRel t l = true
 ·obtain ⟨h1, h2, h3⟩ := isRel_range h
  obtain ⟨B, hp, hb8, hB⟩ := pw_nat t h1 h2
  rw [if_pos h, h, Bool.true_and, ← forAll_range t B hB]
  exact spec_LooksInside_l0 t l h B hp hb8 B k 0 (by omega) (by omega)
 ·rw [if_neg h, Bool.eq_false_iff.mpr h, Bool.false_and]
theorem impl_LooksInside_k (t : Int) (l : List Int) (_hl : l.length ≤ 1048576) (k : Nat) (_hk : 1048600 ≤ k) : impl_LooksInside.f t l = some (insideP t l) := rfl
/- Plain facts on lists of numbers by rows and by indexes, and on the entries of a triangle. No condition beyond those typed. -/
/-! Lists by rows, and by indexes. -/
def rowI (f : Int → Int → Int) (a m : Nat) : List Int := (List.range m).map fun (s : Nat) => f (a : Int) (s : Int)
def rowsI (f : Int → Int → Int) (n : Nat) : List Int := (List.range n).flatMap fun a => rowI f a (a + 1)
theorem rowI_zero (f : Int → Int → Int) (a : Nat) : rowI f a 0 = [] := rfl
theorem rowI_succ (f : Int → Int → Int) (a m : Nat) : rowI f a (m + 1) = rowI f a m ++ [f a m] := by simp [rowI, List.range_succ]
theorem rowsI_succ (f : Int → Int → Int) (n : Nat) : rowsI f (n + 1) = rowsI f n ++ rowI f n (n + 1) := by simp [rowsI, List.range_succ]
theorem rowI_length (f : Int → Int → Int) (a m : Nat) : (rowI f a m).length = m := by simp [rowI]
theorem rowsI_length_le (f : Int → Int → Int) : ∀ n, n ≤ 6 → (rowsI f n).length ≤ 6 * n
 | 0, _ => by simp [rowsI]
 | n + 1, h => by
  have := rowsI_length_le f n (by omega)
  rw [rowsI_succ, List.length_append, rowI_length]
  omega
theorem rows_bound (f : Int → Int → Int) (n m : Nat) (hn : n < 6) (hm : m ≤ n + 1) : (rowsI f n ++ rowI f n m).length < 17592186044416 := by
 have := rowsI_length_le f n (by omega)
 rw [List.length_append, rowI_length]
 omega
def idx (f : Int → Int) (n : Nat) : List Int := (List.range n).map fun (j : Nat) => f (j : Int)
theorem idx_succ (f : Int → Int) (n : Nat) : idx f (n + 1) = idx f n ++ [f n] := by simp [idx, List.range_succ]
theorem idx_length (f : Int → Int) (n : Nat) : (idx f n).length = n := by simp [idx]
theorem idx_tri (f : Int → Int) : idx f 21 = triI fun a s => f (pl a s) := rfl
theorem wrap_succ6 (i : Nat) (h : i ≤ 100) : wrap64 ((i : Int) + 1) = ((i + 1 : Nat) : Int) := by unfold wrap64; omega
theorem bit_of (l : List Int) (h : isTri l = true) (a s : Int) : rd l (pl a s) = if hd l a s = true then 1 else 0 := by
 unfold hd
 rcases tri_bit l h (pl a s) with e | e
 ·rw [show a * (a + 1) / 2 + s = pl a s from rfl, e]; rfl
 ·rw [show a * (a + 1) / 2 + s = pl a s from rfl, e]; rfl
/- The rows of a relation: they are all of it exactly if it looks inside and knows no thing. Plain facts. -/
/-- A relation's entry for the first a and the first s things. -/
def rwAt (t : Int) (l : List Int) (a s : Int) : Int := rd l ((2 ^ a.toNat - 1) * pw t + (2 ^ s.toNat - 1))
def rwP (t : Int) (l : List Int) : List Int := rowsI (rwAt t l) (t.toNat + 1)
theorem bit01 (x : Int) (h : x = 0 ∨ x = 1) : (if (x == 1) = true then (1 : Int) else 0) = x := by
 rcases h with rfl | rfl <;> rfl
theorem rfOut_eq (t : Int) (l : List Int) (h : isRel t l = true) : rfOut t l = rwP t l := by
 obtain ⟨t0, t3, _⟩ := isRel_range h
 have e1 : rfOut t l = (List.range (rfPN t)).map fun i => rwAt t l (((rfPairs.getD i (0, 0)).1 : Nat) : Int) (((rfPairs.getD i (0, 0)).2 : Nat) : Int) := by
  unfold rfOut rfFill
  refine List.map_congr_left fun i hi => ?_
  have hi := List.mem_range.mp hi
  have hb := bit01 (rwAt t l (((rfPairs.getD i (0, 0)).1 : Nat) : Int) (((rfPairs.getD i (0, 0)).2 : Nat) : Int)) (rel_bit t l h _)
  have e2 : (rwAt t l (((rfPairs.getD i (0, 0)).1 : Nat) : Int) (((rfPairs.getD i (0, 0)).2 : Nat) : Int) == 1) = rfBit t l i := rfl
  rw [e2] at hb
  rw [← hb]
  by_cases c : rfBit t l i = true
  ·rw [if_pos ⟨hi, c⟩, if_pos c]
  ·rw [if_neg (fun g => c g.2), if_neg c]
 rw [e1]
 rcases three t t0 t3 with rfl | rfl | rfl | rfl <;> rfl
theorem rwP_length (t : Int) (l : List Int) (h1 : 0 ≤ t) (h2 : t ≤ 3) : (rwP t l).length = rfPN t ∧ rfPN t ≤ 10 := by
 rcases three t h1 h2 with rfl | rfl | rfl | rfl
 ·rw [show rfPN 0 = 1 by decide]; exact ⟨rfl, by decide⟩
 ·rw [show rfPN 1 = 3 by decide]; exact ⟨rfl, by decide⟩
 ·rw [show rfPN 2 = 6 by decide]; exact ⟨rfl, by decide⟩
 ·rw [show rfPN 3 = 10 by decide]; exact ⟨rfl, by decide⟩
theorem rwP_rd (t : Int) (l : List Int) (p s : Int) (h1 : 0 ≤ t) (h2 : t ≤ 3) (h3 : 0 ≤ p) (h4 : p ≤ t) (h5 : 0 ≤ s) (h6 : s ≤ p) : rd (rwP t l) (pl p s) = rwAt t l p s := by
 rcases three t h1 h2 with rfl | rfl | rfl | rfl <;> rcases three p h3 (by omega) with rfl | rfl | rfl | rfl <;> first | omega | (rcases three s h5 (by omega) with rfl | rfl | rfl | rfl <;> first | omega | rfl)
theorem rw_facts (t a b : Int) (h1 : 0 ≤ t) (h2 : t ≤ 3) (a0 : 0 ≤ a) (a1 : a < pw t) (b0 : 0 ≤ b) (b1 : b < pw t) :
  (0 ≤ szI a ∧ szI a ≤ t ∧ 0 ≤ szI (Go.bits .and .i64 a b) ∧ szI (Go.bits .and .i64 a b) ≤ szI a) ∧
  (0 ≤ (2 : Int) ^ (szI a).toNat - 1 ∧ (2 : Int) ^ (szI a).toNat - 1 < pw t ∧ 0 ≤ (2 : Int) ^ (szI (Go.bits .and .i64 a b)).toNat - 1 ∧ (2 : Int) ^ (szI (Go.bits .and .i64 a b)).toNat - 1 < pw t) ∧
  szI a = szI (2 ^ (szI a).toNat - 1) ∧ szI (Go.bits .and .i64 a b) = szI (2 ^ (szI (Go.bits .and .i64 a b)).toNat - 1) ∧
  szI (Go.bits .and .i64 a (Go.bits .and .i64 a b)) = szI (Go.bits .and .i64 (2 ^ (szI a).toNat - 1) (2 ^ (szI (Go.bits .and .i64 a b)).toNat - 1)) ∧
  Go.bits .and .i64 a (Go.bits .and .i64 a b) = Go.bits .and .i64 a b := by
 have hf : ∀ T : Fin 4, ∀ x y : Fin 8, (x.val : Int) < pw T.val → (y.val : Int) < pw T.val →
  (0 ≤ szI x.val ∧ szI x.val ≤ T.val ∧ 0 ≤ szI (Go.bits .and .i64 x.val y.val) ∧ szI (Go.bits .and .i64 x.val y.val) ≤ szI x.val) ∧
  (0 ≤ (2 : Int) ^ (szI x.val).toNat - 1 ∧ (2 : Int) ^ (szI x.val).toNat - 1 < pw T.val ∧ 0 ≤ (2 : Int) ^ (szI (Go.bits .and .i64 x.val y.val)).toNat - 1 ∧ (2 : Int) ^ (szI (Go.bits .and .i64 x.val y.val)).toNat - 1 < pw T.val) ∧
  szI x.val = szI (2 ^ (szI x.val).toNat - 1) ∧ szI (Go.bits .and .i64 x.val y.val) = szI (2 ^ (szI (Go.bits .and .i64 x.val y.val)).toNat - 1) ∧
  szI (Go.bits .and .i64 x.val (Go.bits .and .i64 x.val y.val)) = szI (Go.bits .and .i64 (2 ^ (szI x.val).toNat - 1) (2 ^ (szI (Go.bits .and .i64 x.val y.val)).toNat - 1)) ∧
  Go.bits .and .i64 x.val (Go.bits .and .i64 x.val y.val) = Go.bits .and .i64 x.val y.val := by decide +kernel
 have hp := pw_range t h1 h2
 obtain ⟨T, rfl⟩ := Int.eq_ofNat_of_zero_le h1
 obtain ⟨x, rfl⟩ := Int.eq_ofNat_of_zero_le a0
 obtain ⟨y, rfl⟩ := Int.eq_ofNat_of_zero_le b0
 exact hf ⟨T, by omega⟩ ⟨x, by omega⟩ ⟨y, by omega⟩ a1 b1
theorem rfSo_eq (t : Int) (l : List Int) (a b : Int) (h1 : 0 ≤ t) (h2 : t ≤ 3) (a0 : 0 ≤ a) (a1 : a < pw t) (b0 : 0 ≤ b) (b1 : b < pw t) :
  rfSo t l (rwP t l) a b = (hr t l a b == hr t l (2 ^ (szI a).toNat - 1) (2 ^ (szI (Go.bits .and .i64 a b)).toNat - 1)) := by
 obtain ⟨⟨g1, g2, g3, g4⟩, _⟩ := rw_facts t a b h1 h2 a0 a1 b0 b1
 have e : rfIdx a b = pl (szI a) (szI (Go.bits .and .i64 a b)) := rfl
 unfold rfSo
 rw [e, rwP_rd t l _ _ h1 h2 g1 g2 g3 g4]
 rfl
theorem rfFine_eq (t : Int) (l : List Int) : rfFine t l = (insideP t l && kntAllP t l) := by
 by_cases h : isRel t l = true
 ·obtain ⟨t0, t3, _⟩ := isRel_range h
  have hp := pw_range t t0 t3
  unfold rfFine insideP kntAllP
  rw [h, Bool.true_and, Bool.true_and, Bool.true_and, rfOut_eq t l h, Bool.eq_iff_iff, Bool.and_eq_true, forAllP_iff, forAllP_iff, forAllP_iff]
  constructor
  ·intro g
   have g : ∀ a b : Int, 0 ≤ a → a < pw t → 0 ≤ b → b < pw t → hr t l a b = hr t l (2 ^ (szI a).toNat - 1) (2 ^ (szI (Go.bits .and .i64 a b)).toNat - 1) := by
    intro a b a0 a1 b0 b1
    have := g a b a0 a1 b0 b1
    rw [rfSo_eq t l a b t0 t3 a0 a1 b0 b1] at this
    exact beq_iff_eq.mp this
   constructor
   ·intro a b a0 a1 b0 b1
    obtain ⟨c0, c1⟩ := and_range t a b t0 t3 a0 a1 b0 b1
    obtain ⟨_, _, _, _, _, q⟩ := rw_facts t a b t0 t3 a0 a1 b0 b1
    unfold impl_LooksInside.so
    rw [g a b a0 a1 b0 b1, g a _ a0 a1 c0 c1, q]
    exact beq_self_eq_true _
   ·intro a b a0 a1 b0 b1
    unfold impl_KnowsNoThing.so
    refine kntP_true _ _ _ _ fun i k hi hk => ?_
    have x1 := exch_here t a i k t0 t3 a0 a1 (by omega) (by omega) (by omega)
    have x2 := exch_here t b i k t0 t3 b0 b1 (by omega) (by omega) (by omega)
    obtain ⟨s1, s2⟩ := exch_sizesE t a b i k t0 t3 a0 a1 b0 b1 hk (by omega)
    unfold kntAt
    rw [g a b a0 a1 b0 b1, g _ _ x1.2.1 x1.2.2 x2.2.1 x2.2.2, s1, s2]
    exact beq_self_eq_true _
  ·rintro ⟨gi, gk⟩ a b a0 a1 b0 b1
   rw [rfSo_eq t l a b t0 t3 a0 a1 b0 b1, beq_iff_eq]
   have e1 := gi a b a0 a1 b0 b1
   unfold impl_LooksInside.so at e1
   rw [beq_iff_eq] at e1
   obtain ⟨c0, c1⟩ := and_range t a b t0 t3 a0 a1 b0 b1
   obtain ⟨_, ⟨u0, u1, v0, v1⟩, s1, s2, s3, _⟩ := rw_facts t a b t0 t3 a0 a1 b0 b1
   obtain ⟨p, hp1, e2, e3⟩ := exConn t a (Go.bits .and .i64 a b) (2 ^ (szI a).toNat - 1) (2 ^ (szI (Go.bits .and .i64 a b)).toNat - 1) t0 t3 a0 a1 c0 c1 u0 u1 v0 v1 s1 s2 s3
   have hk : ∀ a b : Int, 0 ≤ a → a < pw t → 0 ≤ b → b < pw t → ∀ i k : Nat, i < t.toNat → k < i → kntAt t l a b i k = true := by
    intro a b a0 a1 b0 b1 i k hi hk
    have := gk a b a0 a1 b0 b1
    simp only [impl_KnowsNoThing.so, kntP, List.all_eq_true, List.mem_range] at this
    exact this i hi k hk
   have e4 := exGo_hr t l t0 t3 hk p (exPaths_ok t.toNat (by omega) p hp1) a (Go.bits .and .i64 a b) a0 a1 c0 c1
   rw [e2, e3] at e4
   rw [e1, e4]
 ·unfold rfFine insideP
  rw [Bool.eq_false_iff.mpr h]
  rfl
/-- What RowsFrom answers. -/
def rowsP (t : Int) (l : List Int) : List Int × Bool := (if (insideP t l && kntAllP t l) = true then rwP t l else [], insideP t l && kntAllP t l)
theorem impl_RowsFrom_eq (t : Int) (l : List Int) : impl_RowsFrom.f t l = some (rowsP t l) := by
 unfold impl_RowsFrom.f rowsP
 rw [rfFine_eq]
 by_cases h : (insideP t l && kntAllP t l) = true
 ·have hr : isRel t l = true := by
   unfold insideP at h
   rw [Bool.and_eq_true, Bool.and_eq_true] at h
   exact h.1.1
  rw [if_pos h, if_pos h, rfOut_eq t l hr]
 ·rw [if_neg h, if_neg h]
theorem rowsP_length (t : Int) (l : List Int) : (rowsP t l).1.length ≤ 10 := by
 unfold rowsP
 by_cases h : (insideP t l && kntAllP t l) = true
 ·have hr : isRel t l = true := by
   unfold insideP at h
   rw [Bool.and_eq_true, Bool.and_eq_true] at h
   exact h.1.1
  obtain ⟨t0, t3, _⟩ := isRel_range hr
  obtain ⟨g1, g2⟩ := rwP_length t l t0 t3
  show (if (insideP t l && kntAllP t l) = true then rwP t l else []).length ≤ 10
  rw [if_pos h]
  omega
 ·show (if (insideP t l && kntAllP t l) = true then rwP t l else []).length ≤ 10
  rw [if_neg h]
  exact Nat.zero_le _
/- What the reference's RowsFrom comes to, with enough rounds. Plain facts. -/
theorem rw_idx (T a s : Nat) (hT : T ≤ 3) (ha : a ≤ T) (hs : s ≤ a) : wrap64 (wrap64 (shl .i64 (wrap64 (shl .i64 1 (a : Int) - 1)) (T : Int) + shl .i64 1 (s : Int)) - 1) = (2 ^ ((a : Int)).toNat - 1) * pw T + (2 ^ ((s : Int)).toNat - 1) ∧ 0 ≤ ((2 : Int) ^ ((a : Int)).toNat - 1) * pw T + (2 ^ ((s : Int)).toNat - 1) ∧ ((2 : Int) ^ ((a : Int)).toNat - 1) * pw T + (2 ^ ((s : Int)).toNat - 1) < ((4 ^ T : Nat) : Int) := by
 have hf : ∀ T a s : Fin 4, a.val ≤ T.val → s.val ≤ a.val → wrap64 (wrap64 (shl .i64 (wrap64 (shl .i64 1 (a.val : Int) - 1)) (T.val : Int) + shl .i64 1 (s.val : Int)) - 1) = (2 ^ ((a.val : Int)).toNat - 1) * pw T.val + (2 ^ ((s.val : Int)).toNat - 1) ∧ 0 ≤ ((2 : Int) ^ ((a.val : Int)).toNat - 1) * pw T.val + (2 ^ ((s.val : Int)).toNat - 1) ∧ ((2 : Int) ^ ((a.val : Int)).toNat - 1) * pw T.val + (2 ^ ((s.val : Int)).toNat - 1) < ((4 ^ T.val : Nat) : Int) := by decide +kernel
 exact hf ⟨T, by omega⟩ ⟨a, by omega⟩ ⟨s, by omega⟩ ha hs
theorem spec_RowsFrom_l1 (T : Nat) (hT : T ≤ 3) (l : List Int) (h3 : l.length = 4 ^ T) (a : Nat) (ha : a ≤ T) (d : Nat) : ∀ (m s : Nat), s + d = a + 1 →
  spec_RowsFrom.l1 (m + d + 1) T l (rowsI (rwAt T l) a ++ rowI (rwAt T l) a s) (a : Int) (s : Int) = spec_RowsFrom.l0 m T l (rowsI (rwAt T l) (a + 1)) ((a + 1 : Nat) : Int) := by
 induction d with
 | zero =>
  intro m s h
  obtain ⟨M, hM⟩ : ∃ M, M = m + 0 := ⟨_, rfl⟩
  rw [← hM, show m = M from by omega]
  simp only [spec_RowsFrom.l1]
  rw [if_neg (by omega), wrap_succ6 a (by omega), show s = a + 1 from by omega, ← rowsI_succ]
 | succ d ih =>
  intro m s h
  obtain ⟨M, hM⟩ : ∃ M, M = m + d + 1 := ⟨_, rfl⟩
  rw [show m + (d + 1) + 1 = M + 1 from by omega]
  have hb := rows_bound (rwAt T l) a s (by omega) (by omega)
  obtain ⟨e1, e2, e3⟩ := rw_idx T a s hT ha (by omega)
  have hi := ih m (s + 1) (by omega)
  simp only [spec_RowsFrom.l1]
  rw [if_pos (by omega), if_pos (by omega), if_pos (by omega), if_pos (by omega), e1, if_pos e2, if_pos (by rw [h3]; exact e3), if_pos hb, wrap_succ6 s (by omega), hM, List.append_assoc, show rowI (rwAt T l) a s ++ [rd l ((2 ^ ((a : Int)).toNat - 1) * pw T + (2 ^ ((s : Int)).toNat - 1))] = rowI (rwAt T l) a (s + 1) from (rowI_succ _ _ _).symm]
  exact hi
theorem spec_RowsFrom_l0 (T : Nat) (hT : T ≤ 3) (l : List Int) (h3 : l.length = 4 ^ T) (e : Nat) : ∀ (k a : Nat), a + e = T + 1 → 20 * e + 20 < k →
  spec_RowsFrom.l0 k T l (rowsI (rwAt T l) a) (a : Int) = some (rowsI (rwAt T l) (T + 1), true) := by
 induction e with
 | zero =>
  intro k a g hk
  obtain ⟨k, rfl⟩ : ∃ m, k = m + 1 := ⟨k - 1, by omega⟩
  obtain rfl : a = T + 1 := by omega
  simp only [spec_RowsFrom.l0]
  rw [if_neg (by omega)]
 | succ e ih =>
  intro k a g hk
  obtain ⟨k, rfl⟩ : ∃ m, k = m + (a + 1) + 1 + 1 := ⟨k - (a + 3), by omega⟩
  have hh1 := spec_RowsFrom_l1 T hT l h3 a (by omega) (a + 1) k 0 (by omega)
  rw [rowI_zero, List.append_nil] at hh1
  simp only [spec_RowsFrom.l0]
  rw [if_pos (by omega)]
  refine Eq.trans hh1 ?_
  exact ih k (a + 1) (by omega) (by omega)
theorem spec_RowsFrom_k (t : Int) (l : List Int) (hl : l.length ≤ 1048576) (k : Nat) (hk : 1048700 ≤ k) : spec_RowsFrom.f k t l = some (rowsP t l) := by
 obtain ⟨k, rfl⟩ : ∃ m, k = m + 1 := ⟨k - 1, by omega⟩
 unfold spec_RowsFrom.f
 rw [Option.bind_some, spec_LooksInside_k t l hl _ (by omega), Option.bind_some]
 by_cases g : insideP t l = true
 ·rw [if_pos g, spec_KnowsNoThing_k t l hl _ (by omega), Option.bind_some]
  by_cases g2 : kntAllP t l = true
  ·have hr : isRel t l = true := by
    unfold insideP at g
    rw [Bool.and_eq_true] at g
    exact g.1
   obtain ⟨t0, t3, h3⟩ := isRel_range hr
   obtain ⟨T, rfl⟩ := Int.eq_ofNat_of_zero_le t0
   rw [g2]
   simp only [spec_RowsFrom.j0]
   rw [Bool.not_true, if_neg Bool.false_ne_true]
   refine (spec_RowsFrom_l0 T (by omega) l h3 (T + 1) k 0 (by omega) (by omega)).trans ?_
   unfold rowsP rwP
   rw [g, g2, Bool.true_and, if_pos rfl, Int.toNat_natCast]
  ·rw [Bool.eq_false_iff.mpr g2]
   simp only [spec_RowsFrom.j0]
   first | rw [Bool.not_false, if_pos rfl] | rw [Bool.not_false, if_pos trivial]
   unfold rowsP
   rw [Bool.eq_false_iff.mpr g2, Bool.and_false]
   rfl
 ·rw [if_neg g]
  simp only [spec_RowsFrom.j0]
  rw [if_pos trivial]
  unfold rowsP
  rw [Bool.eq_false_iff.mpr g, Bool.false_and]
  rfl
end Go.Proofs.Ytcongmckkjbhiaa.P
