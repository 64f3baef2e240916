-- Texts of this claim, laid one behind the other by wip/gen/merge.py.
import Derived.Test.YtbdbklnlpeichaaZFnFewerDo0
import Derived.Test.YtbdbklnlpeichaaZFnFewerDo4
import Derived.Test.YtbdbklnlpeichaaZFnFewerDo7
-- Written by wip/gen/lay.py, a program of this session, with the kit's print as its base. Lean checks every line.
namespace Go.Proofs.Ytbdbklnlpeichaa.P
open Go.RowKit Go.Proofs.YtbdbklnlpeichaaW.PrintWords Go.Proofs.YtbdbklnlpeichaaW.PrintLast Go.Proofs.YtbdbklnlpeichaaW.PrintMore
attribute [local go_sem] max2_int min2_int max_two min_two max_three min_three max_four min_four   -- for this text's walks alone
set_option linter.unusedVariables false
set_option linter.unusedSimpArgs false

/-! ### spec_FewerDo: function 9 -/
def spec_FewerDo.f (k : Nat) (l0 : List Int) : Option (Bool) := (spec_TriangleOk.f k l0).bind fun t306 => (if t306 = true then ((spec_l3Each.f k l0 0 (-1)).bind fun t307 => (some t307)) else (some false))
theorem spec_FewerDo.mono : ∀ a0 k, LeO (spec_FewerDo.f k a0) (spec_FewerDo.f (k + 1) a0) := by
  intro a0 k
  unfold spec_FewerDo.f
  repeat' first
      | (with_reducible exact spec_TriangleOk.mono _ _)
      | (with_reducible exact spec_l3Each.mono _ _ _ _)
      | (with_reducible exact LeO.refl _)
      | (with_reducible exact LeO.none _)
      | (with_reducible refine LeO.ite ?_ ?_)
      | (with_reducible refine LeO.bind ?_ (fun _ => ?_))
      | exact spec_TriangleOk.mono _ _
      | exact spec_l3Each.mono _ _ _ _
      | exact LeO.none _
      | refine LeO.ite ?_ ?_
      | refine LeO.bind ?_ (fun _ => ?_)
set_option maxHeartbeats 8000000 in
set_option maxRecDepth 100000 in
theorem spec_FewerDo.calls (k : Nat) (A0 : Option Addr) (c0 : Nat) (l0 : List Int) (r : Bool) (w : World) (hr0 : Kd.C (Kd.int .i64) w A0 l0.length l0) (hc0 : l0.length ≤ c0) (h : spec_FewerDo.f k l0 = some r) :
    Calls Try.prog 9 #[.slice A0 l0.length c0] w fun e w' => e = .returned (.bool r) ∧ Drawn0 w w' := by
  have HR0 := Aside0.mk hr0
  have HC0 := Aside0.mk hc0
  clear hr0 hc0
  have H : ((spec_TriangleOk.f k l0).bind fun t306 => (if t306 = true then ((spec_l3Each.f k l0 0 (-1)).bind fun t307 => (some t307)) else (some false))) = some r := h
  clear h
  replace H := Option.bind_eq_some_iff.mp H
  obtain ⟨t306, A20, H⟩ := H
  replace H : (if t306 = true then ((spec_l3Each.f k l0 0 (-1)).bind fun t307 => (some t307)) else (some false)) = some r := H
  have A2 := Aside0.mk A20
  clear A20
  by_cases c3 : t306 = true
  · subst c3
    have H1 : ((spec_l3Each.f k l0 0 (-1)).bind fun t307 => (some t307)) = some r := by rw [if_pos rfl] at H; exact H
    clear H
    have H := H1
    clear H1
    replace H := Option.bind_eq_some_iff.mp H
    obtain ⟨t307, A40, H⟩ := H
    replace H : (some t307) = some r := H
    have A4 := Aside0.mk A40
    clear A40
    obtain rfl := Option.some.inj H
    go_enter Try.func9, Try.ntmps9
    go_wp2_with (first | ((with_reducible refine gate_callee (f := 20) rfl ?_); refine goesL_ (some 4) rfl rfl Try.func20 (by kernel_rfl) rfl #[.slice A0 l0.length c0] rfl (by (try simp only [List.map_toArray, List.map_cons, List.map_nil]); first | done | rfl | (simp only [List.length_drop, List.length_take]; rfl)) ?_; (with_reducible refine (spec_TriangleOk.calls k _ _ l0 true _ ?side1 ?side2 A2.out).mono ?_); (case side1 => repeat (first | exact HR0.out | (with_reducible refine Kd.C_alloc ?_ _) | (with_reducible refine Kd.C_drewN ?_ _) | (with_reducible refine Kd.C_drew ?_))); (case side2 => exact HC0.out); rintro e w' ⟨rfl, ⟨nd, rfl⟩⟩; refine ⟨_, rfl, ?_⟩) | (go_at_call 33; (with_reducible refine (spec_l3Each.calls k _ _ l0 0 (-1) t307 _ ?side1 ?side2 A4.out).mono ?_); (case side1 => repeat (first | exact HR0.out | (with_reducible refine Kd.C_alloc ?_ _) | (with_reducible refine Kd.C_drewN ?_ _) | (with_reducible refine Kd.C_drew ?_))); (case side2 => exact HC0.out); rintro e w' ⟨rfl, ⟨nd, rfl⟩⟩))
    go_ret
    exact ⟨by first | rfl | (simp; done) | (simp [*]; done), by repeat (first | exact Drawn0.refl _ | apply Drawn0.step)⟩
  · replace c3 := Bool.eq_false_iff.mpr c3
    subst c3
    have H1 : (some false) = some r := by rw [if_neg (show ¬ (false = true) by decide)] at H; exact H
    clear H
    have H := H1
    clear H1
    obtain rfl := Option.some.inj H
    go_enter Try.func9, Try.ntmps9
    go_wp2_with (first | ((with_reducible refine gate_callee (f := 20) rfl ?_); refine goesL_ (some 4) rfl rfl Try.func20 (by kernel_rfl) rfl #[.slice A0 l0.length c0] rfl (by (try simp only [List.map_toArray, List.map_cons, List.map_nil]); first | done | rfl | (simp only [List.length_drop, List.length_take]; rfl)) ?_; (with_reducible refine (spec_TriangleOk.calls k _ _ l0 false _ ?side1 ?side2 A2.out).mono ?_); (case side1 => repeat (first | exact HR0.out | (with_reducible refine Kd.C_alloc ?_ _) | (with_reducible refine Kd.C_drewN ?_ _) | (with_reducible refine Kd.C_drew ?_))); (case side2 => exact HC0.out); rintro e w' ⟨rfl, ⟨nd, rfl⟩⟩; refine ⟨_, rfl, ?_⟩))
    go_ret
    exact ⟨by first | rfl | (simp; done) | (simp [*]; done), by repeat (first | exact Drawn0.refl _ | apply Drawn0.step)⟩

end Go.Proofs.Ytbdbklnlpeichaa.P

-- Written by wip/gen/lay.py, a program of this session, with the kit's print as its base. Lean checks every line.
namespace Go.Proofs.Ytbdbklnlpeichaa.P
open Go.RowKit Go.Proofs.YtbdbklnlpeichaaW.PrintWords Go.Proofs.YtbdbklnlpeichaaW.PrintLast Go.Proofs.YtbdbklnlpeichaaW.PrintMore
attribute [local go_sem] max2_int min2_int max_two min_two max_three min_three max_four min_four   -- for this text's walks alone
set_option linter.unusedVariables false
set_option linter.unusedSimpArgs false

/-! ### impl_PlaceOf: function 34 -/
def impl_PlaceOf.f (a0 : Int) (a1 : Int) : Option (Int) := if a0 < 0 then (some (-1)) else (if a0 > 5 then (some (-1)) else (if a1 < 0 then (some (-1)) else (if a1 > a0 then (some (-1)) else ((impl_placeOf.f a0 a1).bind fun t308 => (some t308)))))
set_option maxHeartbeats 8000000 in
set_option maxRecDepth 100000 in
theorem impl_PlaceOf.calls (a0 : Int) (a1 : Int) (r : Int) (w : World) (h : impl_PlaceOf.f a0 a1 = some r) :
    Calls Try.prog 34 #[.int .i64 a0, .int .i64 a1] w fun e w' => e = .returned (.int .i64 r) ∧ Drawn0 w w' := by
  have H : (if a0 < 0 then (some (-1)) else (if a0 > 5 then (some (-1)) else (if a1 < 0 then (some (-1)) else (if a1 > a0 then (some (-1)) else ((impl_placeOf.f a0 a1).bind fun t308 => (some t308)))))) = some r := h
  clear h
  by_cases c3 : a0 < 0
  · rw [if_pos c3] at H
    have c3b0 : decide (a0 < 0) = true := decide_eq_true c3
    clear c3
    obtain rfl := Option.some.inj H
    go_enter Try.func34, Try.ntmps34
    go_wp2
    go_ret
    exact ⟨by first | rfl | (simp; done) | (simp [*]; done), by repeat (first | exact Drawn0.refl _ | apply Drawn0.step)⟩
  · rw [if_neg c3] at H
    have c3b0 : decide (a0 < 0) = false := decide_eq_false c3
    clear c3
    by_cases c4 : a0 > 5
    · rw [if_pos c4] at H
      have c4b0 : decide (5 < a0) = true := decide_eq_true c4
      clear c4
      obtain rfl := Option.some.inj H
      go_enter Try.func34, Try.ntmps34
      go_wp2
      go_ret
      exact ⟨by first | rfl | (simp; done) | (simp [*]; done), by repeat (first | exact Drawn0.refl _ | apply Drawn0.step)⟩
    · rw [if_neg c4] at H
      have c4b0 : decide (5 < a0) = false := decide_eq_false c4
      clear c4
      by_cases c5 : a1 < 0
      · rw [if_pos c5] at H
        have c5b0 : decide (a1 < 0) = true := decide_eq_true c5
        clear c5
        obtain rfl := Option.some.inj H
        go_enter Try.func34, Try.ntmps34
        go_wp2
        go_ret
        exact ⟨by first | rfl | (simp; done) | (simp [*]; done), by repeat (first | exact Drawn0.refl _ | apply Drawn0.step)⟩
      · rw [if_neg c5] at H
        have c5b0 : decide (a1 < 0) = false := decide_eq_false c5
        clear c5
        by_cases c6 : a1 > a0
        · rw [if_pos c6] at H
          have c6b0 : decide (a0 < a1) = true := decide_eq_true c6
          clear c6
          obtain rfl := Option.some.inj H
          go_enter Try.func34, Try.ntmps34
          go_wp2
          go_ret
          exact ⟨by first | rfl | (simp; done) | (simp [*]; done), by repeat (first | exact Drawn0.refl _ | apply Drawn0.step)⟩
        · rw [if_neg c6] at H
          have c6b0 : decide (a0 < a1) = false := decide_eq_false c6
          clear c6
          replace H := Option.bind_eq_some_iff.mp H
          obtain ⟨t308, A70, H⟩ := H
          replace H : (some t308) = some r := H
          have A7 := Aside0.mk A70
          clear A70
          obtain rfl := Option.some.inj H
          go_enter Try.func34, Try.ntmps34
          go_wp2_with (first | ((with_reducible refine gate_callee (f := 61) rfl ?_); refine goesL_ (some 22) rfl rfl Try.func61 (by kernel_rfl) rfl #[.int .i64 a0, .int .i64 a1] rfl (by (try simp only [List.map_toArray, List.map_cons, List.map_nil]); first | done | rfl | (simp only [List.length_drop, List.length_take]; rfl)) ?_; (with_reducible refine (impl_placeOf.calls a0 a1 t308 _ A7.out).mono ?_); rintro e w' ⟨rfl, ⟨nd, rfl⟩⟩; refine ⟨_, rfl, ?_⟩))
          go_ret
          exact ⟨by first | rfl | (simp; done) | (simp [*]; done), by repeat (first | exact Drawn0.refl _ | apply Drawn0.step)⟩

end Go.Proofs.Ytbdbklnlpeichaa.P

-- Written by wip/gen/lay.py, a program of this session, with the kit's print as its base. Lean checks every line.
namespace Go.Proofs.Ytbdbklnlpeichaa.P
open Go.RowKit Go.Proofs.YtbdbklnlpeichaaW.PrintWords Go.Proofs.YtbdbklnlpeichaaW.PrintLast Go.Proofs.YtbdbklnlpeichaaW.PrintMore
attribute [local go_sem] max2_int min2_int max_two min_two max_three min_three max_four min_four   -- for this text's walks alone
set_option linter.unusedVariables false
set_option linter.unusedSimpArgs false

/-! ### laws_alive: function 10 -/
def laws_alive.f  : Option (Bool) := (impl_PlaceOf.f 0 0).bind fun t309 => (if t309 = 0 then ((impl_PlaceOf.f 0 1).bind fun t310 => (some (t310 == (-1)))) else (some false))
set_option maxHeartbeats 8000000 in
set_option maxRecDepth 100000 in
theorem laws_alive.calls  (r : Bool) (w : World) (h : laws_alive.f  = some r) :
    Calls Try.prog 10 #[] w fun e w' => e = .returned (.bool r) ∧ Drawn0 w w' := by
  have H : ((impl_PlaceOf.f 0 0).bind fun t309 => (if t309 = 0 then ((impl_PlaceOf.f 0 1).bind fun t310 => (some (t310 == (-1)))) else (some false))) = some r := h
  clear h
  replace H := Option.bind_eq_some_iff.mp H
  obtain ⟨t309, A10, H⟩ := H
  replace H : (if t309 = 0 then ((impl_PlaceOf.f 0 1).bind fun t310 => (some (t310 == (-1)))) else (some false)) = some r := H
  have A1 := Aside0.mk A10
  clear A10
  by_cases c2 : t309 = 0
  · rw [if_pos c2] at H
    have c2b0 : (t309 == 0) = true := beq_iff_eq.mpr c2
    have c2b1 : (t309 != 0) = false := bne_eq_false_iff_eq.mpr c2
    clear c2
    replace H := Option.bind_eq_some_iff.mp H
    obtain ⟨t310, A30, H⟩ := H
    replace H : (some (t310 == (-1))) = some r := H
    have A3 := Aside0.mk A30
    clear A30
    obtain rfl := Option.some.inj H
    go_enter Try.func10, Try.ntmps10
    go_wp2_with (first | ((with_reducible refine gate_callee (f := 34) rfl ?_); refine goesL_ (some 1) rfl rfl Try.func34 (by kernel_rfl) rfl #[.int .i64 0, .int .i64 0] rfl (by (try simp only [List.map_toArray, List.map_cons, List.map_nil]); first | done | rfl | (simp only [List.length_drop, List.length_take]; rfl)) ?_; (with_reducible refine (impl_PlaceOf.calls 0 0 t309 _ A1.out).mono ?_); rintro e w' ⟨rfl, ⟨nd, rfl⟩⟩; refine ⟨_, rfl, ?_⟩) | (go_at_call 34; (with_reducible refine (impl_PlaceOf.calls 0 1 t310 _ A3.out).mono ?_); rintro e w' ⟨rfl, ⟨nd, rfl⟩⟩))
    go_ret
    exact ⟨by first | rfl | (simp; done) | (simp [*]; done), by repeat (first | exact Drawn0.refl _ | apply Drawn0.step)⟩
  · rw [if_neg c2] at H
    have c2b0 : (t309 == 0) = false := beq_eq_false_iff_ne.mpr c2
    have c2b1 : (t309 != 0) = true := bne_iff_ne.mpr c2
    obtain rfl := Option.some.inj H
    go_enter Try.func10, Try.ntmps10
    go_wp2_with (first | ((with_reducible refine gate_callee (f := 34) rfl ?_); refine goesL_ (some 1) rfl rfl Try.func34 (by kernel_rfl) rfl #[.int .i64 0, .int .i64 0] rfl (by (try simp only [List.map_toArray, List.map_cons, List.map_nil]); first | done | rfl | (simp only [List.length_drop, List.length_take]; rfl)) ?_; (with_reducible refine (impl_PlaceOf.calls 0 0 t309 _ A1.out).mono ?_); rintro e w' ⟨rfl, ⟨nd, rfl⟩⟩; refine ⟨_, rfl, ?_⟩))
    go_ret
    exact ⟨by first | rfl | (simp; done) | (simp [*]; done), by repeat (first | exact Drawn0.refl _ | apply Drawn0.step)⟩

end Go.Proofs.Ytbdbklnlpeichaa.P

-- Written by wip/gen/lay.py, a program of this session, with the kit's print as its base. Lean checks every line.
namespace Go.Proofs.Ytbdbklnlpeichaa.P
open Go.RowKit Go.Proofs.YtbdbklnlpeichaaW.PrintWords Go.Proofs.YtbdbklnlpeichaaW.PrintLast Go.Proofs.YtbdbklnlpeichaaW.PrintMore
attribute [local go_sem] max2_int min2_int max_two min_two max_three min_three max_four min_four   -- for this text's walks alone
set_option linter.unusedVariables false
set_option linter.unusedSimpArgs false

/-! ### HAND what isTriangle comes to -/
theorem isTriangle_round (l : List Int) (hl : l.length ≤ 9223372036854775807) (d : Nat) : ∀ (k i : Nat), i + d = l.length → d < k → impl_isTriangle.l0 k l l (l.length : Int) (i : Int) = some ((l.drop i).all (fun x => x == 0 || x == 1) && l.length == 21) := by
  induction d with
  | zero =>
    intro k i h hk
    obtain ⟨k, rfl⟩ : ∃ m, k = m + 1 := ⟨k - 1, by omega⟩
    simp only [impl_isTriangle.l0]
    rw [if_neg (by omega), List.drop_of_length_le (by omega)]
    congr 1
    rw [List.all_nil, Bool.true_and, Bool.eq_iff_iff, beq_iff_eq, beq_iff_eq]
    omega
  | succ d ih =>
    intro k i h hk
    obtain ⟨k, rfl⟩ : ∃ m, k = m + 1 := ⟨k - 1, by omega⟩
    have hi : i < l.length := by omega
    have hr : rd l (i : Int) = l[i] := by simp [rd, List.getD_eq_getElem?_getD, List.getElem?_eq_getElem hi]
    have hd_ : l.drop i = l[i] :: l.drop (i + 1) := List.drop_eq_getElem_cons hi
    have hw : wrap64 ((i : Int) + 1) = ((i + 1 : Nat) : Int) := by unfold wrap64; omega
    simp only [impl_isTriangle.l0]
    rw [if_pos (by omega), if_pos (by omega), if_pos (by omega), hr, hw, ih k (i + 1) (by omega) (by omega), hd_, List.all_cons]
    by_cases h0 : l[i] = 0
    · rw [if_pos h0, show (l[i] == 0 || l[i] == 1) = true from by simp [h0], Bool.true_and]
    · by_cases h1 : l[i] = 1
      · rw [if_neg h0, if_pos h1, show (l[i] == 0 || l[i] == 1) = true from by simp [h1], Bool.true_and]
      · rw [if_neg h0, if_neg h1, show (l[i] == 0 || l[i] == 1) = false from by simp [h0, h1], Bool.false_and, Bool.false_and]
theorem isTriangle_here (l : List Int) (hl : l.length ≤ 9223372036854775807) : impl_isTriangle.f (l.length + 1) l = some (isTri l) := by
  unfold impl_isTriangle.f isTri
  have := isTriangle_round l hl l.length (l.length + 1) 0 (by omega) (by omega)
  simpa using this

end Go.Proofs.Ytbdbklnlpeichaa.P

-- Written by wip/gen/lay.py, a program of this session, with the kit's print as its base. Lean checks every line.
namespace Go.Proofs.Ytbdbklnlpeichaa.P
open Go.RowKit Go.Proofs.YtbdbklnlpeichaaW.PrintWords Go.Proofs.YtbdbklnlpeichaaW.PrintLast Go.Proofs.YtbdbklnlpeichaaW.PrintMore
attribute [local go_sem] max2_int min2_int max_two min_two max_three min_three max_four min_four   -- for this text's walks alone
set_option linter.unusedVariables false
set_option linter.unusedSimpArgs false

/-! ### HAND impl_triangleBy: function 35 -/
set_option maxHeartbeats 1000000 in
set_option maxRecDepth 100000 in
theorem impl_triangleBy.calls (g : Nat) (eg : ∀ args w, (callFunc g args).run Try.prog w = .ok (.enter g args) w) (cap : Array Value) (so : Int → Int → Bool) (w : World) (hs : Gives2 g cap so w) :
    Calls Try.prog 35 #[.func (.func g) #[] cap] w fun e w' => ∃ v0_ : Value, e = .returned (v0_) ∧ Kd.R (Kd.int .i64) 3 w' w.heap.size (fun _ => True) v0_ (triBy so) ∧ Below w.heap.size w w' := by
  have HS := Aside0.mk hs
  clear hs
  have HB := Aside0.mk (Below.refl w.heap.size w)
  obtain ⟨y0, hy0⟩ : ∃ y_ : List Int, y_ = (([] : List Int)) := ⟨_, rfl⟩
  have Ny0 := Aside0.mk hy0
  clear hy0
  go_enter Try.func35, Try.ntmps35
  go_wp2_with (first | ((with_reducible refine gate_dst (N := 7) rfl ?_); refine Kd.R_lit (Kd.int .i64) _ 3 ?hg (N := 7) ?hd (xs := ([] : List Int)) (inner := []) (ok := fun _ => True) (okp := fun _ => True) ?hr ?hp (fun _ hk => hk) trivial (Below.refl _ _) (Nat.le_refl _) (by simp) ?_; (case hd => rfl); (case hg => rfl); (case hr => first | (go_simp; done) | (go_simp; rfl)); (case hp => exact (Reps.none _ _)); intro v113 w2 ho3 hb hg_ hnew_; clear hg_ hnew_; (first | rw [← Ny0.out] at ho3 | (simp only [Int.reduceToNat] at ho3; rw [← Ny0.out] at ho3)); have n0_ := Aside0.mk (Kd.R_lower ho3 (below_size (by repeat (first | (with_reducible first | exact HB.out | apply below_alloc | apply pw_below_drewN | apply below_drew1) | exact HB.out)))); have n1_ := Aside0.mk (below_step (by repeat (first | (with_reducible first | exact HB.out | apply below_alloc | apply pw_below_drewN | apply below_drew1) | exact HB.out)) hb); clear HB; have HO := n0_; have HB := n1_; clear n0_ n1_; clear hb ho3))
  go_loopg [3, 8] 6 (fun kq v3 v8 w' => ∃ (n : Nat) (x3 : List Int), v8 = .int .i64 n ∧ Aside0 (n + kq = 6 ∧ x3 = triRows so n) ∧ Aside0 (Kd.R (Kd.int .i64) 3 w' w.heap.size (fun _ => True) v3 x3) ∧ Aside0 (Below w.heap.size w w'))
  case atStart => exact ⟨0, y0, rfl, ⟨rfl, Ny0.out⟩, ⟨by (with_reducible repeat (first | apply Kd.R_alloc | apply Kd.R_drewN | apply Kd.R_drew)); exact HO.out⟩, ⟨by repeat (first | (with_reducible first | exact HB.out | apply below_alloc | apply pw_below_drewN | apply below_drew1) | exact HB.out)⟩⟩
  case round =>
    clear HO Ny0
    obtain ⟨n, x3, rfl, HN, HO, HB⟩ := hrel
    by_cases hn : n < 6
    · obtain ⟨k1, rfl⟩ : ∃ m, gk = m + 1 := ⟨gk - 1, by have := HN.out.1; omega⟩
      have hn0 : decide ((n : Int) < 6) = true := decide_eq_true (by omega)
      go_wp2
      go_loopg [3, 13] (n + 1) (fun kq v3 v13 w' => ∃ (m : Nat) (y3 : List Int), v13 = .int .i64 m ∧ Aside0 (m + kq = n + 1 ∧ y3 = triRows so n ++ triRow so n m) ∧ Aside0 (Kd.R (Kd.int .i64) 3 w' w.heap.size (fun _ => True) v3 y3) ∧ Aside0 (Below w.heap.size w w'))
      case atStart => exact ⟨0, x3, rfl, ⟨by omega, by rw [HN.out.2, triRow_zero, List.append_nil]⟩, ⟨by (with_reducible repeat (first | apply Kd.R_alloc | apply Kd.R_drewN | apply Kd.R_drew)); exact HO.out⟩, ⟨by repeat (first | (with_reducible first | exact HB.out | apply below_alloc | apply pw_below_drewN | apply below_drew1) | exact HB.out)⟩⟩
      case round =>
        clear HO
        obtain ⟨m, y3, rfl, HM, HO, HB⟩ := hrel
        by_cases hm : m < n + 1
        · obtain ⟨k2, rfl⟩ : ∃ j, gk = j + 1 := ⟨gk - 1, by have := HM.out.1; omega⟩
          have hlen : y3.length < 100 := by
            have h1 := triRows_length_le so n (by omega)
            have h2 := triRow_length so n m
            rw [HM.out.2, List.length_append]; omega
          have LM := Aside0.mk hlen
          clear hlen
          have hm5 : (m : Int) ≤ n := by omega
          have hn5 : (n : Int) ≤ 5 := by omega
          obtain ⟨b, hb0⟩ : ∃ b, so n m = b := ⟨_, rfl⟩
          have cS := HS.out wr n m HB.out (by omega) (by omega) (by omega) (by omega)
          rw [hb0] at cS
          have cS' := Aside0.mk cS
          clear cS
          obtain ⟨y4, hy4⟩ : ∃ y_ : List Int, y_ = (y3 ++ [if b = true then 1 else 0]) := ⟨_, rfl⟩
          have Ny4 := Aside0.mk hy4
          have Nb := Aside0.mk hb0
          clear hy4 hb0
          have fin : y4 = triRows so n ++ triRow so n (m + 1) := by rw [Ny4.out, HM.out.2, triRow_succ, Nb.out, List.append_assoc]
          have Nf := Aside0.mk fin
          clear fin
          cases b with
          | true =>
            go_wp2_with (first | (go_at_fn g; refine cS'.out.mono ?_; rintro e w' ⟨rfl, ⟨nd, rfl⟩⟩) | ((with_reducible refine gate_builtin (b := .append) (xs := #[.tmp 20, .tmp 22]) rfl ?_); at_builtin; refine Kd.R_append (Kd.int .i64) (w0 := w) w.heap.size rfl (.tmp 20) (.tmp 22) 23 3 (.int .i64 0) 8 rfl Try.underlying23 info3 rfl (by decide) (by omega) _ y3 1 [.int .i64 1] (fun _ => True) (fun _ => False) rfl rfl ?aP (fun _ hk => hk.elim) ?aF ?aO ?aB ?aS ?aL ?_; (case aP => exact rfl); (case aB => exact (by repeat (first | (with_reducible first | exact HB.out | apply below_alloc | apply pw_below_drewN | apply below_drew1) | exact HB.out))); (case aF => exact (fun _ _ => trivial)); (case aO => exact (by (with_reducible repeat (first | apply Kd.R_alloc | apply Kd.R_drewN | apply Kd.R_drew)); exact HO.out)); (case aS => exact (below_size (by repeat (first | (with_reducible first | exact HB.out | apply below_alloc | apply pw_below_drewN | apply below_drew1) | exact HB.out)))); (case aL => have := LM.out; omega); intro v118 w9 ho hb hg hat; rw [show y3 ++ [1] = y4 from Ny4.out.symm] at ho; have n0_ := Aside0.mk (hb); have n1_ := Aside0.mk (ho); clear HB; clear HO; have HB := n0_; have HO := n1_; clear n0_ n1_; clear ho hb hg hat))
            go_roundg k2
            case measure => omega
            case rel => exact ⟨m + 1, y4, by go_num, ⟨by have := HM.out.1; omega, Nf.out⟩, ⟨by (with_reducible repeat (first | apply Kd.R_alloc | apply Kd.R_drewN | apply Kd.R_drew)); exact HO.out⟩, ⟨by repeat (first | (with_reducible first | exact HB.out | apply below_alloc | apply pw_below_drewN | apply below_drew1) | exact HB.out)⟩⟩
          | false =>
            go_wp2_with (first | (go_at_fn g; refine cS'.out.mono ?_; rintro e w' ⟨rfl, ⟨nd, rfl⟩⟩) | ((with_reducible refine gate_builtin (b := .append) (xs := #[.tmp 20, .tmp 22]) rfl ?_); at_builtin; refine Kd.R_append (Kd.int .i64) (w0 := w) w.heap.size rfl (.tmp 20) (.tmp 22) 23 3 (.int .i64 0) 8 rfl Try.underlying23 info3 rfl (by decide) (by omega) _ y3 0 [.int .i64 0] (fun _ => True) (fun _ => False) rfl rfl ?aP (fun _ hk => hk.elim) ?aF ?aO ?aB ?aS ?aL ?_; (case aP => exact rfl); (case aB => exact (by repeat (first | (with_reducible first | exact HB.out | apply below_alloc | apply pw_below_drewN | apply below_drew1) | exact HB.out))); (case aF => exact (fun _ _ => trivial)); (case aO => exact (by (with_reducible repeat (first | apply Kd.R_alloc | apply Kd.R_drewN | apply Kd.R_drew)); exact HO.out)); (case aS => exact (below_size (by repeat (first | (with_reducible first | exact HB.out | apply below_alloc | apply pw_below_drewN | apply below_drew1) | exact HB.out)))); (case aL => have := LM.out; omega); intro v118 w9 ho hb hg hat; rw [show y3 ++ [0] = y4 from Ny4.out.symm] at ho; have n0_ := Aside0.mk (hb); have n1_ := Aside0.mk (ho); clear HB; clear HO; have HB := n0_; have HO := n1_; clear n0_ n1_; clear ho hb hg hat))
            go_roundg k2
            case measure => omega
            case rel => exact ⟨m + 1, y4, by go_num, ⟨by have := HM.out.1; omega, Nf.out⟩, ⟨by (with_reducible repeat (first | apply Kd.R_alloc | apply Kd.R_drewN | apply Kd.R_drew)); exact HO.out⟩, ⟨by repeat (first | (with_reducible first | exact HB.out | apply below_alloc | apply pw_below_drewN | apply below_drew1) | exact HB.out)⟩⟩
        · go_wp2
          go_roundg k1
          case measure => omega
          case rel =>
            have hmn : m = n + 1 := by have := HM.out.1; omega
            exact ⟨n + 1, y3, by go_num, ⟨by have := HN.out.1; omega, by rw [HM.out.2, hmn, triRows_succ]⟩, ⟨by (with_reducible repeat (first | apply Kd.R_alloc | apply Kd.R_drewN | apply Kd.R_drew)); exact HO.out⟩, ⟨by repeat (first | (with_reducible first | exact HB.out | apply below_alloc | apply pw_below_drewN | apply below_drew1) | exact HB.out)⟩⟩
    · go_wp2
      go_ret
      have hn6 : n = 6 := by have := HN.out.1; omega
      exact ⟨_, rfl, by rw [show triBy so = x3 from by rw [HN.out.2, hn6]; rfl]; (with_reducible repeat (first | apply Kd.R_alloc | apply Kd.R_drewN | apply Kd.R_drew)); exact HO.out, by repeat (first | (with_reducible first | exact HB.out | apply below_alloc | apply pw_below_drewN | apply below_drew1) | exact HB.out)⟩

end Go.Proofs.Ytbdbklnlpeichaa.P

-- Written by wip/gen/lay.py, a program of this session, with the kit's print as its base. Lean checks every line.
namespace Go.Proofs.Ytbdbklnlpeichaa.P
open Go.RowKit Go.Proofs.YtbdbklnlpeichaaW.PrintWords Go.Proofs.YtbdbklnlpeichaaW.PrintLast Go.Proofs.YtbdbklnlpeichaaW.PrintMore
attribute [local go_sem] max2_int min2_int max_two min_two max_three min_three max_four min_four   -- for this text's walks alone
set_option linter.unusedVariables false
set_option linter.unusedSimpArgs false

/-! ### HAND impl_BothOf: function 11 -/
def impl_BothOf.f (l0 : List Int) (l1 : List Int) : Option (List Int) := if (isTri l0 && isTri l1) = true then some (triBy fun a s => hd l0 a s && hd l1 a s) else some []
set_option maxHeartbeats 1000000 in
set_option maxRecDepth 100000 in
theorem impl_BothOf.lit (A0 : Option Addr) (c0 : Nat) (l0 : List Int) (b0 : Nat) (A1 : Option Addr) (c1 : Nat) (l1 : List Int) (b1 : Nat) (W : World) (hl0 : 21 ≤ l0.length) (hl1 : 21 ≤ l1.length) (hb0 : W.cell? ⟨b0, 0, none⟩ = some (.slice A0 l0.length c0)) (hb1 : W.cell? ⟨b1, 0, none⟩ = some (.slice A1 l1.length c1)) (hr0 : Kd.C (Kd.int .i64) W A0 l0.length l0) (hc0 : l0.length ≤ c0) (hr1 : Kd.C (Kd.int .i64) W A1 l1.length l1) (hc1 : l1.length ≤ c1)
    (a s : Int) (h1 : 0 ≤ a) (h2 : a ≤ 5) (h3 : 0 ≤ s) (h4 : s ≤ a) :
    Calls Try.prog 36 #[.int .i64 a, .int .i64 s, .pointer (some ⟨b0, 0, none⟩), .pointer (some ⟨b1, 0, none⟩)] W fun e w' => e = .returned (.bool (hd l0 a s && hd l1 a s)) ∧ Drawn0 W w' := by
  have HR0 := Aside0.mk hr0
  have HC0 := Aside0.mk hc0
  have HR1 := Aside0.mk hr1
  have HC1 := Aside0.mk hc1
  have HH0 := holds_here l0 a s hl0 h1 h2 h3 h4
  have HH1 := holds_here l1 a s hl1 h1 h2 h3 h4
  obtain ⟨x0, e0⟩ : ∃ b, hd l0 a s = b := ⟨_, rfl⟩
  obtain ⟨x1, e1⟩ : ∃ b, hd l1 a s = b := ⟨_, rfl⟩
  rw [e0] at HH0 ⊢
  rw [e1] at HH1 ⊢
  have H0 := Aside0.mk HH0
  have H1 := Aside0.mk HH1
  clear hr0 hc0 hr1 hc1 hl0 hl1 h1 h2 h3 h4 HH0 HH1 e0 e1
  cases x0 <;> cases x1 <;>
  · go_enter Try.func36, Try.ntmps36
    go_wp2_with (first | (go_at_call 37; (with_reducible refine (impl_holds.calls A0 c0 l0 a s _ _ ?s1 HC0.out H0.out).mono ?_); (case s1 => exact HR0.out); rintro e w' ⟨rfl, ⟨nd, rfl⟩⟩) | (go_at_call 37; (with_reducible refine (impl_holds.calls A1 c1 l1 a s _ _ ?s1 HC1.out H1.out).mono ?_); (case s1 => exact HR1.out); rintro e w' ⟨rfl, ⟨nd, rfl⟩⟩))
    go_ret
    exact ⟨rfl, by repeat (first | exact Drawn0.refl _ | apply Drawn0.step)⟩
set_option maxHeartbeats 1000000 in
set_option maxRecDepth 100000 in
theorem impl_BothOf.calls (A0 : Option Addr) (c0 : Nat) (l0 : List Int) (A1 : Option Addr) (c1 : Nat) (l1 : List Int) (r : List Int) (w : World) (hr0 : Kd.C (Kd.int .i64) w A0 l0.length l0) (hc0 : l0.length ≤ c0) (hr1 : Kd.C (Kd.int .i64) w A1 l1.length l1) (hc1 : l1.length ≤ c1) (h : impl_BothOf.f l0 l1 = some r) :
    Calls Try.prog 11 #[.slice A0 l0.length c0, .slice A1 l1.length c1] w fun e w' => ∃ v0_ : Value, e = .returned (v0_) ∧ Kd.R (Kd.int .i64) 3 w' w.heap.size (fun _ => True) v0_ r ∧ Below w.heap.size w w' := by
  have HT0 := Aside0.mk (isTriangle_here l0 hr0.2.1)
  have HT1 := Aside0.mk (isTriangle_here l1 hr1.2.1)
  have HB := Aside0.mk (below_alloc (below_alloc (Below.refl w.heap.size w) (.cells #[.slice A0 l0.length c0] 23)) (.cells #[.slice A1 l1.length c1] 23))
  have HR0 := Aside0.mk (Kd.C_alloc (Kd.C_alloc hr0 (.cells #[.slice A0 l0.length c0] 23)) (.cells #[.slice A1 l1.length c1] 23))
  have HR1 := Aside0.mk (Kd.C_alloc (Kd.C_alloc hr1 (.cells #[.slice A0 l0.length c0] 23)) (.cells #[.slice A1 l1.length c1] 23))
  have HC0 := Aside0.mk hc0
  have HC1 := Aside0.mk hc1
  by_cases ht : (isTri l0 && isTri l1) = true
  · obtain rfl : (triBy fun a s => hd l0 a s && hd l1 a s) = r := by unfold impl_BothOf.f at h; rw [if_pos ht] at h; exact Option.some.inj h
    obtain ⟨t0, t1⟩ := Bool.and_eq_true_iff.mp ht
    have hl0 : 21 ≤ l0.length := Nat.le_of_eq (isTri_length t0).symm
    have hl1 : 21 ≤ l1.length := Nat.le_of_eq (isTri_length t1).symm
    have HS := Aside0.mk (fun (nd : Nat) => show Gives2 36 #[.pointer (some ⟨w.heap.size, 0, none⟩), .pointer (some ⟨w.heap.size + 1, 0, none⟩)] (fun a s => hd l0 a s && hd l1 a s) (((w.alloc (.cells #[.slice A0 l0.length c0] 23)).alloc (.cells #[.slice A1 l1.length c1] 23)).drewN nd) from fun W a s hW h1 h2 h3 h4 =>
      impl_BothOf.lit A0 c0 l0 w.heap.size A1 c1 l1 (w.heap.size + 1) W hl0 hl1 ((hW.cell (p := ⟨w.heap.size, 0, none⟩) (by simp; omega)).trans (by simp)) ((hW.cell (p := ⟨w.heap.size + 1, 0, none⟩) (by simp)).trans (by simp)) (Kd.C_below (Kd.C_drewN HR0.out nd) hW) hc0 (Kd.C_below (Kd.C_drewN HR1.out nd) hW) hc1 a s h1 h2 h3 h4)
    rw [t0] at HT0
    rw [t1] at HT1
    clear h hl0 hl1 t0 t1 ht hr0 hr1 hc0 hc1
    go_enter Try.func11, Try.ntmps11
    go_wp2_with (first | (go_at_call 31; (with_reducible refine (impl_isTriangle.calls _ A0 c0 l0 _ _ ?s1 HC0.out HT0.out).mono ?_); (case s1 => repeat (first | exact HR0.out | (with_reducible refine Kd.C_alloc ?_ _) | (with_reducible refine Kd.C_drewN ?_ _) | (with_reducible refine Kd.C_drew ?_))); rintro e w' ⟨rfl, ⟨nd, rfl⟩⟩) | (go_at_call 31; (with_reducible refine (impl_isTriangle.calls _ A1 c1 l1 _ _ ?s1 HC1.out HT1.out).mono ?_); (case s1 => repeat (first | exact HR1.out | (with_reducible refine Kd.C_alloc ?_ _) | (with_reducible refine Kd.C_drewN ?_ _) | (with_reducible refine Kd.C_drew ?_))); rintro e w' ⟨rfl, ⟨nd, rfl⟩⟩) | (go_at_call 35; refine (impl_triangleBy.calls _ (enters_of Try.func36 (by kernel_rfl) rfl) _ _ _ (HS.out _)).mono ?_; rintro e w' ⟨v, rfl, ho, hb⟩; have n0_ := Aside0.mk (Kd.R_lower ho (below_size (pw_below_drewN HB.out _))); have n1_ := Aside0.mk (below_step (pw_below_drewN HB.out _) hb); clear HB ho hb; have HB := n1_; have HO := n0_; clear n0_ n1_))
    go_ret
    exact ⟨_, rfl, HO.out, HB.out⟩
  · obtain rfl : [] = r := by unfold impl_BothOf.f at h; rw [if_neg ht] at h; exact Option.some.inj h
    obtain ⟨t0, e0⟩ : ∃ b, isTri l0 = b := ⟨_, rfl⟩
    obtain ⟨t1, e1⟩ : ∃ b, isTri l1 = b := ⟨_, rfl⟩
    rw [e0] at HT0 ht
    rw [e1] at HT1 ht
    clear h hr0 hr1 hc0 hc1 e0 e1
    cases t0 <;> cases t1 <;> first | exact absurd rfl ht | skip
    all_goals
      clear ht
      go_enter Try.func11, Try.ntmps11
      go_wp2_with (first | (go_at_call 31; (with_reducible refine (impl_isTriangle.calls _ A0 c0 l0 _ _ ?s1 HC0.out HT0.out).mono ?_); (case s1 => repeat (first | exact HR0.out | (with_reducible refine Kd.C_alloc ?_ _) | (with_reducible refine Kd.C_drewN ?_ _) | (with_reducible refine Kd.C_drew ?_))); rintro e w' ⟨rfl, ⟨nd, rfl⟩⟩) | (go_at_call 31; (with_reducible refine (impl_isTriangle.calls _ A1 c1 l1 _ _ ?s1 HC1.out HT1.out).mono ?_); (case s1 => repeat (first | exact HR1.out | (with_reducible refine Kd.C_alloc ?_ _) | (with_reducible refine Kd.C_drewN ?_ _) | (with_reducible refine Kd.C_drew ?_))); rintro e w' ⟨rfl, ⟨nd, rfl⟩⟩))
      go_ret
      exact ⟨_, rfl, Kd.R_nil _ _ _ _ _, by repeat (first | (with_reducible first | exact HB.out | apply below_alloc | apply pw_below_drewN | apply below_drew1) | exact HB.out)⟩

end Go.Proofs.Ytbdbklnlpeichaa.P

-- Written by wip/gen/lay.py, a program of this session, with the kit's print as its base. Lean checks every line.
namespace Go.Proofs.Ytbdbklnlpeichaa.P
open Go.RowKit Go.Proofs.YtbdbklnlpeichaaW.PrintWords Go.Proofs.YtbdbklnlpeichaaW.PrintLast Go.Proofs.YtbdbklnlpeichaaW.PrintMore
attribute [local go_sem] max2_int min2_int max_two min_two max_three min_three max_four min_four   -- for this text's walks alone
set_option linter.unusedVariables false
set_option linter.unusedSimpArgs false

/-! ### HAND impl_EitherOf: function 12 -/
def impl_EitherOf.f (l0 : List Int) (l1 : List Int) : Option (List Int) := if (isTri l0 && isTri l1) = true then some (triBy fun a s => hd l0 a s || hd l1 a s) else some []
set_option maxHeartbeats 1000000 in
set_option maxRecDepth 100000 in
theorem impl_EitherOf.lit (A0 : Option Addr) (c0 : Nat) (l0 : List Int) (b0 : Nat) (A1 : Option Addr) (c1 : Nat) (l1 : List Int) (b1 : Nat) (W : World) (hl0 : 21 ≤ l0.length) (hl1 : 21 ≤ l1.length) (hb0 : W.cell? ⟨b0, 0, none⟩ = some (.slice A0 l0.length c0)) (hb1 : W.cell? ⟨b1, 0, none⟩ = some (.slice A1 l1.length c1)) (hr0 : Kd.C (Kd.int .i64) W A0 l0.length l0) (hc0 : l0.length ≤ c0) (hr1 : Kd.C (Kd.int .i64) W A1 l1.length l1) (hc1 : l1.length ≤ c1)
    (a s : Int) (h1 : 0 ≤ a) (h2 : a ≤ 5) (h3 : 0 ≤ s) (h4 : s ≤ a) :
    Calls Try.prog 38 #[.int .i64 a, .int .i64 s, .pointer (some ⟨b0, 0, none⟩), .pointer (some ⟨b1, 0, none⟩)] W fun e w' => e = .returned (.bool (hd l0 a s || hd l1 a s)) ∧ Drawn0 W w' := by
  have HR0 := Aside0.mk hr0
  have HC0 := Aside0.mk hc0
  have HR1 := Aside0.mk hr1
  have HC1 := Aside0.mk hc1
  have HH0 := holds_here l0 a s hl0 h1 h2 h3 h4
  have HH1 := holds_here l1 a s hl1 h1 h2 h3 h4
  obtain ⟨x0, e0⟩ : ∃ b, hd l0 a s = b := ⟨_, rfl⟩
  obtain ⟨x1, e1⟩ : ∃ b, hd l1 a s = b := ⟨_, rfl⟩
  rw [e0] at HH0 ⊢
  rw [e1] at HH1 ⊢
  have H0 := Aside0.mk HH0
  have H1 := Aside0.mk HH1
  clear hr0 hc0 hr1 hc1 hl0 hl1 h1 h2 h3 h4 HH0 HH1 e0 e1
  cases x0 <;> cases x1 <;>
  · go_enter Try.func38, Try.ntmps38
    go_wp2_with (first | (go_at_call 37; (with_reducible refine (impl_holds.calls A0 c0 l0 a s _ _ ?s1 HC0.out H0.out).mono ?_); (case s1 => exact HR0.out); rintro e w' ⟨rfl, ⟨nd, rfl⟩⟩) | (go_at_call 37; (with_reducible refine (impl_holds.calls A1 c1 l1 a s _ _ ?s1 HC1.out H1.out).mono ?_); (case s1 => exact HR1.out); rintro e w' ⟨rfl, ⟨nd, rfl⟩⟩))
    go_ret
    exact ⟨rfl, by repeat (first | exact Drawn0.refl _ | apply Drawn0.step)⟩
set_option maxHeartbeats 1000000 in
set_option maxRecDepth 100000 in
theorem impl_EitherOf.calls (A0 : Option Addr) (c0 : Nat) (l0 : List Int) (A1 : Option Addr) (c1 : Nat) (l1 : List Int) (r : List Int) (w : World) (hr0 : Kd.C (Kd.int .i64) w A0 l0.length l0) (hc0 : l0.length ≤ c0) (hr1 : Kd.C (Kd.int .i64) w A1 l1.length l1) (hc1 : l1.length ≤ c1) (h : impl_EitherOf.f l0 l1 = some r) :
    Calls Try.prog 12 #[.slice A0 l0.length c0, .slice A1 l1.length c1] w fun e w' => ∃ v0_ : Value, e = .returned (v0_) ∧ Kd.R (Kd.int .i64) 3 w' w.heap.size (fun _ => True) v0_ r ∧ Below w.heap.size w w' := by
  have HT0 := Aside0.mk (isTriangle_here l0 hr0.2.1)
  have HT1 := Aside0.mk (isTriangle_here l1 hr1.2.1)
  have HB := Aside0.mk (below_alloc (below_alloc (Below.refl w.heap.size w) (.cells #[.slice A0 l0.length c0] 23)) (.cells #[.slice A1 l1.length c1] 23))
  have HR0 := Aside0.mk (Kd.C_alloc (Kd.C_alloc hr0 (.cells #[.slice A0 l0.length c0] 23)) (.cells #[.slice A1 l1.length c1] 23))
  have HR1 := Aside0.mk (Kd.C_alloc (Kd.C_alloc hr1 (.cells #[.slice A0 l0.length c0] 23)) (.cells #[.slice A1 l1.length c1] 23))
  have HC0 := Aside0.mk hc0
  have HC1 := Aside0.mk hc1
  by_cases ht : (isTri l0 && isTri l1) = true
  · obtain rfl : (triBy fun a s => hd l0 a s || hd l1 a s) = r := by unfold impl_EitherOf.f at h; rw [if_pos ht] at h; exact Option.some.inj h
    obtain ⟨t0, t1⟩ := Bool.and_eq_true_iff.mp ht
    have hl0 : 21 ≤ l0.length := Nat.le_of_eq (isTri_length t0).symm
    have hl1 : 21 ≤ l1.length := Nat.le_of_eq (isTri_length t1).symm
    have HS := Aside0.mk (fun (nd : Nat) => show Gives2 38 #[.pointer (some ⟨w.heap.size, 0, none⟩), .pointer (some ⟨w.heap.size + 1, 0, none⟩)] (fun a s => hd l0 a s || hd l1 a s) (((w.alloc (.cells #[.slice A0 l0.length c0] 23)).alloc (.cells #[.slice A1 l1.length c1] 23)).drewN nd) from fun W a s hW h1 h2 h3 h4 =>
      impl_EitherOf.lit A0 c0 l0 w.heap.size A1 c1 l1 (w.heap.size + 1) W hl0 hl1 ((hW.cell (p := ⟨w.heap.size, 0, none⟩) (by simp; omega)).trans (by simp)) ((hW.cell (p := ⟨w.heap.size + 1, 0, none⟩) (by simp)).trans (by simp)) (Kd.C_below (Kd.C_drewN HR0.out nd) hW) hc0 (Kd.C_below (Kd.C_drewN HR1.out nd) hW) hc1 a s h1 h2 h3 h4)
    rw [t0] at HT0
    rw [t1] at HT1
    clear h hl0 hl1 t0 t1 ht hr0 hr1 hc0 hc1
    go_enter Try.func12, Try.ntmps12
    go_wp2_with (first | (go_at_call 31; (with_reducible refine (impl_isTriangle.calls _ A0 c0 l0 _ _ ?s1 HC0.out HT0.out).mono ?_); (case s1 => repeat (first | exact HR0.out | (with_reducible refine Kd.C_alloc ?_ _) | (with_reducible refine Kd.C_drewN ?_ _) | (with_reducible refine Kd.C_drew ?_))); rintro e w' ⟨rfl, ⟨nd, rfl⟩⟩) | (go_at_call 31; (with_reducible refine (impl_isTriangle.calls _ A1 c1 l1 _ _ ?s1 HC1.out HT1.out).mono ?_); (case s1 => repeat (first | exact HR1.out | (with_reducible refine Kd.C_alloc ?_ _) | (with_reducible refine Kd.C_drewN ?_ _) | (with_reducible refine Kd.C_drew ?_))); rintro e w' ⟨rfl, ⟨nd, rfl⟩⟩) | (go_at_call 35; refine (impl_triangleBy.calls _ (enters_of Try.func38 (by kernel_rfl) rfl) _ _ _ (HS.out _)).mono ?_; rintro e w' ⟨v, rfl, ho, hb⟩; have n0_ := Aside0.mk (Kd.R_lower ho (below_size (pw_below_drewN HB.out _))); have n1_ := Aside0.mk (below_step (pw_below_drewN HB.out _) hb); clear HB ho hb; have HB := n1_; have HO := n0_; clear n0_ n1_))
    go_ret
    exact ⟨_, rfl, HO.out, HB.out⟩
  · obtain rfl : [] = r := by unfold impl_EitherOf.f at h; rw [if_neg ht] at h; exact Option.some.inj h
    obtain ⟨t0, e0⟩ : ∃ b, isTri l0 = b := ⟨_, rfl⟩
    obtain ⟨t1, e1⟩ : ∃ b, isTri l1 = b := ⟨_, rfl⟩
    rw [e0] at HT0 ht
    rw [e1] at HT1 ht
    clear h hr0 hr1 hc0 hc1 e0 e1
    cases t0 <;> cases t1 <;> first | exact absurd rfl ht | skip
    all_goals
      clear ht
      go_enter Try.func12, Try.ntmps12
      go_wp2_with (first | (go_at_call 31; (with_reducible refine (impl_isTriangle.calls _ A0 c0 l0 _ _ ?s1 HC0.out HT0.out).mono ?_); (case s1 => repeat (first | exact HR0.out | (with_reducible refine Kd.C_alloc ?_ _) | (with_reducible refine Kd.C_drewN ?_ _) | (with_reducible refine Kd.C_drew ?_))); rintro e w' ⟨rfl, ⟨nd, rfl⟩⟩) | (go_at_call 31; (with_reducible refine (impl_isTriangle.calls _ A1 c1 l1 _ _ ?s1 HC1.out HT1.out).mono ?_); (case s1 => repeat (first | exact HR1.out | (with_reducible refine Kd.C_alloc ?_ _) | (with_reducible refine Kd.C_drewN ?_ _) | (with_reducible refine Kd.C_drew ?_))); rintro e w' ⟨rfl, ⟨nd, rfl⟩⟩))
      go_ret
      exact ⟨_, rfl, Kd.R_nil _ _ _ _ _, by repeat (first | (with_reducible first | exact HB.out | apply below_alloc | apply pw_below_drewN | apply below_drew1) | exact HB.out)⟩

end Go.Proofs.Ytbdbklnlpeichaa.P
