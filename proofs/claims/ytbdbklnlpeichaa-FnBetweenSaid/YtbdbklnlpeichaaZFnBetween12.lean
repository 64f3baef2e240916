-- Texts of this claim, laid one behind the other by wip/gen/merge.py.
import Derived.Test.YtbdbklnlpeichaaZFnBetween0
import Derived.Test.YtbdbklnlpeichaaZFnBetween10
import Derived.Test.YtbdbklnlpeichaaZFnBetween11
import Derived.Test.YtbdbklnlpeichaaZFnBetween9
import Derived.Test.YtbdbklnlpeichaaZFnBetween8
import Derived.Test.YtbdbklnlpeichaaZFnBetween4
-- Written by wip/gen/lay.py, a program of this session, with the kit's print as its base. Lean checks every line.
namespace Go.Proofs.Ytbdbklnlpeichaa.P
open Go.RowKit Go.Proofs.YtbdbklnlpeichaaW.PrintWords Go.Proofs.YtbdbklnlpeichaaW.PrintLast Go.Proofs.YtbdbklnlpeichaaW.PrintMore
attribute [local go_sem] max2_int min2_int max_two min_two max_three min_three max_four min_four   -- for this text's walks alone
set_option linter.unusedVariables false
set_option linter.unusedSimpArgs false

/-! ### HAND impl_fewerAre: function 47 -/
def impl_fewerAre.so (l0 : List Int) (a s : Int) : Bool := (decide (s = 0) || hd l0 (a - 1) (s - 1)) && (decide (s = a) || hd l0 (a - 1) s)
def impl_fewerAre.f (l0 : List Int) : Option Bool := if 21 ≤ l0.length then some (staysP l0 (impl_fewerAre.so l0)) else none
set_option maxHeartbeats 1000000 in
set_option maxRecDepth 100000 in
theorem impl_fewerAre.lit (A0 : Option Addr) (c0 : Nat) (l0 : List Int) (b : Nat) (W : World) (hl : 21 ≤ l0.length) (hc : W.cell? ⟨b, 0, none⟩ = some (.slice A0 l0.length c0)) (hr0 : Kd.C (Kd.int .i64) W A0 l0.length l0) (hc0 : l0.length ≤ c0)
    (a s : Int) (h1 : 0 ≤ a) (h2 : a ≤ 5) (h3 : 0 ≤ s) (h4 : s ≤ a) :
    Calls Try.prog 65 #[.int .i64 a, .int .i64 s, .pointer (some ⟨b, 0, none⟩)] W fun e w' => e = .returned (.bool (impl_fewerAre.so l0 a s)) ∧ Drawn0 W w' := by
  have HR0 := Aside0.mk hr0
  have HC0 := Aside0.mk hc0
  clear hr0 hc0
  by_cases e0 : s = 0 <;> by_cases e1 : s = a
  · have f0 : (s == 0) = true := beq_iff_eq.2 e0
    have f1 : (s == a) = true := beq_iff_eq.2 e1
    have e2 : impl_fewerAre.so l0 a s = (true) := by unfold impl_fewerAre.so; rw [decide_eq_true e0, decide_eq_true e1]; simp only [Bool.true_or, Bool.false_or, Bool.true_and, Bool.and_true]
    rw [e2]
    clear e0 e1 e2
    go_enter Try.func65, Try.ntmps65
    go_wp2
    go_ret
    exact ⟨rfl, by repeat (first | exact Drawn0.refl _ | apply Drawn0.step)⟩
  · have f0 : (s == 0) = true := beq_iff_eq.2 e0
    have f1 : (s == a) = false := beq_eq_false_iff_ne.2 e1
    have hk := holds_here l0 (a - 1) s hl (by omega) (by omega) (by omega) (by omega)
    have e2 : impl_fewerAre.so l0 a s = (hd l0 (a - 1) s) := by unfold impl_fewerAre.so; rw [decide_eq_true e0, decide_eq_false e1]; simp only [Bool.true_or, Bool.false_or, Bool.true_and, Bool.and_true]
    rw [e2]
    obtain ⟨x1, ey⟩ : ∃ b, hd l0 (a - 1) s = b := ⟨_, rfl⟩
    rw [ey] at hk ⊢
    have H2 := Aside0.mk hk
    clear hk ey
    clear e0 e1 e2
    cases x1 <;>
    · go_enter Try.func65, Try.ntmps65
      go_wp2_with (first | (go_at_call 37; (with_reducible refine (impl_holds.calls A0 c0 l0 (a - 1) s _ _ ?s1 HC0.out H2.out).mono ?_); (case s1 => repeat (first | exact HR0.out | (with_reducible refine Kd.C_alloc ?_ _) | (with_reducible refine Kd.C_drewN ?_ _) | (with_reducible refine Kd.C_drew ?_))); rintro e w' ⟨rfl, ⟨nd, rfl⟩⟩))
      go_ret
      exact ⟨rfl, by repeat (first | exact Drawn0.refl _ | apply Drawn0.step)⟩
  · have f0 : (s == 0) = false := beq_eq_false_iff_ne.2 e0
    have f1 : (s == a) = true := beq_iff_eq.2 e1
    have hh := holds_here l0 (a - 1) (s - 1) hl (by omega) (by omega) (by omega) (by omega)
    have e2 : impl_fewerAre.so l0 a s = (hd l0 (a - 1) (s - 1)) := by unfold impl_fewerAre.so; rw [decide_eq_false e0, decide_eq_true e1]; simp only [Bool.true_or, Bool.false_or, Bool.true_and, Bool.and_true]
    rw [e2]
    obtain ⟨x0, ex⟩ : ∃ b, hd l0 (a - 1) (s - 1) = b := ⟨_, rfl⟩
    rw [ex] at hh ⊢
    have H1 := Aside0.mk hh
    clear hh ex
    clear e0 e1 e2
    cases x0 <;>
    · go_enter Try.func65, Try.ntmps65
      go_wp2_with (first | (go_at_call 37; (with_reducible refine (impl_holds.calls A0 c0 l0 (a - 1) (s - 1) _ _ ?s1 HC0.out H1.out).mono ?_); (case s1 => repeat (first | exact HR0.out | (with_reducible refine Kd.C_alloc ?_ _) | (with_reducible refine Kd.C_drewN ?_ _) | (with_reducible refine Kd.C_drew ?_))); rintro e w' ⟨rfl, ⟨nd, rfl⟩⟩))
      go_ret
      exact ⟨rfl, by repeat (first | exact Drawn0.refl _ | apply Drawn0.step)⟩
  · have f0 : (s == 0) = false := beq_eq_false_iff_ne.2 e0
    have f1 : (s == a) = false := beq_eq_false_iff_ne.2 e1
    have hh := holds_here l0 (a - 1) (s - 1) hl (by omega) (by omega) (by omega) (by omega)
    have hk := holds_here l0 (a - 1) s hl (by omega) (by omega) (by omega) (by omega)
    have e2 : impl_fewerAre.so l0 a s = (hd l0 (a - 1) (s - 1) && hd l0 (a - 1) s) := by unfold impl_fewerAre.so; rw [decide_eq_false e0, decide_eq_false e1]; simp only [Bool.true_or, Bool.false_or, Bool.true_and, Bool.and_true]
    rw [e2]
    obtain ⟨x0, ex⟩ : ∃ b, hd l0 (a - 1) (s - 1) = b := ⟨_, rfl⟩
    rw [ex] at hh ⊢
    have H1 := Aside0.mk hh
    clear hh ex
    obtain ⟨x1, ey⟩ : ∃ b, hd l0 (a - 1) s = b := ⟨_, rfl⟩
    rw [ey] at hk ⊢
    have H2 := Aside0.mk hk
    clear hk ey
    clear e0 e1 e2
    cases x0 <;> cases x1 <;>
    · go_enter Try.func65, Try.ntmps65
      go_wp2_with (first | (go_at_call 37; (with_reducible refine (impl_holds.calls A0 c0 l0 (a - 1) (s - 1) _ _ ?s1 HC0.out H1.out).mono ?_); (case s1 => repeat (first | exact HR0.out | (with_reducible refine Kd.C_alloc ?_ _) | (with_reducible refine Kd.C_drewN ?_ _) | (with_reducible refine Kd.C_drew ?_))); rintro e w' ⟨rfl, ⟨nd, rfl⟩⟩) | (go_at_call 37; (with_reducible refine (impl_holds.calls A0 c0 l0 (a - 1) s _ _ ?s1 HC0.out H2.out).mono ?_); (case s1 => repeat (first | exact HR0.out | (with_reducible refine Kd.C_alloc ?_ _) | (with_reducible refine Kd.C_drewN ?_ _) | (with_reducible refine Kd.C_drew ?_))); rintro e w' ⟨rfl, ⟨nd, rfl⟩⟩))
      go_ret
      exact ⟨rfl, by repeat (first | exact Drawn0.refl _ | apply Drawn0.step)⟩
set_option maxHeartbeats 1000000 in
set_option maxRecDepth 100000 in
theorem impl_fewerAre.calls (A0 : Option Addr) (c0 : Nat) (l0 : List Int) (r : Bool) (w : World) (hr0 : Kd.C (Kd.int .i64) w A0 l0.length l0) (hc0 : l0.length ≤ c0) (h : impl_fewerAre.f l0 = some r) :
    Calls Try.prog 47 #[.slice A0 l0.length c0] w fun e w' => e = .returned (.bool r) ∧ Below w.heap.size w w' := by
  have hl : 21 ≤ l0.length := by
    unfold impl_fewerAre.f at h; split at h
    · assumption
    · cases h
  obtain rfl : staysP l0 (impl_fewerAre.so l0) = r := by unfold impl_fewerAre.f at h; rw [if_pos hl] at h; exact Option.some.inj h
  have HB := Aside0.mk (below_alloc (Below.refl w.heap.size w) (.cells #[.slice A0 l0.length c0] 23))
  have HR0 := Aside0.mk (Kd.C_alloc hr0 (.cells #[.slice A0 l0.length c0] 23))
  have HC0 := Aside0.mk hc0
  have HL := Aside0.mk hl
  have HS := Aside0.mk (show Gives2 65 #[.pointer (some ⟨w.heap.size, 0, none⟩)] (impl_fewerAre.so l0) (w.alloc (.cells #[.slice A0 l0.length c0] 23)) from fun W a s hW h1 h2 h3 h4 =>
    impl_fewerAre.lit A0 c0 l0 w.heap.size W hl ((hW.cell (p := ⟨w.heap.size, 0, none⟩) (by simp)).trans (by simp)) (Kd.C_below HR0.out hW) hc0 a s h1 h2 h3 h4)
  clear h hl hr0 hc0
  go_enter Try.func47, Try.ntmps47
  go_wp2_with (go_at_call 58; refine (impl_stays.calls _ (enters_of Try.func65 (by kernel_rfl) rfl) _ _ _ _ l0 _ HL.out HR0.out HC0.out HS.out).mono ?_; rintro e w' ⟨rfl, ⟨nd, rfl⟩⟩)
  go_ret
  exact ⟨rfl, by repeat (first | (with_reducible first | exact HB.out | apply below_alloc | apply pw_below_drewN | apply below_drew1) | exact HB.out)⟩

end Go.Proofs.Ytbdbklnlpeichaa.P

-- Written by wip/gen/lay.py, a program of this session, with the kit's print as its base. Lean checks every line.
namespace Go.Proofs.Ytbdbklnlpeichaa.P
open Go.RowKit Go.Proofs.YtbdbklnlpeichaaW.PrintWords Go.Proofs.YtbdbklnlpeichaaW.PrintLast Go.Proofs.YtbdbklnlpeichaaW.PrintMore
attribute [local go_sem] max2_int min2_int max_two min_two max_three min_three max_four min_four   -- for this text's walks alone
set_option linter.unusedVariables false
set_option linter.unusedSimpArgs false

/-! ### impl_FewerAre: function 23 -/
def impl_FewerAre.f (k : Nat) (l0 : List Int) : Option (Bool) := (impl_isTriangle.f k l0).bind fun t400 => (if t400 = true then ((impl_fewerAre.f l0).bind fun t401 => (some t401)) else (some false))
theorem impl_FewerAre.mono : ∀ a0 k, LeO (impl_FewerAre.f k a0) (impl_FewerAre.f (k + 1) a0) := by
  intro a0 k
  unfold impl_FewerAre.f
  repeat' first
      | (with_reducible exact impl_isTriangle.mono _ _)
      | (with_reducible exact LeO.refl _)
      | (with_reducible exact LeO.none _)
      | (with_reducible refine LeO.ite ?_ ?_)
      | (with_reducible refine LeO.bind ?_ (fun _ => ?_))
      | exact impl_isTriangle.mono _ _
      | exact LeO.none _
      | refine LeO.ite ?_ ?_
      | refine LeO.bind ?_ (fun _ => ?_)
set_option maxHeartbeats 8000000 in
set_option maxRecDepth 100000 in
theorem impl_FewerAre.calls (k : Nat) (A0 : Option Addr) (c0 : Nat) (l0 : List Int) (r : Bool) (w : World) (hr0 : Kd.C (Kd.int .i64) w A0 l0.length l0) (hc0 : l0.length ≤ c0) (h : impl_FewerAre.f k l0 = some r) :
    Calls Try.prog 23 #[.slice A0 l0.length c0] w fun e w' => e = .returned (.bool r) ∧ Below w.heap.size w w' := by
  have HR0 := Aside0.mk hr0
  have HC0 := Aside0.mk hc0
  clear hr0 hc0
  have HB := Aside0.mk (Below.refl w.heap.size w)
  have H : ((impl_isTriangle.f k l0).bind fun t400 => (if t400 = true then ((impl_fewerAre.f l0).bind fun t401 => (some t401)) else (some false))) = some r := h
  clear h
  replace H := Option.bind_eq_some_iff.mp H
  obtain ⟨t400, A20, H⟩ := H
  replace H : (if t400 = true then ((impl_fewerAre.f l0).bind fun t401 => (some t401)) else (some false)) = some r := H
  have A2 := Aside0.mk A20
  clear A20
  by_cases c3 : t400 = true
  · subst c3
    have H1 : ((impl_fewerAre.f l0).bind fun t401 => (some t401)) = some r := by rw [if_pos rfl] at H; exact H
    clear H
    have H := H1
    clear H1
    replace H := Option.bind_eq_some_iff.mp H
    obtain ⟨t401, A40, H⟩ := H
    replace H : (some t401) = some r := H
    have A4 := Aside0.mk A40
    clear A40
    obtain rfl := Option.some.inj H
    go_enter Try.func23, Try.ntmps23
    go_wp2_with (first | ((with_reducible refine gate_callee (f := 31) rfl ?_); refine goesL_ (some 4) rfl rfl Try.func31 (by kernel_rfl) rfl #[.slice A0 l0.length c0] rfl (by (try simp only [List.map_toArray, List.map_cons, List.map_nil]); first | done | rfl | (simp only [List.length_drop, List.length_take]; rfl)) ?_; (with_reducible refine (impl_isTriangle.calls k _ _ l0 true _ ?side1 ?side2 A2.out).mono ?_); (case side1 => repeat (first | exact HR0.out | (with_reducible refine Kd.C_alloc ?_ _) | (with_reducible refine Kd.C_drewN ?_ _) | (with_reducible refine Kd.C_drew ?_))); (case side2 => exact HC0.out); rintro e w' ⟨rfl, ⟨nd, rfl⟩⟩; refine ⟨_, rfl, ?_⟩) | (go_at_call 47; (with_reducible refine (impl_fewerAre.calls _ _ l0 t401 _ ?side1 ?side2 A4.out).mono ?_); (case side1 => repeat (first | exact HR0.out | (with_reducible refine Kd.C_alloc ?_ _) | (with_reducible refine Kd.C_drewN ?_ _) | (with_reducible refine Kd.C_drew ?_))); (case side2 => exact HC0.out); rintro e w5 ⟨rfl, hb⟩; have n0_ := Aside0.mk (below_step (by repeat (first | (with_reducible first | exact HB.out | apply below_alloc | apply pw_below_drewN | apply below_drew1) | exact HB.out)) hb); clear HB; have HB := n0_; clear n0_; (try clear hb); (try clear hb2); (try clear hk); (try clear hi)))
    go_ret
    exact ⟨by first | rfl | (simp [errW_none, errW_some] <;> rfl) | (simp [*, errW_none, errW_some] <;> rfl), by repeat (first | (with_reducible first | exact HB.out | apply below_alloc | apply pw_below_drewN | apply below_drew1) | exact HB.out)⟩
  · replace c3 := Bool.eq_false_iff.mpr c3
    subst c3
    have H1 : (some false) = some r := by rw [if_neg (show ¬ (false = true) by decide)] at H; exact H
    clear H
    have H := H1
    clear H1
    obtain rfl := Option.some.inj H
    go_enter Try.func23, Try.ntmps23
    go_wp2_with (first | ((with_reducible refine gate_callee (f := 31) rfl ?_); refine goesL_ (some 4) rfl rfl Try.func31 (by kernel_rfl) rfl #[.slice A0 l0.length c0] rfl (by (try simp only [List.map_toArray, List.map_cons, List.map_nil]); first | done | rfl | (simp only [List.length_drop, List.length_take]; rfl)) ?_; (with_reducible refine (impl_isTriangle.calls k _ _ l0 false _ ?side1 ?side2 A2.out).mono ?_); (case side1 => repeat (first | exact HR0.out | (with_reducible refine Kd.C_alloc ?_ _) | (with_reducible refine Kd.C_drewN ?_ _) | (with_reducible refine Kd.C_drew ?_))); (case side2 => exact HC0.out); rintro e w' ⟨rfl, ⟨nd, rfl⟩⟩; refine ⟨_, rfl, ?_⟩))
    go_ret
    exact ⟨by first | rfl | (simp [errW_none, errW_some] <;> rfl) | (simp [*, errW_none, errW_some] <;> rfl), by repeat (first | (with_reducible first | exact HB.out | apply below_alloc | apply pw_below_drewN | apply below_drew1) | exact HB.out)⟩

end Go.Proofs.Ytbdbklnlpeichaa.P

/- Plain facts: what the reference's and the program's MoreDo, FewerDo, MoreAre, FewerAre come to, with enough rounds, for lists of at most 2^20 numbers. -/
namespace Go.Proofs.Ytbdbklnlpeichaa.P
open Go.RowKit Go.Proofs.YtbdbklnlpeichaaW.PrintWords Go.Proofs.YtbdbklnlpeichaaW.PrintLast

theorem plOr_range (a s : Int) : plOr a s = -1 ∨ (0 ≤ plOr a s ∧ plOr a s < 21) := by
  unfold plOr
  split
  · rename_i h
    exact .inr (pl_range a s h.1 h.2.1 h.2.2.1 h.2.2.2)
  · exact .inl rfl
theorem plOr_out (a s : Int) (h : ¬ (0 ≤ a ∧ a ≤ 5 ∧ 0 ≤ s ∧ s ≤ a)) : plOr a s = -1 := if_neg h
/-- What holds at a place holds a step further, if there is such a place. -/
def stP (l : List Int) (da ds a s : Int) : Bool := if plOr (a + da) (s + ds) < 0 then true else decide (rd l (pl a s) ≤ rd l (plOr (a + da) (s + ds)))
theorem spec_l3Stays_eq (l : List Int) (hl : l.length = 21) (da ds a s : Int) (h1 : 0 ≤ a) (h2 : a ≤ 5) (h3 : 0 ≤ s) (h4 : s ≤ a) (d1 : -1 ≤ da) (d2 : da ≤ 1) (d3 : -1 ≤ ds) (d4 : ds ≤ 1) : spec_l3Stays.f l a s da ds = some (stP l da ds a s) := by
  have hr := pl_range a s h1 h2 h3 h4
  have w1 : wrap64 (a + da) = a + da := by unfold wrap64; omega
  have w2 : wrap64 (s + ds) = s + ds := by unfold wrap64; omega
  unfold spec_l3Stays.f stP
  rw [spec_PlaceOf_eq, plOr_in a s h1 h2 h3 h4, Option.bind_some, w1, w2, spec_PlaceOf_eq, Option.bind_some, if_neg (by omega)]
  rcases plOr_range (a + da) (s + ds) with e | e
  · rw [if_pos (by omega), if_pos (by omega)]
  · rw [if_neg (by omega), if_pos hr.1, if_pos (by omega), if_pos e.1, if_pos (by omega), if_neg (by omega)]
theorem spec_l3Each_inner (l : List Int) (hl : l.length = 21) (da ds : Int) (d1 : -1 ≤ da) (d2 : da ≤ 1) (d3 : -1 ≤ ds) (d4 : ds ≤ 1) (a : Nat) (ha : a < 6) (d : Nat) : ∀ (m s : Nat), s + d = a + 1 →
    spec_l3Each.l1 (m + d + 1) l da ds (a : Int) (s : Int) = if ((List.range' s d).all fun (s : Nat) => stP l da ds a s) = true then spec_l3Each.l0 m l da ds ((a + 1 : Nat) : Int) else some false := by
  induction d with
  | zero =>
    intro m s h
    simp only [spec_l3Each.l1]
    rw [if_neg (by omega), wrap_succ6 a (by omega), List.range'_zero, List.all_nil, if_pos rfl]
  | succ d ih =>
    intro m s h
    obtain ⟨M, hM⟩ : ∃ M, M = m + d + 1 := ⟨_, rfl⟩
    rw [show m + (d + 1) + 1 = M + 1 from by omega]
    simp only [spec_l3Each.l1]
    rw [if_pos (by omega), spec_l3Stays_eq l hl da ds a s (by omega) (by omega) (by omega) (by omega) d1 d2 d3 d4, Option.bind_some, wrap_succ6 s (by omega), hM, ih m (s + 1) (by omega), List.range'_succ, List.all_cons]
    cases stP l da ds a s <;> rfl
/-- A step everywhere. -/
def eachP (l : List Int) (da ds : Int) : Bool := (List.range' 0 6).all fun (a : Nat) => (List.range' 0 (a + 1)).all fun (s : Nat) => stP l da ds a s
theorem spec_l3Each_outer (l : List Int) (hl : l.length = 21) (da ds : Int) (d1 : -1 ≤ da) (d2 : da ≤ 1) (d3 : -1 ≤ ds) (d4 : ds ≤ 1) (e : Nat) : ∀ (k a : Nat), a + e = 6 → 10 * e + 10 < k →
    spec_l3Each.l0 k l da ds (a : Int) = some ((List.range' a e).all fun (a : Nat) => (List.range' 0 (a + 1)).all fun (s : Nat) => stP l da ds a s) := by
  induction e with
  | zero =>
    intro k a h hk
    obtain ⟨k, rfl⟩ : ∃ m, k = m + 1 := ⟨k - 1, by omega⟩
    simp only [spec_l3Each.l0]
    rw [if_neg (by omega), List.range'_zero, List.all_nil]
  | succ e ih =>
    intro k a h hk
    obtain ⟨k, rfl⟩ : ∃ m, k = m + (a + 1) + 1 + 1 := ⟨k - (a + 3), by omega⟩
    simp only [spec_l3Each.l0]
    have := spec_l3Each_inner l hl da ds d1 d2 d3 d4 a (by omega) (a + 1) k 0 (by omega)
    rw [if_pos (by omega)]
    refine Eq.trans this ?_
    rw [ih k (a + 1) (by omega) (by omega), show List.range' a (e + 1) = a :: List.range' (a + 1) e from rfl, List.all_cons]
    cases ((List.range' 0 (a + 1)).all fun (s : Nat) => stP l da ds a s) <;> rfl
theorem spec_l3Each_k (l : List Int) (hl : l.length = 21) (da ds : Int) (d1 : -1 ≤ da) (d2 : da ≤ 1) (d3 : -1 ≤ ds) (d4 : ds ≤ 1) (k : Nat) (hk : 100 ≤ k) : spec_l3Each.f k l da ds = some (eachP l da ds) :=
  spec_l3Each_outer l hl da ds d1 d2 d3 d4 6 k 0 (by omega) (by omega)
theorem eachP_iff (l : List Int) (da ds : Int) : eachP l da ds = true ↔ ∀ a s : Nat, a < 6 → s ≤ a → stP l da ds a s = true := by
  simp only [eachP, List.all_eq_true, List.mem_range'_1]
  exact ⟨fun h a s ha hs => h a (by omega) s (by omega), fun h a ha s hs => h a s (by omega) (by omega)⟩
theorem staysP_iff (l : List Int) (so : Int → Int → Bool) : staysP l so = true ↔ ∀ a s : Nat, a < 6 → s ≤ a → okAt l so a s = true := by
  simp only [staysP, List.all_eq_true, List.mem_range]
  exact ⟨fun h a s ha hs => h a ha s (by omega), fun h a ha s hs => h a s ha (by omega)⟩
theorem stP_in (l : List Int) (ht : isTri l = true) (da ds a s : Int) (h1 : 0 ≤ a + da) (h2 : a + da ≤ 5) (h3 : 0 ≤ s + ds) (h4 : s + ds ≤ a + da) : stP l da ds a s = (!(hd l a s) || hd l (a + da) (s + ds)) := by
  have hr := pl_range (a + da) (s + ds) h1 h2 h3 h4
  unfold stP
  rw [plOr_in _ _ h1 h2 h3 h4, if_neg (by omega), bit_of l ht, bit_of l ht]
  cases hd l a s <;> cases hd l (a + da) (s + ds) <;> rfl
theorem stP_out (l : List Int) (da ds a s : Int) (h : ¬ (0 ≤ a + da ∧ a + da ≤ 5 ∧ 0 ≤ s + ds ∧ s + ds ≤ a + da)) : stP l da ds a s = true := by
  unfold stP
  rw [plOr_out _ _ h]
  rfl

theorem fewerDo_at (l : List Int) (ht : isTri l = true) (a s : Nat) (ha : a < 6) (hs : s ≤ a) : stP l 0 (-1) a s = okAt l (impl_fewerDo.so l) a s := by
  unfold okAt impl_fewerDo.so
  by_cases h : (s : Int) = 0
  · rw [stP_out _ _ _ _ _ (by omega), decide_eq_true h, Bool.true_or, Bool.or_true]
  · rw [stP_in l ht _ _ _ _ (by omega) (by omega) (by omega) (by omega), decide_eq_false h, Bool.false_or, Int.add_zero]
    rfl
theorem moreDo_at (l : List Int) (ht : isTri l = true) (a s : Nat) (ha : a < 6) (hs : s ≤ a) : stP l 0 1 a s = okAt l (impl_moreDo.so l) a s := by
  unfold okAt impl_moreDo.so
  by_cases h : (s : Int) = a
  · rw [stP_out _ _ _ _ _ (by omega), decide_eq_true h, Bool.true_or, Bool.or_true]
  · rw [stP_in l ht _ _ _ _ (by omega) (by omega) (by omega) (by omega), decide_eq_false h, Bool.false_or, Int.add_zero]
theorem moreAre_at (l : List Int) (ht : isTri l = true) (a s : Nat) (ha : a < 6) (hs : s ≤ a) : (stP l 1 0 a s && stP l 1 1 a s) = okAt l (impl_moreAre.so l) a s := by
  unfold okAt impl_moreAre.so
  by_cases h : (a : Int) = 5
  · rw [stP_out _ _ _ _ _ (by omega), stP_out _ _ _ _ _ (by omega), decide_eq_true h, Bool.true_or, Bool.or_true]
    rfl
  · rw [stP_in l ht _ _ _ _ (by omega) (by omega) (by omega) (by omega), stP_in l ht _ _ _ _ (by omega) (by omega) (by omega) (by omega), decide_eq_false h, Bool.false_or, Int.add_zero]
    cases hd l a s <;> cases hd l (↑a + 1) s <;> cases hd l (↑a + 1) (↑s + 1) <;> rfl
theorem fewerAre_at (l : List Int) (ht : isTri l = true) (a s : Nat) (ha : a < 6) (hs : s ≤ a) : (stP l (-1) 0 a s && stP l (-1) (-1) a s) = okAt l (impl_fewerAre.so l) a s := by
  unfold okAt impl_fewerAre.so
  have e1 : (a : Int) + -1 = a - 1 := rfl
  have e2 : (s : Int) + -1 = s - 1 := rfl
  by_cases h : (s : Int) = 0
  · rw [stP_out l (-1) (-1) _ _ (by omega), decide_eq_true h, Bool.true_or, Bool.true_and, Bool.and_true]
    by_cases h' : (s : Int) = a
    · rw [stP_out _ _ _ _ _ (by omega), decide_eq_true h', Bool.true_or, Bool.or_true]
    · rw [stP_in l ht _ _ _ _ (by omega) (by omega) (by omega) (by omega), decide_eq_false h', Bool.false_or, Int.add_zero, e1]
  · rw [stP_in l ht (-1) (-1) _ _ (by omega) (by omega) (by omega) (by omega), decide_eq_false h, Bool.false_or, e1, e2]
    by_cases h' : (s : Int) = a
    · rw [stP_out _ _ _ _ _ (by omega), decide_eq_true h', Bool.true_or, Bool.true_and, Bool.and_true]
    · rw [stP_in l ht _ _ _ _ (by omega) (by omega) (by omega) (by omega), decide_eq_false h', Bool.false_or, Int.add_zero, e1]
      cases hd l a s <;> cases hd l (↑a - 1) s <;> cases hd l (↑a - 1) (↑s - 1) <;> rfl

def fewerDoP (l : List Int) : Bool := isTri l && staysP l (impl_fewerDo.so l)
def moreDoP (l : List Int) : Bool := isTri l && staysP l (impl_moreDo.so l)
def fewerAreP (l : List Int) : Bool := isTri l && staysP l (impl_fewerAre.so l)
def moreAreP (l : List Int) : Bool := isTri l && staysP l (impl_moreAre.so l)
theorem one_each (l : List Int) (da ds : Int) (so : Int → Int → Bool) (h : ∀ a s : Nat, a < 6 → s ≤ a → stP l da ds a s = okAt l so a s) : eachP l da ds = staysP l so := by
  rw [Bool.eq_iff_iff, eachP_iff, staysP_iff]
  exact ⟨fun g a s ha hs => (h a s ha hs).symm.trans (g a s ha hs), fun g a s ha hs => (h a s ha hs).trans (g a s ha hs)⟩
theorem two_each (l : List Int) (da ds da' ds' : Int) (so : Int → Int → Bool) (h : ∀ a s : Nat, a < 6 → s ≤ a → (stP l da ds a s && stP l da' ds' a s) = okAt l so a s) : (eachP l da ds && eachP l da' ds') = staysP l so := by
  rw [Bool.eq_iff_iff, Bool.and_eq_true, eachP_iff, eachP_iff, staysP_iff]
  constructor
  · intro g a s ha hs
    rw [← h a s ha hs, g.1 a s ha hs, g.2 a s ha hs]
    rfl
  · intro g
    constructor <;> intro a s ha hs
    · have := g a s ha hs
      rw [← h a s ha hs, Bool.and_eq_true] at this
      exact this.1
    · have := g a s ha hs
      rw [← h a s ha hs, Bool.and_eq_true] at this
      exact this.2
theorem spec_FewerDo_k (l : List Int) (hl : l.length ≤ 1048576) (k : Nat) (hk : 2097153 ≤ k) : spec_FewerDo.f k l = some (fewerDoP l) := by
  unfold spec_FewerDo.f fewerDoP
  rw [spec_TriangleOk_k l hl k (by omega), Option.bind_some]
  by_cases ht : isTri l = true
  · rw [if_pos ht, spec_l3Each_k l (isTri_length ht) 0 (-1) (by omega) (by omega) (by omega) (by omega) k (by omega), Option.bind_some, one_each l 0 (-1) _ (fewerDo_at l ht), ht, Bool.true_and]
  · rw [if_neg ht, Bool.eq_false_iff.mpr ht, Bool.false_and]
theorem spec_MoreDo_k (l : List Int) (hl : l.length ≤ 1048576) (k : Nat) (hk : 2097153 ≤ k) : spec_MoreDo.f k l = some (moreDoP l) := by
  unfold spec_MoreDo.f moreDoP
  rw [spec_TriangleOk_k l hl k (by omega), Option.bind_some]
  by_cases ht : isTri l = true
  · rw [if_pos ht, spec_l3Each_k l (isTri_length ht) 0 1 (by omega) (by omega) (by omega) (by omega) k (by omega), Option.bind_some, one_each l 0 1 _ (moreDo_at l ht), ht, Bool.true_and]
  · rw [if_neg ht, Bool.eq_false_iff.mpr ht, Bool.false_and]
theorem spec_MoreAre_k (l : List Int) (hl : l.length ≤ 1048576) (k : Nat) (hk : 2097153 ≤ k) : spec_MoreAre.f k l = some (moreAreP l) := by
  unfold spec_MoreAre.f moreAreP
  rw [spec_TriangleOk_k l hl k (by omega), Option.bind_some]
  by_cases ht : isTri l = true
  · rw [if_pos ht, spec_l3Each_k l (isTri_length ht) 1 0 (by omega) (by omega) (by omega) (by omega) k (by omega), Option.bind_some, spec_l3Each_k l (isTri_length ht) 1 1 (by omega) (by omega) (by omega) (by omega) k (by omega), ← two_each l 1 0 1 1 _ (moreAre_at l ht), ht, Bool.true_and]
    cases eachP l 1 0 <;> rfl
  · rw [if_neg ht, Bool.eq_false_iff.mpr ht, Bool.false_and]
theorem impl_FewerDo_k (l : List Int) (hl : l.length ≤ 1048576) (k : Nat) (hk : 2097153 ≤ k) : impl_FewerDo.f k l = some (fewerDoP l) := by
  unfold impl_FewerDo.f fewerDoP impl_fewerDo.f
  rw [impl_isTriangle_k l hl k (by omega), Option.bind_some]
  by_cases ht : isTri l = true
  · rw [if_pos ht, if_pos (Nat.le_of_eq (isTri_length ht).symm), Option.bind_some, ht, Bool.true_and]
  · rw [if_neg ht, Bool.eq_false_iff.mpr ht, Bool.false_and]
theorem impl_MoreDo_k (l : List Int) (hl : l.length ≤ 1048576) (k : Nat) (hk : 2097153 ≤ k) : impl_MoreDo.f k l = some (moreDoP l) := by
  unfold impl_MoreDo.f moreDoP impl_moreDo.f
  rw [impl_isTriangle_k l hl k (by omega), Option.bind_some]
  by_cases ht : isTri l = true
  · rw [if_pos ht, if_pos (Nat.le_of_eq (isTri_length ht).symm), Option.bind_some, ht, Bool.true_and]
  · rw [if_neg ht, Bool.eq_false_iff.mpr ht, Bool.false_and]
theorem impl_FewerAre_k (l : List Int) (hl : l.length ≤ 1048576) (k : Nat) (hk : 2097153 ≤ k) : impl_FewerAre.f k l = some (fewerAreP l) := by
  unfold impl_FewerAre.f fewerAreP impl_fewerAre.f
  rw [impl_isTriangle_k l hl k (by omega), Option.bind_some]
  by_cases ht : isTri l = true
  · rw [if_pos ht, if_pos (Nat.le_of_eq (isTri_length ht).symm), Option.bind_some, ht, Bool.true_and]
  · rw [if_neg ht, Bool.eq_false_iff.mpr ht, Bool.false_and]
theorem impl_MoreAre_k (l : List Int) (hl : l.length ≤ 1048576) (k : Nat) (hk : 2097153 ≤ k) : impl_MoreAre.f k l = some (moreAreP l) := by
  unfold impl_MoreAre.f moreAreP impl_moreAre.f
  rw [impl_isTriangle_k l hl k (by omega), Option.bind_some]
  by_cases ht : isTri l = true
  · rw [if_pos ht, if_pos (Nat.le_of_eq (isTri_length ht).symm), Option.bind_some, ht, Bool.true_and]
  · rw [if_neg ht, Bool.eq_false_iff.mpr ht, Bool.false_and]

end Go.Proofs.Ytbdbklnlpeichaa.P

/- Plain facts: what the reference's and the program's Between and SplitOf come to, with enough rounds, for lists of at most 2^20 numbers. -/
namespace Go.Proofs.Ytbdbklnlpeichaa.P
open Go.RowKit Go.Proofs.YtbdbklnlpeichaaW.PrintWords Go.Proofs.YtbdbklnlpeichaaW.PrintLast

/-- At three numbers of one row: what holds at two holds at the third. -/
def btOk (l : List Int) (a lo hi k : Int) : Bool := !(hd l a lo && hd l a hi && !(hd l a k))
theorem bit_one (l : List Int) (h : isTri l = true) (a s : Int) : (rd l (pl a s) = 1) = (hd l a s = true) := by
  rw [bit_of l h]
  cases hd l a s <;> simp
theorem bit_zero (l : List Int) (h : isTri l = true) (a s : Int) : (rd l (pl a s) = 0) = (hd l a s = false) := by
  rw [bit_of l h]
  cases hd l a s <;> simp
theorem spec_Between_l3 (l : List Int) (ht : isTri l = true) (a lo hi : Nat) (ha : a < 6) (h1 : lo ≤ hi) (h2 : hi ≤ a) (d : Nat) : ∀ (m q : Nat), q + d = hi + 1 → lo ≤ q →
    spec_Between.l3 (m + d + 1) l (a : Int) (lo : Int) (hi : Int) (q : Int) = if ((List.range' q d).all fun (q : Nat) => btOk l a lo hi q) = true then spec_Between.l2 m l (a : Int) (lo : Int) ((hi + 1 : Nat) : Int) else some false := by
  have hl := isTri_length ht
  induction d with
  | zero =>
    intro m q h hq
    simp only [spec_Between.l3]
    rw [if_neg (by omega), wrap_succ6 hi (by omega), List.range'_zero, List.all_nil, if_pos rfl]
  | succ d ih =>
    intro m q h hq
    obtain ⟨M, hM⟩ : ∃ M, M = m + d + 1 := ⟨_, rfl⟩
    rw [show m + (d + 1) + 1 = M + 1 from by omega]
    simp only [spec_Between.l3]
    have r1 := pl_range a lo (by omega) (by omega) (by omega) (by omega)
    have r2 := pl_range a hi (by omega) (by omega) (by omega) (by omega)
    have r3 := pl_range a q (by omega) (by omega) (by omega) (by omega)
    have e1 : plOr (a : Int) (lo : Int) = pl a lo := plOr_in _ _ (by omega) (by omega) (by omega) (by omega)
    have e2 : plOr (a : Int) (hi : Int) = pl a hi := plOr_in _ _ (by omega) (by omega) (by omega) (by omega)
    have e3 : plOr (a : Int) (q : Int) = pl a q := plOr_in _ _ (by omega) (by omega) (by omega) (by omega)
    have i1 : pl (a : Int) (lo : Int) < (l.length : Int) := by omega
    have i2 : pl (a : Int) (hi : Int) < (l.length : Int) := by omega
    have i3 : pl (a : Int) (q : Int) < (l.length : Int) := by omega
    have hq2 : (q : Int) ≤ (hi : Int) := by omega
    simp only [spec_PlaceOf_eq, e1, e2, e3, Option.bind_some, r1.1, r2.1, r3.1, i1, i2, i3, hq2, if_true, bit_one l ht, bit_zero l ht]
    rw [wrap_succ6 q (by omega), hM, ih m (q + 1) (by omega) (by omega), show List.range' q (d + 1) = q :: List.range' (q + 1) d from rfl, List.all_cons]
    unfold btOk
    cases hd l a lo <;> cases hd l a hi <;> cases hd l a q <;> first | rfl | simp
theorem spec_Between_l2 (l : List Int) (ht : isTri l = true) (a lo : Nat) (ha : a < 6) (h1 : lo ≤ a) (e : Nat) : ∀ (k hi : Nat), hi + e = a + 1 → lo ≤ hi → 20 * e + 20 < k →
    ∃ k', k ≤ k' + 20 * e + 20 ∧ spec_Between.l2 k l (a : Int) (lo : Int) (hi : Int) = if ((List.range' hi e).all fun (hi : Nat) => (List.range' lo (hi + 1 - lo)).all fun (q : Nat) => btOk l a lo hi q) = true then spec_Between.l1 k' l (a : Int) ((lo + 1 : Nat) : Int) else some false := by
  induction e with
  | zero =>
    intro k hi h hq hk
    obtain ⟨k, rfl⟩ : ∃ m, k = m + 1 := ⟨k - 1, by omega⟩
    refine ⟨k, by omega, ?_⟩
    simp only [spec_Between.l2]
    rw [if_neg (by omega), wrap_succ6 lo (by omega), List.range'_zero, List.all_nil, if_pos rfl]
  | succ e ih =>
    intro k hi h hq hk
    obtain ⟨k, rfl⟩ : ∃ m, k = m + (hi + 1 - lo) + 1 + 1 := ⟨k - (hi + 3 - lo), by omega⟩
    obtain ⟨k', hk', hh⟩ := ih k (hi + 1) (by omega) (by omega) (by omega)
    refine ⟨k', by omega, ?_⟩
    have := spec_Between_l3 l ht a lo hi ha hq (by omega) (hi + 1 - lo) k lo (by omega) (by omega)
    simp only [spec_Between.l2]
    rw [if_pos (by omega)]
    refine Eq.trans this ?_
    rw [hh, show List.range' hi (e + 1) = hi :: List.range' (hi + 1) e from rfl, List.all_cons]
    cases ((List.range' lo (hi + 1 - lo)).all fun (q : Nat) => btOk l a lo hi q) <;> first | rfl | simp
theorem spec_Between_l1 (l : List Int) (ht : isTri l = true) (a : Nat) (ha : a < 6) (e : Nat) : ∀ (k lo : Nat), lo + e = a + 1 → 200 * e + 200 < k →
    ∃ k', k ≤ k' + 200 * e + 200 ∧ spec_Between.l1 k l (a : Int) (lo : Int) = if ((List.range' lo e).all fun (lo : Nat) => (List.range' lo (a + 1 - lo)).all fun (hi : Nat) => (List.range' lo (hi + 1 - lo)).all fun (q : Nat) => btOk l a lo hi q) = true then spec_Between.l0 k' l ((a + 1 : Nat) : Int) else some false := by
  induction e with
  | zero =>
    intro k lo h hk
    obtain ⟨k, rfl⟩ : ∃ m, k = m + 1 := ⟨k - 1, by omega⟩
    refine ⟨k, by omega, ?_⟩
    simp only [spec_Between.l1]
    rw [if_neg (by omega), wrap_succ6 a (by omega), List.range'_zero, List.all_nil, if_pos rfl]
  | succ e ih =>
    intro k lo h hk
    obtain ⟨k, rfl⟩ : ∃ m, k = m + 1 := ⟨k - 1, by omega⟩
    obtain ⟨k1, hk1, hh1⟩ := spec_Between_l2 l ht a lo ha (by omega) (a + 1 - lo) k lo (by omega) (by omega) (by omega)
    obtain ⟨k', hk', hh⟩ := ih k1 (lo + 1) (by omega) (by omega)
    refine ⟨k', by omega, ?_⟩
    simp only [spec_Between.l1]
    rw [if_pos (by omega)]
    refine Eq.trans hh1 ?_
    rw [hh, show List.range' lo (e + 1) = lo :: List.range' (lo + 1) e from rfl, List.all_cons]
    cases ((List.range' lo (a + 1 - lo)).all fun (hi : Nat) => (List.range' lo (hi + 1 - lo)).all fun (q : Nat) => btOk l a lo hi q) <;> first | rfl | simp
theorem spec_Between_l0 (l : List Int) (ht : isTri l = true) (e : Nat) : ∀ (k a : Nat), a + e = 6 → 2000 * e + 2000 < k →
    spec_Between.l0 k l (a : Int) = some ((List.range' a e).all fun (a : Nat) => (List.range' 0 (a + 1)).all fun (lo : Nat) => (List.range' lo (a + 1 - lo)).all fun (hi : Nat) => (List.range' lo (hi + 1 - lo)).all fun (q : Nat) => btOk l a lo hi q) := by
  induction e with
  | zero =>
    intro k a h hk
    obtain ⟨k, rfl⟩ : ∃ m, k = m + 1 := ⟨k - 1, by omega⟩
    simp only [spec_Between.l0]
    rw [if_neg (by omega), List.range'_zero, List.all_nil]
  | succ e ih =>
    intro k a h hk
    obtain ⟨k, rfl⟩ : ∃ m, k = m + 1 := ⟨k - 1, by omega⟩
    obtain ⟨k1, hk1, hh1⟩ := spec_Between_l1 l ht a (by omega) (a + 1) k 0 (by omega) (by omega)
    simp only [spec_Between.l0]
    rw [if_pos (by omega)]
    refine Eq.trans hh1 ?_
    rw [ih k1 (a + 1) (by omega) (by omega), show List.range' a (e + 1) = a :: List.range' (a + 1) e from rfl, List.all_cons]
    cases ((List.range' 0 (a + 1)).all fun (lo : Nat) => (List.range' lo (a + 1 - lo)).all fun (hi : Nat) => (List.range' lo (hi + 1 - lo)).all fun (q : Nat) => btOk l a lo hi q) <;> first | rfl | simp
/-- What holds for a number that is not greater, and for one that is not less, holds. -/
def betP (l : List Int) : Bool := (List.range 6).all fun (a : Nat) => (List.range (a + 1)).all fun (s : Nat) => !(upP l a s && downP l a s) || hd l a s
theorem betP_iff (l : List Int) : betP l = true ↔ ∀ a s : Nat, a < 6 → s ≤ a → upP l a s = true → downP l a s = true → hd l a s = true := by
  simp only [betP, List.all_eq_true, List.mem_range]
  constructor
  · intro h a s ha hs h1 h2
    have := h a ha s (by omega)
    rw [h1, h2] at this
    simpa using this
  · intro h a ha s hs
    have := h a s ha (by omega)
    revert this
    cases upP l a s <;> cases downP l a s <;> cases hd l a s <;> simp
theorem upP_iff (l : List Int) (a : Int) (s : Nat) : upP l a s = true ↔ ∃ k : Nat, k ≤ s ∧ hd l a k = true := by
  simp only [upP, List.any_eq_true, List.mem_range, Int.toNat_natCast]
  exact ⟨fun ⟨k, h1, h2⟩ => ⟨k, by omega, h2⟩, fun ⟨k, h1, h2⟩ => ⟨k, by omega, h2⟩⟩
theorem downP_iff (l : List Int) (a s : Nat) : downP l a s = true ↔ ∃ k : Nat, s ≤ k ∧ k ≤ a ∧ hd l a k = true := by
  simp only [downP, List.any_eq_true, List.mem_range, Int.toNat_natCast, Bool.and_eq_true, decide_eq_true_eq]
  exact ⟨fun ⟨k, h1, h2, h3⟩ => ⟨k, by omega, by omega, h3⟩, fun ⟨k, h1, h2, h3⟩ => ⟨k, by omega, by omega, h3⟩⟩
theorem spec_Between_all (l : List Int) : ((List.range' 0 6).all fun (a : Nat) => (List.range' 0 (a + 1)).all fun (lo : Nat) => (List.range' lo (a + 1 - lo)).all fun (hi : Nat) => (List.range' lo (hi + 1 - lo)).all fun (q : Nat) => btOk l a lo hi q) = betP l := by
  rw [Bool.eq_iff_iff, betP_iff]
  simp only [List.all_eq_true, List.mem_range'_1]
  constructor
  · intro h a s ha hs h1 h2
    obtain ⟨lo, g1, g2⟩ := (upP_iff l a s).1 h1
    obtain ⟨hi, g3, g4, g5⟩ := (downP_iff l a s).1 h2
    have := h a (by omega) lo (by omega) hi (by omega) s (by omega)
    unfold btOk at this
    rw [g2, g5] at this
    simpa using this
  · intro h a ha lo hlo hi hhi q hq
    have := h a q (by omega) (by omega)
    unfold btOk
    cases e1 : hd l a lo
    · simp
    · cases e2 : hd l a hi
      · simp
      · rw [this ((upP_iff l a q).2 ⟨lo, by omega, e1⟩) ((downP_iff l a q).2 ⟨hi, by omega, by omega, e2⟩)]
        simp
theorem spec_Between_k (l : List Int) (hl : l.length ≤ 1048576) (k : Nat) (hk : 2097153 ≤ k) : spec_Between.f k l = some (isTri l && betP l) := by
  unfold spec_Between.f
  rw [spec_TriangleOk_k l hl k (by omega), Option.bind_some]
  by_cases ht : isTri l = true
  · rw [if_pos ht, ht, Bool.true_and, ← spec_Between_all]
    exact spec_Between_l0 l ht 6 k 0 (by omega) (by omega)
  · rw [if_neg ht, Bool.eq_false_iff.mpr ht, Bool.false_and]

/-! The program's Between: by places. -/
theorem place_of (i : Nat) (h : i < 21) : ∃ a s : Nat, a < 6 ∧ s ≤ a ∧ pl (a : Int) (s : Int) = (i : Int) := by
  have hf : ∀ i : Fin 21, ∃ a : Fin 6, ∃ s : Fin 6, s.val ≤ a.val ∧ pl (a.val : Int) (s.val : Int) = (i.val : Int) := by decide +kernel
  obtain ⟨a, s, h1, h2⟩ := hf ⟨i, h⟩
  exact ⟨a, s, a.isLt, h1, h2⟩
theorem and_bits (x y : Bool) : Go.bits .and .i64 (if x = true then 1 else 0) (if y = true then 1 else 0) = if (x && y) = true then 1 else 0 := by
  cases x <;> cases y <;> decide +kernel
theorem rd_triBy (so : Int → Int → Bool) (a s : Nat) (ha : a < 6) (hs : s ≤ a) : rd (triBy so) (pl (a : Int) (s : Int)) = if so a s = true then 1 else 0 := by
  rw [triBy_eq]
  exact rd_triI (fun a s => if so a s = true then 1 else 0) a s (by omega) (by omega) (by omega) (by omega)
theorem impl_between_round (l : List Int) (hl : l.length = 21) (u v : List Int) (hu : u.length = 21) (hv : v.length = 21) (d : Nat) : ∀ (k i : Nat), i + d = 21 → d < k →
    impl_between.l0 k l u v (l.length : Int) (i : Int) = some ((List.range' i d).all fun (i : Nat) => Go.bits .and .i64 (rd u i) (rd v i) == rd l i) := by
  induction d with
  | zero =>
    intro k i h hk
    obtain ⟨k, rfl⟩ : ∃ m, k = m + 1 := ⟨k - 1, by omega⟩
    simp only [impl_between.l0]
    rw [if_neg (by omega), List.range'_zero, List.all_nil]
  | succ d ih =>
    intro k i h hk
    obtain ⟨k, rfl⟩ : ∃ m, k = m + 1 := ⟨k - 1, by omega⟩
    simp only [impl_between.l0]
    rw [if_pos (by omega), if_pos (by omega), if_pos (by omega), if_pos (by omega), if_pos (by omega), wrap_succ6 i (by omega), ih k (i + 1) (by omega) (by omega), show List.range' i (d + 1) = i :: List.range' (i + 1) d from rfl, List.all_cons]
    by_cases h0 : Go.bits .and .i64 (rd u i) (rd v i) = rd l i
    · rw [if_pos h0, beq_iff_eq.mpr h0, Bool.true_and]
    · rw [if_neg h0, beq_eq_false_iff_ne.mpr h0, Bool.false_and]
theorem impl_between_k (l : List Int) (ht : isTri l = true) (k : Nat) (hk : 100 ≤ k) : impl_between.f k l = some (betP l) := by
  have hl := isTri_length ht
  unfold impl_between.f impl_splitOf.f
  rw [if_pos (by omega), Option.bind_some]
  have := impl_between_round l hl (triBy (upP l)) (triBy (downP l)) (by rw [triBy_eq, triI_length]) (by rw [triBy_eq, triI_length]) 21 k 0 (by omega) (by omega)
  refine Eq.trans this ?_
  congr 1
  rw [Bool.eq_iff_iff, betP_iff]
  simp only [List.all_eq_true, List.mem_range'_1, beq_iff_eq]
  constructor
  · intro h a s ha hs h1 h2
    have hr := pl_range a s (by omega) (by omega) (by omega) (by omega)
    have := h (pl (a : Int) (s : Int)).toNat (by omega)
    rw [show (((pl (a : Int) (s : Int)).toNat : Nat) : Int) = pl a s from by omega, rd_triBy _ a s ha hs, rd_triBy _ a s ha hs, and_bits, h1, h2, bit_of l ht] at this
    cases e : hd l a s
    · rw [e] at this; exact absurd this (by decide)
    · rfl
  · intro h i hi
    obtain ⟨a, s, ha, hs, e⟩ := place_of i (by omega)
    rw [← e, rd_triBy _ a s ha hs, rd_triBy _ a s ha hs, and_bits, bit_of l ht]
    have := h a s ha hs
    cases e1 : hd l a s
    · rw [e1] at this
      cases e2 : upP l a s
      · rfl
      · cases e3 : downP l a s
        · rfl
        · exact absurd (this e2 e3) (by decide)
    · rw [(upP_iff l a s).2 ⟨s, by omega, e1⟩, (downP_iff l a s).2 ⟨s, by omega, by omega, e1⟩]
      rfl
theorem impl_Between_k (l : List Int) (hl : l.length ≤ 1048576) (k : Nat) (hk : 2097153 ≤ k) : impl_Between.f k l = some (isTri l && betP l) := by
  unfold impl_Between.f
  rw [impl_isTriangle_k l hl k (by omega), Option.bind_some]
  by_cases ht : isTri l = true
  · rw [if_pos ht, impl_between_k l ht k (by omega), Option.bind_some, ht, Bool.true_and]
  · rw [if_neg ht, Bool.eq_false_iff.mpr ht, Bool.false_and]

end Go.Proofs.Ytbdbklnlpeichaa.P

/- Plain facts: what the reference's NamedTriangle comes to, with enough rounds, for every text. -/
namespace Go.Proofs.Ytbdbklnlpeichaa.P
open Go.RowKit Go.Proofs.YtbdbklnlpeichaaW.PrintWords Go.Proofs.YtbdbklnlpeichaaW.PrintLast

/-! The reference's rules. -/
def madeB (rule n a s : Int) : Bool :=
  if rule = 0 then s == a else if rule = 1 then decide (n ≤ s) else if rule = 2 then s == n else if rule = 3 then decide (a < 2 * s) else if rule = 4 then s % 2 == 0 else if rule = 5 then a - s == n else false
def madeI (rule n a s : Int) : Int := if madeB rule n a s = true then 1 else 0
theorem spec_l1Made_l1 (rule n : Int) (a : Nat) (ha : a < 6) (d : Nat) : ∀ (m s : Nat), s + d = a + 1 →
    spec_l1Made.l1 (m + d + 1) rule n (rowsI (madeI rule n) a ++ rowI (madeI rule n) a s) (a : Int) (s : Int) = spec_l1Made.l0 m rule n (rowsI (madeI rule n) (a + 1)) ((a + 1 : Nat) : Int) := by
  induction d with
  | zero =>
    intro m s h
    obtain ⟨M, hM⟩ : ∃ M, M = m + 0 := ⟨_, rfl⟩
    rw [← hM, show m = M from by omega]
    simp only [spec_l1Made.l1]
    rw [if_neg (by omega), wrap_succ6 a (by omega), show s = a + 1 from by omega, ← rowsI_succ]
  | succ d ih =>
    intro m s h
    obtain ⟨M, hM⟩ : ∃ M, M = m + d + 1 := ⟨_, rfl⟩
    rw [show m + (d + 1) + 1 = M + 1 from by omega]
    have hb := rows_bound (madeI rule n) a s ha (by omega)
    have w1 : wrap64 (2 * (s : Int)) = 2 * s := by unfold wrap64; omega
    have w2 : wrap64 ((a : Int) - s) = (a : Int) - s := by unfold wrap64; omega
    have hm : Int.tmod (s : Int) 2 = (s : Int) % 2 := Int.tmod_eq_emod_of_nonneg (by omega)
    have hi := ih m (s + 1) (by omega)
    have key : ∀ b : Bool, madeB rule n a s = b → spec_l1Made.l1 M rule n ((rowsI (madeI rule n) a ++ rowI (madeI rule n) a s) ++ [if b = true then 1 else 0]) (a : Int) ((s + 1 : Nat) : Int) = spec_l1Made.l0 m rule n (rowsI (madeI rule n) (a + 1)) ((a + 1 : Nat) : Int) := by
      intro b hb'
      rw [List.append_assoc, show rowI (madeI rule n) a s ++ [if b = true then 1 else 0] = rowI (madeI rule n) a (s + 1) from by rw [rowI_succ, madeI, hb'], hM]
      exact hi
    simp only [spec_l1Made.l1]
    rw [if_pos (by omega), wrap_succ6 s (by omega), w1, w2, hm]
    simp only [if_pos hb]
    have kt := key true
    have kf := key false
    simp only [if_true, Bool.false_eq_true, if_false] at kt kf
    unfold madeB at kt kf
    by_cases r0 : rule = 0
    · rw [if_pos r0]
      simp only [if_pos r0] at kt kf
      by_cases c : (s : Int) = a
      · rw [if_pos c]; exact kt (by simpa using c)
      · rw [if_neg c]; exact kf (by simpa using c)
    · rw [if_neg r0]
      simp only [if_neg r0] at kt kf
      by_cases r1 : rule = 1
      · rw [if_pos r1]
        simp only [if_pos r1] at kt kf
        by_cases c : (s : Int) ≥ n
        · rw [if_pos c]; exact kt (decide_eq_true c)
        · rw [if_neg c]; exact kf (decide_eq_false c)
      · rw [if_neg r1]
        simp only [if_neg r1] at kt kf
        by_cases r2 : rule = 2
        · rw [if_pos r2]
          simp only [if_pos r2] at kt kf
          by_cases c : (s : Int) = n
          · rw [if_pos c]; exact kt (by simpa using c)
          · rw [if_neg c]; exact kf (by simpa using c)
        · rw [if_neg r2]
          simp only [if_neg r2] at kt kf
          by_cases r3 : rule = 3
          · rw [if_pos r3]
            simp only [if_pos r3] at kt kf
            by_cases c : 2 * (s : Int) > a
            · rw [if_pos c]; exact kt (decide_eq_true c)
            · rw [if_neg c]; exact kf (decide_eq_false c)
          · rw [if_neg r3]
            simp only [if_neg r3] at kt kf
            by_cases r4 : rule = 4
            · rw [if_pos r4]
              simp only [if_pos r4] at kt kf
              by_cases c : (s : Int) % 2 = 0
              · rw [if_pos c]; exact kt (by rw [c]; rfl)
              · rw [if_neg c]; exact kf (beq_eq_false_iff_ne.mpr c)
            · rw [if_neg r4]
              simp only [if_neg r4] at kt kf
              by_cases r5 : rule = 5
              · rw [if_pos r5]
                simp only [if_pos r5] at kt kf
                by_cases c : (a : Int) - s = n
                · rw [if_pos c]; exact kt (beq_iff_eq.mpr c)
                · rw [if_neg c]; exact kf (beq_eq_false_iff_ne.mpr c)
              · rw [if_neg r5]
                simp only [if_neg r5] at kt kf
                exact kf trivial
theorem spec_l1Made_l0 (rule n : Int) (e : Nat) : ∀ (k a : Nat), a + e = 6 → 10 * e + 10 < k → spec_l1Made.l0 k rule n (rowsI (madeI rule n) a) (a : Int) = some (triI (madeI rule n)) := by
  induction e with
  | zero =>
    intro k a h hk
    obtain ⟨k, rfl⟩ : ∃ m, k = m + 1 := ⟨k - 1, by omega⟩
    obtain rfl : a = 6 := by omega
    simp only [spec_l1Made.l0]
    rw [if_neg (by omega)]
    rfl
  | succ e ih =>
    intro k a h hk
    obtain ⟨k, rfl⟩ : ∃ m, k = m + (a + 1) + 1 + 1 := ⟨k - (a + 3), by omega⟩
    have hh := spec_l1Made_l1 rule n a (by omega) (a + 1) k 0 (by omega)
    rw [rowI_zero, List.append_nil] at hh
    simp only [spec_l1Made.l0]
    rw [if_pos (by omega)]
    refine Eq.trans hh ?_
    exact ih k (a + 1) (by omega) (by omega)
theorem spec_l1Made_k (rule n : Int) (k : Nat) (hk : 100 ≤ k) : spec_l1Made.f k rule n = some (triI (madeI rule n)) := spec_l1Made_l0 rule n 6 k 0 (by omega) (by omega)

/-! The names. -/
def digitB (n : Int) : ByteArray := strOfNums [(wrap64 (48 + n)) % 256]
theorem spec_l1Number_k (n : Int) (h : n < 10) (k : Nat) (hk : 1 ≤ k) : spec_l1Number.f k n = some (digitB n) := by
  obtain ⟨k, rfl⟩ : ∃ m, k = m + 1 := ⟨k - 1, by omega⟩
  simp only [spec_l1Number.f]
  rw [if_pos h]
  rfl
theorem digit_list (n : Nat) (h : n < 6) : (digitB (n : Int)).data.toList = [UInt8.ofNat (48 + n)] ∧ (digitB (n : Int)).size = 1 := by
  have hf : ∀ i : Fin 6, (digitB (i.val : Int)).data.toList = [UInt8.ofNat (48 + i.val)] ∧ (digitB (i.val : Int)).size = 1 := by decide +kernel
  exact hf ⟨n, h⟩
def wAtleast : List UInt8 := [97, 116, 108, 101, 97, 115, 116]
def wJust : List UInt8 := [106, 117, 115, 116]
def wAllbut : List UInt8 := [97, 108, 108, 98, 117, 116]
/-- What the reference answers to a name, by its letters: from the digit i on. -/
def specDig (L : List UInt8) : Nat → Nat → List Int × Bool
  | 0, _ => ([], false)
  | e + 1, i => if L = wAtleast ++ [UInt8.ofNat (48 + i)] ∧ 0 < i then (triI (madeI 1 i), true) else if L = wJust ++ [UInt8.ofNat (48 + i)] then (triI (madeI 2 i), true) else if L = wAllbut ++ [UInt8.ofNat (48 + i)] then (triI (madeI 5 i), true) else specDig L e (i + 1)
theorem cat_list (W : List UInt8) (n : Nat) (h : n < 6) : ((⟨W.toArray⟩ : ByteArray) ++ digitB (n : Int)).toList = W ++ [UInt8.ofNat (48 + n)] := by
  rw [ByteArray.toList_eq, ByteArray.data_append, Array.toList_append, (digit_list n h).1]
theorem spec_Named_l1 (a0 : ByteArray) (e : Nat) : ∀ (k i : Nat), i + e = 6 → 300 + 3 * e ≤ k → spec_NamedTriangle.l1 k a0 (i : Int) = some (specDig a0.toList e i) := by
  induction e with
  | zero =>
    intro k i h hk
    obtain ⟨k, rfl⟩ : ∃ m, k = m + 1 := ⟨k - 1, by omega⟩
    simp only [spec_NamedTriangle.l1]
    rw [if_neg (by omega)]
    rfl
  | succ e ih =>
    intro k i h hk
    obtain ⟨k, rfl⟩ : ∃ m, k = m + 1 + 1 := ⟨k - 2, by omega⟩
    have hz := (digit_list i (by omega)).2
    have c1 := cat_list wAtleast i (by omega)
    have c2 := cat_list wJust i (by omega)
    have c3 := cat_list wAllbut i (by omega)
    simp only [spec_NamedTriangle.l1]
    rw [if_pos (by omega), spec_l1Number_k _ (by omega) _ (by omega), Option.bind_some, if_pos (by omega), show ((⟨#[97, 116, 108, 101, 97, 115, 116]⟩ : ByteArray) ++ digitB (i : Int)).toList = wAtleast ++ [UInt8.ofNat (48 + i)] from c1]
    have hj : ∀ x : Bool, (x = true → a0.toList = wAtleast ++ [UInt8.ofNat (48 + i)] ∧ 0 < i) → (x = false → ¬ (a0.toList = wAtleast ++ [UInt8.ofNat (48 + i)] ∧ 0 < i)) → spec_NamedTriangle.j2 (k + 1) a0 (i : Int) (digitB (i : Int)) x = some (specDig a0.toList (e + 1) i) := by
      intro x h1 h2
      simp only [spec_NamedTriangle.j2]
      rw [specDig]
      cases x with
      | true =>
        rw [if_pos rfl, spec_l1Made_k _ _ _ (by omega), Option.bind_some, if_pos (h1 rfl)]
      | false =>
        rw [if_neg (by decide), if_neg (h2 rfl), if_pos (by omega), show ((⟨#[106, 117, 115, 116]⟩ : ByteArray) ++ digitB (i : Int)).toList = wJust ++ [UInt8.ofNat (48 + i)] from c2]
        by_cases g2 : a0.toList = wJust ++ [UInt8.ofNat (48 + i)]
        · rw [if_pos g2, if_pos g2, spec_l1Made_k _ _ _ (by omega), Option.bind_some]
        · rw [if_neg g2, if_neg g2, if_pos (by omega), show ((⟨#[97, 108, 108, 98, 117, 116]⟩ : ByteArray) ++ digitB (i : Int)).toList = wAllbut ++ [UInt8.ofNat (48 + i)] from c3]
          by_cases g3 : a0.toList = wAllbut ++ [UInt8.ofNat (48 + i)]
          · rw [if_pos g3, if_pos g3, spec_l1Made_k _ _ _ (by omega), Option.bind_some]
          · rw [if_neg g3, if_neg g3, wrap_succ6 i (by omega)]
            exact ih k (i + 1) (by omega) (by omega)
    by_cases g1 : a0.toList = wAtleast ++ [UInt8.ofNat (48 + i)]
    · rw [if_pos g1]
      refine hj _ (fun h => ⟨g1, by have := of_decide_eq_true h; omega⟩) (fun h h' => ?_)
      have := of_decide_eq_false h
      omega
    · rw [if_neg g1]
      exact hj false (fun h => absurd h (by decide)) (fun _ h' => g1 h'.1)
def specNm (L : List UInt8) : List Int × Bool :=
  if L = [101, 118, 101, 114, 121] then (triI (madeI 0 0), true) else if L = [115, 111, 109, 101] then (triI (madeI 1 1), true) else if L = [110, 111] then (triI (madeI 2 0), true) else if L = [109, 111, 115, 116] then (triI (madeI 3 0), true) else if L = [101, 118, 101, 110] then (triI (madeI 4 0), true) else specDig L 6 0
theorem spec_NamedTriangle_k (a0 : ByteArray) (k : Nat) (hk : 1000 ≤ k) : spec_NamedTriangle.f k a0 = some (specNm a0.toList) := by
  obtain ⟨k, rfl⟩ : ∃ m, k = m + 5 + 1 := ⟨k - 6, by omega⟩
  have hl := spec_Named_l1 a0 6 k 0 (by omega) (by omega)
  have m0 := fun r n => spec_l1Made_k r n (k + 5) (by omega)
  have m1 := fun r n => spec_l1Made_k r n (k + 4) (by omega)
  have m2 := fun r n => spec_l1Made_k r n (k + 3) (by omega)
  have m3 := fun r n => spec_l1Made_k r n (k + 2) (by omega)
  have m4 := fun r n => spec_l1Made_k r n (k + 1) (by omega)
  unfold spec_NamedTriangle.f specNm
  obtain ⟨x, hx⟩ : ∃ x, specDig a0.toList 6 0 = x := ⟨_, rfl⟩
  rw [hx] at hl ⊢
  have t0 : ((⟨#[101, 118, 101, 114, 121]⟩ : ByteArray)).toList = [101, 118, 101, 114, 121] := by rw [ByteArray.toList_eq]
  have t1 : ((⟨#[115, 111, 109, 101]⟩ : ByteArray)).toList = [115, 111, 109, 101] := by rw [ByteArray.toList_eq]
  have t2 : ((⟨#[110, 111]⟩ : ByteArray)).toList = [110, 111] := by rw [ByteArray.toList_eq]
  have t3 : ((⟨#[109, 111, 115, 116]⟩ : ByteArray)).toList = [109, 111, 115, 116] := by rw [ByteArray.toList_eq]
  have t4 : ((⟨#[101, 118, 101, 110]⟩ : ByteArray)).toList = [101, 118, 101, 110] := by rw [ByteArray.toList_eq]
  obtain ⟨ns, hns⟩ : ∃ ns : List ByteArray, ns = [(⟨#[101, 118, 101, 114, 121]⟩ : ByteArray), (⟨#[115, 111, 109, 101]⟩ : ByteArray), (⟨#[110, 111]⟩ : ByteArray), (⟨#[109, 111, 115, 116]⟩ : ByteArray), (⟨#[101, 118, 101, 110]⟩ : ByteArray)] := ⟨_, rfl⟩
  rw [← hns]
  have nl : ns.length = 5 := by rw [hns]; rfl
  have r0 : (rdOf ByteArray.empty ns 0).toList = [101, 118, 101, 114, 121] := by rw [hns]; exact t0
  have r1 : (rdOf ByteArray.empty ns 1).toList = [115, 111, 109, 101] := by rw [hns]; exact t1
  have r2 : (rdOf ByteArray.empty ns 2).toList = [110, 111] := by rw [hns]; exact t2
  have r3 : (rdOf ByteArray.empty ns 3).toList = [109, 111, 115, 116] := by rw [hns]; exact t3
  have r4 : (rdOf ByteArray.empty ns 4).toList = [101, 118, 101, 110] := by rw [hns]; exact t4
  have l5 : spec_NamedTriangle.l0 (k + 1) a0 ns 5 = some x := by
    rw [spec_NamedTriangle.l0]
    rw [if_neg (by omega)]
    exact hl
  have l4 : spec_NamedTriangle.l0 (k + 2) a0 ns 4 = some (if a0.toList = [101, 118, 101, 110] then (triI (madeI 4 0), true) else x) := by
    rw [spec_NamedTriangle.l0]
    rw [if_pos (by omega), if_pos (by omega), r4]
    by_cases g : a0.toList = [101, 118, 101, 110]
    · rw [if_pos g, if_pos g, Option.bind_some, if_pos (by decide), Option.bind_some, if_pos (by decide), show rd [0, 1, 2, 3, 4] 4 = 4 from rfl, show rd [0, 1, 0, 0, 0] 4 = 0 from rfl, m4 4 0, Option.bind_some]
    · rw [if_neg g, if_neg g, show wrap64 ((4 : Int) + 1) = 5 from by unfold wrap64; omega]
      exact l5
  have l3 : spec_NamedTriangle.l0 (k + 3) a0 ns 3 = some (if a0.toList = [109, 111, 115, 116] then (triI (madeI 3 0), true) else if a0.toList = [101, 118, 101, 110] then (triI (madeI 4 0), true) else x) := by
    rw [spec_NamedTriangle.l0]
    rw [if_pos (by omega), if_pos (by omega), r3]
    by_cases g : a0.toList = [109, 111, 115, 116]
    · rw [if_pos g, if_pos g, Option.bind_some, if_pos (by decide), Option.bind_some, if_pos (by decide), show rd [0, 1, 2, 3, 4] 3 = 3 from rfl, show rd [0, 1, 0, 0, 0] 3 = 0 from rfl, m3 3 0, Option.bind_some]
    · rw [if_neg g, if_neg g, show wrap64 ((3 : Int) + 1) = 4 from by unfold wrap64; omega]
      exact l4
  have l2 : spec_NamedTriangle.l0 (k + 4) a0 ns 2 = some (if a0.toList = [110, 111] then (triI (madeI 2 0), true) else if a0.toList = [109, 111, 115, 116] then (triI (madeI 3 0), true) else if a0.toList = [101, 118, 101, 110] then (triI (madeI 4 0), true) else x) := by
    rw [spec_NamedTriangle.l0]
    rw [if_pos (by omega), if_pos (by omega), r2]
    by_cases g : a0.toList = [110, 111]
    · rw [if_pos g, if_pos g, Option.bind_some, if_pos (by decide), Option.bind_some, if_pos (by decide), show rd [0, 1, 2, 3, 4] 2 = 2 from rfl, show rd [0, 1, 0, 0, 0] 2 = 0 from rfl, m2 2 0, Option.bind_some]
    · rw [if_neg g, if_neg g, show wrap64 ((2 : Int) + 1) = 3 from by unfold wrap64; omega]
      exact l3
  have l1 : spec_NamedTriangle.l0 (k + 5) a0 ns 1 = some (if a0.toList = [115, 111, 109, 101] then (triI (madeI 1 1), true) else if a0.toList = [110, 111] then (triI (madeI 2 0), true) else if a0.toList = [109, 111, 115, 116] then (triI (madeI 3 0), true) else if a0.toList = [101, 118, 101, 110] then (triI (madeI 4 0), true) else x) := by
    rw [spec_NamedTriangle.l0]
    rw [if_pos (by omega), if_pos (by omega), r1]
    by_cases g : a0.toList = [115, 111, 109, 101]
    · rw [if_pos g, if_pos g, Option.bind_some, if_pos (by decide), Option.bind_some, if_pos (by decide), show rd [0, 1, 2, 3, 4] 1 = 1 from rfl, show rd [0, 1, 0, 0, 0] 1 = 1 from rfl, m1 1 1, Option.bind_some]
    · rw [if_neg g, if_neg g, show wrap64 ((1 : Int) + 1) = 2 from by unfold wrap64; omega]
      exact l2
  rw [spec_NamedTriangle.l0]
  rw [if_pos (by omega), if_pos (by omega), r0]
  by_cases g : a0.toList = [101, 118, 101, 114, 121]
  · rw [if_pos g, if_pos g, Option.bind_some, if_pos (by decide), Option.bind_some, if_pos (by decide), show rd [0, 1, 2, 3, 4] 0 = 0 from rfl, show rd [0, 1, 0, 0, 0] 0 = 0 from rfl, m0 0 0, Option.bind_some]
  · rw [if_neg g, if_neg g, show wrap64 ((0 : Int) + 1) = 1 from by unfold wrap64; omega]
    exact l1
theorem specDig_length (L : List UInt8) : ∀ e i, (specDig L e i).1.length ≤ 21
  | 0, _ => by simp [specDig]
  | e + 1, i => by
    rw [specDig]
    split
    · simp only [triI_length]; omega
    · split
      · simp only [triI_length]; omega
      · split
        · simp only [triI_length]; omega
        · exact specDig_length L e (i + 1)
theorem specNm_length (L : List UInt8) : (specNm L).1.length ≤ 21 := by
  unfold specNm
  repeat' split
  all_goals first | exact specDig_length L 6 0 | (simp only [triI_length]; omega)
theorem madeI_bit (r n a s : Int) : madeI r n a s = 0 ∨ madeI r n a s = 1 := by
  unfold madeI
  split
  · exact .inr rfl
  · exact .inl rfl
theorem specDig_form (L : List UInt8) : ∀ e i, (∃ r n, specDig L e i = (triI (madeI r n), true)) ∨ specDig L e i = ([], false)
  | 0, _ => .inr rfl
  | e + 1, i => by
    rw [specDig]
    split
    · exact .inl ⟨_, _, rfl⟩
    · split
      · exact .inl ⟨_, _, rfl⟩
      · split
        · exact .inl ⟨_, _, rfl⟩
        · exact specDig_form L e (i + 1)
theorem specNm_form (L : List UInt8) : (∃ r n, specNm L = (triI (madeI r n), true)) ∨ specNm L = ([], false) := by
  unfold specNm
  repeat' split
  all_goals first | exact .inl ⟨_, _, rfl⟩ | exact specDig_form L 6 0
theorem isTri_made (r n : Int) : isTri (triI (madeI r n)) = true := isTri_triI _ fun a s _ _ _ _ => madeI_bit r n a s
def l20N : List ByteArray := [(⟨#[101, 118, 101, 114, 121]⟩ : ByteArray), (⟨#[115, 111, 109, 101]⟩ : ByteArray), (⟨#[110, 111]⟩ : ByteArray), (⟨#[109, 111, 115, 116]⟩ : ByteArray), (⟨#[101, 118, 101, 110]⟩ : ByteArray), (⟨#[97, 116, 108, 101, 97, 115, 116, 50]⟩ : ByteArray), (⟨#[97, 116, 108, 101, 97, 115, 116, 51]⟩ : ByteArray), (⟨#[106, 117, 115, 116, 49]⟩ : ByteArray), (⟨#[106, 117, 115, 116, 50]⟩ : ByteArray), (⟨#[97, 108, 108, 98, 117, 116, 49]⟩ : ByteArray)]
theorem names_in (r : Int) (h0 : 0 ≤ r) (h1 : r < 10) : ∃ t, specNm (rdOf ByteArray.empty l20N r).toList = (t, true) ∧ isTri t = true := by
  have hf : ∀ i : Fin 10, (specNm (rdOf ByteArray.empty l20N (i.val : Int)).data.toList).2 = true := by decide +kernel
  have := hf ⟨r.toNat, by omega⟩
  simp only [] at this
  rw [show ((r.toNat : Nat) : Int) = r by omega, ← ByteArray.toList_eq] at this
  rcases specNm_form (rdOf ByteArray.empty l20N r).toList with ⟨a, b, e⟩ | e
  · exact ⟨_, e, isTri_made a b⟩
  · rw [e] at this
    exact absurd this Bool.false_ne_true

end Go.Proofs.Ytbdbklnlpeichaa.P

/- The algebra of triangles: each is its own picture; not, inside, both, either. -/
namespace Go.Proofs.Ytbdbklnlpeichaa.P
open Go.RowKit Go.Proofs.YtbdbklnlpeichaaW.PrintWords Go.Proofs.YtbdbklnlpeichaaW.PrintLast

theorem triBy_congr (f g : Int → Int → Bool) (h : ∀ a s, 0 ≤ a → a ≤ 5 → 0 ≤ s → s ≤ a → f a s = g a s) : triBy f = triBy g := by
  rw [triBy_eq, triBy_eq]
  refine triI_congr _ _ fun a s h1 h2 h3 h4 => ?_
  show (if f a s = true then (1 : Int) else 0) = if g a s = true then 1 else 0
  rw [h a s h1 h2 h3 h4]
theorem tri_hd (l : List Int) (h : isTri l = true) : triBy (hd l) = l := by
  rw [triBy_eq]
  refine Eq.trans (triI_congr _ _ fun a s _ _ _ _ => ?_) (tri_list l (isTri_length h)).symm
  exact (bit_of l h a s).symm
theorem notP_tri (l : List Int) (h : isTri l = true) : notP l = triBy fun a s => !(hd l a s) := by unfold notP; rw [if_pos h]
theorem insP_tri (l : List Int) (h : isTri l = true) : insP l = triBy fun a s => hd l a (a - s) := by unfold insP; rw [if_pos h]
theorem bothP_tri (l m : List Int) (h : isTri l = true) (h' : isTri m = true) : bothP l m = triBy fun a s => hd l a s && hd m a s := by unfold bothP; rw [if_pos (by rw [h, h']; rfl)]
theorem eitherP_tri (l m : List Int) (h : isTri l = true) (h' : isTri m = true) : eitherP l m = triBy fun a s => hd l a s || hd m a s := by unfold eitherP; rw [if_pos (by rw [h, h']; rfl)]
theorem notP_none (l : List Int) (h : ¬ isTri l = true) : notP l = [] := by unfold notP; rw [if_neg h]
theorem insP_none (l : List Int) (h : ¬ isTri l = true) : insP l = [] := by unfold insP; rw [if_neg h]
theorem bothP_none (l m : List Int) (h : ¬ (isTri l = true ∧ isTri m = true)) : bothP l m = [] := by unfold bothP; rw [if_neg (fun g => h (by simpa using g))]
theorem eitherP_none (l m : List Int) (h : ¬ (isTri l = true ∧ isTri m = true)) : eitherP l m = [] := by unfold eitherP; rw [if_neg (fun g => h (by simpa using g))]
theorem hd_not (l : List Int) (h : isTri l = true) (a s : Int) (h1 : 0 ≤ a) (h2 : a ≤ 5) (h3 : 0 ≤ s) (h4 : s ≤ a) : hd (notP l) a s = !(hd l a s) := by rw [notP_tri l h, hd_triBy _ a s h1 h2 h3 h4]
theorem hd_ins (l : List Int) (h : isTri l = true) (a s : Int) (h1 : 0 ≤ a) (h2 : a ≤ 5) (h3 : 0 ≤ s) (h4 : s ≤ a) : hd (insP l) a s = hd l a (a - s) := by rw [insP_tri l h, hd_triBy _ a s h1 h2 h3 h4]
theorem hd_both (l m : List Int) (h : isTri l = true) (h' : isTri m = true) (a s : Int) (h1 : 0 ≤ a) (h2 : a ≤ 5) (h3 : 0 ≤ s) (h4 : s ≤ a) : hd (bothP l m) a s = (hd l a s && hd m a s) := by rw [bothP_tri l m h h', hd_triBy _ a s h1 h2 h3 h4]
theorem hd_either (l m : List Int) (h : isTri l = true) (h' : isTri m = true) (a s : Int) (h1 : 0 ≤ a) (h2 : a ≤ 5) (h3 : 0 ≤ s) (h4 : s ≤ a) : hd (eitherP l m) a s = (hd l a s || hd m a s) := by rw [eitherP_tri l m h h', hd_triBy _ a s h1 h2 h3 h4]
theorem not_not (l : List Int) (h : isTri l = true) : notP (notP l) = l := by
  rw [notP_tri _ (isTri_notP l h)]
  refine Eq.trans (triBy_congr _ _ fun a s h1 h2 h3 h4 => ?_) (tri_hd l h)
  show (!(hd (notP l) a s)) = hd l a s
  rw [hd_not l h a s h1 h2 h3 h4, Bool.not_not]
theorem ins_ins (l : List Int) (h : isTri l = true) : insP (insP l) = l := by
  rw [insP_tri _ (isTri_insP l h)]
  refine Eq.trans (triBy_congr _ _ fun a s h1 h2 h3 h4 => ?_) (tri_hd l h)
  show hd (insP l) a (a - s) = hd l a s
  rw [hd_ins l h a (a - s) h1 h2 (by omega) (by omega), show a - (a - s) = s by omega]
theorem ins_not (l : List Int) (h : isTri l = true) : insP (notP l) = notP (insP l) := by
  rw [insP_tri _ (isTri_notP l h), notP_tri _ (isTri_insP l h)]
  refine triBy_congr _ _ fun a s h1 h2 h3 h4 => ?_
  show hd (notP l) a (a - s) = !(hd (insP l) a s)
  rw [hd_not l h a (a - s) h1 h2 (by omega) (by omega), hd_ins l h a s h1 h2 h3 h4]
theorem both_comm (l m : List Int) : bothP l m = bothP m l := by
  by_cases h : isTri l = true ∧ isTri m = true
  · rw [bothP_tri l m h.1 h.2, bothP_tri m l h.2 h.1]
    exact triBy_congr _ _ fun a s _ _ _ _ => Bool.and_comm _ _
  · rw [bothP_none l m h, bothP_none m l (fun g => h ⟨g.2, g.1⟩)]
theorem either_comm (l m : List Int) : eitherP l m = eitherP m l := by
  by_cases h : isTri l = true ∧ isTri m = true
  · rw [eitherP_tri l m h.1 h.2, eitherP_tri m l h.2 h.1]
    exact triBy_congr _ _ fun a s _ _ _ _ => Bool.or_comm _ _
  · rw [eitherP_none l m h, eitherP_none m l (fun g => h ⟨g.2, g.1⟩)]
theorem both_self (l : List Int) (h : isTri l = true) : bothP l l = l := by
  rw [bothP_tri l l h h]
  refine Eq.trans (triBy_congr _ _ fun a s _ _ _ _ => ?_) (tri_hd l h)
  exact Bool.and_self _
theorem both_either (l m : List Int) (h : isTri l = true) (h' : isTri m = true) : bothP l (eitherP l m) = l := by
  rw [bothP_tri l _ h (isTri_eitherP l m h h')]
  refine Eq.trans (triBy_congr _ _ fun a s h1 h2 h3 h4 => ?_) (tri_hd l h)
  show (hd l a s && hd (eitherP l m) a s) = hd l a s
  rw [hd_either l m h h' a s h1 h2 h3 h4]
  cases hd l a s <;> rfl
theorem not_either_not (l m : List Int) (h : isTri l = true) (h' : isTri m = true) : notP (eitherP (notP l) (notP m)) = bothP l m := by
  rw [notP_tri _ (isTri_eitherP _ _ (isTri_notP l h) (isTri_notP m h')), bothP_tri l m h h']
  refine triBy_congr _ _ fun a s h1 h2 h3 h4 => ?_
  show (!(hd (eitherP (notP l) (notP m)) a s)) = (hd l a s && hd m a s)
  rw [hd_either _ _ (isTri_notP l h) (isTri_notP m h') a s h1 h2 h3 h4, hd_not l h a s h1 h2 h3 h4, hd_not m h' a s h1 h2 h3 h4]
  cases hd l a s <;> cases hd m a s <;> rfl
theorem ins_both (l m : List Int) (h : isTri l = true) (h' : isTri m = true) : insP (bothP l m) = bothP (insP l) (insP m) := by
  rw [insP_tri _ (isTri_bothP l m h h'), bothP_tri _ _ (isTri_insP l h) (isTri_insP m h')]
  refine triBy_congr _ _ fun a s h1 h2 h3 h4 => ?_
  show hd (bothP l m) a (a - s) = (hd (insP l) a s && hd (insP m) a s)
  rw [hd_both l m h h' a (a - s) h1 h2 (by omega) (by omega), hd_ins l h a s h1 h2 h3 h4, hd_ins m h' a s h1 h2 h3 h4]
theorem not_both (l m : List Int) (h : isTri l = true) (h' : isTri m = true) : notP (bothP l m) = eitherP (notP l) (notP m) := by
  rw [notP_tri _ (isTri_bothP l m h h'), eitherP_tri _ _ (isTri_notP l h) (isTri_notP m h')]
  refine triBy_congr _ _ fun a s h1 h2 h3 h4 => ?_
  show (!(hd (bothP l m) a s)) = (hd (notP l) a s || hd (notP m) a s)
  rw [hd_both l m h h' a s h1 h2 h3 h4, hd_not l h a s h1 h2 h3 h4, hd_not m h' a s h1 h2 h3 h4]
  cases hd l a s <;> cases hd m a s <;> rfl
theorem tri_ne (so : Int → Int → Bool) : ¬ ((triBy so).length : Int) = 0 := by rw [triBy_eq, triI_length]; omega
theorem named_tri (L : List UInt8) (h : (specNm L).2 = true) : ∃ t, specNm L = (t, true) ∧ isTri t = true := by
  rcases specNm_form L with ⟨a, b, e⟩ | e
  · exact ⟨_, e, isTri_made a b⟩
  · rw [e] at h
    exact absurd h Bool.false_ne_true

end Go.Proofs.Ytbdbklnlpeichaa.P
