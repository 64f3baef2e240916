-- Written by wip/gen/lay.py, a program of this session, with the kit's print as its base. Lean checks every line.
import Derived.Test.YtpggephoienhlaaPx0
import Derived.Test.YtpggephoienhlaaPx3
import Derived.Test.YtpggephoienhlaaPx5
namespace Go.Proofs.Ytpggephoienhlaa.P
open Go.RowKit Go.Proofs.YtpggephoienhlaaW.PrintWords Go.Proofs.YtpggephoienhlaaW.PrintLast Go.Proofs.YtpggephoienhlaaW.PrintMore
attribute [local go_sem] max2_int min2_int max_two min_two max_three min_three max_four min_four   -- for this text's walks alone
set_option linter.unusedVariables false
set_option linter.unusedSimpArgs false

/-! ### HAND impl_BothOf: function 25 -/
def impl_BothOf.f (l0 : List Int) (l1 : List Int) : Option (List Int) := if (isTri l0 && isTri l1) = true then some (triBy fun a s => hd l0 a s && hd l1 a s) else some []
set_option maxHeartbeats 1000000 in
set_option maxRecDepth 100000 in
theorem impl_BothOf.lit (A0 : Option Addr) (c0 : Nat) (l0 : List Int) (b0 : Nat) (A1 : Option Addr) (c1 : Nat) (l1 : List Int) (b1 : Nat) (W : World) (hl0 : 21 ≤ l0.length) (hl1 : 21 ≤ l1.length) (hb0 : W.cell? ⟨b0, 0, none⟩ = some (.slice A0 l0.length c0)) (hb1 : W.cell? ⟨b1, 0, none⟩ = some (.slice A1 l1.length c1)) (hr0 : Kd.C (Kd.int .i64) W A0 l0.length l0) (hc0 : l0.length ≤ c0) (hr1 : Kd.C (Kd.int .i64) W A1 l1.length l1) (hc1 : l1.length ≤ c1)
    (a s : Int) (h1 : 0 ≤ a) (h2 : a ≤ 5) (h3 : 0 ≤ s) (h4 : s ≤ a) :
    Calls Try.prog 43 #[.int .i64 a, .int .i64 s, .pointer (some ⟨b0, 0, none⟩), .pointer (some ⟨b1, 0, none⟩)] W fun e w' => e = .returned (.bool (hd l0 a s && hd l1 a s)) ∧ Drawn0 W w' := by
  have HR0 := Aside0.mk hr0
  have HC0 := Aside0.mk hc0
  have HR1 := Aside0.mk hr1
  have HC1 := Aside0.mk hc1
  have HH0 := holds_here l0 a s hl0 h1 h2 h3 h4
  have HH1 := holds_here l1 a s hl1 h1 h2 h3 h4
  obtain ⟨x0, e0⟩ : ∃ b, hd l0 a s = b := ⟨_, rfl⟩
  obtain ⟨x1, e1⟩ : ∃ b, hd l1 a s = b := ⟨_, rfl⟩
  rw [e0] at HH0 ⊢
  rw [e1] at HH1 ⊢
  have H0 := Aside0.mk HH0
  have H1 := Aside0.mk HH1
  clear hr0 hc0 hr1 hc1 hl0 hl1 h1 h2 h3 h4 HH0 HH1 e0 e1
  cases x0 <;> cases x1 <;>
  · go_enter Try.func43, Try.ntmps43
    go_wp2_with (first | (go_at_call 44; (with_reducible refine (impl_holds.calls A0 c0 l0 a s _ _ ?s1 HC0.out H0.out).mono ?_); (case s1 => exact HR0.out); rintro e w' ⟨rfl, ⟨nd, rfl⟩⟩) | (go_at_call 44; (with_reducible refine (impl_holds.calls A1 c1 l1 a s _ _ ?s1 HC1.out H1.out).mono ?_); (case s1 => exact HR1.out); rintro e w' ⟨rfl, ⟨nd, rfl⟩⟩))
    go_ret
    exact ⟨rfl, by repeat (first | exact Drawn0.refl _ | apply Drawn0.step)⟩
set_option maxHeartbeats 1000000 in
set_option maxRecDepth 100000 in
theorem impl_BothOf.calls (A0 : Option Addr) (c0 : Nat) (l0 : List Int) (A1 : Option Addr) (c1 : Nat) (l1 : List Int) (r : List Int) (w : World) (hr0 : Kd.C (Kd.int .i64) w A0 l0.length l0) (hc0 : l0.length ≤ c0) (hr1 : Kd.C (Kd.int .i64) w A1 l1.length l1) (hc1 : l1.length ≤ c1) (h : impl_BothOf.f l0 l1 = some r) :
    Calls Try.prog 25 #[.slice A0 l0.length c0, .slice A1 l1.length c1] w fun e w' => ∃ v0_ : Value, e = .returned (v0_) ∧ Kd.R (Kd.int .i64) 3 w' w.heap.size (fun _ => True) v0_ r ∧ Below w.heap.size w w' := by
  have HT0 := Aside0.mk (isTriangle_here l0 hr0.2.1)
  have HT1 := Aside0.mk (isTriangle_here l1 hr1.2.1)
  have HB := Aside0.mk (below_alloc (below_alloc (Below.refl w.heap.size w) (.cells #[.slice A0 l0.length c0] 25)) (.cells #[.slice A1 l1.length c1] 25))
  have HR0 := Aside0.mk (Kd.C_alloc (Kd.C_alloc hr0 (.cells #[.slice A0 l0.length c0] 25)) (.cells #[.slice A1 l1.length c1] 25))
  have HR1 := Aside0.mk (Kd.C_alloc (Kd.C_alloc hr1 (.cells #[.slice A0 l0.length c0] 25)) (.cells #[.slice A1 l1.length c1] 25))
  have HC0 := Aside0.mk hc0
  have HC1 := Aside0.mk hc1
  by_cases ht : (isTri l0 && isTri l1) = true
  · obtain rfl : (triBy fun a s => hd l0 a s && hd l1 a s) = r := by unfold impl_BothOf.f at h; rw [if_pos ht] at h; exact Option.some.inj h
    obtain ⟨t0, t1⟩ := Bool.and_eq_true_iff.mp ht
    have hl0 : 21 ≤ l0.length := Nat.le_of_eq (isTri_length t0).symm
    have hl1 : 21 ≤ l1.length := Nat.le_of_eq (isTri_length t1).symm
    have HS := Aside0.mk (fun (nd : Nat) => show Gives2 43 #[.pointer (some ⟨w.heap.size, 0, none⟩), .pointer (some ⟨w.heap.size + 1, 0, none⟩)] (fun a s => hd l0 a s && hd l1 a s) (((w.alloc (.cells #[.slice A0 l0.length c0] 25)).alloc (.cells #[.slice A1 l1.length c1] 25)).drewN nd) from fun W a s hW h1 h2 h3 h4 =>
      impl_BothOf.lit A0 c0 l0 w.heap.size A1 c1 l1 (w.heap.size + 1) W hl0 hl1 ((hW.cell (p := ⟨w.heap.size, 0, none⟩) (by simp; omega)).trans (by simp)) ((hW.cell (p := ⟨w.heap.size + 1, 0, none⟩) (by simp)).trans (by simp)) (Kd.C_below (Kd.C_drewN HR0.out nd) hW) hc0 (Kd.C_below (Kd.C_drewN HR1.out nd) hW) hc1 a s h1 h2 h3 h4)
    rw [t0] at HT0
    rw [t1] at HT1
    clear h hl0 hl1 t0 t1 ht hr0 hr1 hc0 hc1
    go_enter Try.func25, Try.ntmps25
    go_wp2_with (first | (go_at_call 40; (with_reducible refine (impl_isTriangle.calls _ A0 c0 l0 _ _ ?s1 HC0.out HT0.out).mono ?_); (case s1 => repeat (first | exact HR0.out | (with_reducible refine Kd.C_alloc ?_ _) | (with_reducible refine Kd.C_drewN ?_ _) | (with_reducible refine Kd.C_drew ?_))); rintro e w' ⟨rfl, ⟨nd, rfl⟩⟩) | (go_at_call 40; (with_reducible refine (impl_isTriangle.calls _ A1 c1 l1 _ _ ?s1 HC1.out HT1.out).mono ?_); (case s1 => repeat (first | exact HR1.out | (with_reducible refine Kd.C_alloc ?_ _) | (with_reducible refine Kd.C_drewN ?_ _) | (with_reducible refine Kd.C_drew ?_))); rintro e w' ⟨rfl, ⟨nd, rfl⟩⟩) | (go_at_call 42; refine (impl_triangleBy.calls _ (enters_of Try.func43 (by kernel_rfl) rfl) _ _ _ (HS.out _)).mono ?_; rintro e w' ⟨v, rfl, ho, hb⟩; have n0_ := Aside0.mk (Kd.R_lower ho (below_size (pw_below_drewN HB.out _))); have n1_ := Aside0.mk (below_step (pw_below_drewN HB.out _) hb); clear HB ho hb; have HB := n1_; have HO := n0_; clear n0_ n1_))
    go_ret
    exact ⟨_, rfl, HO.out, HB.out⟩
  · obtain rfl : [] = r := by unfold impl_BothOf.f at h; rw [if_neg ht] at h; exact Option.some.inj h
    obtain ⟨t0, e0⟩ : ∃ b, isTri l0 = b := ⟨_, rfl⟩
    obtain ⟨t1, e1⟩ : ∃ b, isTri l1 = b := ⟨_, rfl⟩
    rw [e0] at HT0 ht
    rw [e1] at HT1 ht
    clear h hr0 hr1 hc0 hc1 e0 e1
    cases t0 <;> cases t1 <;> first | exact absurd rfl ht | skip
    all_goals
      clear ht
      go_enter Try.func25, Try.ntmps25
      go_wp2_with (first | (go_at_call 40; (with_reducible refine (impl_isTriangle.calls _ A0 c0 l0 _ _ ?s1 HC0.out HT0.out).mono ?_); (case s1 => repeat (first | exact HR0.out | (with_reducible refine Kd.C_alloc ?_ _) | (with_reducible refine Kd.C_drewN ?_ _) | (with_reducible refine Kd.C_drew ?_))); rintro e w' ⟨rfl, ⟨nd, rfl⟩⟩) | (go_at_call 40; (with_reducible refine (impl_isTriangle.calls _ A1 c1 l1 _ _ ?s1 HC1.out HT1.out).mono ?_); (case s1 => repeat (first | exact HR1.out | (with_reducible refine Kd.C_alloc ?_ _) | (with_reducible refine Kd.C_drewN ?_ _) | (with_reducible refine Kd.C_drew ?_))); rintro e w' ⟨rfl, ⟨nd, rfl⟩⟩))
      go_ret
      exact ⟨_, rfl, Kd.R_nil _ _ _ _ _, by repeat (first | (with_reducible first | exact HB.out | apply below_alloc | apply pw_below_drewN | apply below_drew1) | exact HB.out)⟩

end Go.Proofs.Ytpggephoienhlaa.P
