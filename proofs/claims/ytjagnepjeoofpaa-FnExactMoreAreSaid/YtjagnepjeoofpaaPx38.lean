-- Written by wip/gen/lay.py, a program of this session, with the kit's print as its base. Lean checks every line.
import Derived.Test.YtjagnepjeoofpaaPx0
import Derived.Test.YtjagnepjeoofpaaPx33
import Derived.Test.YtjagnepjeoofpaaPx34
import Derived.Test.YtjagnepjeoofpaaPx35
namespace Go.Proofs.Ytjagnepjeoofpaa.P
open Go.RowKit Go.Proofs.YtjagnepjeoofpaaW.PrintWords Go.Proofs.YtjagnepjeoofpaaW.PrintLast Go.Proofs.YtjagnepjeoofpaaW.PrintMore
attribute [local go_sem] max2_int min2_int max_two min_two max_three min_three max_four min_four   -- for this text's walks alone
set_option linter.unusedVariables false
set_option linter.unusedSimpArgs false

/-! ### HAND impl_moreDo: function 62 -/
def impl_moreDo.so (l0 : List Int) (a s : Int) : Bool := decide (s = a) || hd l0 a (s + 1)
def impl_moreDo.f (l0 : List Int) : Option Bool := if 21 ≤ l0.length then some (staysP l0 (impl_moreDo.so l0)) else none
set_option maxHeartbeats 1000000 in
set_option maxRecDepth 100000 in
theorem impl_moreDo.lit (A0 : Option Addr) (c0 : Nat) (l0 : List Int) (b : Nat) (W : World) (hl : 21 ≤ l0.length) (hc : W.cell? ⟨b, 0, none⟩ = some (.slice A0 l0.length c0)) (hr0 : Kd.C (Kd.int .i64) W A0 l0.length l0) (hc0 : l0.length ≤ c0)
    (a s : Int) (h1 : 0 ≤ a) (h2 : a ≤ 5) (h3 : 0 ≤ s) (h4 : s ≤ a) :
    Calls Try.prog 70 #[.int .i64 a, .int .i64 s, .pointer (some ⟨b, 0, none⟩)] W fun e w' => e = .returned (.bool (impl_moreDo.so l0 a s)) ∧ Drawn0 W w' := by
  have HR0 := Aside0.mk hr0
  have HC0 := Aside0.mk hc0
  clear hr0 hc0
  by_cases e : s = a
  · have e1 : (s == a) = true := beq_iff_eq.2 e
    have e2 : impl_moreDo.so l0 a s = true := by unfold impl_moreDo.so; rw [decide_eq_true e, Bool.true_or]
    rw [e2]
    clear e e2
    go_enter Try.func70, Try.ntmps70
    go_wp2
    go_ret
    exact ⟨rfl, by repeat (first | exact Drawn0.refl _ | apply Drawn0.step)⟩
  · have e1 : (s == a) = false := beq_eq_false_iff_ne.2 e
    have hh := holds_here l0 a (s + 1) hl (by omega) (by omega) (by omega) (by omega)
    have e2 : impl_moreDo.so l0 a s = hd l0 a (s + 1) := by unfold impl_moreDo.so; rw [decide_eq_false e, Bool.false_or]
    rw [e2]
    obtain ⟨x0, ex⟩ : ∃ b, hd l0 a (s + 1) = b := ⟨_, rfl⟩
    rw [ex] at hh ⊢
    have H1 := Aside0.mk hh
    clear hh e2 ex e
    go_enter Try.func70, Try.ntmps70
    go_wp2_with (first | (go_at_call 69; (with_reducible refine (impl_holds.calls A0 c0 l0 a (s + 1) _ _ ?s1 HC0.out H1.out).mono ?_); (case s1 => repeat (first | exact HR0.out | (with_reducible refine Kd.C_alloc ?_ _) | (with_reducible refine Kd.C_drewN ?_ _) | (with_reducible refine Kd.C_drew ?_))); rintro e w' ⟨rfl, ⟨nd, rfl⟩⟩))
    go_ret
    exact ⟨rfl, by repeat (first | exact Drawn0.refl _ | apply Drawn0.step)⟩
set_option maxHeartbeats 1000000 in
set_option maxRecDepth 100000 in
theorem impl_moreDo.calls (A0 : Option Addr) (c0 : Nat) (l0 : List Int) (r : Bool) (w : World) (hr0 : Kd.C (Kd.int .i64) w A0 l0.length l0) (hc0 : l0.length ≤ c0) (h : impl_moreDo.f l0 = some r) :
    Calls Try.prog 62 #[.slice A0 l0.length c0] w fun e w' => e = .returned (.bool r) ∧ Below w.heap.size w w' := by
  have hl : 21 ≤ l0.length := by
    unfold impl_moreDo.f at h; split at h
    · assumption
    · cases h
  obtain rfl : staysP l0 (impl_moreDo.so l0) = r := by unfold impl_moreDo.f at h; rw [if_pos hl] at h; exact Option.some.inj h
  have HB := Aside0.mk (below_alloc (Below.refl w.heap.size w) (.cells #[.slice A0 l0.length c0] 22))
  have HR0 := Aside0.mk (Kd.C_alloc hr0 (.cells #[.slice A0 l0.length c0] 22))
  have HC0 := Aside0.mk hc0
  have HL := Aside0.mk hl
  have HS := Aside0.mk (show Gives2 70 #[.pointer (some ⟨w.heap.size, 0, none⟩)] (impl_moreDo.so l0) (w.alloc (.cells #[.slice A0 l0.length c0] 22)) from fun W a s hW h1 h2 h3 h4 =>
    impl_moreDo.lit A0 c0 l0 w.heap.size W hl ((hW.cell (p := ⟨w.heap.size, 0, none⟩) (by simp)).trans (by simp)) (Kd.C_below HR0.out hW) hc0 a s h1 h2 h3 h4)
  clear h hl hr0 hc0
  go_enter Try.func62, Try.ntmps62
  go_wp2_with (go_at_call 67; refine (impl_stays.calls _ (enters_of Try.func70 (by kernel_rfl) rfl) _ _ _ _ l0 _ HL.out HR0.out HC0.out HS.out).mono ?_; rintro e w' ⟨rfl, ⟨nd, rfl⟩⟩)
  go_ret
  exact ⟨rfl, by repeat (first | (with_reducible first | exact HB.out | apply below_alloc | apply pw_below_drewN | apply below_drew1) | exact HB.out)⟩

end Go.Proofs.Ytjagnepjeoofpaa.P
