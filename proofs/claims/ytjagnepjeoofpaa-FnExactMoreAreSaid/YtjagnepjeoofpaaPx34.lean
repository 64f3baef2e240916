-- Written by wip/gen/lay.py, a program of this session, with the kit's print as its base. Lean checks every line.
import Derived.Test.YtjagnepjeoofpaaPx0
import Derived.Test.YtjagnepjeoofpaaPx28
import Derived.Test.YtjagnepjeoofpaaPx33
namespace Go.Proofs.Ytjagnepjeoofpaa.P
open Go.RowKit Go.Proofs.YtjagnepjeoofpaaW.PrintWords Go.Proofs.YtjagnepjeoofpaaW.PrintLast Go.Proofs.YtjagnepjeoofpaaW.PrintMore
attribute [local go_sem] max2_int min2_int max_two min_two max_three min_three max_four min_four   -- for this text's walks alone
set_option linter.unusedVariables false
set_option linter.unusedSimpArgs false

/-! ### HAND what holds comes to, and what a function value of two numbers hands back -/
theorem holds_here (l : List Int) (a s : Int) (hl : 21 ≤ l.length) (h1 : 0 ≤ a) (h2 : a ≤ 5) (h3 : 0 ≤ s) (h4 : s ≤ a) : impl_holds.f l a s = some (hd l a s) := by
  have hp : impl_placeOf.f a s = some (a * (a + 1) / 2 + s) := by
    unfold impl_placeOf.f
    have ha : a = 0 ∨ a = 1 ∨ a = 2 ∨ a = 3 ∨ a = 4 ∨ a = 5 := by omega
    rcases ha with rfl | rfl | rfl | rfl | rfl | rfl <;> (congr 1; simp [wrap64]; omega)
  have hb : 0 ≤ a * (a + 1) / 2 + s ∧ a * (a + 1) / 2 + s < 21 := by
    have ha : a = 0 ∨ a = 1 ∨ a = 2 ∨ a = 3 ∨ a = 4 ∨ a = 5 := by omega
    rcases ha with rfl | rfl | rfl | rfl | rfl | rfl <;> omega
  unfold impl_holds.f hd
  rw [hp, Option.bind_some, if_pos hb.1, if_pos (by omega)]
/-- What a function value of two numbers hands back, wherever a triangle asks it. -/
def Gives2 (g : Nat) (cap : Array Value) (so : Int → Int → Bool) (w : World) : Prop :=
  ∀ (W : World) (a s : Int), Below w.heap.size w W → 0 ≤ a → a ≤ 5 → 0 ≤ s → s ≤ a →
    Calls Try.prog g (#[.int .i64 a, .int .i64 s] ++ cap) W fun e w' => e = .returned (.bool (so a s)) ∧ Drawn0 W w'

end Go.Proofs.Ytjagnepjeoofpaa.P
