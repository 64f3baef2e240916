-- Texts of this claim, laid one behind the other by wip/gen/merge.py.
import Derived.Test.YtgkifmabdfjejaaZFnNamedTriangle0
import Derived.Test.YtgkifmabdfjejaaZFnNamedTriangle2
-- Written by wip/gen/lay.py, a program of this session, with the kit's print as its base. Lean checks every line.
namespace Go.Proofs.Ytgkifmabdfjejaa.P
open Go.RowKit Go.Proofs.YtgkifmabdfjejaaW.PrintWords Go.Proofs.YtgkifmabdfjejaaW.PrintLast Go.Proofs.YtgkifmabdfjejaaW.PrintMore
attribute [local go_sem] max2_int min2_int max_two min_two max_three min_three max_four min_four   -- for this text's walks alone
set_option linter.unusedVariables false
set_option linter.unusedSimpArgs false

/-! ### HAND impl_namedTriangle: function 42 -/
/-- The rules of the names: every, some, no, most, even; at least n, just n, all but n. -/
def ruleSo (i : Nat) (n a s : Int) : Bool := match i with
  | 0 => s == a
  | 1 => decide (0 < s)
  | 2 => s == 0
  | 3 => decide (a < 2 * s)
  | 4 => s % 2 == 0
  | 5 => decide (n ≤ s)
  | 6 => s == n
  | _ => a - s == n
/-- The number of the plain name that a text is; 5 if it is none. -/
def plainName (l : List UInt8) : Nat := if (l == [101, 118, 101, 114, 121]) = true then 0 else if (l == [115, 111, 109, 101]) = true then 1 else if (l == [110, 111]) = true then 2 else if (l == [109, 111, 115, 116]) = true then 3 else if (l == [101, 118, 101, 110]) = true then 4 else 5
def namedPick (i : Nat) (c1 c2 c3 : Int × Bool) : List Int × Bool :=
  if c3.2 = true then (triBy (ruleSo 7 c3.1), true) else if c2.2 = true then (triBy (ruleSo 6 c2.1), true) else if c1.2 = true then (triBy (ruleSo 5 c1.1), true) else if i < 5 then (triBy (ruleSo i 0), true) else ([], false)
def impl_namedTriangle.f (a0 : ByteArray) : Option (List Int × Bool) :=
  (impl_countIn.f a0 (⟨#[97, 116, 108, 101, 97, 115, 116]⟩ : ByteArray) 1 5).bind fun c1 => (impl_countIn.f a0 (⟨#[106, 117, 115, 116]⟩ : ByteArray) 0 5).bind fun c2 => (impl_countIn.f a0 (⟨#[97, 108, 108, 98, 117, 116]⟩ : ByteArray) 0 5).bind fun c3 => some (namedPick (plainName a0.toList) c1 c2 c3)
set_option maxHeartbeats 2000000 in
set_option maxRecDepth 100000 in
theorem impl_namedTriangle.lit0 (W : World) (a s : Int) (h1 : 0 ≤ a) (h2 : a ≤ 5) (h3 : 0 ≤ s) (h4 : s ≤ a) :
    Calls Try.prog 53 #[.int .i64 a, .int .i64 s] W fun e w' => e = .returned (.bool (ruleSo 0 0 a s)) ∧ Drawn0 W w' := by
  go_enter Try.func53, Try.ntmps53
  go_wp2
  go_ret
  exact ⟨by first | rfl | (simp [ruleSo]; done), by repeat (first | exact Drawn0.refl _ | apply Drawn0.step)⟩
set_option maxHeartbeats 2000000 in
set_option maxRecDepth 100000 in
theorem impl_namedTriangle.lit1 (W : World) (a s : Int) (h1 : 0 ≤ a) (h2 : a ≤ 5) (h3 : 0 ≤ s) (h4 : s ≤ a) :
    Calls Try.prog 54 #[.int .i64 a, .int .i64 s] W fun e w' => e = .returned (.bool (ruleSo 1 0 a s)) ∧ Drawn0 W w' := by
  go_enter Try.func54, Try.ntmps54
  go_wp2
  go_ret
  exact ⟨by first | rfl | (simp [ruleSo]; done), by repeat (first | exact Drawn0.refl _ | apply Drawn0.step)⟩
set_option maxHeartbeats 2000000 in
set_option maxRecDepth 100000 in
theorem impl_namedTriangle.lit2 (W : World) (a s : Int) (h1 : 0 ≤ a) (h2 : a ≤ 5) (h3 : 0 ≤ s) (h4 : s ≤ a) :
    Calls Try.prog 55 #[.int .i64 a, .int .i64 s] W fun e w' => e = .returned (.bool (ruleSo 2 0 a s)) ∧ Drawn0 W w' := by
  go_enter Try.func55, Try.ntmps55
  go_wp2
  go_ret
  exact ⟨by first | rfl | (simp [ruleSo]; done), by repeat (first | exact Drawn0.refl _ | apply Drawn0.step)⟩
set_option maxHeartbeats 2000000 in
set_option maxRecDepth 100000 in
theorem impl_namedTriangle.lit3 (W : World) (a s : Int) (h1 : 0 ≤ a) (h2 : a ≤ 5) (h3 : 0 ≤ s) (h4 : s ≤ a) :
    Calls Try.prog 56 #[.int .i64 a, .int .i64 s] W fun e w' => e = .returned (.bool (ruleSo 3 0 a s)) ∧ Drawn0 W w' := by
  go_enter Try.func56, Try.ntmps56
  go_wp2
  go_ret
  exact ⟨by first | rfl | (simp [ruleSo]; done), by repeat (first | exact Drawn0.refl _ | apply Drawn0.step)⟩
set_option maxHeartbeats 2000000 in
set_option maxRecDepth 100000 in
theorem impl_namedTriangle.lit4 (W : World) (a s : Int) (h1 : 0 ≤ a) (h2 : a ≤ 5) (h3 : 0 ≤ s) (h4 : s ≤ a) :
    Calls Try.prog 57 #[.int .i64 a, .int .i64 s] W fun e w' => e = .returned (.bool (ruleSo 4 0 a s)) ∧ Drawn0 W w' := by
  go_enter Try.func57, Try.ntmps57
  go_wp2
  go_ret
  exact ⟨by first | rfl | (simp [ruleSo]; done), by repeat (first | exact Drawn0.refl _ | apply Drawn0.step)⟩
set_option maxHeartbeats 2000000 in
set_option maxRecDepth 100000 in
theorem impl_namedTriangle.lit5 (n : Int) (b : Nat) (W : World) (hc : W.cell? ⟨b, 0, none⟩ = some (.int .i64 n)) (a s : Int) (h1 : 0 ≤ a) (h2 : a ≤ 5) (h3 : 0 ≤ s) (h4 : s ≤ a) :
    Calls Try.prog 59 #[.int .i64 a, .int .i64 s, .pointer (some ⟨b, 0, none⟩)] W fun e w' => e = .returned (.bool (ruleSo 5 n a s)) ∧ Drawn0 W w' := by
  go_enter Try.func59, Try.ntmps59
  go_wp2
  go_ret
  exact ⟨by first | rfl | (simp [ruleSo]; done), by repeat (first | exact Drawn0.refl _ | apply Drawn0.step)⟩
set_option maxHeartbeats 2000000 in
set_option maxRecDepth 100000 in
theorem impl_namedTriangle.lit6 (n : Int) (b : Nat) (W : World) (hc : W.cell? ⟨b, 0, none⟩ = some (.int .i64 n)) (a s : Int) (h1 : 0 ≤ a) (h2 : a ≤ 5) (h3 : 0 ≤ s) (h4 : s ≤ a) :
    Calls Try.prog 60 #[.int .i64 a, .int .i64 s, .pointer (some ⟨b, 0, none⟩)] W fun e w' => e = .returned (.bool (ruleSo 6 n a s)) ∧ Drawn0 W w' := by
  go_enter Try.func60, Try.ntmps60
  go_wp2
  go_ret
  exact ⟨by first | rfl | (simp [ruleSo]; done), by repeat (first | exact Drawn0.refl _ | apply Drawn0.step)⟩
set_option maxHeartbeats 2000000 in
set_option maxRecDepth 100000 in
theorem impl_namedTriangle.lit7 (n : Int) (b : Nat) (W : World) (hc : W.cell? ⟨b, 0, none⟩ = some (.int .i64 n)) (a s : Int) (h1 : 0 ≤ a) (h2 : a ≤ 5) (h3 : 0 ≤ s) (h4 : s ≤ a) :
    Calls Try.prog 61 #[.int .i64 a, .int .i64 s, .pointer (some ⟨b, 0, none⟩)] W fun e w' => e = .returned (.bool (ruleSo 7 n a s)) ∧ Drawn0 W w' := by
  go_enter Try.func61, Try.ntmps61
  go_wp2
  go_ret
  exact ⟨by first | rfl | (simp [ruleSo]; done), by repeat (first | exact Drawn0.refl _ | apply Drawn0.step)⟩
set_option maxHeartbeats 2000000 in
set_option maxRecDepth 100000 in
theorem impl_namedTriangle.at0 (a0 : ByteArray) (n1 n2 n3 : Int) (b1 b2 b3 : Bool) (h1 : impl_countIn.f a0 (⟨#[97, 116, 108, 101, 97, 115, 116]⟩ : ByteArray) 1 5 = some (n1, b1)) (h2 : impl_countIn.f a0 (⟨#[106, 117, 115, 116]⟩ : ByteArray) 0 5 = some (n2, b2)) (h3 : impl_countIn.f a0 (⟨#[97, 108, 108, 98, 117, 116]⟩ : ByteArray) 0 5 = some (n3, b3)) (e0 : (a0.toList == [101, 118, 101, 114, 121]) = true) (w : World) :
    Calls Try.prog 42 #[.string a0] w fun e w' => ∃ v0_ : Value, e = .returned (.tuple #[v0_, .bool (namedPick 0 (n1, b1) (n2, b2) (n3, b3)).2]) ∧ Kd.R (Kd.int .i64) 3 w' w.heap.size (fun _ => True) v0_ (namedPick 0 (n1, b1) (n2, b2) (n3, b3)).1 ∧ Below w.heap.size w w' := by
  have hrun : ∀ fn f c w, Sem.run Try.prog (binOp BinOp.eql 50 (Value.func fn f c) Value.nilFunc) w = .ok (.bool false) w := fun _ _ _ _ => by kernel_rfl
  have hrun0 : ∀ w, Sem.run Try.prog (binOp BinOp.eql 50 Value.nilFunc Value.nilFunc) w = .ok (.bool true) w := fun _ => by kernel_rfl
  have H1 := Aside0.mk h1
  have H2 := Aside0.mk h2
  have H3 := Aside0.mk h3
  clear h1 h2 h3
  cases b1 <;> cases b2 <;> cases b3
  · go_enter Try.func42, Try.ntmps42
    go_wp2_with fail
    refine (impl_countIn.calls a0 _ 1 5 n1 _ _ H1.out).mono ?_
    rintro e w1 ⟨rfl, hd1⟩
    have HB1 := Aside0.mk hd1.below
    clear hd1
    go_wp2_with fail
    refine (impl_countIn.calls a0 _ 0 5 n2 _ _ H2.out).mono ?_
    rintro e w2 ⟨rfl, hd2⟩
    have HB2 := Aside0.mk hd2.below
    clear hd2
    go_wp2_with fail
    refine (impl_countIn.calls a0 _ 0 5 n3 _ _ H3.out).mono ?_
    rintro e w3 ⟨rfl, hd3⟩
    have HB3 := Aside0.mk hd3.below
    clear hd3
    have HB := Aside0.mk (below_alloc (below_step (below_alloc (below_step (below_alloc HB1.out (.cells #[.int .i64 n1] 3)) HB2.out) (.cells #[.int .i64 n2] 3)) HB3.out) (.cells #[.int .i64 n3] 3))
    have HS := Aside0.mk (show Gives2 53 #[] (ruleSo 0 0) (w3.alloc (.cells #[.int .i64 n3] 3)) from fun W a s _ h1 h2 h3 h4 => impl_namedTriangle.lit0 W a s h1 h2 h3 h4)
    clear HB1 HB2 HB3 H1 H2 H3
    go_wp2_with fail
    refine (impl_triangleBy.calls _ (enters_of Try.func53 (by kernel_rfl) rfl) _ _ _ HS.out).mono ?_
    rintro e w4 ⟨v, rfl, ho, hb⟩
    have HO := Aside0.mk (Kd.R_lower ho (below_size HB.out))
    have HB4 := Aside0.mk (below_step HB.out hb)
    clear ho hb HB HS
    go_wp2
    go_ret2
    exact ⟨_, rfl, HO.out, HB4.out⟩
  · go_enter Try.func42, Try.ntmps42
    go_wp2_with fail
    refine (impl_countIn.calls a0 _ 1 5 n1 _ _ H1.out).mono ?_
    rintro e w1 ⟨rfl, hd1⟩
    have HB1 := Aside0.mk hd1.below
    clear hd1
    go_wp2_with fail
    refine (impl_countIn.calls a0 _ 0 5 n2 _ _ H2.out).mono ?_
    rintro e w2 ⟨rfl, hd2⟩
    have HB2 := Aside0.mk hd2.below
    clear hd2
    go_wp2_with fail
    refine (impl_countIn.calls a0 _ 0 5 n3 _ _ H3.out).mono ?_
    rintro e w3 ⟨rfl, hd3⟩
    have HB3 := Aside0.mk hd3.below
    clear hd3
    have HB := Aside0.mk (below_alloc (below_step (below_alloc (below_step (below_alloc HB1.out (.cells #[.int .i64 n1] 3)) HB2.out) (.cells #[.int .i64 n2] 3)) HB3.out) (.cells #[.int .i64 n3] 3))
    have HS := Aside0.mk (show Gives2 61 #[.pointer (some ⟨w3.heap.size, 0, none⟩)] (ruleSo 7 n3) (w3.alloc (.cells #[.int .i64 n3] 3)) from fun W a s hW h1 h2 h3 h4 => impl_namedTriangle.lit7 n3 w3.heap.size W ((hW.cell (p := ⟨w3.heap.size, 0, none⟩) (by simp)).trans (by simp)) a s h1 h2 h3 h4)
    clear HB1 HB2 HB3 H1 H2 H3
    go_wp2_with fail
    refine (impl_triangleBy.calls _ (enters_of Try.func61 (by kernel_rfl) rfl) _ _ _ HS.out).mono ?_
    rintro e w4 ⟨v, rfl, ho, hb⟩
    have HO := Aside0.mk (Kd.R_lower ho (below_size HB.out))
    have HB4 := Aside0.mk (below_step HB.out hb)
    clear ho hb HB HS
    go_wp2
    go_ret2
    exact ⟨_, rfl, HO.out, HB4.out⟩
  · go_enter Try.func42, Try.ntmps42
    go_wp2_with fail
    refine (impl_countIn.calls a0 _ 1 5 n1 _ _ H1.out).mono ?_
    rintro e w1 ⟨rfl, hd1⟩
    have HB1 := Aside0.mk hd1.below
    clear hd1
    go_wp2_with fail
    refine (impl_countIn.calls a0 _ 0 5 n2 _ _ H2.out).mono ?_
    rintro e w2 ⟨rfl, hd2⟩
    have HB2 := Aside0.mk hd2.below
    clear hd2
    go_wp2_with fail
    refine (impl_countIn.calls a0 _ 0 5 n3 _ _ H3.out).mono ?_
    rintro e w3 ⟨rfl, hd3⟩
    have HB3 := Aside0.mk hd3.below
    clear hd3
    have HB := Aside0.mk (below_alloc (below_step (below_alloc (below_step (below_alloc HB1.out (.cells #[.int .i64 n1] 3)) HB2.out) (.cells #[.int .i64 n2] 3)) HB3.out) (.cells #[.int .i64 n3] 3))
    have HS := Aside0.mk (show Gives2 60 #[.pointer (some ⟨w2.heap.size, 0, none⟩)] (ruleSo 6 n2) (w3.alloc (.cells #[.int .i64 n3] 3)) from fun W a s hW h1 h2 h3 h4 => impl_namedTriangle.lit6 n2 w2.heap.size W ((hW.cell (p := ⟨w2.heap.size, 0, none⟩) (by have := HB3.out.size; simp at this ⊢; omega)).trans ((World.cell?_alloc_past _ _ _ (by have := HB3.out.size; simp at this; omega)).trans ((HB3.out.cell (p := ⟨w2.heap.size, 0, none⟩) (by simp)).trans (by simp)))) a s h1 h2 h3 h4)
    clear HB1 HB2 HB3 H1 H2 H3
    go_wp2_with fail
    refine (impl_triangleBy.calls _ (enters_of Try.func60 (by kernel_rfl) rfl) _ _ _ HS.out).mono ?_
    rintro e w4 ⟨v, rfl, ho, hb⟩
    have HO := Aside0.mk (Kd.R_lower ho (below_size HB.out))
    have HB4 := Aside0.mk (below_step HB.out hb)
    clear ho hb HB HS
    go_wp2
    go_ret2
    exact ⟨_, rfl, HO.out, HB4.out⟩
  · go_enter Try.func42, Try.ntmps42
    go_wp2_with fail
    refine (impl_countIn.calls a0 _ 1 5 n1 _ _ H1.out).mono ?_
    rintro e w1 ⟨rfl, hd1⟩
    have HB1 := Aside0.mk hd1.below
    clear hd1
    go_wp2_with fail
    refine (impl_countIn.calls a0 _ 0 5 n2 _ _ H2.out).mono ?_
    rintro e w2 ⟨rfl, hd2⟩
    have HB2 := Aside0.mk hd2.below
    clear hd2
    go_wp2_with fail
    refine (impl_countIn.calls a0 _ 0 5 n3 _ _ H3.out).mono ?_
    rintro e w3 ⟨rfl, hd3⟩
    have HB3 := Aside0.mk hd3.below
    clear hd3
    have HB := Aside0.mk (below_alloc (below_step (below_alloc (below_step (below_alloc HB1.out (.cells #[.int .i64 n1] 3)) HB2.out) (.cells #[.int .i64 n2] 3)) HB3.out) (.cells #[.int .i64 n3] 3))
    have HS := Aside0.mk (show Gives2 61 #[.pointer (some ⟨w3.heap.size, 0, none⟩)] (ruleSo 7 n3) (w3.alloc (.cells #[.int .i64 n3] 3)) from fun W a s hW h1 h2 h3 h4 => impl_namedTriangle.lit7 n3 w3.heap.size W ((hW.cell (p := ⟨w3.heap.size, 0, none⟩) (by simp)).trans (by simp)) a s h1 h2 h3 h4)
    clear HB1 HB2 HB3 H1 H2 H3
    go_wp2_with fail
    refine (impl_triangleBy.calls _ (enters_of Try.func61 (by kernel_rfl) rfl) _ _ _ HS.out).mono ?_
    rintro e w4 ⟨v, rfl, ho, hb⟩
    have HO := Aside0.mk (Kd.R_lower ho (below_size HB.out))
    have HB4 := Aside0.mk (below_step HB.out hb)
    clear ho hb HB HS
    go_wp2
    go_ret2
    exact ⟨_, rfl, HO.out, HB4.out⟩
  · go_enter Try.func42, Try.ntmps42
    go_wp2_with fail
    refine (impl_countIn.calls a0 _ 1 5 n1 _ _ H1.out).mono ?_
    rintro e w1 ⟨rfl, hd1⟩
    have HB1 := Aside0.mk hd1.below
    clear hd1
    go_wp2_with fail
    refine (impl_countIn.calls a0 _ 0 5 n2 _ _ H2.out).mono ?_
    rintro e w2 ⟨rfl, hd2⟩
    have HB2 := Aside0.mk hd2.below
    clear hd2
    go_wp2_with fail
    refine (impl_countIn.calls a0 _ 0 5 n3 _ _ H3.out).mono ?_
    rintro e w3 ⟨rfl, hd3⟩
    have HB3 := Aside0.mk hd3.below
    clear hd3
    have HB := Aside0.mk (below_alloc (below_step (below_alloc (below_step (below_alloc HB1.out (.cells #[.int .i64 n1] 3)) HB2.out) (.cells #[.int .i64 n2] 3)) HB3.out) (.cells #[.int .i64 n3] 3))
    have HS := Aside0.mk (show Gives2 59 #[.pointer (some ⟨w1.heap.size, 0, none⟩)] (ruleSo 5 n1) (w3.alloc (.cells #[.int .i64 n3] 3)) from fun W a s hW h1 h2 h3 h4 => impl_namedTriangle.lit5 n1 w1.heap.size W ((hW.cell (p := ⟨w1.heap.size, 0, none⟩) (by have := HB3.out.size; have := HB2.out.size; simp at *; omega)).trans ((World.cell?_alloc_past _ _ _ (by have := HB3.out.size; have := HB2.out.size; simp at *; omega)).trans ((HB3.out.cell (p := ⟨w1.heap.size, 0, none⟩) (by have := HB2.out.size; simp at *; omega)).trans ((World.cell?_alloc_past _ _ _ (by have := HB2.out.size; simp at *; omega)).trans ((HB2.out.cell (p := ⟨w1.heap.size, 0, none⟩) (by simp)).trans (by simp)))))) a s h1 h2 h3 h4)
    clear HB1 HB2 HB3 H1 H2 H3
    go_wp2_with fail
    refine (impl_triangleBy.calls _ (enters_of Try.func59 (by kernel_rfl) rfl) _ _ _ HS.out).mono ?_
    rintro e w4 ⟨v, rfl, ho, hb⟩
    have HO := Aside0.mk (Kd.R_lower ho (below_size HB.out))
    have HB4 := Aside0.mk (below_step HB.out hb)
    clear ho hb HB HS
    go_wp2
    go_ret2
    exact ⟨_, rfl, HO.out, HB4.out⟩
  · go_enter Try.func42, Try.ntmps42
    go_wp2_with fail
    refine (impl_countIn.calls a0 _ 1 5 n1 _ _ H1.out).mono ?_
    rintro e w1 ⟨rfl, hd1⟩
    have HB1 := Aside0.mk hd1.below
    clear hd1
    go_wp2_with fail
    refine (impl_countIn.calls a0 _ 0 5 n2 _ _ H2.out).mono ?_
    rintro e w2 ⟨rfl, hd2⟩
    have HB2 := Aside0.mk hd2.below
    clear hd2
    go_wp2_with fail
    refine (impl_countIn.calls a0 _ 0 5 n3 _ _ H3.out).mono ?_
    rintro e w3 ⟨rfl, hd3⟩
    have HB3 := Aside0.mk hd3.below
    clear hd3
    have HB := Aside0.mk (below_alloc (below_step (below_alloc (below_step (below_alloc HB1.out (.cells #[.int .i64 n1] 3)) HB2.out) (.cells #[.int .i64 n2] 3)) HB3.out) (.cells #[.int .i64 n3] 3))
    have HS := Aside0.mk (show Gives2 61 #[.pointer (some ⟨w3.heap.size, 0, none⟩)] (ruleSo 7 n3) (w3.alloc (.cells #[.int .i64 n3] 3)) from fun W a s hW h1 h2 h3 h4 => impl_namedTriangle.lit7 n3 w3.heap.size W ((hW.cell (p := ⟨w3.heap.size, 0, none⟩) (by simp)).trans (by simp)) a s h1 h2 h3 h4)
    clear HB1 HB2 HB3 H1 H2 H3
    go_wp2_with fail
    refine (impl_triangleBy.calls _ (enters_of Try.func61 (by kernel_rfl) rfl) _ _ _ HS.out).mono ?_
    rintro e w4 ⟨v, rfl, ho, hb⟩
    have HO := Aside0.mk (Kd.R_lower ho (below_size HB.out))
    have HB4 := Aside0.mk (below_step HB.out hb)
    clear ho hb HB HS
    go_wp2
    go_ret2
    exact ⟨_, rfl, HO.out, HB4.out⟩
  · go_enter Try.func42, Try.ntmps42
    go_wp2_with fail
    refine (impl_countIn.calls a0 _ 1 5 n1 _ _ H1.out).mono ?_
    rintro e w1 ⟨rfl, hd1⟩
    have HB1 := Aside0.mk hd1.below
    clear hd1
    go_wp2_with fail
    refine (impl_countIn.calls a0 _ 0 5 n2 _ _ H2.out).mono ?_
    rintro e w2 ⟨rfl, hd2⟩
    have HB2 := Aside0.mk hd2.below
    clear hd2
    go_wp2_with fail
    refine (impl_countIn.calls a0 _ 0 5 n3 _ _ H3.out).mono ?_
    rintro e w3 ⟨rfl, hd3⟩
    have HB3 := Aside0.mk hd3.below
    clear hd3
    have HB := Aside0.mk (below_alloc (below_step (below_alloc (below_step (below_alloc HB1.out (.cells #[.int .i64 n1] 3)) HB2.out) (.cells #[.int .i64 n2] 3)) HB3.out) (.cells #[.int .i64 n3] 3))
    have HS := Aside0.mk (show Gives2 60 #[.pointer (some ⟨w2.heap.size, 0, none⟩)] (ruleSo 6 n2) (w3.alloc (.cells #[.int .i64 n3] 3)) from fun W a s hW h1 h2 h3 h4 => impl_namedTriangle.lit6 n2 w2.heap.size W ((hW.cell (p := ⟨w2.heap.size, 0, none⟩) (by have := HB3.out.size; simp at this ⊢; omega)).trans ((World.cell?_alloc_past _ _ _ (by have := HB3.out.size; simp at this; omega)).trans ((HB3.out.cell (p := ⟨w2.heap.size, 0, none⟩) (by simp)).trans (by simp)))) a s h1 h2 h3 h4)
    clear HB1 HB2 HB3 H1 H2 H3
    go_wp2_with fail
    refine (impl_triangleBy.calls _ (enters_of Try.func60 (by kernel_rfl) rfl) _ _ _ HS.out).mono ?_
    rintro e w4 ⟨v, rfl, ho, hb⟩
    have HO := Aside0.mk (Kd.R_lower ho (below_size HB.out))
    have HB4 := Aside0.mk (below_step HB.out hb)
    clear ho hb HB HS
    go_wp2
    go_ret2
    exact ⟨_, rfl, HO.out, HB4.out⟩
  · go_enter Try.func42, Try.ntmps42
    go_wp2_with fail
    refine (impl_countIn.calls a0 _ 1 5 n1 _ _ H1.out).mono ?_
    rintro e w1 ⟨rfl, hd1⟩
    have HB1 := Aside0.mk hd1.below
    clear hd1
    go_wp2_with fail
    refine (impl_countIn.calls a0 _ 0 5 n2 _ _ H2.out).mono ?_
    rintro e w2 ⟨rfl, hd2⟩
    have HB2 := Aside0.mk hd2.below
    clear hd2
    go_wp2_with fail
    refine (impl_countIn.calls a0 _ 0 5 n3 _ _ H3.out).mono ?_
    rintro e w3 ⟨rfl, hd3⟩
    have HB3 := Aside0.mk hd3.below
    clear hd3
    have HB := Aside0.mk (below_alloc (below_step (below_alloc (below_step (below_alloc HB1.out (.cells #[.int .i64 n1] 3)) HB2.out) (.cells #[.int .i64 n2] 3)) HB3.out) (.cells #[.int .i64 n3] 3))
    have HS := Aside0.mk (show Gives2 61 #[.pointer (some ⟨w3.heap.size, 0, none⟩)] (ruleSo 7 n3) (w3.alloc (.cells #[.int .i64 n3] 3)) from fun W a s hW h1 h2 h3 h4 => impl_namedTriangle.lit7 n3 w3.heap.size W ((hW.cell (p := ⟨w3.heap.size, 0, none⟩) (by simp)).trans (by simp)) a s h1 h2 h3 h4)
    clear HB1 HB2 HB3 H1 H2 H3
    go_wp2_with fail
    refine (impl_triangleBy.calls _ (enters_of Try.func61 (by kernel_rfl) rfl) _ _ _ HS.out).mono ?_
    rintro e w4 ⟨v, rfl, ho, hb⟩
    have HO := Aside0.mk (Kd.R_lower ho (below_size HB.out))
    have HB4 := Aside0.mk (below_step HB.out hb)
    clear ho hb HB HS
    go_wp2
    go_ret2
    exact ⟨_, rfl, HO.out, HB4.out⟩
set_option maxHeartbeats 2000000 in
set_option maxRecDepth 100000 in
theorem impl_namedTriangle.at1 (a0 : ByteArray) (n1 n2 n3 : Int) (b1 b2 b3 : Bool) (h1 : impl_countIn.f a0 (⟨#[97, 116, 108, 101, 97, 115, 116]⟩ : ByteArray) 1 5 = some (n1, b1)) (h2 : impl_countIn.f a0 (⟨#[106, 117, 115, 116]⟩ : ByteArray) 0 5 = some (n2, b2)) (h3 : impl_countIn.f a0 (⟨#[97, 108, 108, 98, 117, 116]⟩ : ByteArray) 0 5 = some (n3, b3)) (e0 : (a0.toList == [101, 118, 101, 114, 121]) = false) (e1 : (a0.toList == [115, 111, 109, 101]) = true) (w : World) :
    Calls Try.prog 42 #[.string a0] w fun e w' => ∃ v0_ : Value, e = .returned (.tuple #[v0_, .bool (namedPick 1 (n1, b1) (n2, b2) (n3, b3)).2]) ∧ Kd.R (Kd.int .i64) 3 w' w.heap.size (fun _ => True) v0_ (namedPick 1 (n1, b1) (n2, b2) (n3, b3)).1 ∧ Below w.heap.size w w' := by
  have hrun : ∀ fn f c w, Sem.run Try.prog (binOp BinOp.eql 50 (Value.func fn f c) Value.nilFunc) w = .ok (.bool false) w := fun _ _ _ _ => by kernel_rfl
  have hrun0 : ∀ w, Sem.run Try.prog (binOp BinOp.eql 50 Value.nilFunc Value.nilFunc) w = .ok (.bool true) w := fun _ => by kernel_rfl
  have H1 := Aside0.mk h1
  have H2 := Aside0.mk h2
  have H3 := Aside0.mk h3
  clear h1 h2 h3
  cases b1 <;> cases b2 <;> cases b3
  · go_enter Try.func42, Try.ntmps42
    go_wp2_with fail
    refine (impl_countIn.calls a0 _ 1 5 n1 _ _ H1.out).mono ?_
    rintro e w1 ⟨rfl, hd1⟩
    have HB1 := Aside0.mk hd1.below
    clear hd1
    go_wp2_with fail
    refine (impl_countIn.calls a0 _ 0 5 n2 _ _ H2.out).mono ?_
    rintro e w2 ⟨rfl, hd2⟩
    have HB2 := Aside0.mk hd2.below
    clear hd2
    go_wp2_with fail
    refine (impl_countIn.calls a0 _ 0 5 n3 _ _ H3.out).mono ?_
    rintro e w3 ⟨rfl, hd3⟩
    have HB3 := Aside0.mk hd3.below
    clear hd3
    have HB := Aside0.mk (below_alloc (below_step (below_alloc (below_step (below_alloc HB1.out (.cells #[.int .i64 n1] 3)) HB2.out) (.cells #[.int .i64 n2] 3)) HB3.out) (.cells #[.int .i64 n3] 3))
    have HS := Aside0.mk (show Gives2 54 #[] (ruleSo 1 0) (w3.alloc (.cells #[.int .i64 n3] 3)) from fun W a s _ h1 h2 h3 h4 => impl_namedTriangle.lit1 W a s h1 h2 h3 h4)
    clear HB1 HB2 HB3 H1 H2 H3
    go_wp2_with fail
    refine (impl_triangleBy.calls _ (enters_of Try.func54 (by kernel_rfl) rfl) _ _ _ HS.out).mono ?_
    rintro e w4 ⟨v, rfl, ho, hb⟩
    have HO := Aside0.mk (Kd.R_lower ho (below_size HB.out))
    have HB4 := Aside0.mk (below_step HB.out hb)
    clear ho hb HB HS
    go_wp2
    go_ret2
    exact ⟨_, rfl, HO.out, HB4.out⟩
  · go_enter Try.func42, Try.ntmps42
    go_wp2_with fail
    refine (impl_countIn.calls a0 _ 1 5 n1 _ _ H1.out).mono ?_
    rintro e w1 ⟨rfl, hd1⟩
    have HB1 := Aside0.mk hd1.below
    clear hd1
    go_wp2_with fail
    refine (impl_countIn.calls a0 _ 0 5 n2 _ _ H2.out).mono ?_
    rintro e w2 ⟨rfl, hd2⟩
    have HB2 := Aside0.mk hd2.below
    clear hd2
    go_wp2_with fail
    refine (impl_countIn.calls a0 _ 0 5 n3 _ _ H3.out).mono ?_
    rintro e w3 ⟨rfl, hd3⟩
    have HB3 := Aside0.mk hd3.below
    clear hd3
    have HB := Aside0.mk (below_alloc (below_step (below_alloc (below_step (below_alloc HB1.out (.cells #[.int .i64 n1] 3)) HB2.out) (.cells #[.int .i64 n2] 3)) HB3.out) (.cells #[.int .i64 n3] 3))
    have HS := Aside0.mk (show Gives2 61 #[.pointer (some ⟨w3.heap.size, 0, none⟩)] (ruleSo 7 n3) (w3.alloc (.cells #[.int .i64 n3] 3)) from fun W a s hW h1 h2 h3 h4 => impl_namedTriangle.lit7 n3 w3.heap.size W ((hW.cell (p := ⟨w3.heap.size, 0, none⟩) (by simp)).trans (by simp)) a s h1 h2 h3 h4)
    clear HB1 HB2 HB3 H1 H2 H3
    go_wp2_with fail
    refine (impl_triangleBy.calls _ (enters_of Try.func61 (by kernel_rfl) rfl) _ _ _ HS.out).mono ?_
    rintro e w4 ⟨v, rfl, ho, hb⟩
    have HO := Aside0.mk (Kd.R_lower ho (below_size HB.out))
    have HB4 := Aside0.mk (below_step HB.out hb)
    clear ho hb HB HS
    go_wp2
    go_ret2
    exact ⟨_, rfl, HO.out, HB4.out⟩
  · go_enter Try.func42, Try.ntmps42
    go_wp2_with fail
    refine (impl_countIn.calls a0 _ 1 5 n1 _ _ H1.out).mono ?_
    rintro e w1 ⟨rfl, hd1⟩
    have HB1 := Aside0.mk hd1.below
    clear hd1
    go_wp2_with fail
    refine (impl_countIn.calls a0 _ 0 5 n2 _ _ H2.out).mono ?_
    rintro e w2 ⟨rfl, hd2⟩
    have HB2 := Aside0.mk hd2.below
    clear hd2
    go_wp2_with fail
    refine (impl_countIn.calls a0 _ 0 5 n3 _ _ H3.out).mono ?_
    rintro e w3 ⟨rfl, hd3⟩
    have HB3 := Aside0.mk hd3.below
    clear hd3
    have HB := Aside0.mk (below_alloc (below_step (below_alloc (below_step (below_alloc HB1.out (.cells #[.int .i64 n1] 3)) HB2.out) (.cells #[.int .i64 n2] 3)) HB3.out) (.cells #[.int .i64 n3] 3))
    have HS := Aside0.mk (show Gives2 60 #[.pointer (some ⟨w2.heap.size, 0, none⟩)] (ruleSo 6 n2) (w3.alloc (.cells #[.int .i64 n3] 3)) from fun W a s hW h1 h2 h3 h4 => impl_namedTriangle.lit6 n2 w2.heap.size W ((hW.cell (p := ⟨w2.heap.size, 0, none⟩) (by have := HB3.out.size; simp at this ⊢; omega)).trans ((World.cell?_alloc_past _ _ _ (by have := HB3.out.size; simp at this; omega)).trans ((HB3.out.cell (p := ⟨w2.heap.size, 0, none⟩) (by simp)).trans (by simp)))) a s h1 h2 h3 h4)
    clear HB1 HB2 HB3 H1 H2 H3
    go_wp2_with fail
    refine (impl_triangleBy.calls _ (enters_of Try.func60 (by kernel_rfl) rfl) _ _ _ HS.out).mono ?_
    rintro e w4 ⟨v, rfl, ho, hb⟩
    have HO := Aside0.mk (Kd.R_lower ho (below_size HB.out))
    have HB4 := Aside0.mk (below_step HB.out hb)
    clear ho hb HB HS
    go_wp2
    go_ret2
    exact ⟨_, rfl, HO.out, HB4.out⟩
  · go_enter Try.func42, Try.ntmps42
    go_wp2_with fail
    refine (impl_countIn.calls a0 _ 1 5 n1 _ _ H1.out).mono ?_
    rintro e w1 ⟨rfl, hd1⟩
    have HB1 := Aside0.mk hd1.below
    clear hd1
    go_wp2_with fail
    refine (impl_countIn.calls a0 _ 0 5 n2 _ _ H2.out).mono ?_
    rintro e w2 ⟨rfl, hd2⟩
    have HB2 := Aside0.mk hd2.below
    clear hd2
    go_wp2_with fail
    refine (impl_countIn.calls a0 _ 0 5 n3 _ _ H3.out).mono ?_
    rintro e w3 ⟨rfl, hd3⟩
    have HB3 := Aside0.mk hd3.below
    clear hd3
    have HB := Aside0.mk (below_alloc (below_step (below_alloc (below_step (below_alloc HB1.out (.cells #[.int .i64 n1] 3)) HB2.out) (.cells #[.int .i64 n2] 3)) HB3.out) (.cells #[.int .i64 n3] 3))
    have HS := Aside0.mk (show Gives2 61 #[.pointer (some ⟨w3.heap.size, 0, none⟩)] (ruleSo 7 n3) (w3.alloc (.cells #[.int .i64 n3] 3)) from fun W a s hW h1 h2 h3 h4 => impl_namedTriangle.lit7 n3 w3.heap.size W ((hW.cell (p := ⟨w3.heap.size, 0, none⟩) (by simp)).trans (by simp)) a s h1 h2 h3 h4)
    clear HB1 HB2 HB3 H1 H2 H3
    go_wp2_with fail
    refine (impl_triangleBy.calls _ (enters_of Try.func61 (by kernel_rfl) rfl) _ _ _ HS.out).mono ?_
    rintro e w4 ⟨v, rfl, ho, hb⟩
    have HO := Aside0.mk (Kd.R_lower ho (below_size HB.out))
    have HB4 := Aside0.mk (below_step HB.out hb)
    clear ho hb HB HS
    go_wp2
    go_ret2
    exact ⟨_, rfl, HO.out, HB4.out⟩
  · go_enter Try.func42, Try.ntmps42
    go_wp2_with fail
    refine (impl_countIn.calls a0 _ 1 5 n1 _ _ H1.out).mono ?_
    rintro e w1 ⟨rfl, hd1⟩
    have HB1 := Aside0.mk hd1.below
    clear hd1
    go_wp2_with fail
    refine (impl_countIn.calls a0 _ 0 5 n2 _ _ H2.out).mono ?_
    rintro e w2 ⟨rfl, hd2⟩
    have HB2 := Aside0.mk hd2.below
    clear hd2
    go_wp2_with fail
    refine (impl_countIn.calls a0 _ 0 5 n3 _ _ H3.out).mono ?_
    rintro e w3 ⟨rfl, hd3⟩
    have HB3 := Aside0.mk hd3.below
    clear hd3
    have HB := Aside0.mk (below_alloc (below_step (below_alloc (below_step (below_alloc HB1.out (.cells #[.int .i64 n1] 3)) HB2.out) (.cells #[.int .i64 n2] 3)) HB3.out) (.cells #[.int .i64 n3] 3))
    have HS := Aside0.mk (show Gives2 59 #[.pointer (some ⟨w1.heap.size, 0, none⟩)] (ruleSo 5 n1) (w3.alloc (.cells #[.int .i64 n3] 3)) from fun W a s hW h1 h2 h3 h4 => impl_namedTriangle.lit5 n1 w1.heap.size W ((hW.cell (p := ⟨w1.heap.size, 0, none⟩) (by have := HB3.out.size; have := HB2.out.size; simp at *; omega)).trans ((World.cell?_alloc_past _ _ _ (by have := HB3.out.size; have := HB2.out.size; simp at *; omega)).trans ((HB3.out.cell (p := ⟨w1.heap.size, 0, none⟩) (by have := HB2.out.size; simp at *; omega)).trans ((World.cell?_alloc_past _ _ _ (by have := HB2.out.size; simp at *; omega)).trans ((HB2.out.cell (p := ⟨w1.heap.size, 0, none⟩) (by simp)).trans (by simp)))))) a s h1 h2 h3 h4)
    clear HB1 HB2 HB3 H1 H2 H3
    go_wp2_with fail
    refine (impl_triangleBy.calls _ (enters_of Try.func59 (by kernel_rfl) rfl) _ _ _ HS.out).mono ?_
    rintro e w4 ⟨v, rfl, ho, hb⟩
    have HO := Aside0.mk (Kd.R_lower ho (below_size HB.out))
    have HB4 := Aside0.mk (below_step HB.out hb)
    clear ho hb HB HS
    go_wp2
    go_ret2
    exact ⟨_, rfl, HO.out, HB4.out⟩
  · go_enter Try.func42, Try.ntmps42
    go_wp2_with fail
    refine (impl_countIn.calls a0 _ 1 5 n1 _ _ H1.out).mono ?_
    rintro e w1 ⟨rfl, hd1⟩
    have HB1 := Aside0.mk hd1.below
    clear hd1
    go_wp2_with fail
    refine (impl_countIn.calls a0 _ 0 5 n2 _ _ H2.out).mono ?_
    rintro e w2 ⟨rfl, hd2⟩
    have HB2 := Aside0.mk hd2.below
    clear hd2
    go_wp2_with fail
    refine (impl_countIn.calls a0 _ 0 5 n3 _ _ H3.out).mono ?_
    rintro e w3 ⟨rfl, hd3⟩
    have HB3 := Aside0.mk hd3.below
    clear hd3
    have HB := Aside0.mk (below_alloc (below_step (below_alloc (below_step (below_alloc HB1.out (.cells #[.int .i64 n1] 3)) HB2.out) (.cells #[.int .i64 n2] 3)) HB3.out) (.cells #[.int .i64 n3] 3))
    have HS := Aside0.mk (show Gives2 61 #[.pointer (some ⟨w3.heap.size, 0, none⟩)] (ruleSo 7 n3) (w3.alloc (.cells #[.int .i64 n3] 3)) from fun W a s hW h1 h2 h3 h4 => impl_namedTriangle.lit7 n3 w3.heap.size W ((hW.cell (p := ⟨w3.heap.size, 0, none⟩) (by simp)).trans (by simp)) a s h1 h2 h3 h4)
    clear HB1 HB2 HB3 H1 H2 H3
    go_wp2_with fail
    refine (impl_triangleBy.calls _ (enters_of Try.func61 (by kernel_rfl) rfl) _ _ _ HS.out).mono ?_
    rintro e w4 ⟨v, rfl, ho, hb⟩
    have HO := Aside0.mk (Kd.R_lower ho (below_size HB.out))
    have HB4 := Aside0.mk (below_step HB.out hb)
    clear ho hb HB HS
    go_wp2
    go_ret2
    exact ⟨_, rfl, HO.out, HB4.out⟩
  · go_enter Try.func42, Try.ntmps42
    go_wp2_with fail
    refine (impl_countIn.calls a0 _ 1 5 n1 _ _ H1.out).mono ?_
    rintro e w1 ⟨rfl, hd1⟩
    have HB1 := Aside0.mk hd1.below
    clear hd1
    go_wp2_with fail
    refine (impl_countIn.calls a0 _ 0 5 n2 _ _ H2.out).mono ?_
    rintro e w2 ⟨rfl, hd2⟩
    have HB2 := Aside0.mk hd2.below
    clear hd2
    go_wp2_with fail
    refine (impl_countIn.calls a0 _ 0 5 n3 _ _ H3.out).mono ?_
    rintro e w3 ⟨rfl, hd3⟩
    have HB3 := Aside0.mk hd3.below
    clear hd3
    have HB := Aside0.mk (below_alloc (below_step (below_alloc (below_step (below_alloc HB1.out (.cells #[.int .i64 n1] 3)) HB2.out) (.cells #[.int .i64 n2] 3)) HB3.out) (.cells #[.int .i64 n3] 3))
    have HS := Aside0.mk (show Gives2 60 #[.pointer (some ⟨w2.heap.size, 0, none⟩)] (ruleSo 6 n2) (w3.alloc (.cells #[.int .i64 n3] 3)) from fun W a s hW h1 h2 h3 h4 => impl_namedTriangle.lit6 n2 w2.heap.size W ((hW.cell (p := ⟨w2.heap.size, 0, none⟩) (by have := HB3.out.size; simp at this ⊢; omega)).trans ((World.cell?_alloc_past _ _ _ (by have := HB3.out.size; simp at this; omega)).trans ((HB3.out.cell (p := ⟨w2.heap.size, 0, none⟩) (by simp)).trans (by simp)))) a s h1 h2 h3 h4)
    clear HB1 HB2 HB3 H1 H2 H3
    go_wp2_with fail
    refine (impl_triangleBy.calls _ (enters_of Try.func60 (by kernel_rfl) rfl) _ _ _ HS.out).mono ?_
    rintro e w4 ⟨v, rfl, ho, hb⟩
    have HO := Aside0.mk (Kd.R_lower ho (below_size HB.out))
    have HB4 := Aside0.mk (below_step HB.out hb)
    clear ho hb HB HS
    go_wp2
    go_ret2
    exact ⟨_, rfl, HO.out, HB4.out⟩
  · go_enter Try.func42, Try.ntmps42
    go_wp2_with fail
    refine (impl_countIn.calls a0 _ 1 5 n1 _ _ H1.out).mono ?_
    rintro e w1 ⟨rfl, hd1⟩
    have HB1 := Aside0.mk hd1.below
    clear hd1
    go_wp2_with fail
    refine (impl_countIn.calls a0 _ 0 5 n2 _ _ H2.out).mono ?_
    rintro e w2 ⟨rfl, hd2⟩
    have HB2 := Aside0.mk hd2.below
    clear hd2
    go_wp2_with fail
    refine (impl_countIn.calls a0 _ 0 5 n3 _ _ H3.out).mono ?_
    rintro e w3 ⟨rfl, hd3⟩
    have HB3 := Aside0.mk hd3.below
    clear hd3
    have HB := Aside0.mk (below_alloc (below_step (below_alloc (below_step (below_alloc HB1.out (.cells #[.int .i64 n1] 3)) HB2.out) (.cells #[.int .i64 n2] 3)) HB3.out) (.cells #[.int .i64 n3] 3))
    have HS := Aside0.mk (show Gives2 61 #[.pointer (some ⟨w3.heap.size, 0, none⟩)] (ruleSo 7 n3) (w3.alloc (.cells #[.int .i64 n3] 3)) from fun W a s hW h1 h2 h3 h4 => impl_namedTriangle.lit7 n3 w3.heap.size W ((hW.cell (p := ⟨w3.heap.size, 0, none⟩) (by simp)).trans (by simp)) a s h1 h2 h3 h4)
    clear HB1 HB2 HB3 H1 H2 H3
    go_wp2_with fail
    refine (impl_triangleBy.calls _ (enters_of Try.func61 (by kernel_rfl) rfl) _ _ _ HS.out).mono ?_
    rintro e w4 ⟨v, rfl, ho, hb⟩
    have HO := Aside0.mk (Kd.R_lower ho (below_size HB.out))
    have HB4 := Aside0.mk (below_step HB.out hb)
    clear ho hb HB HS
    go_wp2
    go_ret2
    exact ⟨_, rfl, HO.out, HB4.out⟩
set_option maxHeartbeats 2000000 in
set_option maxRecDepth 100000 in
theorem impl_namedTriangle.at2 (a0 : ByteArray) (n1 n2 n3 : Int) (b1 b2 b3 : Bool) (h1 : impl_countIn.f a0 (⟨#[97, 116, 108, 101, 97, 115, 116]⟩ : ByteArray) 1 5 = some (n1, b1)) (h2 : impl_countIn.f a0 (⟨#[106, 117, 115, 116]⟩ : ByteArray) 0 5 = some (n2, b2)) (h3 : impl_countIn.f a0 (⟨#[97, 108, 108, 98, 117, 116]⟩ : ByteArray) 0 5 = some (n3, b3)) (e0 : (a0.toList == [101, 118, 101, 114, 121]) = false) (e1 : (a0.toList == [115, 111, 109, 101]) = false) (e2 : (a0.toList == [110, 111]) = true) (w : World) :
    Calls Try.prog 42 #[.string a0] w fun e w' => ∃ v0_ : Value, e = .returned (.tuple #[v0_, .bool (namedPick 2 (n1, b1) (n2, b2) (n3, b3)).2]) ∧ Kd.R (Kd.int .i64) 3 w' w.heap.size (fun _ => True) v0_ (namedPick 2 (n1, b1) (n2, b2) (n3, b3)).1 ∧ Below w.heap.size w w' := by
  have hrun : ∀ fn f c w, Sem.run Try.prog (binOp BinOp.eql 50 (Value.func fn f c) Value.nilFunc) w = .ok (.bool false) w := fun _ _ _ _ => by kernel_rfl
  have hrun0 : ∀ w, Sem.run Try.prog (binOp BinOp.eql 50 Value.nilFunc Value.nilFunc) w = .ok (.bool true) w := fun _ => by kernel_rfl
  have H1 := Aside0.mk h1
  have H2 := Aside0.mk h2
  have H3 := Aside0.mk h3
  clear h1 h2 h3
  cases b1 <;> cases b2 <;> cases b3
  · go_enter Try.func42, Try.ntmps42
    go_wp2_with fail
    refine (impl_countIn.calls a0 _ 1 5 n1 _ _ H1.out).mono ?_
    rintro e w1 ⟨rfl, hd1⟩
    have HB1 := Aside0.mk hd1.below
    clear hd1
    go_wp2_with fail
    refine (impl_countIn.calls a0 _ 0 5 n2 _ _ H2.out).mono ?_
    rintro e w2 ⟨rfl, hd2⟩
    have HB2 := Aside0.mk hd2.below
    clear hd2
    go_wp2_with fail
    refine (impl_countIn.calls a0 _ 0 5 n3 _ _ H3.out).mono ?_
    rintro e w3 ⟨rfl, hd3⟩
    have HB3 := Aside0.mk hd3.below
    clear hd3
    have HB := Aside0.mk (below_alloc (below_step (below_alloc (below_step (below_alloc HB1.out (.cells #[.int .i64 n1] 3)) HB2.out) (.cells #[.int .i64 n2] 3)) HB3.out) (.cells #[.int .i64 n3] 3))
    have HS := Aside0.mk (show Gives2 55 #[] (ruleSo 2 0) (w3.alloc (.cells #[.int .i64 n3] 3)) from fun W a s _ h1 h2 h3 h4 => impl_namedTriangle.lit2 W a s h1 h2 h3 h4)
    clear HB1 HB2 HB3 H1 H2 H3
    go_wp2_with fail
    refine (impl_triangleBy.calls _ (enters_of Try.func55 (by kernel_rfl) rfl) _ _ _ HS.out).mono ?_
    rintro e w4 ⟨v, rfl, ho, hb⟩
    have HO := Aside0.mk (Kd.R_lower ho (below_size HB.out))
    have HB4 := Aside0.mk (below_step HB.out hb)
    clear ho hb HB HS
    go_wp2
    go_ret2
    exact ⟨_, rfl, HO.out, HB4.out⟩
  · go_enter Try.func42, Try.ntmps42
    go_wp2_with fail
    refine (impl_countIn.calls a0 _ 1 5 n1 _ _ H1.out).mono ?_
    rintro e w1 ⟨rfl, hd1⟩
    have HB1 := Aside0.mk hd1.below
    clear hd1
    go_wp2_with fail
    refine (impl_countIn.calls a0 _ 0 5 n2 _ _ H2.out).mono ?_
    rintro e w2 ⟨rfl, hd2⟩
    have HB2 := Aside0.mk hd2.below
    clear hd2
    go_wp2_with fail
    refine (impl_countIn.calls a0 _ 0 5 n3 _ _ H3.out).mono ?_
    rintro e w3 ⟨rfl, hd3⟩
    have HB3 := Aside0.mk hd3.below
    clear hd3
    have HB := Aside0.mk (below_alloc (below_step (below_alloc (below_step (below_alloc HB1.out (.cells #[.int .i64 n1] 3)) HB2.out) (.cells #[.int .i64 n2] 3)) HB3.out) (.cells #[.int .i64 n3] 3))
    have HS := Aside0.mk (show Gives2 61 #[.pointer (some ⟨w3.heap.size, 0, none⟩)] (ruleSo 7 n3) (w3.alloc (.cells #[.int .i64 n3] 3)) from fun W a s hW h1 h2 h3 h4 => impl_namedTriangle.lit7 n3 w3.heap.size W ((hW.cell (p := ⟨w3.heap.size, 0, none⟩) (by simp)).trans (by simp)) a s h1 h2 h3 h4)
    clear HB1 HB2 HB3 H1 H2 H3
    go_wp2_with fail
    refine (impl_triangleBy.calls _ (enters_of Try.func61 (by kernel_rfl) rfl) _ _ _ HS.out).mono ?_
    rintro e w4 ⟨v, rfl, ho, hb⟩
    have HO := Aside0.mk (Kd.R_lower ho (below_size HB.out))
    have HB4 := Aside0.mk (below_step HB.out hb)
    clear ho hb HB HS
    go_wp2
    go_ret2
    exact ⟨_, rfl, HO.out, HB4.out⟩
  · go_enter Try.func42, Try.ntmps42
    go_wp2_with fail
    refine (impl_countIn.calls a0 _ 1 5 n1 _ _ H1.out).mono ?_
    rintro e w1 ⟨rfl, hd1⟩
    have HB1 := Aside0.mk hd1.below
    clear hd1
    go_wp2_with fail
    refine (impl_countIn.calls a0 _ 0 5 n2 _ _ H2.out).mono ?_
    rintro e w2 ⟨rfl, hd2⟩
    have HB2 := Aside0.mk hd2.below
    clear hd2
    go_wp2_with fail
    refine (impl_countIn.calls a0 _ 0 5 n3 _ _ H3.out).mono ?_
    rintro e w3 ⟨rfl, hd3⟩
    have HB3 := Aside0.mk hd3.below
    clear hd3
    have HB := Aside0.mk (below_alloc (below_step (below_alloc (below_step (below_alloc HB1.out (.cells #[.int .i64 n1] 3)) HB2.out) (.cells #[.int .i64 n2] 3)) HB3.out) (.cells #[.int .i64 n3] 3))
    have HS := Aside0.mk (show Gives2 60 #[.pointer (some ⟨w2.heap.size, 0, none⟩)] (ruleSo 6 n2) (w3.alloc (.cells #[.int .i64 n3] 3)) from fun W a s hW h1 h2 h3 h4 => impl_namedTriangle.lit6 n2 w2.heap.size W ((hW.cell (p := ⟨w2.heap.size, 0, none⟩) (by have := HB3.out.size; simp at this ⊢; omega)).trans ((World.cell?_alloc_past _ _ _ (by have := HB3.out.size; simp at this; omega)).trans ((HB3.out.cell (p := ⟨w2.heap.size, 0, none⟩) (by simp)).trans (by simp)))) a s h1 h2 h3 h4)
    clear HB1 HB2 HB3 H1 H2 H3
    go_wp2_with fail
    refine (impl_triangleBy.calls _ (enters_of Try.func60 (by kernel_rfl) rfl) _ _ _ HS.out).mono ?_
    rintro e w4 ⟨v, rfl, ho, hb⟩
    have HO := Aside0.mk (Kd.R_lower ho (below_size HB.out))
    have HB4 := Aside0.mk (below_step HB.out hb)
    clear ho hb HB HS
    go_wp2
    go_ret2
    exact ⟨_, rfl, HO.out, HB4.out⟩
  · go_enter Try.func42, Try.ntmps42
    go_wp2_with fail
    refine (impl_countIn.calls a0 _ 1 5 n1 _ _ H1.out).mono ?_
    rintro e w1 ⟨rfl, hd1⟩
    have HB1 := Aside0.mk hd1.below
    clear hd1
    go_wp2_with fail
    refine (impl_countIn.calls a0 _ 0 5 n2 _ _ H2.out).mono ?_
    rintro e w2 ⟨rfl, hd2⟩
    have HB2 := Aside0.mk hd2.below
    clear hd2
    go_wp2_with fail
    refine (impl_countIn.calls a0 _ 0 5 n3 _ _ H3.out).mono ?_
    rintro e w3 ⟨rfl, hd3⟩
    have HB3 := Aside0.mk hd3.below
    clear hd3
    have HB := Aside0.mk (below_alloc (below_step (below_alloc (below_step (below_alloc HB1.out (.cells #[.int .i64 n1] 3)) HB2.out) (.cells #[.int .i64 n2] 3)) HB3.out) (.cells #[.int .i64 n3] 3))
    have HS := Aside0.mk (show Gives2 61 #[.pointer (some ⟨w3.heap.size, 0, none⟩)] (ruleSo 7 n3) (w3.alloc (.cells #[.int .i64 n3] 3)) from fun W a s hW h1 h2 h3 h4 => impl_namedTriangle.lit7 n3 w3.heap.size W ((hW.cell (p := ⟨w3.heap.size, 0, none⟩) (by simp)).trans (by simp)) a s h1 h2 h3 h4)
    clear HB1 HB2 HB3 H1 H2 H3
    go_wp2_with fail
    refine (impl_triangleBy.calls _ (enters_of Try.func61 (by kernel_rfl) rfl) _ _ _ HS.out).mono ?_
    rintro e w4 ⟨v, rfl, ho, hb⟩
    have HO := Aside0.mk (Kd.R_lower ho (below_size HB.out))
    have HB4 := Aside0.mk (below_step HB.out hb)
    clear ho hb HB HS
    go_wp2
    go_ret2
    exact ⟨_, rfl, HO.out, HB4.out⟩
  · go_enter Try.func42, Try.ntmps42
    go_wp2_with fail
    refine (impl_countIn.calls a0 _ 1 5 n1 _ _ H1.out).mono ?_
    rintro e w1 ⟨rfl, hd1⟩
    have HB1 := Aside0.mk hd1.below
    clear hd1
    go_wp2_with fail
    refine (impl_countIn.calls a0 _ 0 5 n2 _ _ H2.out).mono ?_
    rintro e w2 ⟨rfl, hd2⟩
    have HB2 := Aside0.mk hd2.below
    clear hd2
    go_wp2_with fail
    refine (impl_countIn.calls a0 _ 0 5 n3 _ _ H3.out).mono ?_
    rintro e w3 ⟨rfl, hd3⟩
    have HB3 := Aside0.mk hd3.below
    clear hd3
    have HB := Aside0.mk (below_alloc (below_step (below_alloc (below_step (below_alloc HB1.out (.cells #[.int .i64 n1] 3)) HB2.out) (.cells #[.int .i64 n2] 3)) HB3.out) (.cells #[.int .i64 n3] 3))
    have HS := Aside0.mk (show Gives2 59 #[.pointer (some ⟨w1.heap.size, 0, none⟩)] (ruleSo 5 n1) (w3.alloc (.cells #[.int .i64 n3] 3)) from fun W a s hW h1 h2 h3 h4 => impl_namedTriangle.lit5 n1 w1.heap.size W ((hW.cell (p := ⟨w1.heap.size, 0, none⟩) (by have := HB3.out.size; have := HB2.out.size; simp at *; omega)).trans ((World.cell?_alloc_past _ _ _ (by have := HB3.out.size; have := HB2.out.size; simp at *; omega)).trans ((HB3.out.cell (p := ⟨w1.heap.size, 0, none⟩) (by have := HB2.out.size; simp at *; omega)).trans ((World.cell?_alloc_past _ _ _ (by have := HB2.out.size; simp at *; omega)).trans ((HB2.out.cell (p := ⟨w1.heap.size, 0, none⟩) (by simp)).trans (by simp)))))) a s h1 h2 h3 h4)
    clear HB1 HB2 HB3 H1 H2 H3
    go_wp2_with fail
    refine (impl_triangleBy.calls _ (enters_of Try.func59 (by kernel_rfl) rfl) _ _ _ HS.out).mono ?_
    rintro e w4 ⟨v, rfl, ho, hb⟩
    have HO := Aside0.mk (Kd.R_lower ho (below_size HB.out))
    have HB4 := Aside0.mk (below_step HB.out hb)
    clear ho hb HB HS
    go_wp2
    go_ret2
    exact ⟨_, rfl, HO.out, HB4.out⟩
  · go_enter Try.func42, Try.ntmps42
    go_wp2_with fail
    refine (impl_countIn.calls a0 _ 1 5 n1 _ _ H1.out).mono ?_
    rintro e w1 ⟨rfl, hd1⟩
    have HB1 := Aside0.mk hd1.below
    clear hd1
    go_wp2_with fail
    refine (impl_countIn.calls a0 _ 0 5 n2 _ _ H2.out).mono ?_
    rintro e w2 ⟨rfl, hd2⟩
    have HB2 := Aside0.mk hd2.below
    clear hd2
    go_wp2_with fail
    refine (impl_countIn.calls a0 _ 0 5 n3 _ _ H3.out).mono ?_
    rintro e w3 ⟨rfl, hd3⟩
    have HB3 := Aside0.mk hd3.below
    clear hd3
    have HB := Aside0.mk (below_alloc (below_step (below_alloc (below_step (below_alloc HB1.out (.cells #[.int .i64 n1] 3)) HB2.out) (.cells #[.int .i64 n2] 3)) HB3.out) (.cells #[.int .i64 n3] 3))
    have HS := Aside0.mk (show Gives2 61 #[.pointer (some ⟨w3.heap.size, 0, none⟩)] (ruleSo 7 n3) (w3.alloc (.cells #[.int .i64 n3] 3)) from fun W a s hW h1 h2 h3 h4 => impl_namedTriangle.lit7 n3 w3.heap.size W ((hW.cell (p := ⟨w3.heap.size, 0, none⟩) (by simp)).trans (by simp)) a s h1 h2 h3 h4)
    clear HB1 HB2 HB3 H1 H2 H3
    go_wp2_with fail
    refine (impl_triangleBy.calls _ (enters_of Try.func61 (by kernel_rfl) rfl) _ _ _ HS.out).mono ?_
    rintro e w4 ⟨v, rfl, ho, hb⟩
    have HO := Aside0.mk (Kd.R_lower ho (below_size HB.out))
    have HB4 := Aside0.mk (below_step HB.out hb)
    clear ho hb HB HS
    go_wp2
    go_ret2
    exact ⟨_, rfl, HO.out, HB4.out⟩
  · go_enter Try.func42, Try.ntmps42
    go_wp2_with fail
    refine (impl_countIn.calls a0 _ 1 5 n1 _ _ H1.out).mono ?_
    rintro e w1 ⟨rfl, hd1⟩
    have HB1 := Aside0.mk hd1.below
    clear hd1
    go_wp2_with fail
    refine (impl_countIn.calls a0 _ 0 5 n2 _ _ H2.out).mono ?_
    rintro e w2 ⟨rfl, hd2⟩
    have HB2 := Aside0.mk hd2.below
    clear hd2
    go_wp2_with fail
    refine (impl_countIn.calls a0 _ 0 5 n3 _ _ H3.out).mono ?_
    rintro e w3 ⟨rfl, hd3⟩
    have HB3 := Aside0.mk hd3.below
    clear hd3
    have HB := Aside0.mk (below_alloc (below_step (below_alloc (below_step (below_alloc HB1.out (.cells #[.int .i64 n1] 3)) HB2.out) (.cells #[.int .i64 n2] 3)) HB3.out) (.cells #[.int .i64 n3] 3))
    have HS := Aside0.mk (show Gives2 60 #[.pointer (some ⟨w2.heap.size, 0, none⟩)] (ruleSo 6 n2) (w3.alloc (.cells #[.int .i64 n3] 3)) from fun W a s hW h1 h2 h3 h4 => impl_namedTriangle.lit6 n2 w2.heap.size W ((hW.cell (p := ⟨w2.heap.size, 0, none⟩) (by have := HB3.out.size; simp at this ⊢; omega)).trans ((World.cell?_alloc_past _ _ _ (by have := HB3.out.size; simp at this; omega)).trans ((HB3.out.cell (p := ⟨w2.heap.size, 0, none⟩) (by simp)).trans (by simp)))) a s h1 h2 h3 h4)
    clear HB1 HB2 HB3 H1 H2 H3
    go_wp2_with fail
    refine (impl_triangleBy.calls _ (enters_of Try.func60 (by kernel_rfl) rfl) _ _ _ HS.out).mono ?_
    rintro e w4 ⟨v, rfl, ho, hb⟩
    have HO := Aside0.mk (Kd.R_lower ho (below_size HB.out))
    have HB4 := Aside0.mk (below_step HB.out hb)
    clear ho hb HB HS
    go_wp2
    go_ret2
    exact ⟨_, rfl, HO.out, HB4.out⟩
  · go_enter Try.func42, Try.ntmps42
    go_wp2_with fail
    refine (impl_countIn.calls a0 _ 1 5 n1 _ _ H1.out).mono ?_
    rintro e w1 ⟨rfl, hd1⟩
    have HB1 := Aside0.mk hd1.below
    clear hd1
    go_wp2_with fail
    refine (impl_countIn.calls a0 _ 0 5 n2 _ _ H2.out).mono ?_
    rintro e w2 ⟨rfl, hd2⟩
    have HB2 := Aside0.mk hd2.below
    clear hd2
    go_wp2_with fail
    refine (impl_countIn.calls a0 _ 0 5 n3 _ _ H3.out).mono ?_
    rintro e w3 ⟨rfl, hd3⟩
    have HB3 := Aside0.mk hd3.below
    clear hd3
    have HB := Aside0.mk (below_alloc (below_step (below_alloc (below_step (below_alloc HB1.out (.cells #[.int .i64 n1] 3)) HB2.out) (.cells #[.int .i64 n2] 3)) HB3.out) (.cells #[.int .i64 n3] 3))
    have HS := Aside0.mk (show Gives2 61 #[.pointer (some ⟨w3.heap.size, 0, none⟩)] (ruleSo 7 n3) (w3.alloc (.cells #[.int .i64 n3] 3)) from fun W a s hW h1 h2 h3 h4 => impl_namedTriangle.lit7 n3 w3.heap.size W ((hW.cell (p := ⟨w3.heap.size, 0, none⟩) (by simp)).trans (by simp)) a s h1 h2 h3 h4)
    clear HB1 HB2 HB3 H1 H2 H3
    go_wp2_with fail
    refine (impl_triangleBy.calls _ (enters_of Try.func61 (by kernel_rfl) rfl) _ _ _ HS.out).mono ?_
    rintro e w4 ⟨v, rfl, ho, hb⟩
    have HO := Aside0.mk (Kd.R_lower ho (below_size HB.out))
    have HB4 := Aside0.mk (below_step HB.out hb)
    clear ho hb HB HS
    go_wp2
    go_ret2
    exact ⟨_, rfl, HO.out, HB4.out⟩
set_option maxHeartbeats 2000000 in
set_option maxRecDepth 100000 in
theorem impl_namedTriangle.at3 (a0 : ByteArray) (n1 n2 n3 : Int) (b1 b2 b3 : Bool) (h1 : impl_countIn.f a0 (⟨#[97, 116, 108, 101, 97, 115, 116]⟩ : ByteArray) 1 5 = some (n1, b1)) (h2 : impl_countIn.f a0 (⟨#[106, 117, 115, 116]⟩ : ByteArray) 0 5 = some (n2, b2)) (h3 : impl_countIn.f a0 (⟨#[97, 108, 108, 98, 117, 116]⟩ : ByteArray) 0 5 = some (n3, b3)) (e0 : (a0.toList == [101, 118, 101, 114, 121]) = false) (e1 : (a0.toList == [115, 111, 109, 101]) = false) (e2 : (a0.toList == [110, 111]) = false) (e3 : (a0.toList == [109, 111, 115, 116]) = true) (w : World) :
    Calls Try.prog 42 #[.string a0] w fun e w' => ∃ v0_ : Value, e = .returned (.tuple #[v0_, .bool (namedPick 3 (n1, b1) (n2, b2) (n3, b3)).2]) ∧ Kd.R (Kd.int .i64) 3 w' w.heap.size (fun _ => True) v0_ (namedPick 3 (n1, b1) (n2, b2) (n3, b3)).1 ∧ Below w.heap.size w w' := by
  have hrun : ∀ fn f c w, Sem.run Try.prog (binOp BinOp.eql 50 (Value.func fn f c) Value.nilFunc) w = .ok (.bool false) w := fun _ _ _ _ => by kernel_rfl
  have hrun0 : ∀ w, Sem.run Try.prog (binOp BinOp.eql 50 Value.nilFunc Value.nilFunc) w = .ok (.bool true) w := fun _ => by kernel_rfl
  have H1 := Aside0.mk h1
  have H2 := Aside0.mk h2
  have H3 := Aside0.mk h3
  clear h1 h2 h3
  cases b1 <;> cases b2 <;> cases b3
  · go_enter Try.func42, Try.ntmps42
    go_wp2_with fail
    refine (impl_countIn.calls a0 _ 1 5 n1 _ _ H1.out).mono ?_
    rintro e w1 ⟨rfl, hd1⟩
    have HB1 := Aside0.mk hd1.below
    clear hd1
    go_wp2_with fail
    refine (impl_countIn.calls a0 _ 0 5 n2 _ _ H2.out).mono ?_
    rintro e w2 ⟨rfl, hd2⟩
    have HB2 := Aside0.mk hd2.below
    clear hd2
    go_wp2_with fail
    refine (impl_countIn.calls a0 _ 0 5 n3 _ _ H3.out).mono ?_
    rintro e w3 ⟨rfl, hd3⟩
    have HB3 := Aside0.mk hd3.below
    clear hd3
    have HB := Aside0.mk (below_alloc (below_step (below_alloc (below_step (below_alloc HB1.out (.cells #[.int .i64 n1] 3)) HB2.out) (.cells #[.int .i64 n2] 3)) HB3.out) (.cells #[.int .i64 n3] 3))
    have HS := Aside0.mk (show Gives2 56 #[] (ruleSo 3 0) (w3.alloc (.cells #[.int .i64 n3] 3)) from fun W a s _ h1 h2 h3 h4 => impl_namedTriangle.lit3 W a s h1 h2 h3 h4)
    clear HB1 HB2 HB3 H1 H2 H3
    go_wp2_with fail
    refine (impl_triangleBy.calls _ (enters_of Try.func56 (by kernel_rfl) rfl) _ _ _ HS.out).mono ?_
    rintro e w4 ⟨v, rfl, ho, hb⟩
    have HO := Aside0.mk (Kd.R_lower ho (below_size HB.out))
    have HB4 := Aside0.mk (below_step HB.out hb)
    clear ho hb HB HS
    go_wp2
    go_ret2
    exact ⟨_, rfl, HO.out, HB4.out⟩
  · go_enter Try.func42, Try.ntmps42
    go_wp2_with fail
    refine (impl_countIn.calls a0 _ 1 5 n1 _ _ H1.out).mono ?_
    rintro e w1 ⟨rfl, hd1⟩
    have HB1 := Aside0.mk hd1.below
    clear hd1
    go_wp2_with fail
    refine (impl_countIn.calls a0 _ 0 5 n2 _ _ H2.out).mono ?_
    rintro e w2 ⟨rfl, hd2⟩
    have HB2 := Aside0.mk hd2.below
    clear hd2
    go_wp2_with fail
    refine (impl_countIn.calls a0 _ 0 5 n3 _ _ H3.out).mono ?_
    rintro e w3 ⟨rfl, hd3⟩
    have HB3 := Aside0.mk hd3.below
    clear hd3
    have HB := Aside0.mk (below_alloc (below_step (below_alloc (below_step (below_alloc HB1.out (.cells #[.int .i64 n1] 3)) HB2.out) (.cells #[.int .i64 n2] 3)) HB3.out) (.cells #[.int .i64 n3] 3))
    have HS := Aside0.mk (show Gives2 61 #[.pointer (some ⟨w3.heap.size, 0, none⟩)] (ruleSo 7 n3) (w3.alloc (.cells #[.int .i64 n3] 3)) from fun W a s hW h1 h2 h3 h4 => impl_namedTriangle.lit7 n3 w3.heap.size W ((hW.cell (p := ⟨w3.heap.size, 0, none⟩) (by simp)).trans (by simp)) a s h1 h2 h3 h4)
    clear HB1 HB2 HB3 H1 H2 H3
    go_wp2_with fail
    refine (impl_triangleBy.calls _ (enters_of Try.func61 (by kernel_rfl) rfl) _ _ _ HS.out).mono ?_
    rintro e w4 ⟨v, rfl, ho, hb⟩
    have HO := Aside0.mk (Kd.R_lower ho (below_size HB.out))
    have HB4 := Aside0.mk (below_step HB.out hb)
    clear ho hb HB HS
    go_wp2
    go_ret2
    exact ⟨_, rfl, HO.out, HB4.out⟩
  · go_enter Try.func42, Try.ntmps42
    go_wp2_with fail
    refine (impl_countIn.calls a0 _ 1 5 n1 _ _ H1.out).mono ?_
    rintro e w1 ⟨rfl, hd1⟩
    have HB1 := Aside0.mk hd1.below
    clear hd1
    go_wp2_with fail
    refine (impl_countIn.calls a0 _ 0 5 n2 _ _ H2.out).mono ?_
    rintro e w2 ⟨rfl, hd2⟩
    have HB2 := Aside0.mk hd2.below
    clear hd2
    go_wp2_with fail
    refine (impl_countIn.calls a0 _ 0 5 n3 _ _ H3.out).mono ?_
    rintro e w3 ⟨rfl, hd3⟩
    have HB3 := Aside0.mk hd3.below
    clear hd3
    have HB := Aside0.mk (below_alloc (below_step (below_alloc (below_step (below_alloc HB1.out (.cells #[.int .i64 n1] 3)) HB2.out) (.cells #[.int .i64 n2] 3)) HB3.out) (.cells #[.int .i64 n3] 3))
    have HS := Aside0.mk (show Gives2 60 #[.pointer (some ⟨w2.heap.size, 0, none⟩)] (ruleSo 6 n2) (w3.alloc (.cells #[.int .i64 n3] 3)) from fun W a s hW h1 h2 h3 h4 => impl_namedTriangle.lit6 n2 w2.heap.size W ((hW.cell (p := ⟨w2.heap.size, 0, none⟩) (by have := HB3.out.size; simp at this ⊢; omega)).trans ((World.cell?_alloc_past _ _ _ (by have := HB3.out.size; simp at this; omega)).trans ((HB3.out.cell (p := ⟨w2.heap.size, 0, none⟩) (by simp)).trans (by simp)))) a s h1 h2 h3 h4)
    clear HB1 HB2 HB3 H1 H2 H3
    go_wp2_with fail
    refine (impl_triangleBy.calls _ (enters_of Try.func60 (by kernel_rfl) rfl) _ _ _ HS.out).mono ?_
    rintro e w4 ⟨v, rfl, ho, hb⟩
    have HO := Aside0.mk (Kd.R_lower ho (below_size HB.out))
    have HB4 := Aside0.mk (below_step HB.out hb)
    clear ho hb HB HS
    go_wp2
    go_ret2
    exact ⟨_, rfl, HO.out, HB4.out⟩
  · go_enter Try.func42, Try.ntmps42
    go_wp2_with fail
    refine (impl_countIn.calls a0 _ 1 5 n1 _ _ H1.out).mono ?_
    rintro e w1 ⟨rfl, hd1⟩
    have HB1 := Aside0.mk hd1.below
    clear hd1
    go_wp2_with fail
    refine (impl_countIn.calls a0 _ 0 5 n2 _ _ H2.out).mono ?_
    rintro e w2 ⟨rfl, hd2⟩
    have HB2 := Aside0.mk hd2.below
    clear hd2
    go_wp2_with fail
    refine (impl_countIn.calls a0 _ 0 5 n3 _ _ H3.out).mono ?_
    rintro e w3 ⟨rfl, hd3⟩
    have HB3 := Aside0.mk hd3.below
    clear hd3
    have HB := Aside0.mk (below_alloc (below_step (below_alloc (below_step (below_alloc HB1.out (.cells #[.int .i64 n1] 3)) HB2.out) (.cells #[.int .i64 n2] 3)) HB3.out) (.cells #[.int .i64 n3] 3))
    have HS := Aside0.mk (show Gives2 61 #[.pointer (some ⟨w3.heap.size, 0, none⟩)] (ruleSo 7 n3) (w3.alloc (.cells #[.int .i64 n3] 3)) from fun W a s hW h1 h2 h3 h4 => impl_namedTriangle.lit7 n3 w3.heap.size W ((hW.cell (p := ⟨w3.heap.size, 0, none⟩) (by simp)).trans (by simp)) a s h1 h2 h3 h4)
    clear HB1 HB2 HB3 H1 H2 H3
    go_wp2_with fail
    refine (impl_triangleBy.calls _ (enters_of Try.func61 (by kernel_rfl) rfl) _ _ _ HS.out).mono ?_
    rintro e w4 ⟨v, rfl, ho, hb⟩
    have HO := Aside0.mk (Kd.R_lower ho (below_size HB.out))
    have HB4 := Aside0.mk (below_step HB.out hb)
    clear ho hb HB HS
    go_wp2
    go_ret2
    exact ⟨_, rfl, HO.out, HB4.out⟩
  · go_enter Try.func42, Try.ntmps42
    go_wp2_with fail
    refine (impl_countIn.calls a0 _ 1 5 n1 _ _ H1.out).mono ?_
    rintro e w1 ⟨rfl, hd1⟩
    have HB1 := Aside0.mk hd1.below
    clear hd1
    go_wp2_with fail
    refine (impl_countIn.calls a0 _ 0 5 n2 _ _ H2.out).mono ?_
    rintro e w2 ⟨rfl, hd2⟩
    have HB2 := Aside0.mk hd2.below
    clear hd2
    go_wp2_with fail
    refine (impl_countIn.calls a0 _ 0 5 n3 _ _ H3.out).mono ?_
    rintro e w3 ⟨rfl, hd3⟩
    have HB3 := Aside0.mk hd3.below
    clear hd3
    have HB := Aside0.mk (below_alloc (below_step (below_alloc (below_step (below_alloc HB1.out (.cells #[.int .i64 n1] 3)) HB2.out) (.cells #[.int .i64 n2] 3)) HB3.out) (.cells #[.int .i64 n3] 3))
    have HS := Aside0.mk (show Gives2 59 #[.pointer (some ⟨w1.heap.size, 0, none⟩)] (ruleSo 5 n1) (w3.alloc (.cells #[.int .i64 n3] 3)) from fun W a s hW h1 h2 h3 h4 => impl_namedTriangle.lit5 n1 w1.heap.size W ((hW.cell (p := ⟨w1.heap.size, 0, none⟩) (by have := HB3.out.size; have := HB2.out.size; simp at *; omega)).trans ((World.cell?_alloc_past _ _ _ (by have := HB3.out.size; have := HB2.out.size; simp at *; omega)).trans ((HB3.out.cell (p := ⟨w1.heap.size, 0, none⟩) (by have := HB2.out.size; simp at *; omega)).trans ((World.cell?_alloc_past _ _ _ (by have := HB2.out.size; simp at *; omega)).trans ((HB2.out.cell (p := ⟨w1.heap.size, 0, none⟩) (by simp)).trans (by simp)))))) a s h1 h2 h3 h4)
    clear HB1 HB2 HB3 H1 H2 H3
    go_wp2_with fail
    refine (impl_triangleBy.calls _ (enters_of Try.func59 (by kernel_rfl) rfl) _ _ _ HS.out).mono ?_
    rintro e w4 ⟨v, rfl, ho, hb⟩
    have HO := Aside0.mk (Kd.R_lower ho (below_size HB.out))
    have HB4 := Aside0.mk (below_step HB.out hb)
    clear ho hb HB HS
    go_wp2
    go_ret2
    exact ⟨_, rfl, HO.out, HB4.out⟩
  · go_enter Try.func42, Try.ntmps42
    go_wp2_with fail
    refine (impl_countIn.calls a0 _ 1 5 n1 _ _ H1.out).mono ?_
    rintro e w1 ⟨rfl, hd1⟩
    have HB1 := Aside0.mk hd1.below
    clear hd1
    go_wp2_with fail
    refine (impl_countIn.calls a0 _ 0 5 n2 _ _ H2.out).mono ?_
    rintro e w2 ⟨rfl, hd2⟩
    have HB2 := Aside0.mk hd2.below
    clear hd2
    go_wp2_with fail
    refine (impl_countIn.calls a0 _ 0 5 n3 _ _ H3.out).mono ?_
    rintro e w3 ⟨rfl, hd3⟩
    have HB3 := Aside0.mk hd3.below
    clear hd3
    have HB := Aside0.mk (below_alloc (below_step (below_alloc (below_step (below_alloc HB1.out (.cells #[.int .i64 n1] 3)) HB2.out) (.cells #[.int .i64 n2] 3)) HB3.out) (.cells #[.int .i64 n3] 3))
    have HS := Aside0.mk (show Gives2 61 #[.pointer (some ⟨w3.heap.size, 0, none⟩)] (ruleSo 7 n3) (w3.alloc (.cells #[.int .i64 n3] 3)) from fun W a s hW h1 h2 h3 h4 => impl_namedTriangle.lit7 n3 w3.heap.size W ((hW.cell (p := ⟨w3.heap.size, 0, none⟩) (by simp)).trans (by simp)) a s h1 h2 h3 h4)
    clear HB1 HB2 HB3 H1 H2 H3
    go_wp2_with fail
    refine (impl_triangleBy.calls _ (enters_of Try.func61 (by kernel_rfl) rfl) _ _ _ HS.out).mono ?_
    rintro e w4 ⟨v, rfl, ho, hb⟩
    have HO := Aside0.mk (Kd.R_lower ho (below_size HB.out))
    have HB4 := Aside0.mk (below_step HB.out hb)
    clear ho hb HB HS
    go_wp2
    go_ret2
    exact ⟨_, rfl, HO.out, HB4.out⟩
  · go_enter Try.func42, Try.ntmps42
    go_wp2_with fail
    refine (impl_countIn.calls a0 _ 1 5 n1 _ _ H1.out).mono ?_
    rintro e w1 ⟨rfl, hd1⟩
    have HB1 := Aside0.mk hd1.below
    clear hd1
    go_wp2_with fail
    refine (impl_countIn.calls a0 _ 0 5 n2 _ _ H2.out).mono ?_
    rintro e w2 ⟨rfl, hd2⟩
    have HB2 := Aside0.mk hd2.below
    clear hd2
    go_wp2_with fail
    refine (impl_countIn.calls a0 _ 0 5 n3 _ _ H3.out).mono ?_
    rintro e w3 ⟨rfl, hd3⟩
    have HB3 := Aside0.mk hd3.below
    clear hd3
    have HB := Aside0.mk (below_alloc (below_step (below_alloc (below_step (below_alloc HB1.out (.cells #[.int .i64 n1] 3)) HB2.out) (.cells #[.int .i64 n2] 3)) HB3.out) (.cells #[.int .i64 n3] 3))
    have HS := Aside0.mk (show Gives2 60 #[.pointer (some ⟨w2.heap.size, 0, none⟩)] (ruleSo 6 n2) (w3.alloc (.cells #[.int .i64 n3] 3)) from fun W a s hW h1 h2 h3 h4 => impl_namedTriangle.lit6 n2 w2.heap.size W ((hW.cell (p := ⟨w2.heap.size, 0, none⟩) (by have := HB3.out.size; simp at this ⊢; omega)).trans ((World.cell?_alloc_past _ _ _ (by have := HB3.out.size; simp at this; omega)).trans ((HB3.out.cell (p := ⟨w2.heap.size, 0, none⟩) (by simp)).trans (by simp)))) a s h1 h2 h3 h4)
    clear HB1 HB2 HB3 H1 H2 H3
    go_wp2_with fail
    refine (impl_triangleBy.calls _ (enters_of Try.func60 (by kernel_rfl) rfl) _ _ _ HS.out).mono ?_
    rintro e w4 ⟨v, rfl, ho, hb⟩
    have HO := Aside0.mk (Kd.R_lower ho (below_size HB.out))
    have HB4 := Aside0.mk (below_step HB.out hb)
    clear ho hb HB HS
    go_wp2
    go_ret2
    exact ⟨_, rfl, HO.out, HB4.out⟩
  · go_enter Try.func42, Try.ntmps42
    go_wp2_with fail
    refine (impl_countIn.calls a0 _ 1 5 n1 _ _ H1.out).mono ?_
    rintro e w1 ⟨rfl, hd1⟩
    have HB1 := Aside0.mk hd1.below
    clear hd1
    go_wp2_with fail
    refine (impl_countIn.calls a0 _ 0 5 n2 _ _ H2.out).mono ?_
    rintro e w2 ⟨rfl, hd2⟩
    have HB2 := Aside0.mk hd2.below
    clear hd2
    go_wp2_with fail
    refine (impl_countIn.calls a0 _ 0 5 n3 _ _ H3.out).mono ?_
    rintro e w3 ⟨rfl, hd3⟩
    have HB3 := Aside0.mk hd3.below
    clear hd3
    have HB := Aside0.mk (below_alloc (below_step (below_alloc (below_step (below_alloc HB1.out (.cells #[.int .i64 n1] 3)) HB2.out) (.cells #[.int .i64 n2] 3)) HB3.out) (.cells #[.int .i64 n3] 3))
    have HS := Aside0.mk (show Gives2 61 #[.pointer (some ⟨w3.heap.size, 0, none⟩)] (ruleSo 7 n3) (w3.alloc (.cells #[.int .i64 n3] 3)) from fun W a s hW h1 h2 h3 h4 => impl_namedTriangle.lit7 n3 w3.heap.size W ((hW.cell (p := ⟨w3.heap.size, 0, none⟩) (by simp)).trans (by simp)) a s h1 h2 h3 h4)
    clear HB1 HB2 HB3 H1 H2 H3
    go_wp2_with fail
    refine (impl_triangleBy.calls _ (enters_of Try.func61 (by kernel_rfl) rfl) _ _ _ HS.out).mono ?_
    rintro e w4 ⟨v, rfl, ho, hb⟩
    have HO := Aside0.mk (Kd.R_lower ho (below_size HB.out))
    have HB4 := Aside0.mk (below_step HB.out hb)
    clear ho hb HB HS
    go_wp2
    go_ret2
    exact ⟨_, rfl, HO.out, HB4.out⟩
set_option maxHeartbeats 2000000 in
set_option maxRecDepth 100000 in
theorem impl_namedTriangle.at4 (a0 : ByteArray) (n1 n2 n3 : Int) (b1 b2 b3 : Bool) (h1 : impl_countIn.f a0 (⟨#[97, 116, 108, 101, 97, 115, 116]⟩ : ByteArray) 1 5 = some (n1, b1)) (h2 : impl_countIn.f a0 (⟨#[106, 117, 115, 116]⟩ : ByteArray) 0 5 = some (n2, b2)) (h3 : impl_countIn.f a0 (⟨#[97, 108, 108, 98, 117, 116]⟩ : ByteArray) 0 5 = some (n3, b3)) (e0 : (a0.toList == [101, 118, 101, 114, 121]) = false) (e1 : (a0.toList == [115, 111, 109, 101]) = false) (e2 : (a0.toList == [110, 111]) = false) (e3 : (a0.toList == [109, 111, 115, 116]) = false) (e4 : (a0.toList == [101, 118, 101, 110]) = true) (w : World) :
    Calls Try.prog 42 #[.string a0] w fun e w' => ∃ v0_ : Value, e = .returned (.tuple #[v0_, .bool (namedPick 4 (n1, b1) (n2, b2) (n3, b3)).2]) ∧ Kd.R (Kd.int .i64) 3 w' w.heap.size (fun _ => True) v0_ (namedPick 4 (n1, b1) (n2, b2) (n3, b3)).1 ∧ Below w.heap.size w w' := by
  have hrun : ∀ fn f c w, Sem.run Try.prog (binOp BinOp.eql 50 (Value.func fn f c) Value.nilFunc) w = .ok (.bool false) w := fun _ _ _ _ => by kernel_rfl
  have hrun0 : ∀ w, Sem.run Try.prog (binOp BinOp.eql 50 Value.nilFunc Value.nilFunc) w = .ok (.bool true) w := fun _ => by kernel_rfl
  have H1 := Aside0.mk h1
  have H2 := Aside0.mk h2
  have H3 := Aside0.mk h3
  clear h1 h2 h3
  cases b1 <;> cases b2 <;> cases b3
  · go_enter Try.func42, Try.ntmps42
    go_wp2_with fail
    refine (impl_countIn.calls a0 _ 1 5 n1 _ _ H1.out).mono ?_
    rintro e w1 ⟨rfl, hd1⟩
    have HB1 := Aside0.mk hd1.below
    clear hd1
    go_wp2_with fail
    refine (impl_countIn.calls a0 _ 0 5 n2 _ _ H2.out).mono ?_
    rintro e w2 ⟨rfl, hd2⟩
    have HB2 := Aside0.mk hd2.below
    clear hd2
    go_wp2_with fail
    refine (impl_countIn.calls a0 _ 0 5 n3 _ _ H3.out).mono ?_
    rintro e w3 ⟨rfl, hd3⟩
    have HB3 := Aside0.mk hd3.below
    clear hd3
    have HB := Aside0.mk (below_alloc (below_step (below_alloc (below_step (below_alloc HB1.out (.cells #[.int .i64 n1] 3)) HB2.out) (.cells #[.int .i64 n2] 3)) HB3.out) (.cells #[.int .i64 n3] 3))
    have HS := Aside0.mk (show Gives2 57 #[] (ruleSo 4 0) (w3.alloc (.cells #[.int .i64 n3] 3)) from fun W a s _ h1 h2 h3 h4 => impl_namedTriangle.lit4 W a s h1 h2 h3 h4)
    clear HB1 HB2 HB3 H1 H2 H3
    go_wp2_with fail
    refine (impl_triangleBy.calls _ (enters_of Try.func57 (by kernel_rfl) rfl) _ _ _ HS.out).mono ?_
    rintro e w4 ⟨v, rfl, ho, hb⟩
    have HO := Aside0.mk (Kd.R_lower ho (below_size HB.out))
    have HB4 := Aside0.mk (below_step HB.out hb)
    clear ho hb HB HS
    go_wp2
    go_ret2
    exact ⟨_, rfl, HO.out, HB4.out⟩
  · go_enter Try.func42, Try.ntmps42
    go_wp2_with fail
    refine (impl_countIn.calls a0 _ 1 5 n1 _ _ H1.out).mono ?_
    rintro e w1 ⟨rfl, hd1⟩
    have HB1 := Aside0.mk hd1.below
    clear hd1
    go_wp2_with fail
    refine (impl_countIn.calls a0 _ 0 5 n2 _ _ H2.out).mono ?_
    rintro e w2 ⟨rfl, hd2⟩
    have HB2 := Aside0.mk hd2.below
    clear hd2
    go_wp2_with fail
    refine (impl_countIn.calls a0 _ 0 5 n3 _ _ H3.out).mono ?_
    rintro e w3 ⟨rfl, hd3⟩
    have HB3 := Aside0.mk hd3.below
    clear hd3
    have HB := Aside0.mk (below_alloc (below_step (below_alloc (below_step (below_alloc HB1.out (.cells #[.int .i64 n1] 3)) HB2.out) (.cells #[.int .i64 n2] 3)) HB3.out) (.cells #[.int .i64 n3] 3))
    have HS := Aside0.mk (show Gives2 61 #[.pointer (some ⟨w3.heap.size, 0, none⟩)] (ruleSo 7 n3) (w3.alloc (.cells #[.int .i64 n3] 3)) from fun W a s hW h1 h2 h3 h4 => impl_namedTriangle.lit7 n3 w3.heap.size W ((hW.cell (p := ⟨w3.heap.size, 0, none⟩) (by simp)).trans (by simp)) a s h1 h2 h3 h4)
    clear HB1 HB2 HB3 H1 H2 H3
    go_wp2_with fail
    refine (impl_triangleBy.calls _ (enters_of Try.func61 (by kernel_rfl) rfl) _ _ _ HS.out).mono ?_
    rintro e w4 ⟨v, rfl, ho, hb⟩
    have HO := Aside0.mk (Kd.R_lower ho (below_size HB.out))
    have HB4 := Aside0.mk (below_step HB.out hb)
    clear ho hb HB HS
    go_wp2
    go_ret2
    exact ⟨_, rfl, HO.out, HB4.out⟩
  · go_enter Try.func42, Try.ntmps42
    go_wp2_with fail
    refine (impl_countIn.calls a0 _ 1 5 n1 _ _ H1.out).mono ?_
    rintro e w1 ⟨rfl, hd1⟩
    have HB1 := Aside0.mk hd1.below
    clear hd1
    go_wp2_with fail
    refine (impl_countIn.calls a0 _ 0 5 n2 _ _ H2.out).mono ?_
    rintro e w2 ⟨rfl, hd2⟩
    have HB2 := Aside0.mk hd2.below
    clear hd2
    go_wp2_with fail
    refine (impl_countIn.calls a0 _ 0 5 n3 _ _ H3.out).mono ?_
    rintro e w3 ⟨rfl, hd3⟩
    have HB3 := Aside0.mk hd3.below
    clear hd3
    have HB := Aside0.mk (below_alloc (below_step (below_alloc (below_step (below_alloc HB1.out (.cells #[.int .i64 n1] 3)) HB2.out) (.cells #[.int .i64 n2] 3)) HB3.out) (.cells #[.int .i64 n3] 3))
    have HS := Aside0.mk (show Gives2 60 #[.pointer (some ⟨w2.heap.size, 0, none⟩)] (ruleSo 6 n2) (w3.alloc (.cells #[.int .i64 n3] 3)) from fun W a s hW h1 h2 h3 h4 => impl_namedTriangle.lit6 n2 w2.heap.size W ((hW.cell (p := ⟨w2.heap.size, 0, none⟩) (by have := HB3.out.size; simp at this ⊢; omega)).trans ((World.cell?_alloc_past _ _ _ (by have := HB3.out.size; simp at this; omega)).trans ((HB3.out.cell (p := ⟨w2.heap.size, 0, none⟩) (by simp)).trans (by simp)))) a s h1 h2 h3 h4)
    clear HB1 HB2 HB3 H1 H2 H3
    go_wp2_with fail
    refine (impl_triangleBy.calls _ (enters_of Try.func60 (by kernel_rfl) rfl) _ _ _ HS.out).mono ?_
    rintro e w4 ⟨v, rfl, ho, hb⟩
    have HO := Aside0.mk (Kd.R_lower ho (below_size HB.out))
    have HB4 := Aside0.mk (below_step HB.out hb)
    clear ho hb HB HS
    go_wp2
    go_ret2
    exact ⟨_, rfl, HO.out, HB4.out⟩
  · go_enter Try.func42, Try.ntmps42
    go_wp2_with fail
    refine (impl_countIn.calls a0 _ 1 5 n1 _ _ H1.out).mono ?_
    rintro e w1 ⟨rfl, hd1⟩
    have HB1 := Aside0.mk hd1.below
    clear hd1
    go_wp2_with fail
    refine (impl_countIn.calls a0 _ 0 5 n2 _ _ H2.out).mono ?_
    rintro e w2 ⟨rfl, hd2⟩
    have HB2 := Aside0.mk hd2.below
    clear hd2
    go_wp2_with fail
    refine (impl_countIn.calls a0 _ 0 5 n3 _ _ H3.out).mono ?_
    rintro e w3 ⟨rfl, hd3⟩
    have HB3 := Aside0.mk hd3.below
    clear hd3
    have HB := Aside0.mk (below_alloc (below_step (below_alloc (below_step (below_alloc HB1.out (.cells #[.int .i64 n1] 3)) HB2.out) (.cells #[.int .i64 n2] 3)) HB3.out) (.cells #[.int .i64 n3] 3))
    have HS := Aside0.mk (show Gives2 61 #[.pointer (some ⟨w3.heap.size, 0, none⟩)] (ruleSo 7 n3) (w3.alloc (.cells #[.int .i64 n3] 3)) from fun W a s hW h1 h2 h3 h4 => impl_namedTriangle.lit7 n3 w3.heap.size W ((hW.cell (p := ⟨w3.heap.size, 0, none⟩) (by simp)).trans (by simp)) a s h1 h2 h3 h4)
    clear HB1 HB2 HB3 H1 H2 H3
    go_wp2_with fail
    refine (impl_triangleBy.calls _ (enters_of Try.func61 (by kernel_rfl) rfl) _ _ _ HS.out).mono ?_
    rintro e w4 ⟨v, rfl, ho, hb⟩
    have HO := Aside0.mk (Kd.R_lower ho (below_size HB.out))
    have HB4 := Aside0.mk (below_step HB.out hb)
    clear ho hb HB HS
    go_wp2
    go_ret2
    exact ⟨_, rfl, HO.out, HB4.out⟩
  · go_enter Try.func42, Try.ntmps42
    go_wp2_with fail
    refine (impl_countIn.calls a0 _ 1 5 n1 _ _ H1.out).mono ?_
    rintro e w1 ⟨rfl, hd1⟩
    have HB1 := Aside0.mk hd1.below
    clear hd1
    go_wp2_with fail
    refine (impl_countIn.calls a0 _ 0 5 n2 _ _ H2.out).mono ?_
    rintro e w2 ⟨rfl, hd2⟩
    have HB2 := Aside0.mk hd2.below
    clear hd2
    go_wp2_with fail
    refine (impl_countIn.calls a0 _ 0 5 n3 _ _ H3.out).mono ?_
    rintro e w3 ⟨rfl, hd3⟩
    have HB3 := Aside0.mk hd3.below
    clear hd3
    have HB := Aside0.mk (below_alloc (below_step (below_alloc (below_step (below_alloc HB1.out (.cells #[.int .i64 n1] 3)) HB2.out) (.cells #[.int .i64 n2] 3)) HB3.out) (.cells #[.int .i64 n3] 3))
    have HS := Aside0.mk (show Gives2 59 #[.pointer (some ⟨w1.heap.size, 0, none⟩)] (ruleSo 5 n1) (w3.alloc (.cells #[.int .i64 n3] 3)) from fun W a s hW h1 h2 h3 h4 => impl_namedTriangle.lit5 n1 w1.heap.size W ((hW.cell (p := ⟨w1.heap.size, 0, none⟩) (by have := HB3.out.size; have := HB2.out.size; simp at *; omega)).trans ((World.cell?_alloc_past _ _ _ (by have := HB3.out.size; have := HB2.out.size; simp at *; omega)).trans ((HB3.out.cell (p := ⟨w1.heap.size, 0, none⟩) (by have := HB2.out.size; simp at *; omega)).trans ((World.cell?_alloc_past _ _ _ (by have := HB2.out.size; simp at *; omega)).trans ((HB2.out.cell (p := ⟨w1.heap.size, 0, none⟩) (by simp)).trans (by simp)))))) a s h1 h2 h3 h4)
    clear HB1 HB2 HB3 H1 H2 H3
    go_wp2_with fail
    refine (impl_triangleBy.calls _ (enters_of Try.func59 (by kernel_rfl) rfl) _ _ _ HS.out).mono ?_
    rintro e w4 ⟨v, rfl, ho, hb⟩
    have HO := Aside0.mk (Kd.R_lower ho (below_size HB.out))
    have HB4 := Aside0.mk (below_step HB.out hb)
    clear ho hb HB HS
    go_wp2
    go_ret2
    exact ⟨_, rfl, HO.out, HB4.out⟩
  · go_enter Try.func42, Try.ntmps42
    go_wp2_with fail
    refine (impl_countIn.calls a0 _ 1 5 n1 _ _ H1.out).mono ?_
    rintro e w1 ⟨rfl, hd1⟩
    have HB1 := Aside0.mk hd1.below
    clear hd1
    go_wp2_with fail
    refine (impl_countIn.calls a0 _ 0 5 n2 _ _ H2.out).mono ?_
    rintro e w2 ⟨rfl, hd2⟩
    have HB2 := Aside0.mk hd2.below
    clear hd2
    go_wp2_with fail
    refine (impl_countIn.calls a0 _ 0 5 n3 _ _ H3.out).mono ?_
    rintro e w3 ⟨rfl, hd3⟩
    have HB3 := Aside0.mk hd3.below
    clear hd3
    have HB := Aside0.mk (below_alloc (below_step (below_alloc (below_step (below_alloc HB1.out (.cells #[.int .i64 n1] 3)) HB2.out) (.cells #[.int .i64 n2] 3)) HB3.out) (.cells #[.int .i64 n3] 3))
    have HS := Aside0.mk (show Gives2 61 #[.pointer (some ⟨w3.heap.size, 0, none⟩)] (ruleSo 7 n3) (w3.alloc (.cells #[.int .i64 n3] 3)) from fun W a s hW h1 h2 h3 h4 => impl_namedTriangle.lit7 n3 w3.heap.size W ((hW.cell (p := ⟨w3.heap.size, 0, none⟩) (by simp)).trans (by simp)) a s h1 h2 h3 h4)
    clear HB1 HB2 HB3 H1 H2 H3
    go_wp2_with fail
    refine (impl_triangleBy.calls _ (enters_of Try.func61 (by kernel_rfl) rfl) _ _ _ HS.out).mono ?_
    rintro e w4 ⟨v, rfl, ho, hb⟩
    have HO := Aside0.mk (Kd.R_lower ho (below_size HB.out))
    have HB4 := Aside0.mk (below_step HB.out hb)
    clear ho hb HB HS
    go_wp2
    go_ret2
    exact ⟨_, rfl, HO.out, HB4.out⟩
  · go_enter Try.func42, Try.ntmps42
    go_wp2_with fail
    refine (impl_countIn.calls a0 _ 1 5 n1 _ _ H1.out).mono ?_
    rintro e w1 ⟨rfl, hd1⟩
    have HB1 := Aside0.mk hd1.below
    clear hd1
    go_wp2_with fail
    refine (impl_countIn.calls a0 _ 0 5 n2 _ _ H2.out).mono ?_
    rintro e w2 ⟨rfl, hd2⟩
    have HB2 := Aside0.mk hd2.below
    clear hd2
    go_wp2_with fail
    refine (impl_countIn.calls a0 _ 0 5 n3 _ _ H3.out).mono ?_
    rintro e w3 ⟨rfl, hd3⟩
    have HB3 := Aside0.mk hd3.below
    clear hd3
    have HB := Aside0.mk (below_alloc (below_step (below_alloc (below_step (below_alloc HB1.out (.cells #[.int .i64 n1] 3)) HB2.out) (.cells #[.int .i64 n2] 3)) HB3.out) (.cells #[.int .i64 n3] 3))
    have HS := Aside0.mk (show Gives2 60 #[.pointer (some ⟨w2.heap.size, 0, none⟩)] (ruleSo 6 n2) (w3.alloc (.cells #[.int .i64 n3] 3)) from fun W a s hW h1 h2 h3 h4 => impl_namedTriangle.lit6 n2 w2.heap.size W ((hW.cell (p := ⟨w2.heap.size, 0, none⟩) (by have := HB3.out.size; simp at this ⊢; omega)).trans ((World.cell?_alloc_past _ _ _ (by have := HB3.out.size; simp at this; omega)).trans ((HB3.out.cell (p := ⟨w2.heap.size, 0, none⟩) (by simp)).trans (by simp)))) a s h1 h2 h3 h4)
    clear HB1 HB2 HB3 H1 H2 H3
    go_wp2_with fail
    refine (impl_triangleBy.calls _ (enters_of Try.func60 (by kernel_rfl) rfl) _ _ _ HS.out).mono ?_
    rintro e w4 ⟨v, rfl, ho, hb⟩
    have HO := Aside0.mk (Kd.R_lower ho (below_size HB.out))
    have HB4 := Aside0.mk (below_step HB.out hb)
    clear ho hb HB HS
    go_wp2
    go_ret2
    exact ⟨_, rfl, HO.out, HB4.out⟩
  · go_enter Try.func42, Try.ntmps42
    go_wp2_with fail
    refine (impl_countIn.calls a0 _ 1 5 n1 _ _ H1.out).mono ?_
    rintro e w1 ⟨rfl, hd1⟩
    have HB1 := Aside0.mk hd1.below
    clear hd1
    go_wp2_with fail
    refine (impl_countIn.calls a0 _ 0 5 n2 _ _ H2.out).mono ?_
    rintro e w2 ⟨rfl, hd2⟩
    have HB2 := Aside0.mk hd2.below
    clear hd2
    go_wp2_with fail
    refine (impl_countIn.calls a0 _ 0 5 n3 _ _ H3.out).mono ?_
    rintro e w3 ⟨rfl, hd3⟩
    have HB3 := Aside0.mk hd3.below
    clear hd3
    have HB := Aside0.mk (below_alloc (below_step (below_alloc (below_step (below_alloc HB1.out (.cells #[.int .i64 n1] 3)) HB2.out) (.cells #[.int .i64 n2] 3)) HB3.out) (.cells #[.int .i64 n3] 3))
    have HS := Aside0.mk (show Gives2 61 #[.pointer (some ⟨w3.heap.size, 0, none⟩)] (ruleSo 7 n3) (w3.alloc (.cells #[.int .i64 n3] 3)) from fun W a s hW h1 h2 h3 h4 => impl_namedTriangle.lit7 n3 w3.heap.size W ((hW.cell (p := ⟨w3.heap.size, 0, none⟩) (by simp)).trans (by simp)) a s h1 h2 h3 h4)
    clear HB1 HB2 HB3 H1 H2 H3
    go_wp2_with fail
    refine (impl_triangleBy.calls _ (enters_of Try.func61 (by kernel_rfl) rfl) _ _ _ HS.out).mono ?_
    rintro e w4 ⟨v, rfl, ho, hb⟩
    have HO := Aside0.mk (Kd.R_lower ho (below_size HB.out))
    have HB4 := Aside0.mk (below_step HB.out hb)
    clear ho hb HB HS
    go_wp2
    go_ret2
    exact ⟨_, rfl, HO.out, HB4.out⟩
set_option maxHeartbeats 2000000 in
set_option maxRecDepth 100000 in
theorem impl_namedTriangle.at5 (a0 : ByteArray) (n1 n2 n3 : Int) (b1 b2 b3 : Bool) (h1 : impl_countIn.f a0 (⟨#[97, 116, 108, 101, 97, 115, 116]⟩ : ByteArray) 1 5 = some (n1, b1)) (h2 : impl_countIn.f a0 (⟨#[106, 117, 115, 116]⟩ : ByteArray) 0 5 = some (n2, b2)) (h3 : impl_countIn.f a0 (⟨#[97, 108, 108, 98, 117, 116]⟩ : ByteArray) 0 5 = some (n3, b3)) (e0 : (a0.toList == [101, 118, 101, 114, 121]) = false) (e1 : (a0.toList == [115, 111, 109, 101]) = false) (e2 : (a0.toList == [110, 111]) = false) (e3 : (a0.toList == [109, 111, 115, 116]) = false) (e4 : (a0.toList == [101, 118, 101, 110]) = false) (w : World) :
    Calls Try.prog 42 #[.string a0] w fun e w' => ∃ v0_ : Value, e = .returned (.tuple #[v0_, .bool (namedPick 5 (n1, b1) (n2, b2) (n3, b3)).2]) ∧ Kd.R (Kd.int .i64) 3 w' w.heap.size (fun _ => True) v0_ (namedPick 5 (n1, b1) (n2, b2) (n3, b3)).1 ∧ Below w.heap.size w w' := by
  have hrun : ∀ fn f c w, Sem.run Try.prog (binOp BinOp.eql 50 (Value.func fn f c) Value.nilFunc) w = .ok (.bool false) w := fun _ _ _ _ => by kernel_rfl
  have hrun0 : ∀ w, Sem.run Try.prog (binOp BinOp.eql 50 Value.nilFunc Value.nilFunc) w = .ok (.bool true) w := fun _ => by kernel_rfl
  have H1 := Aside0.mk h1
  have H2 := Aside0.mk h2
  have H3 := Aside0.mk h3
  clear h1 h2 h3
  cases b1 <;> cases b2 <;> cases b3
  · go_enter Try.func42, Try.ntmps42
    go_wp2_with fail
    refine (impl_countIn.calls a0 _ 1 5 n1 _ _ H1.out).mono ?_
    rintro e w1 ⟨rfl, hd1⟩
    have HB1 := Aside0.mk hd1.below
    clear hd1
    go_wp2_with fail
    refine (impl_countIn.calls a0 _ 0 5 n2 _ _ H2.out).mono ?_
    rintro e w2 ⟨rfl, hd2⟩
    have HB2 := Aside0.mk hd2.below
    clear hd2
    go_wp2_with fail
    refine (impl_countIn.calls a0 _ 0 5 n3 _ _ H3.out).mono ?_
    rintro e w3 ⟨rfl, hd3⟩
    have HB3 := Aside0.mk hd3.below
    clear hd3
    go_wp2
    go_ret2
    exact ⟨_, rfl, Kd.R_nil _ _ _ _ _, (below_alloc (below_step (below_alloc (below_step (below_alloc HB1.out (.cells #[.int .i64 n1] 3)) HB2.out) (.cells #[.int .i64 n2] 3)) HB3.out) (.cells #[.int .i64 n3] 3))⟩
  · go_enter Try.func42, Try.ntmps42
    go_wp2_with fail
    refine (impl_countIn.calls a0 _ 1 5 n1 _ _ H1.out).mono ?_
    rintro e w1 ⟨rfl, hd1⟩
    have HB1 := Aside0.mk hd1.below
    clear hd1
    go_wp2_with fail
    refine (impl_countIn.calls a0 _ 0 5 n2 _ _ H2.out).mono ?_
    rintro e w2 ⟨rfl, hd2⟩
    have HB2 := Aside0.mk hd2.below
    clear hd2
    go_wp2_with fail
    refine (impl_countIn.calls a0 _ 0 5 n3 _ _ H3.out).mono ?_
    rintro e w3 ⟨rfl, hd3⟩
    have HB3 := Aside0.mk hd3.below
    clear hd3
    have HB := Aside0.mk (below_alloc (below_step (below_alloc (below_step (below_alloc HB1.out (.cells #[.int .i64 n1] 3)) HB2.out) (.cells #[.int .i64 n2] 3)) HB3.out) (.cells #[.int .i64 n3] 3))
    have HS := Aside0.mk (show Gives2 61 #[.pointer (some ⟨w3.heap.size, 0, none⟩)] (ruleSo 7 n3) (w3.alloc (.cells #[.int .i64 n3] 3)) from fun W a s hW h1 h2 h3 h4 => impl_namedTriangle.lit7 n3 w3.heap.size W ((hW.cell (p := ⟨w3.heap.size, 0, none⟩) (by simp)).trans (by simp)) a s h1 h2 h3 h4)
    clear HB1 HB2 HB3 H1 H2 H3
    go_wp2_with fail
    refine (impl_triangleBy.calls _ (enters_of Try.func61 (by kernel_rfl) rfl) _ _ _ HS.out).mono ?_
    rintro e w4 ⟨v, rfl, ho, hb⟩
    have HO := Aside0.mk (Kd.R_lower ho (below_size HB.out))
    have HB4 := Aside0.mk (below_step HB.out hb)
    clear ho hb HB HS
    go_wp2
    go_ret2
    exact ⟨_, rfl, HO.out, HB4.out⟩
  · go_enter Try.func42, Try.ntmps42
    go_wp2_with fail
    refine (impl_countIn.calls a0 _ 1 5 n1 _ _ H1.out).mono ?_
    rintro e w1 ⟨rfl, hd1⟩
    have HB1 := Aside0.mk hd1.below
    clear hd1
    go_wp2_with fail
    refine (impl_countIn.calls a0 _ 0 5 n2 _ _ H2.out).mono ?_
    rintro e w2 ⟨rfl, hd2⟩
    have HB2 := Aside0.mk hd2.below
    clear hd2
    go_wp2_with fail
    refine (impl_countIn.calls a0 _ 0 5 n3 _ _ H3.out).mono ?_
    rintro e w3 ⟨rfl, hd3⟩
    have HB3 := Aside0.mk hd3.below
    clear hd3
    have HB := Aside0.mk (below_alloc (below_step (below_alloc (below_step (below_alloc HB1.out (.cells #[.int .i64 n1] 3)) HB2.out) (.cells #[.int .i64 n2] 3)) HB3.out) (.cells #[.int .i64 n3] 3))
    have HS := Aside0.mk (show Gives2 60 #[.pointer (some ⟨w2.heap.size, 0, none⟩)] (ruleSo 6 n2) (w3.alloc (.cells #[.int .i64 n3] 3)) from fun W a s hW h1 h2 h3 h4 => impl_namedTriangle.lit6 n2 w2.heap.size W ((hW.cell (p := ⟨w2.heap.size, 0, none⟩) (by have := HB3.out.size; simp at this ⊢; omega)).trans ((World.cell?_alloc_past _ _ _ (by have := HB3.out.size; simp at this; omega)).trans ((HB3.out.cell (p := ⟨w2.heap.size, 0, none⟩) (by simp)).trans (by simp)))) a s h1 h2 h3 h4)
    clear HB1 HB2 HB3 H1 H2 H3
    go_wp2_with fail
    refine (impl_triangleBy.calls _ (enters_of Try.func60 (by kernel_rfl) rfl) _ _ _ HS.out).mono ?_
    rintro e w4 ⟨v, rfl, ho, hb⟩
    have HO := Aside0.mk (Kd.R_lower ho (below_size HB.out))
    have HB4 := Aside0.mk (below_step HB.out hb)
    clear ho hb HB HS
    go_wp2
    go_ret2
    exact ⟨_, rfl, HO.out, HB4.out⟩
  · go_enter Try.func42, Try.ntmps42
    go_wp2_with fail
    refine (impl_countIn.calls a0 _ 1 5 n1 _ _ H1.out).mono ?_
    rintro e w1 ⟨rfl, hd1⟩
    have HB1 := Aside0.mk hd1.below
    clear hd1
    go_wp2_with fail
    refine (impl_countIn.calls a0 _ 0 5 n2 _ _ H2.out).mono ?_
    rintro e w2 ⟨rfl, hd2⟩
    have HB2 := Aside0.mk hd2.below
    clear hd2
    go_wp2_with fail
    refine (impl_countIn.calls a0 _ 0 5 n3 _ _ H3.out).mono ?_
    rintro e w3 ⟨rfl, hd3⟩
    have HB3 := Aside0.mk hd3.below
    clear hd3
    have HB := Aside0.mk (below_alloc (below_step (below_alloc (below_step (below_alloc HB1.out (.cells #[.int .i64 n1] 3)) HB2.out) (.cells #[.int .i64 n2] 3)) HB3.out) (.cells #[.int .i64 n3] 3))
    have HS := Aside0.mk (show Gives2 61 #[.pointer (some ⟨w3.heap.size, 0, none⟩)] (ruleSo 7 n3) (w3.alloc (.cells #[.int .i64 n3] 3)) from fun W a s hW h1 h2 h3 h4 => impl_namedTriangle.lit7 n3 w3.heap.size W ((hW.cell (p := ⟨w3.heap.size, 0, none⟩) (by simp)).trans (by simp)) a s h1 h2 h3 h4)
    clear HB1 HB2 HB3 H1 H2 H3
    go_wp2_with fail
    refine (impl_triangleBy.calls _ (enters_of Try.func61 (by kernel_rfl) rfl) _ _ _ HS.out).mono ?_
    rintro e w4 ⟨v, rfl, ho, hb⟩
    have HO := Aside0.mk (Kd.R_lower ho (below_size HB.out))
    have HB4 := Aside0.mk (below_step HB.out hb)
    clear ho hb HB HS
    go_wp2
    go_ret2
    exact ⟨_, rfl, HO.out, HB4.out⟩
  · go_enter Try.func42, Try.ntmps42
    go_wp2_with fail
    refine (impl_countIn.calls a0 _ 1 5 n1 _ _ H1.out).mono ?_
    rintro e w1 ⟨rfl, hd1⟩
    have HB1 := Aside0.mk hd1.below
    clear hd1
    go_wp2_with fail
    refine (impl_countIn.calls a0 _ 0 5 n2 _ _ H2.out).mono ?_
    rintro e w2 ⟨rfl, hd2⟩
    have HB2 := Aside0.mk hd2.below
    clear hd2
    go_wp2_with fail
    refine (impl_countIn.calls a0 _ 0 5 n3 _ _ H3.out).mono ?_
    rintro e w3 ⟨rfl, hd3⟩
    have HB3 := Aside0.mk hd3.below
    clear hd3
    have HB := Aside0.mk (below_alloc (below_step (below_alloc (below_step (below_alloc HB1.out (.cells #[.int .i64 n1] 3)) HB2.out) (.cells #[.int .i64 n2] 3)) HB3.out) (.cells #[.int .i64 n3] 3))
    have HS := Aside0.mk (show Gives2 59 #[.pointer (some ⟨w1.heap.size, 0, none⟩)] (ruleSo 5 n1) (w3.alloc (.cells #[.int .i64 n3] 3)) from fun W a s hW h1 h2 h3 h4 => impl_namedTriangle.lit5 n1 w1.heap.size W ((hW.cell (p := ⟨w1.heap.size, 0, none⟩) (by have := HB3.out.size; have := HB2.out.size; simp at *; omega)).trans ((World.cell?_alloc_past _ _ _ (by have := HB3.out.size; have := HB2.out.size; simp at *; omega)).trans ((HB3.out.cell (p := ⟨w1.heap.size, 0, none⟩) (by have := HB2.out.size; simp at *; omega)).trans ((World.cell?_alloc_past _ _ _ (by have := HB2.out.size; simp at *; omega)).trans ((HB2.out.cell (p := ⟨w1.heap.size, 0, none⟩) (by simp)).trans (by simp)))))) a s h1 h2 h3 h4)
    clear HB1 HB2 HB3 H1 H2 H3
    go_wp2_with fail
    refine (impl_triangleBy.calls _ (enters_of Try.func59 (by kernel_rfl) rfl) _ _ _ HS.out).mono ?_
    rintro e w4 ⟨v, rfl, ho, hb⟩
    have HO := Aside0.mk (Kd.R_lower ho (below_size HB.out))
    have HB4 := Aside0.mk (below_step HB.out hb)
    clear ho hb HB HS
    go_wp2
    go_ret2
    exact ⟨_, rfl, HO.out, HB4.out⟩
  · go_enter Try.func42, Try.ntmps42
    go_wp2_with fail
    refine (impl_countIn.calls a0 _ 1 5 n1 _ _ H1.out).mono ?_
    rintro e w1 ⟨rfl, hd1⟩
    have HB1 := Aside0.mk hd1.below
    clear hd1
    go_wp2_with fail
    refine (impl_countIn.calls a0 _ 0 5 n2 _ _ H2.out).mono ?_
    rintro e w2 ⟨rfl, hd2⟩
    have HB2 := Aside0.mk hd2.below
    clear hd2
    go_wp2_with fail
    refine (impl_countIn.calls a0 _ 0 5 n3 _ _ H3.out).mono ?_
    rintro e w3 ⟨rfl, hd3⟩
    have HB3 := Aside0.mk hd3.below
    clear hd3
    have HB := Aside0.mk (below_alloc (below_step (below_alloc (below_step (below_alloc HB1.out (.cells #[.int .i64 n1] 3)) HB2.out) (.cells #[.int .i64 n2] 3)) HB3.out) (.cells #[.int .i64 n3] 3))
    have HS := Aside0.mk (show Gives2 61 #[.pointer (some ⟨w3.heap.size, 0, none⟩)] (ruleSo 7 n3) (w3.alloc (.cells #[.int .i64 n3] 3)) from fun W a s hW h1 h2 h3 h4 => impl_namedTriangle.lit7 n3 w3.heap.size W ((hW.cell (p := ⟨w3.heap.size, 0, none⟩) (by simp)).trans (by simp)) a s h1 h2 h3 h4)
    clear HB1 HB2 HB3 H1 H2 H3
    go_wp2_with fail
    refine (impl_triangleBy.calls _ (enters_of Try.func61 (by kernel_rfl) rfl) _ _ _ HS.out).mono ?_
    rintro e w4 ⟨v, rfl, ho, hb⟩
    have HO := Aside0.mk (Kd.R_lower ho (below_size HB.out))
    have HB4 := Aside0.mk (below_step HB.out hb)
    clear ho hb HB HS
    go_wp2
    go_ret2
    exact ⟨_, rfl, HO.out, HB4.out⟩
  · go_enter Try.func42, Try.ntmps42
    go_wp2_with fail
    refine (impl_countIn.calls a0 _ 1 5 n1 _ _ H1.out).mono ?_
    rintro e w1 ⟨rfl, hd1⟩
    have HB1 := Aside0.mk hd1.below
    clear hd1
    go_wp2_with fail
    refine (impl_countIn.calls a0 _ 0 5 n2 _ _ H2.out).mono ?_
    rintro e w2 ⟨rfl, hd2⟩
    have HB2 := Aside0.mk hd2.below
    clear hd2
    go_wp2_with fail
    refine (impl_countIn.calls a0 _ 0 5 n3 _ _ H3.out).mono ?_
    rintro e w3 ⟨rfl, hd3⟩
    have HB3 := Aside0.mk hd3.below
    clear hd3
    have HB := Aside0.mk (below_alloc (below_step (below_alloc (below_step (below_alloc HB1.out (.cells #[.int .i64 n1] 3)) HB2.out) (.cells #[.int .i64 n2] 3)) HB3.out) (.cells #[.int .i64 n3] 3))
    have HS := Aside0.mk (show Gives2 60 #[.pointer (some ⟨w2.heap.size, 0, none⟩)] (ruleSo 6 n2) (w3.alloc (.cells #[.int .i64 n3] 3)) from fun W a s hW h1 h2 h3 h4 => impl_namedTriangle.lit6 n2 w2.heap.size W ((hW.cell (p := ⟨w2.heap.size, 0, none⟩) (by have := HB3.out.size; simp at this ⊢; omega)).trans ((World.cell?_alloc_past _ _ _ (by have := HB3.out.size; simp at this; omega)).trans ((HB3.out.cell (p := ⟨w2.heap.size, 0, none⟩) (by simp)).trans (by simp)))) a s h1 h2 h3 h4)
    clear HB1 HB2 HB3 H1 H2 H3
    go_wp2_with fail
    refine (impl_triangleBy.calls _ (enters_of Try.func60 (by kernel_rfl) rfl) _ _ _ HS.out).mono ?_
    rintro e w4 ⟨v, rfl, ho, hb⟩
    have HO := Aside0.mk (Kd.R_lower ho (below_size HB.out))
    have HB4 := Aside0.mk (below_step HB.out hb)
    clear ho hb HB HS
    go_wp2
    go_ret2
    exact ⟨_, rfl, HO.out, HB4.out⟩
  · go_enter Try.func42, Try.ntmps42
    go_wp2_with fail
    refine (impl_countIn.calls a0 _ 1 5 n1 _ _ H1.out).mono ?_
    rintro e w1 ⟨rfl, hd1⟩
    have HB1 := Aside0.mk hd1.below
    clear hd1
    go_wp2_with fail
    refine (impl_countIn.calls a0 _ 0 5 n2 _ _ H2.out).mono ?_
    rintro e w2 ⟨rfl, hd2⟩
    have HB2 := Aside0.mk hd2.below
    clear hd2
    go_wp2_with fail
    refine (impl_countIn.calls a0 _ 0 5 n3 _ _ H3.out).mono ?_
    rintro e w3 ⟨rfl, hd3⟩
    have HB3 := Aside0.mk hd3.below
    clear hd3
    have HB := Aside0.mk (below_alloc (below_step (below_alloc (below_step (below_alloc HB1.out (.cells #[.int .i64 n1] 3)) HB2.out) (.cells #[.int .i64 n2] 3)) HB3.out) (.cells #[.int .i64 n3] 3))
    have HS := Aside0.mk (show Gives2 61 #[.pointer (some ⟨w3.heap.size, 0, none⟩)] (ruleSo 7 n3) (w3.alloc (.cells #[.int .i64 n3] 3)) from fun W a s hW h1 h2 h3 h4 => impl_namedTriangle.lit7 n3 w3.heap.size W ((hW.cell (p := ⟨w3.heap.size, 0, none⟩) (by simp)).trans (by simp)) a s h1 h2 h3 h4)
    clear HB1 HB2 HB3 H1 H2 H3
    go_wp2_with fail
    refine (impl_triangleBy.calls _ (enters_of Try.func61 (by kernel_rfl) rfl) _ _ _ HS.out).mono ?_
    rintro e w4 ⟨v, rfl, ho, hb⟩
    have HO := Aside0.mk (Kd.R_lower ho (below_size HB.out))
    have HB4 := Aside0.mk (below_step HB.out hb)
    clear ho hb HB HS
    go_wp2
    go_ret2
    exact ⟨_, rfl, HO.out, HB4.out⟩
set_option maxHeartbeats 2000000 in
set_option maxRecDepth 100000 in
theorem impl_namedTriangle.calls (a0 : ByteArray) (r1 : List Int) (r2 : Bool) (w : World) (h : impl_namedTriangle.f a0 = some (r1, r2)) :
    Calls Try.prog 42 #[.string a0] w fun e w' => ∃ v0_ : Value, e = .returned (.tuple #[v0_, .bool r2]) ∧ Kd.R (Kd.int .i64) 3 w' w.heap.size (fun _ => True) v0_ r1 ∧ Below w.heap.size w w' := by
  unfold impl_namedTriangle.f at h
  obtain ⟨⟨n1, b1⟩, h1, h⟩ := Option.bind_eq_some_iff.mp h
  obtain ⟨⟨n2, b2⟩, h2, h⟩ := Option.bind_eq_some_iff.mp h
  obtain ⟨⟨n3, b3⟩, h3, h⟩ := Option.bind_eq_some_iff.mp h
  have h := Option.some.inj h
  obtain ⟨rfl, rfl⟩ : (namedPick (plainName a0.toList) (n1, b1) (n2, b2) (n3, b3)).1 = r1 ∧ (namedPick (plainName a0.toList) (n1, b1) (n2, b2) (n3, b3)).2 = r2 := by rw [h]; exact ⟨rfl, rfl⟩
  clear h
  unfold plainName
  by_cases e0 : (a0.toList == [101, 118, 101, 114, 121]) = true
  · simp only [if_pos e0]
    exact impl_namedTriangle.at0 a0 n1 n2 n3 b1 b2 b3 h1 h2 h3  e0 w
  · skip
    by_cases e1 : (a0.toList == [115, 111, 109, 101]) = true
    · simp only [if_neg e0, if_pos e1]
      exact impl_namedTriangle.at1 a0 n1 n2 n3 b1 b2 b3 h1 h2 h3 (Bool.eq_false_iff.mpr e0) e1 w
    · skip
      by_cases e2 : (a0.toList == [110, 111]) = true
      · simp only [if_neg e0, if_neg e1, if_pos e2]
        exact impl_namedTriangle.at2 a0 n1 n2 n3 b1 b2 b3 h1 h2 h3 (Bool.eq_false_iff.mpr e0) (Bool.eq_false_iff.mpr e1) e2 w
      · skip
        by_cases e3 : (a0.toList == [109, 111, 115, 116]) = true
        · simp only [if_neg e0, if_neg e1, if_neg e2, if_pos e3]
          exact impl_namedTriangle.at3 a0 n1 n2 n3 b1 b2 b3 h1 h2 h3 (Bool.eq_false_iff.mpr e0) (Bool.eq_false_iff.mpr e1) (Bool.eq_false_iff.mpr e2) e3 w
        · skip
          by_cases e4 : (a0.toList == [101, 118, 101, 110]) = true
          · simp only [if_neg e0, if_neg e1, if_neg e2, if_neg e3, if_pos e4]
            exact impl_namedTriangle.at4 a0 n1 n2 n3 b1 b2 b3 h1 h2 h3 (Bool.eq_false_iff.mpr e0) (Bool.eq_false_iff.mpr e1) (Bool.eq_false_iff.mpr e2) (Bool.eq_false_iff.mpr e3) e4 w
          · skip
            simp only [if_neg e0, if_neg e1, if_neg e2, if_neg e3, if_neg e4]
            exact impl_namedTriangle.at5 a0 n1 n2 n3 b1 b2 b3 h1 h2 h3 (Bool.eq_false_iff.mpr e0) (Bool.eq_false_iff.mpr e1) (Bool.eq_false_iff.mpr e2) (Bool.eq_false_iff.mpr e3) (Bool.eq_false_iff.mpr e4) w

end Go.Proofs.Ytgkifmabdfjejaa.P
