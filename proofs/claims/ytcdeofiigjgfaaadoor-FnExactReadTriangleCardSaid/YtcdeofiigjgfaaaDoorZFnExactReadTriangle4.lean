-- Texts of this claim, laid one behind the other by wip/gen/merge.py.
import Derived.Test.YtcdeofiigjgfaaaDoorZFnExactReadTriangle3
import Derived.Test.YtcdeofiigjgfaaaDoorZFnExactReadTriangle0
import Derived.Lib.Join
import Derived.Lib.ItoaNum
import Derived.Test.YtcdeofiigjgfaaaDoorZFnExactReadTriangle2
import Derived.Test.YtcdeofiigjgfaaaDoorZFnExactReadTriangle1
/- Plain facts on lists of numbers by rows and by indexes, and on the entries of a triangle. No condition beyond those typed. -/
namespace Go.Proofs.YtcdeofiigjgfaaaDoor.P
open Go.RowKit Go.Proofs.YtcdeofiigjgfaaaDoorW.PrintWords Go.Proofs.YtcdeofiigjgfaaaDoorW.PrintLast

/-! Lists by rows, and by indexes. -/
def rowI (f : Int → Int → Int) (a m : Nat) : List Int := (List.range m).map fun (s : Nat) => f (a : Int) (s : Int)
def rowsI (f : Int → Int → Int) (n : Nat) : List Int := (List.range n).flatMap fun a => rowI f a (a + 1)
theorem rowI_zero (f : Int → Int → Int) (a : Nat) : rowI f a 0 = [] := rfl
theorem rowI_succ (f : Int → Int → Int) (a m : Nat) : rowI f a (m + 1) = rowI f a m ++ [f a m] := by simp [rowI, List.range_succ]
theorem rowsI_succ (f : Int → Int → Int) (n : Nat) : rowsI f (n + 1) = rowsI f n ++ rowI f n (n + 1) := by simp [rowsI, List.range_succ]
theorem rowI_length (f : Int → Int → Int) (a m : Nat) : (rowI f a m).length = m := by simp [rowI]
theorem rowsI_length_le (f : Int → Int → Int) : ∀ n, n ≤ 6 → (rowsI f n).length ≤ 6 * n
  | 0, _ => by simp [rowsI]
  | n + 1, h => by
    have := rowsI_length_le f n (by omega)
    rw [rowsI_succ, List.length_append, rowI_length]
    omega
theorem triI_rows (f : Int → Int → Int) : rowsI f 6 = triI f := rfl
theorem rows_bound (f : Int → Int → Int) (n m : Nat) (hn : n < 6) (hm : m ≤ n + 1) : (rowsI f n ++ rowI f n m).length < 17592186044416 := by
  have := rowsI_length_le f n (by omega)
  rw [List.length_append, rowI_length]
  omega
def idx (f : Int → Int) (n : Nat) : List Int := (List.range n).map fun (j : Nat) => f (j : Int)
theorem idx_succ (f : Int → Int) (n : Nat) : idx f (n + 1) = idx f n ++ [f n] := by simp [idx, List.range_succ]
theorem idx_length (f : Int → Int) (n : Nat) : (idx f n).length = n := by simp [idx]
theorem idx_tri (f : Int → Int) : idx f 21 = triI fun a s => f (pl a s) := rfl
theorem wrap_succ6 (i : Nat) (h : i ≤ 100) : wrap64 ((i : Int) + 1) = ((i + 1 : Nat) : Int) := by unfold wrap64; omega
theorem bit_of (l : List Int) (h : isTri l = true) (a s : Int) : rd l (pl a s) = if hd l a s = true then 1 else 0 := by
  unfold hd
  rcases tri_bit l h (pl a s) with e | e
  · rw [show a * (a + 1) / 2 + s = pl a s from rfl, e]; rfl
  · rw [show a * (a + 1) / 2 + s = pl a s from rfl, e]; rfl

end Go.Proofs.YtcdeofiigjgfaaaDoor.P

-- Written by wip/gen/lay.py, a program of this session, with the kit's print as its base. Lean checks every line.
namespace Go.Proofs.YtcdeofiigjgfaaaDoor.P
open Go.RowKit Go.Proofs.YtcdeofiigjgfaaaDoorW.PrintWords Go.Proofs.YtcdeofiigjgfaaaDoorW.PrintLast Go.Proofs.YtcdeofiigjgfaaaDoorW.PrintMore
attribute [local go_sem] max2_int min2_int max_two min_two max_three min_three max_four min_four   -- for this text's walks alone
set_option linter.unusedVariables false
set_option linter.unusedSimpArgs false

/-! ### impl_TriangleOk: function 10 -/
def impl_TriangleOk.f (k : Nat) (l0 : List Int) : Option (Bool) := (impl_isTriangle.f k l0).bind fun t313 => (some t313)
theorem impl_TriangleOk.mono : ∀ a0 k, LeO (impl_TriangleOk.f k a0) (impl_TriangleOk.f (k + 1) a0) := by
  intro a0 k
  unfold impl_TriangleOk.f
  repeat' first
      | (with_reducible exact impl_isTriangle.mono _ _)
      | (with_reducible exact LeO.refl _)
      | (with_reducible exact LeO.none _)
      | (with_reducible refine LeO.ite ?_ ?_)
      | (with_reducible refine LeO.bind ?_ (fun _ => ?_))
      | exact impl_isTriangle.mono _ _
      | exact LeO.none _
      | refine LeO.ite ?_ ?_
      | refine LeO.bind ?_ (fun _ => ?_)
set_option maxHeartbeats 8000000 in
set_option maxRecDepth 100000 in
theorem impl_TriangleOk.calls (k : Nat) (A0 : Option Addr) (c0 : Nat) (l0 : List Int) (r : Bool) (w : World) (hr0 : Kd.C (Kd.int .i64) w A0 l0.length l0) (hc0 : l0.length ≤ c0) (h : impl_TriangleOk.f k l0 = some r) :
    Calls Tryd.prog 10 #[.slice A0 l0.length c0] w fun e w' => e = .returned (.bool r) ∧ Drawn0 w w' := by
  have HR0 := Aside0.mk hr0
  have HC0 := Aside0.mk hc0
  clear hr0 hc0
  have H : ((impl_isTriangle.f k l0).bind fun t313 => (some t313)) = some r := h
  clear h
  replace H := Option.bind_eq_some_iff.mp H
  obtain ⟨t313, A20, H⟩ := H
  replace H : (some t313) = some r := H
  have A2 := Aside0.mk A20
  clear A20
  obtain rfl := Option.some.inj H
  go_enter Tryd.func10, Tryd.ntmps10
  go_wp2_with (first | ((with_reducible refine gate_callee (f := 22) rfl ?_); refine goesL_ (some 4) rfl rfl Tryd.func22 (by kernel_rfl) rfl #[.slice A0 l0.length c0] rfl (by (try simp only [List.map_toArray, List.map_cons, List.map_nil]); first | done | rfl | (simp only [List.length_drop, List.length_take]; rfl)) ?_; (with_reducible refine (impl_isTriangle.calls k _ _ l0 t313 _ ?side1 ?side2 A2.out).mono ?_); (case side1 => repeat (first | exact HR0.out | (with_reducible refine Kd.C_alloc ?_ _) | (with_reducible refine Kd.C_drewN ?_ _) | (with_reducible refine Kd.C_drew ?_))); (case side2 => exact HC0.out); rintro e w' ⟨rfl, ⟨nd, rfl⟩⟩; refine ⟨_, rfl, ?_⟩))
  go_ret
  exact ⟨by first | rfl | (simp; done) | (simp [*]; done), by repeat (first | exact Drawn0.refl _ | apply Drawn0.step)⟩

end Go.Proofs.YtcdeofiigjgfaaaDoor.P

/- Plain facts: what the program's TriangleOk comes to. No condition beyond those typed. -/
namespace Go.Proofs.YtcdeofiigjgfaaaDoor.P
open Go.RowKit Go.Proofs.YtcdeofiigjgfaaaDoorW.PrintWords Go.Proofs.YtcdeofiigjgfaaaDoorW.PrintLast

theorem impl_TriangleOk_k (l : List Int) (hl : l.length ≤ 1048576) (k : Nat) (hk : 1048576 < k) : impl_TriangleOk.f k l = some (isTri l) := by
  unfold impl_TriangleOk.f
  rw [impl_isTriangle_k l hl k hk]
  rfl


end Go.Proofs.YtcdeofiigjgfaaaDoor.P

-- Written by wip/gen/lay.py, a program of this session, with the kit's print as its base. Lean checks every line.
namespace Go.Proofs.YtcdeofiigjgfaaaDoor.P
open Go.RowKit Go.Proofs.YtcdeofiigjgfaaaDoorW.PrintWords Go.Proofs.YtcdeofiigjgfaaaDoorW.PrintLast Go.Proofs.YtcdeofiigjgfaaaDoorW.PrintMore
attribute [local go_sem] max2_int min2_int max_two min_two max_three min_three max_four min_four   -- for this text's walks alone
set_option linter.unusedVariables false
set_option linter.unusedSimpArgs false

/-! ### impl_TriangleText: function 8 -/
def impl_TriangleText.f (k : Nat) (l0 : List Int) : Option (ByteArray) := (impl_isTriangle.f k l0).bind fun t307 => (if t307 = true then ((impl_triangleText.f k l0).bind fun t308 => (some t308)) else (some (⟨#[]⟩ : ByteArray)))
theorem impl_TriangleText.mono : ∀ a0 k, LeO (impl_TriangleText.f k a0) (impl_TriangleText.f (k + 1) a0) := by
  intro a0 k
  unfold impl_TriangleText.f
  repeat' first
      | (with_reducible exact impl_isTriangle.mono _ _)
      | (with_reducible exact impl_triangleText.mono _ _)
      | (with_reducible exact LeO.refl _)
      | (with_reducible exact LeO.none _)
      | (with_reducible refine LeO.ite ?_ ?_)
      | (with_reducible refine LeO.bind ?_ (fun _ => ?_))
      | exact impl_isTriangle.mono _ _
      | exact impl_triangleText.mono _ _
      | exact LeO.none _
      | refine LeO.ite ?_ ?_
      | refine LeO.bind ?_ (fun _ => ?_)
set_option maxHeartbeats 8000000 in
set_option maxRecDepth 100000 in
theorem impl_TriangleText.calls (k : Nat) (A0 : Option Addr) (c0 : Nat) (l0 : List Int) (r : ByteArray) (w : World) (hr0 : Kd.C (Kd.int .i64) w A0 l0.length l0) (hc0 : l0.length ≤ c0) (h : impl_TriangleText.f k l0 = some r) :
    Calls Tryd.prog 8 #[.slice A0 l0.length c0] w fun e w' => e = .returned (.string r) ∧ Below w.heap.size w w' := by
  have HR0 := Aside0.mk hr0
  have HC0 := Aside0.mk hc0
  clear hr0 hc0
  have HB := Aside0.mk (Below.refl w.heap.size w)
  have H : ((impl_isTriangle.f k l0).bind fun t307 => (if t307 = true then ((impl_triangleText.f k l0).bind fun t308 => (some t308)) else (some (⟨#[]⟩ : ByteArray)))) = some r := h
  clear h
  replace H := Option.bind_eq_some_iff.mp H
  obtain ⟨t307, A20, H⟩ := H
  replace H : (if t307 = true then ((impl_triangleText.f k l0).bind fun t308 => (some t308)) else (some (⟨#[]⟩ : ByteArray))) = some r := H
  have A2 := Aside0.mk A20
  clear A20
  by_cases c3 : t307 = true
  · subst c3
    have H1 : ((impl_triangleText.f k l0).bind fun t308 => (some t308)) = some r := by rw [if_pos rfl] at H; exact H
    clear H
    have H := H1
    clear H1
    replace H := Option.bind_eq_some_iff.mp H
    obtain ⟨t308, A40, H⟩ := H
    replace H : (some t308) = some r := H
    have A4 := Aside0.mk A40
    clear A40
    obtain rfl := Option.some.inj H
    go_enter Tryd.func8, Tryd.ntmps8
    go_wp2_with (first | ((with_reducible refine gate_callee (f := 22) rfl ?_); refine goesL_ (some 4) rfl rfl Tryd.func22 (by kernel_rfl) rfl #[.slice A0 l0.length c0] rfl (by (try simp only [List.map_toArray, List.map_cons, List.map_nil]); first | done | rfl | (simp only [List.length_drop, List.length_take]; rfl)) ?_; (with_reducible refine (impl_isTriangle.calls k _ _ l0 true _ ?side1 ?side2 A2.out).mono ?_); (case side1 => repeat (first | exact HR0.out | (with_reducible refine Kd.C_alloc ?_ _) | (with_reducible refine Kd.C_drewN ?_ _) | (with_reducible refine Kd.C_drew ?_))); (case side2 => exact HC0.out); rintro e w' ⟨rfl, ⟨nd, rfl⟩⟩; refine ⟨_, rfl, ?_⟩) | ((with_reducible refine gate_callee (f := 23) rfl ?_); refine goesL_ (some 7) rfl rfl Tryd.func23 (by kernel_rfl) rfl #[.slice A0 l0.length c0] rfl (by (try simp only [List.map_toArray, List.map_cons, List.map_nil]); first | done | rfl | (simp only [List.length_drop, List.length_take]; rfl)) ?_; (with_reducible refine (impl_triangleText.calls k _ _ l0 t308 _ ?side1 ?side2 A4.out).mono ?_); (case side1 => repeat (first | exact HR0.out | (with_reducible refine Kd.C_alloc ?_ _) | (with_reducible refine Kd.C_drewN ?_ _) | (with_reducible refine Kd.C_drew ?_))); (case side2 => exact HC0.out); rintro e w5 ⟨rfl, hb⟩; refine ⟨_, rfl, ?_⟩; have n0_ := Aside0.mk (below_step (by repeat (first | (with_reducible first | exact HB.out | apply below_alloc | apply pw_below_drewN | apply below_drew1) | exact HB.out)) hb); clear HB; have HB := n0_; clear n0_; (try clear hb); (try clear hb2); (try clear hk); (try clear hi)))
    go_ret
    exact ⟨by first | rfl | (simp [errW_none, errW_some] <;> rfl) | (simp [*, errW_none, errW_some] <;> rfl), by repeat (first | (with_reducible first | exact HB.out | apply below_alloc | apply pw_below_drewN | apply below_drew1) | exact HB.out)⟩
  · replace c3 := Bool.eq_false_iff.mpr c3
    subst c3
    have H1 : (some (⟨#[]⟩ : ByteArray)) = some r := by rw [if_neg (show ¬ (false = true) by decide)] at H; exact H
    clear H
    have H := H1
    clear H1
    obtain rfl := Option.some.inj H
    go_enter Tryd.func8, Tryd.ntmps8
    go_wp2_with (first | ((with_reducible refine gate_callee (f := 22) rfl ?_); refine goesL_ (some 4) rfl rfl Tryd.func22 (by kernel_rfl) rfl #[.slice A0 l0.length c0] rfl (by (try simp only [List.map_toArray, List.map_cons, List.map_nil]); first | done | rfl | (simp only [List.length_drop, List.length_take]; rfl)) ?_; (with_reducible refine (impl_isTriangle.calls k _ _ l0 false _ ?side1 ?side2 A2.out).mono ?_); (case side1 => repeat (first | exact HR0.out | (with_reducible refine Kd.C_alloc ?_ _) | (with_reducible refine Kd.C_drewN ?_ _) | (with_reducible refine Kd.C_drew ?_))); (case side2 => exact HC0.out); rintro e w' ⟨rfl, ⟨nd, rfl⟩⟩; refine ⟨_, rfl, ?_⟩))
    go_ret
    exact ⟨by first | rfl | (simp [errW_none, errW_some] <;> rfl) | (simp [*, errW_none, errW_some] <;> rfl), by repeat (first | (with_reducible first | exact HB.out | apply below_alloc | apply pw_below_drewN | apply below_drew1) | exact HB.out)⟩

end Go.Proofs.YtcdeofiigjgfaaaDoor.P

/- Texts of triangles: what the program's and the reference's TriangleText and ReadTriangle come to, with enough rounds. Plain facts. -/
namespace Go.Proofs.YtcdeofiigjgfaaaDoor.P
open Go.RowKit Go.Proofs.YtcdeofiigjgfaaaDoorW.PrintWords Go.Proofs.YtcdeofiigjgfaaaDoorW.PrintLast

def bL (L : List UInt8) : ByteArray := ⟨L.toArray⟩
theorem bL_of (a : ByteArray) : bL a.toList = a := by
  rw [ByteArray.toList_eq]
  cases a
  rfl
theorem bL_toList (L : List UInt8) : (bL L).toList = L := by rw [ByteArray.toList_eq]; rfl
theorem bL_data (L : List UInt8) : (bL L).data.toList = L := rfl
theorem bL_size (L : List UInt8) : (bL L).size = L.length := rfl
theorem bL_append (L M : List UInt8) : bL L ++ bL M = bL (L ++ M) := by
  apply ByteArray.ext
  simp [bL]
/-- A number's digit. -/
def dgt (x : Int) : UInt8 := UInt8.ofNat (48 + x.toNat)
def rowT (t : List Int) (a m : Nat) : List UInt8 := (List.range m).map fun (s : Nat) => dgt (rd t (pl a s))
theorem rowT_zero (t : List Int) (a : Nat) : rowT t a 0 = [] := rfl
theorem rowT_succ (t : List Int) (a m : Nat) : rowT t a (m + 1) = rowT t a m ++ [dgt (rd t (pl a m))] := by simp [rowT, List.range_succ]
theorem rowT_length (t : List Int) (a m : Nat) : (rowT t a m).length = m := by simp [rowT]
def rowsT (t : List Int) (a : Nat) : List ByteArray := (List.range a).map fun (i : Nat) => bL (rowT t i (i + 1))
theorem rowsT_succ (t : List Int) (a : Nat) : rowsT t (a + 1) = rowsT t a ++ [bL (rowT t a (a + 1))] := by simp [rowsT, List.range_succ]
theorem rowsT_length (t : List Int) (a : Nat) : (rowsT t a).length = a := by simp [rowsT]
/-- The rows before row a, each but the first behind a slash. -/
def accT (t : List Int) : Nat → List UInt8
  | 0 => []
  | a + 1 => accT t a ++ ((if a > 0 then [47] else []) ++ rowT t a (a + 1))
def textL (t : List Int) : List UInt8 := accT t 6
theorem accT_length (t : List Int) : ∀ a, a ≤ 6 → (accT t a).length ≤ 10 * a
  | 0, _ => by simp [accT]
  | a + 1, ha => by
    have := accT_length t a (by omega)
    rw [accT, List.length_append, List.length_append, rowT_length]
    have h : (if a > 0 then [(47 : UInt8)] else []).length ≤ 1 := by split <;> simp
    omega
theorem textL_length (t : List Int) : (textL t).length = 26 := by
  simp only [textL, accT, List.length_append, rowT_length]
  rfl
theorem join_rows (t : List Int) : Lib.join ((rowsT t 6).map (·.data.toList)) [47] = textL t := by
  have e : (rowsT t 6).map (·.data.toList) = [rowT t 0 1, rowT t 1 2, rowT t 2 3, rowT t 3 4, rowT t 4 5, rowT t 5 6] := rfl
  rw [e]
  simp only [textL, accT, Lib.join, List.intercalate]
  simp
theorem itoa01 (x : Int) (h : x = 0 ∨ x = 1) : strconv_Itoa.f x = some (bL [dgt x]) := by
  rcases h with rfl | rfl
  · unfold strconv_Itoa.f
    rw [if_pos (by decide)]
    unfold Lib.decDigits
    rfl
  · unfold strconv_Itoa.f
    rw [if_pos (by decide)]
    unfold Lib.decDigits
    rfl
theorem number01 (x : Int) (h : x = 0 ∨ x = 1) (k : Nat) (hk : 1 ≤ k) : spec_l1Number.f k x = some (bL [dgt x]) := by
  obtain ⟨k, rfl⟩ : ∃ m, k = m + 1 := ⟨k - 1, by omega⟩
  simp only [spec_l1Number.f]
  rw [if_pos (by omega)]
  rcases h with rfl | rfl <;> decide +kernel
theorem impl_placeOf_tri (a s : Nat) (h1 : a ≤ 5) (h2 : s ≤ a) : impl_placeOf.f (a : Int) (s : Int) = some (pl a s) := by
  unfold impl_placeOf.f
  rw [pl_wrap a s (by omega) (by omega) (by omega) (by omega)]
theorem impl_triangleText_l1 (t : List Int) (h : isTri t = true) (x3 : List ByteArray) (hx : x3.length ≤ 6) (a : Nat) (ha : a < 6) (d : Nat) : ∀ (m s : Nat), s + d = a + 1 →
    impl_triangleText.l1 (m + d + 1) t x3 (a : Int) (bL (rowT t a s)) (a : Int) ((a + 1 : Nat) : Int) (s : Int) = impl_triangleText.l0 m t (x3 ++ [bL (rowT t a (a + 1))]) ((a + 1 : Nat) : Int) := by
  have hlen := isTri_length h
  induction d with
  | zero =>
    intro m s hs
    obtain ⟨M, hM⟩ : ∃ M, M = m + 0 := ⟨_, rfl⟩
    rw [← hM, show m = M from by omega]
    simp only [impl_triangleText.l1]
    rw [if_neg (by omega), if_pos (by omega), wrap_succ6 a (by omega), show s = a + 1 from by omega]
  | succ d ih =>
    intro m s hs
    obtain ⟨M, hM⟩ : ∃ M, M = m + d + 1 := ⟨_, rfl⟩
    rw [show m + (d + 1) + 1 = M + 1 from by omega]
    obtain ⟨p1, p2⟩ := pl_range a s (by omega) (by omega) (by omega) (by omega)
    have hi := ih m (s + 1) (by omega)
    simp only [impl_triangleText.l1]
    rw [if_pos (by omega), impl_placeOf_tri a s (by omega) (by omega), Option.bind_some, if_pos p1, if_pos (by rw [hlen]; exact p2), itoa01 _ (tri_bit t h _), Option.bind_some, if_pos (by rw [bL_size, bL_size, rowT_length]; simp; omega), bL_append, ← rowT_succ, wrap_succ6 s (by omega), hM]
    exact hi
theorem impl_triangleText_l0 (t : List Int) (h : isTri t = true) (e : Nat) : ∀ (k a : Nat), a + e = 6 → 20 * e + 20 < k →
    impl_triangleText.l0 k t (rowsT t a) (a : Int) = some (bL (textL t)) := by
  induction e with
  | zero =>
    intro k a g hk
    obtain ⟨k, rfl⟩ : ∃ m, k = m + 1 := ⟨k - 1, by omega⟩
    obtain rfl : a = 6 := by omega
    have hj := join_rows t
    simp only [impl_triangleText.l0]
    rw [if_neg (by omega)]
    unfold strings_Join.f
    rw [show (⟨#[47]⟩ : ByteArray).data.toList = [47] from rfl, hj, if_pos ⟨by rw [textL_length]; omega, by rw [rowsT_length]; omega⟩]
    rfl
  | succ e ih =>
    intro k a g hk
    obtain ⟨k, rfl⟩ : ∃ m, k = m + (a + 1) + 1 + 1 := ⟨k - (a + 3), by omega⟩
    have hh1 := impl_triangleText_l1 t h (rowsT t a) (by rw [rowsT_length]; omega) a (by omega) (a + 1) k 0 (by omega)
    rw [rowT_zero, ← rowsT_succ] at hh1
    simp only [impl_triangleText.l0]
    rw [if_pos (by omega), wrap_succ6 a (by omega)]
    refine Eq.trans hh1 ?_
    exact ih k (a + 1) (by omega) (by omega)
theorem impl_triangleText_k (t : List Int) (h : isTri t = true) (k : Nat) (hk : 300 ≤ k) : impl_triangleText.f k t = some (bL (textL t)) := by
  unfold impl_triangleText.f
  exact impl_triangleText_l0 t h 6 k 0 (by omega) (by omega)
/-- What TriangleText answers. -/
def textP (t : List Int) : List UInt8 := if isTri t = true then textL t else []
theorem impl_TriangleText_k (t : List Int) (hl : t.length ≤ 1048576) (k : Nat) (hk : 1048600 ≤ k) : impl_TriangleText.f k t = some (bL (textP t)) := by
  unfold impl_TriangleText.f textP
  rw [impl_isTriangle_k t hl k (by omega), Option.bind_some]
  by_cases h : isTri t = true
  · rw [if_pos h, if_pos h, impl_triangleText_k t h k (by omega), Option.bind_some]
  · rw [if_neg h, if_neg h]
    rfl
theorem spec_TriangleText_l1 (t : List Int) (h : isTri t = true) (P : List UInt8) (hP : P.length ≤ 1000) (a : Nat) (ha : a < 6) (d : Nat) : ∀ (m s : Nat), s + d = a + 1 → 1 ≤ m →
    spec_TriangleText.l1 (m + d + 1) t (bL (P ++ rowT t a s)) (a : Int) (s : Int) = spec_TriangleText.l0 m t (bL (P ++ rowT t a (a + 1))) ((a + 1 : Nat) : Int) := by
  have hlen := isTri_length h
  induction d with
  | zero =>
    intro m s hs _
    obtain ⟨M, hM⟩ : ∃ M, M = m + 0 := ⟨_, rfl⟩
    rw [← hM, show m = M from by omega]
    simp only [spec_TriangleText.l1]
    rw [if_neg (by omega), wrap_succ6 a (by omega), show s = a + 1 from by omega]
  | succ d ih =>
    intro m s hs hm
    obtain ⟨M, hM⟩ : ∃ M, M = m + d + 1 := ⟨_, rfl⟩
    rw [show m + (d + 1) + 1 = M + 1 from by omega]
    obtain ⟨p1, p2⟩ := pl_range a s (by omega) (by omega) (by omega) (by omega)
    have hi := ih m (s + 1) (by omega) hm
    simp only [spec_TriangleText.l1]
    rw [if_pos (by omega), spec_PlaceOf_eq, plOr_in a s (by omega) (by omega) (by omega) (by omega), Option.bind_some, if_pos p1, if_pos (by rw [hlen]; exact p2), number01 _ (tri_bit t h _) M (by omega), Option.bind_some, if_pos (by rw [bL_size, bL_size, List.length_append, rowT_length]; simp; omega), bL_append, List.append_assoc, ← rowT_succ, wrap_succ6 s (by omega), hM]
    exact hi
theorem spec_TriangleText_l0 (t : List Int) (h : isTri t = true) (e : Nat) : ∀ (k a : Nat), a + e = 6 → 20 * e + 1048600 < k →
    spec_TriangleText.l0 k t (bL (accT t a)) (a : Int) = some (bL (textL t)) := by
  have hlen := isTri_length h
  induction e with
  | zero =>
    intro k a g hk
    obtain ⟨k, rfl⟩ : ∃ m, k = m + 1 + 1 := ⟨k - 2, by omega⟩
    obtain rfl : a = 6 := by omega
    simp only [spec_TriangleText.l0]
    rw [if_neg (by omega)]
    simp only [spec_TriangleText.j1]
    rw [if_neg Bool.false_ne_true]
    rfl
  | succ e ih =>
    intro k a g hk
    obtain ⟨k, rfl⟩ : ∃ m, k = m + (a + 1) + 1 + 1 + 1 + 1 := ⟨k - (a + 5), by omega⟩
    have hacc := accT_length t a (by omega)
    have hh1 := spec_TriangleText_l1 t h (accT t a ++ (if a > 0 then [47] else [])) (by
      rw [List.length_append]
      have h : (if a > 0 then [(47 : UInt8)] else []).length ≤ 1 := by split <;> simp
      omega) a (by omega) (a + 1) k 0 (by omega) (by omega)
    rw [rowT_zero, List.append_nil, List.append_assoc] at hh1
    have hi := ih k (a + 1) (by omega) (by omega)
    simp only [spec_TriangleText.l0]
    rw [if_pos (by omega), spec_TriangleOk_k t (by omega) _ (by omega), Option.bind_some, h]
    simp only [spec_TriangleText.j1]
    rw [if_pos trivial]
    by_cases z : a > 0
    · rw [if_pos (by omega), if_pos (by rw [bL_size]; omega), show (⟨#[47]⟩ : ByteArray) = bL [47] from rfl, bL_append]
      rw [if_pos z] at hh1
      simp only [spec_TriangleText.j2]
      refine Eq.trans hh1 ?_
      rw [accT, if_pos z] at hi
      exact hi
    · rw [if_neg (by omega)]
      rw [if_neg z, List.append_nil] at hh1
      simp only [spec_TriangleText.j2]
      refine Eq.trans hh1 ?_
      rw [accT, if_neg z] at hi
      exact hi
theorem spec_TriangleText_k (t : List Int) (hl : t.length ≤ 1048576) (k : Nat) (hk : 1048800 ≤ k) : spec_TriangleText.f k t = some (bL (textP t)) := by
  unfold spec_TriangleText.f textP
  by_cases h : isTri t = true
  · rw [if_pos h]
    exact spec_TriangleText_l0 t h 6 k 0 (by omega) (by omega)
  · rw [if_neg h]
    obtain ⟨k, rfl⟩ : ∃ m, k = m + 1 + 1 := ⟨k - 2, by omega⟩
    simp only [spec_TriangleText.l0]
    rw [if_pos (by omega), spec_TriangleOk_k t hl _ (by omega), Option.bind_some, Bool.eq_false_iff.mpr h]
    simp only [spec_TriangleText.j1]
    rw [if_neg Bool.false_ne_true]
    rfl

end Go.Proofs.YtcdeofiigjgfaaaDoor.P

/- Reading texts of triangles. Plain facts. -/
namespace Go.Proofs.YtcdeofiigjgfaaaDoor.P
open Go.RowKit Go.Proofs.YtcdeofiigjgfaaaDoorW.PrintWords Go.Proofs.YtcdeofiigjgfaaaDoorW.PrintLast

/-- The numbers of a text, its slashes aside. -/
def digs (L : List UInt8) : List Int := (L.filter fun c => c != 47).map fun c => (c.toNat : Int) - 48
theorem digs_append (L M : List UInt8) : digs (L ++ M) = digs L ++ digs M := by simp [digs, List.filter_append]
theorem digs_length (L : List UInt8) : (digs L).length ≤ L.length := by
  unfold digs
  rw [List.length_map]
  exact List.length_filter_le _ _
theorem take_next (L : List UInt8) (i : Nat) (h : i < L.length) : L.take (i + 1) = L.take i ++ [L[i]] := List.take_succ_eq_append_getElem h
theorem digs_slash (L : List UInt8) (i : Nat) (h : i < L.length) (e : L[i] = 47) : digs (L.take (i + 1)) = digs (L.take i) := by
  rw [take_next L i h, digs_append, e]
  exact List.append_nil _
theorem digs_digit (L : List UInt8) (i : Nat) (h : i < L.length) (e : L[i] ≠ 47) : digs (L.take (i + 1)) = digs (L.take i) ++ [(L[i].toNat : Int) - 48] := by
  rw [take_next L i h, digs_append]
  congr 1
  unfold digs
  rw [List.filter_cons_of_pos (by simpa using e)]
  rfl
theorem bt_get (L : List UInt8) (i : Nat) (h : i < L.length) : bt (bL L) (i : Int) = (L[i].toNat : Int) := by
  unfold bt
  rw [dif_pos (show ((i : Int)).toNat < (bL L).size from h)]
  rfl
theorem bt_slash (L : List UInt8) (i : Nat) (h : i < L.length) : (bt (bL L) (i : Int) = 47) = (L[i] = 47) := by
  rw [bt_get L i h]
  refine propext ⟨fun g => ?_, fun g => ?_⟩
  · apply UInt8.toNat_inj.mp
    show L[i].toNat = 47
    omega
  · rw [g]
    rfl
theorem wrap_byte (x : UInt8) : wrap64 (wrap64 (x.toNat : Int) - 48) = (x.toNat : Int) - 48 := by
  have := x.toNat_lt
  unfold wrap64
  omega
/-- What ReadTriangle answers. -/
def rdP (L : List UInt8) : List Int × Bool := if (isTri (digs L) && textL (digs L) == L) = true then (digs L, true) else ([], false)
theorem impl_ReadTriangle_l0 (L : List UInt8) (hl : L.length ≤ 1048576) (d : Nat) : ∀ (k i : Nat), i + d = L.length → d + 2097200 < k →
    impl_ReadTriangle.l0 k (bL L) (digs (L.take i)) (L.length : Int) (i : Int) = some (rdP L) := by
  induction d with
  | zero =>
    intro k i h hk
    obtain ⟨k, rfl⟩ : ∃ m, k = m + 1 := ⟨k - 1, by omega⟩
    have hd := digs_length L
    simp only [impl_ReadTriangle.l0]
    rw [if_neg (by omega), List.take_of_length_le (by omega)]
    unfold rdP
    by_cases g : isTri (digs L) = true
    · have hlen := isTri_length g
      rw [impl_isTriangle_k _ (by omega) k (by omega), Option.bind_some, if_pos g, impl_triangleText_k _ g k (by omega), Option.bind_some, bL_toList, bL_toList, g, Bool.true_and]
      by_cases z : textL (digs L) = L
      · rw [if_pos z, if_pos (beq_iff_eq.mpr z)]
      · rw [if_neg z, if_neg (fun e => z (beq_iff_eq.mp e))]
    · rw [impl_isTriangle_k _ (by omega) k (by omega), Option.bind_some, if_neg g, Bool.eq_false_iff.mpr g, Bool.false_and, if_neg Bool.false_ne_true]
  | succ d ih =>
    intro k i h hk
    obtain ⟨k, rfl⟩ : ∃ m, k = m + 1 := ⟨k - 1, by omega⟩
    have hi : i < L.length := by omega
    have hd := digs_length (L.take i)
    have ht : (L.take i).length ≤ i := List.length_take_le _ _
    have hih := ih k (i + 1) (by omega) (by omega)
    simp only [impl_ReadTriangle.l0]
    rw [if_pos (by omega), if_pos (by omega), if_pos (show (i : Int) < ((bL L).size : Int) by rw [bL_size]; omega)]
    have hw : wrap64 ((i : Int) + 1) = ((i + 1 : Nat) : Int) := by unfold wrap64; omega
    by_cases z : L[i] = 47
    · rw [if_pos (by rw [bt_slash L i hi]; exact z), hw, ← digs_slash L i hi z]
      exact hih
    · rw [if_neg (by rw [bt_slash L i hi]; exact z), if_pos (by omega), bt_get L i hi, wrap_byte, hw, ← digs_digit L i hi z]
      exact hih
theorem impl_ReadTriangle_k (L : List UInt8) (hl : L.length ≤ 1048576) (k : Nat) (hk : 3145900 ≤ k) : impl_ReadTriangle.f k (bL L) = some (rdP L) := by
  unfold impl_ReadTriangle.f
  exact impl_ReadTriangle_l0 L hl L.length k 0 (by omega) (by omega)
theorem spec_ReadTriangle_l0 (L : List UInt8) (hl : L.length ≤ 1048576) (d : Nat) : ∀ (k i : Nat), i + d = L.length → d + 2097200 < k →
    spec_ReadTriangle.l0 k (bL L) (digs (L.take i)) (i : Int) = some (rdP L) := by
  induction d with
  | zero =>
    intro k i h hk
    obtain ⟨k, rfl⟩ : ∃ m, k = m + 1 := ⟨k - 1, by omega⟩
    have hd := digs_length L
    simp only [spec_ReadTriangle.l0]
    rw [if_neg (by rw [bL_size]; omega), List.take_of_length_le (by omega), bL_toList]
    unfold rdP
    by_cases e : L = []
    · rw [if_pos e]
      have : isTri (digs L) = false := by
        rw [Bool.eq_false_iff]
        intro g
        have := isTri_length g
        rw [e] at this
        exact absurd this (by decide)
      rw [this, Bool.false_and, if_neg Bool.false_ne_true]
    · rw [if_neg e, spec_TriangleText_k _ (by omega) k (by omega), Option.bind_some, bL_toList]
      unfold textP
      by_cases g : isTri (digs L) = true
      · rw [if_pos g, g, Bool.true_and]
        by_cases z : textL (digs L) = L
        · rw [if_pos z, if_pos (beq_iff_eq.mpr z)]
        · rw [if_neg z, if_neg (fun e => z (beq_iff_eq.mp e))]
      · rw [if_neg g, if_neg (fun z => e z.symm), Bool.eq_false_iff.mpr g, Bool.false_and, if_neg Bool.false_ne_true]
  | succ d ih =>
    intro k i h hk
    obtain ⟨k, rfl⟩ : ∃ m, k = m + 1 := ⟨k - 1, by omega⟩
    have hi : i < L.length := by omega
    have hd := digs_length (L.take i)
    have ht : (L.take i).length ≤ i := List.length_take_le _ _
    have hih := ih k (i + 1) (by omega) (by omega)
    simp only [spec_ReadTriangle.l0]
    rw [if_pos (by rw [bL_size]; omega), if_pos (by omega)]
    have hw : wrap64 ((i : Int) + 1) = ((i + 1 : Nat) : Int) := by unfold wrap64; omega
    by_cases z : L[i] = 47
    · rw [if_pos (by rw [bt_slash L i hi]; exact z), hw, ← digs_slash L i hi z]
      exact hih
    · rw [if_neg (by rw [bt_slash L i hi]; exact z), if_pos (by omega), bt_get L i hi, wrap_byte, hw, ← digs_digit L i hi z]
      exact hih
theorem spec_ReadTriangle_k (L : List UInt8) (hl : L.length ≤ 1048576) (k : Nat) (hk : 3145900 ≤ k) : spec_ReadTriangle.f k (bL L) = some (rdP L) := by
  unfold spec_ReadTriangle.f
  exact spec_ReadTriangle_l0 L hl L.length k 0 (by omega) (by omega)
/-! A triangle's text is read as the triangle. -/
theorem digs_dgt (x : Int) (h : x = 0 ∨ x = 1) : digs [dgt x] = [x] := by
  rcases h with rfl | rfl <;> decide +kernel
theorem digs_row (t : List Int) (h : isTri t = true) (a : Nat) : ∀ m, digs (rowT t a m) = rowI (fun a s => rd t (pl a s)) a m
  | 0 => rfl
  | m + 1 => by rw [rowT_succ, digs_append, digs_row t h a m, digs_dgt _ (tri_bit t h _), ← rowI_succ]
theorem digs_acc (t : List Int) (h : isTri t = true) : ∀ a, digs (accT t a) = rowsI (fun a s => rd t (pl a s)) a
  | 0 => rfl
  | a + 1 => by
    have hs : digs (if a > 0 then [(47 : UInt8)] else []) = [] := by split <;> rfl
    rw [accT, digs_append, digs_append, digs_acc t h a, hs, List.nil_append, digs_row t h a, ← rowsI_succ]
theorem digs_text (t : List Int) (h : isTri t = true) : digs (textL t) = t := by
  unfold textL
  rw [digs_acc t h 6, triI_rows]
  exact (tri_list t (isTri_length h)).symm
theorem rdP_text (t : List Int) (h : isTri t = true) : rdP (textL t) = (t, true) := by
  unfold rdP
  rw [digs_text t h, h, beq_self_eq_true]
  rfl
theorem rdP_length (L : List UInt8) : (rdP L).1.length ≤ 21 := by
  unfold rdP
  by_cases h : (isTri (digs L) && textL (digs L) == L) = true
  · rw [if_pos h]
    rw [Bool.and_eq_true] at h
    have := isTri_length h.1
    show (digs L).length ≤ 21
    omega
  · rw [if_neg h]
    exact Nat.zero_le _

end Go.Proofs.YtcdeofiigjgfaaaDoor.P

/- The program's ReadTriangle answers as the reference's does, for all texts: the pure statement of the law FnExactReadTriangle. No condition. -/
namespace Go.Proofs.YtcdeofiigjgfaaaDoor.Pure
open Go.RowKit Go.Proofs.YtcdeofiigjgfaaaDoor.P Go.Proofs.YtcdeofiigjgfaaaDoorW.PrintWords Go.Proofs.YtcdeofiigjgfaaaDoorW.PrintLast

theorem FnExactReadTriangle : laws_FnExactReadTriangle.Pure := by
  intro a _
  obtain ⟨K, hK⟩ : ∃ K, K = 3145900 := ⟨_, rfl⟩
  refine ⟨K + 2, ?_⟩
  unfold laws_FnExactReadTriangle.f
  by_cases hl : (a.size : Int) > 1048576
  · rw [if_pos hl]
  · rw [if_neg hl]
    have hsz : a.toList.length ≤ 1048576 := by
      rw [← bL_size, bL_of]
      omega
    have h1 := rdP_length a.toList
    have hs := spec_ReadTriangle_k a.toList hsz
    have hi := impl_ReadTriangle_k a.toList hsz
    rw [bL_of] at hs hi
    obtain ⟨r1, r2, hr⟩ : ∃ r1 r2, rdP a.toList = (r1, r2) := ⟨_, _, rfl⟩
    rw [hr] at h1 hs hi
    have h1 : r1.length ≤ 21 := h1
    have e1 := eqIntS_k r1 (by omega)
    have m1 := markIntS_k 1 (by omega) r1 (by omega)
    have d1 := heldIntS_k 1 (by omega) r1.length (by omega)
    have n1 : ¬ (1 + (r1.length : Int) < 0) := by omega
    have j1 : laws_FnExactReadTriangle.j1 (K + 1) (marks 1 r1.length) (1 + (r1.length : Int)) false = some true := by
      simp only [laws_FnExactReadTriangle.j1]
      rw [if_neg Bool.false_ne_true, d1 K (by omega), Option.bind_some, if_neg n1, if_pos rfl]
    have j0 : laws_FnExactReadTriangle.j0 (K + 2) a r1 r2 r1 false = some true := by
      simp only [laws_FnExactReadTriangle.j0]
      rw [if_neg Bool.false_ne_true, m1 (K + 1) (by omega), Option.bind_some, d1 (K + 1) (by omega), Option.bind_some, if_neg n1, if_pos rfl, hi (K + 1) (by omega), Option.bind_some, e1 (K + 1) (by omega), Option.bind_some, if_pos rfl, bne_self_eq_false]
      exact j1
    rw [hs (K + 2) (by omega), Option.bind_some, hi (K + 2) (by omega), Option.bind_some, e1 (K + 2) (by omega), Option.bind_some, if_pos rfl, bne_self_eq_false]
    exact j0

end Go.Proofs.YtcdeofiigjgfaaaDoor.Pure
