-- Texts of this claim, laid one behind the other by wip/gen/merge.py.
import Derived.Test.YtgkifmabdfjejaaZFnPlaceOf0
import Derived.Test.YtgkifmabdfjejaaZFnPlaceOf1
import Derived.Laws.Entries
-- Written by wip/gen/lay.py, a program of this session, with the kit's print as its base. Lean checks every line.
namespace Go.Proofs.Ytgkifmabdfjejaa.P
open Go.RowKit Go.Proofs.YtgkifmabdfjejaaW.PrintWords Go.Proofs.YtgkifmabdfjejaaW.PrintLast Go.Proofs.YtgkifmabdfjejaaW.PrintMore
attribute [local go_sem] max2_int min2_int max_two min_two max_three min_three max_four min_four   -- for this text's walks alone
set_option linter.unusedVariables false
set_option linter.unusedSimpArgs false

/-! ### spec_l20Rd_odd: function 64 -/
def spec_l20Rd_odd.f (k : Nat) (s0_0 : List Int) (s0_1 : Int) (a1 : Int) : Option (Bool × Int) := if a1 > 0 then ((spec_l20Rd_pick.f k s0_0 s0_1 a1).bind fun bt355 => (some ((bt355.1 == (wrap64 (a1 - 1))), bt355.2))) else (some (false, s0_1))
theorem spec_l20Rd_odd.mono : ∀ a0 a1 a2 k, LeO (spec_l20Rd_odd.f k a0 a1 a2) (spec_l20Rd_odd.f (k + 1) a0 a1 a2) := by
  intro a0 a1 a2 k
  unfold spec_l20Rd_odd.f
  repeat' first
      | (with_reducible exact spec_l20Rd_pick.mono _ _ _ _)
      | (with_reducible exact LeO.refl _)
      | (with_reducible exact LeO.none _)
      | (with_reducible refine LeO.ite ?_ ?_)
      | (with_reducible refine LeO.bind ?_ (fun _ => ?_))
      | exact spec_l20Rd_pick.mono _ _ _ _
      | exact LeO.none _
      | refine LeO.ite ?_ ?_
      | refine LeO.bind ?_ (fun _ => ?_)
set_option maxHeartbeats 8000000 in
set_option maxRecDepth 100000 in
theorem spec_l20Rd_odd.calls (k : Nat) (g : Nat) (s0_0 : List Int) (s0_1 : Int) (a1 : Int) (r1 : Bool) (r2 : Int) (w0 w : World) (hI : IsS52 w0 w g s0_0 s0_1) (hB : Below w0.heap.size w0 w) (h : spec_l20Rd_odd.f k s0_0 s0_1 a1 = some (r1, r2)) :
    Calls Try.prog 64 #[.pointer (some ⟨g, 0, none⟩), .int .i64 a1] w fun e w' => e = .returned (.bool r1) ∧ IsS52 w0 w' g s0_0 r2 ∧ Below w0.heap.size w0 w' ∧ KeepBut w w' g none := by
  have HI0 := Aside0.mk hI
  have HK := Aside0.mk (KeepBut.refl w g none)
  have HL := Aside0.mk hB.size
  clear hI
  have HW0 := Aside0.mk hB.size
  have HB := Aside0.mk hB
  clear hB
  have H : (if a1 > 0 then ((spec_l20Rd_pick.f k s0_0 s0_1 a1).bind fun bt355 => (some ((bt355.1 == (wrap64 (a1 - 1))), bt355.2))) else (some (false, s0_1))) = some (r1, r2) := h
  clear h
  by_cases c3 : a1 > 0
  · rw [if_pos c3] at H
    have c3b0 : decide (0 < a1) = true := decide_eq_true c3
    clear c3
    replace H := Option.bind_eq_some_iff.mp H
    obtain ⟨⟨t355, t356⟩, A40, H⟩ := H
    replace H : (some ((t355 == (wrap64 (a1 - 1))), t356)) = some (r1, r2) := H
    have A4 := Aside0.mk A40
    clear A40
    simp only [Option.some.injEq, Prod.mk.injEq] at H
    obtain ⟨rfl, rfl⟩ := H
    go_enter Try.func64, Try.ntmps64
    go_wp2_with (first | (go_at_call 38; (with_reducible refine (spec_l20Rd_pick.calls k g s0_0 s0_1 a1 t355 t356 w0 _ ?side1 ?side2 A4.out).mono ?_); (case side1 => repeat (first | (with_reducible first | exact HI0.out | apply IsS52.alloc | apply IsS52.drewN | apply IsS52.drew | apply IsS52.set_1) | exact HI0.out)); (case side2 => repeat (first | (with_reducible first | exact HB.out | apply below_alloc | apply pw_below_drewN | apply below_drew1 | refine below_set ?_ (IsS52.ge HI0.out)) | exact HB.out)); rintro e w5 ⟨rfl, hi, hb, hk⟩; have n0_ := Aside0.mk (KeepBut.trans (by repeat (first | (with_reducible first | exact HK.out | apply KeepBut.set_ | apply keep_drewN | apply keep_drew | apply keep_alloc) | exact HK.out)) hk (.inl rfl)); have n1_ := Aside0.mk (hb); have n2_ := Aside0.mk (hi); clear HK; clear HB; clear HI0; have HK := n0_; have HB := n1_; have HI0 := n2_; clear n0_ n1_ n2_; (try clear hb); (try clear hb2); (try clear hk); (try clear hi)))
    go_ret
    exact ⟨by first | rfl | (simp [errW_none, errW_some] <;> rfl) | (simp [*, errW_none, errW_some] <;> rfl), by repeat (first | (with_reducible first | exact HI0.out | apply IsS52.alloc | apply IsS52.drewN | apply IsS52.drew | apply IsS52.set_1) | exact HI0.out), by repeat (first | (with_reducible first | exact HB.out | apply below_alloc | apply pw_below_drewN | apply below_drew1 | refine below_set ?_ (IsS52.ge HI0.out)) | exact HB.out), by repeat (first | (with_reducible first | exact HK.out | apply KeepBut.set_ | apply keep_drewN | apply keep_drew | apply keep_alloc) | exact HK.out)⟩
  · rw [if_neg c3] at H
    have c3b0 : decide (0 < a1) = false := decide_eq_false c3
    clear c3
    simp only [Option.some.injEq, Prod.mk.injEq] at H
    obtain ⟨rfl, rfl⟩ := H
    go_enter Try.func64, Try.ntmps64
    go_wp2
    go_ret
    exact ⟨by first | rfl | (simp [errW_none, errW_some] <;> rfl) | (simp [*, errW_none, errW_some] <;> rfl), by repeat (first | (with_reducible first | exact HI0.out | apply IsS52.alloc | apply IsS52.drewN | apply IsS52.drew | apply IsS52.set_1) | exact HI0.out), by repeat (first | (with_reducible first | exact HB.out | apply below_alloc | apply pw_below_drewN | apply below_drew1 | refine below_set ?_ (IsS52.ge HI0.out)) | exact HB.out), by repeat (first | (with_reducible first | exact HK.out | apply KeepBut.set_ | apply keep_drewN | apply keep_drew | apply keep_alloc) | exact HK.out)⟩

end Go.Proofs.Ytgkifmabdfjejaa.P

/- Plain facts on the drawing of arguments: the reader, one draw. -/
namespace Go.Proofs.Ytgkifmabdfjejaa.P
open Go.RowKit Go.Proofs.YtgkifmabdfjejaaW.PrintWords Go.Proofs.YtgkifmabdfjejaaW.PrintLast

theorem wr (x : Int) (h0 : 0 ≤ x) (h1 : x < 4611686018427387904) : wrap64 x = x := by unfold wrap64; omega
theorem xor_pos (a b : Int) (h1 : 0 ≤ a) (h2 : a < 4611686018427387904) (h3 : 0 ≤ b) (h4 : b < 4611686018427387904) : 0 ≤ Go.bits .xor .i64 a b ∧ Go.bits .xor .i64 a b < 4611686018427387904 := by
  obtain ⟨x, rfl⟩ := Int.eq_ofNat_of_zero_le h1
  obtain ⟨y, rfl⟩ := Int.eq_ofNat_of_zero_le h3
  have hx : x ^^^ y < 2 ^ 62 := Nat.xor_lt_two_pow (by omega) (by omega)
  have e1 : (BitVec.ofInt 64 (x : Int)).toNat = x := by
    rw [BitVec.ofInt_natCast, BitVec.toNat_ofNat]; exact Nat.mod_eq_of_lt (by omega)
  have e2 : (BitVec.ofInt 64 (y : Int)).toNat = y := by
    rw [BitVec.ofInt_natCast, BitVec.toNat_ofNat]; exact Nat.mod_eq_of_lt (by omega)
  have h : Go.bits .xor .i64 (x : Int) (y : Int) = ((x ^^^ y : Nat) : Int) := by
    show IntKind.i64.wrap ((BitVec.ofInt 64 (x : Int) ^^^ BitVec.ofInt 64 (y : Int)).toNat : Int) = _
    rw [BitVec.toNat_xor, e1, e2]
    simp [IntKind.wrap, IntKind.bits, IntKind.signed]
    omega
  rw [h]
  omega
/-- What draws read from: bytes, not too many. -/
def Src (xs : List Int) : Prop := xs.length ≤ 2000 ∧ ∀ x ∈ xs, 0 ≤ x ∧ x ≤ 255
theorem Src.rd {xs : List Int} (h : Src xs) (i : Int) : 0 ≤ rd xs i ∧ rd xs i ≤ 255 := by
  unfold Go.Proofs.YtgkifmabdfjejaaW.PrintWords.rd
  rw [List.getD_eq_getElem?_getD]
  cases e : xs[i.toNat]? with
  | none => simp
  | some v => exact h.2 v (List.mem_of_getElem? e)
theorem src_open (l : List Int) (hw : ∀ x ∈ l, (Lit.int .u8 x).wf = true) : ∃ xs, spec_l20Open.f l = some (xs, 0) ∧ Src xs := by
  have hb : ∀ x ∈ l, 0 ≤ x ∧ x ≤ 255 := by
    intro x hx
    have h := hw x hx
    have h' : (decide (IntKind.u8.min ≤ x) && decide (x ≤ IntKind.u8.max)) = true := h
    rw [Bool.and_eq_true, decide_eq_true_eq, decide_eq_true_eq] at h'
    exact ⟨h'.1, h'.2⟩
  unfold spec_l20Open.f
  by_cases h : (l.length : Int) > 2000
  · rw [if_pos h, if_pos (by omega)]
    exact ⟨_, rfl, by rw [List.length_take]; omega, fun x hx => hb x (List.mem_of_mem_take hx)⟩
  · rw [if_neg h]
    exact ⟨_, rfl, by omega, hb⟩
theorem tmod_range (v n : Int) (hv : 0 ≤ v) (hn : 1 ≤ n) : 0 ≤ Int.tmod v n ∧ Int.tmod v n < n := by
  rw [Int.tmod_eq_emod_of_nonneg hv]
  exact ⟨Int.emod_nonneg _ (by omega), Int.emod_lt_of_pos _ (by omega)⟩
theorem pick_k (xs : List Int) (hs : Src xs) (c n : Int) (h0 : 0 ≤ c) (h1 : c ≤ 1000000) (k : Nat) (hk : 1 ≤ k) : ∃ r, spec_l20Rd_pick.f k xs c n = some (r, c + 1) ∧ 0 ≤ r ∧ (1 ≤ n → r < n) := by
  obtain ⟨k, rfl⟩ : ∃ m, k = m + 1 := ⟨k - 1, by omega⟩
  unfold spec_l20Rd_pick.f
  rw [wr (c + 1) (by omega) (by omega)]
  by_cases hn : n < 1
  · rw [if_pos hn]
    simp only [spec_l20Rd_pick.j0]
    rw [if_pos trivial]
    exact ⟨0, rfl, by omega, fun h => by omega⟩
  · rw [if_neg hn]
    simp only [spec_l20Rd_pick.j0]
    rw [show c + 1 - 1 = c by omega, wr c (by omega) (by omega)]
    by_cases hl : xs.length = 0
    · rw [if_pos (by simp [hl])]
      exact ⟨0, rfl, by omega, fun h => by omega⟩
    · rw [if_neg (by simp; intro h; exact hl (by rw [h]; rfl))]
      by_cases hc : c < (xs.length : Int)
      · rw [if_pos hc, if_pos h0, if_neg (by omega)]
        have hb := hs.rd c
        rw [wr _ hb.1 (by omega)]
        have := tmod_range _ n hb.1 (by omega)
        exact ⟨_, rfl, this.1, fun _ => this.2⟩
      · have hlen := hs.1
        have hL : (1 : Int) ≤ (xs.length : Int) := by omega
        have t1 := tmod_range c (xs.length : Int) h0 hL
        have w7 : wrap64 (wrap64 (c * 7) + 3) = c * 7 + 3 := by rw [wr (c * 7) (by omega) (by omega), wr _ (by omega) (by omega)]
        have t2 := tmod_range (c * 7 + 3) (xs.length : Int) (by omega) hL
        rw [w7, if_neg hc, if_neg (by omega), if_pos t1.1, if_pos t1.2, if_pos t2.1, if_pos t2.2, if_neg (by omega)]
        have b1 := hs.rd (Int.tmod c (xs.length : Int))
        have b2 := hs.rd (Int.tmod (c * 7 + 3) (xs.length : Int))
        have q0 : 0 ≤ Int.tdiv c (xs.length : Int) := Int.tdiv_nonneg h0 (by omega)
        have q1 : Int.tdiv c (xs.length : Int) ≤ c := by
          rw [Int.tdiv_eq_ediv_of_nonneg h0]
          exact Int.ediv_le_self _ h0
        obtain ⟨B1, e1⟩ : ∃ B, B = rd xs (Int.tmod c (xs.length : Int)) := ⟨_, rfl⟩
        obtain ⟨B2, e2⟩ : ∃ B, B = rd xs (Int.tmod (c * 7 + 3) (xs.length : Int)) := ⟨_, rfl⟩
        obtain ⟨Q, e3⟩ : ∃ B, B = Int.tdiv c (xs.length : Int) := ⟨_, rfl⟩
        rw [← e1] at b1 ⊢
        rw [← e2] at b2 ⊢
        rw [← e3] at q0 q1 ⊢
        rw [wr B1 (by omega) (by omega), wr B2 (by omega) (by omega), wr Q (by omega) (by omega), wr (B1 * 131) (by omega) (by omega), wr (B2 * 1117) (by omega) (by omega), wr (c * 29) (by omega) (by omega), wr (Q * 53) (by omega) (by omega), wr (B1 * 131 + B2 * 1117) (by omega) (by omega), wr (B1 * 131 + B2 * 1117 + c * 29) (by omega) (by omega), wr (B1 * 131 + B2 * 1117 + c * 29 + Q * 53) (by omega) (by omega)]
        obtain ⟨V, e4⟩ : ∃ V, V = B1 * 131 + B2 * 1117 + c * 29 + Q * 53 := ⟨_, rfl⟩
        rw [← e4]
        have hV : 0 ≤ V ∧ V < 4611686018427387904 := by omega
        have hd : Int.tdiv V 64 = V / 64 := Int.tdiv_eq_ediv_of_nonneg hV.1
        rw [hd, wr (V / 64) (by omega) (by omega)]
        have hx := xor_pos V (V / 64) hV.1 hV.2 (by omega) (by omega)
        have := tmod_range _ n hx.1 (by omega)
        exact ⟨_, rfl, this.1, fun _ => this.2⟩
theorem odd_k (xs : List Int) (hs : Src xs) (c n : Int) (h0 : 0 ≤ c) (h1 : c ≤ 1000000) (k : Nat) (hk : 1 ≤ k) : ∃ b c', spec_l20Rd_odd.f k xs c n = some (b, c') ∧ c ≤ c' ∧ c' ≤ c + 1 := by
  unfold spec_l20Rd_odd.f
  by_cases h : n > 0
  · obtain ⟨r, e, _, _⟩ := pick_k xs hs c n h0 h1 k hk
    rw [if_pos h, e, Option.bind_some]
    exact ⟨_, _, rfl, by omega, by omega⟩
  · rw [if_neg h]
    exact ⟨_, _, rfl, by omega, by omega⟩

end Go.Proofs.Ytgkifmabdfjejaa.P

-- Written by wip/gen/lay.py, a program of this session, with the kit's print as its base. Lean checks every line.
namespace Go.Proofs.Ytgkifmabdfjejaa.P
open Go.RowKit Go.Proofs.YtgkifmabdfjejaaW.PrintWords Go.Proofs.YtgkifmabdfjejaaW.PrintLast Go.Proofs.YtgkifmabdfjejaaW.PrintMore
attribute [local go_sem] max2_int min2_int max_two min_two max_three min_three max_four min_four   -- for this text's walks alone
set_option linter.unusedVariables false
set_option linter.unusedSimpArgs false

/-! ### laws_sameInts: function 18 -/
def laws_sameInts.l0 : Nat → List Int → List Int → Int → Option (Bool)
  | 0, _, _, _ => none
  | k + 1, x0, x1, x5 => if x5 < (x0.length : Int) then (if 0 ≤ x5 then (if x5 < (x1.length : Int) then (if (rd x0 x5) = (rd x1 x5) then (laws_sameInts.l0 k x0 x1 (wrap64 (x5 + 1))) else (some false)) else (none)) else (none)) else (some true)
def laws_sameInts.f (k : Nat) (l0 : List Int) (l1 : List Int) : Option (Bool) := if (l0.length : Int) = (l1.length : Int) then (laws_sameInts.l0 k l0 l1 0) else (some false)
theorem laws_sameInts.mono_l : ∀ k, (∀ y0 y1 y2, LeO (laws_sameInts.l0 k y0 y1 y2) (laws_sameInts.l0 (k + 1) y0 y1 y2))
  | 0 => fun _ _ _ r h => by simp [laws_sameInts.l0] at h
  | k + 1 => by
    have ih0 := laws_sameInts.mono_l k
    · intro y0 y1 y2
      unfold laws_sameInts.l0
      repeat' first
      | (with_reducible exact ih0 _ _ _)
      | (with_reducible exact LeO.refl _)
      | (with_reducible exact LeO.none _)
      | (with_reducible refine LeO.ite ?_ ?_)
      | (with_reducible refine LeO.bind ?_ (fun _ => ?_))
      | exact ih0 _ _ _
      | exact LeO.none _
      | refine LeO.ite ?_ ?_
      | refine LeO.bind ?_ (fun _ => ?_)
theorem laws_sameInts.mono : ∀ a0 a1 k, LeO (laws_sameInts.f k a0 a1) (laws_sameInts.f (k + 1) a0 a1) := by
  intro a0 a1 k
  have ih0 := laws_sameInts.mono_l k
  unfold laws_sameInts.f
  repeat' first
      | (with_reducible exact ih0 _ _ _)
      | (with_reducible exact LeO.refl _)
      | (with_reducible exact LeO.none _)
      | (with_reducible refine LeO.ite ?_ ?_)
      | (with_reducible refine LeO.bind ?_ (fun _ => ?_))
      | exact ih0 _ _ _
      | exact LeO.none _
      | refine LeO.ite ?_ ?_
      | refine LeO.bind ?_ (fun _ => ?_)
set_option maxHeartbeats 8000000 in
set_option maxRecDepth 100000 in
theorem laws_sameInts.calls (k : Nat) (A0 : Option Addr) (c0 : Nat) (l0 : List Int) (A1 : Option Addr) (c1 : Nat) (l1 : List Int) (r : Bool) (w : World) (hr0 : Kd.C (Kd.int .i64) w A0 l0.length l0) (hc0 : l0.length ≤ c0) (hr1 : Kd.C (Kd.int .i64) w A1 l1.length l1) (hc1 : l1.length ≤ c1) (h : laws_sameInts.f k l0 l1 = some r) :
    Calls Try.prog 18 #[.slice A0 l0.length c0, .slice A1 l1.length c1] w fun e w' => e = .returned (.bool r) ∧ Drawn0 w w' := by
  have HR0 := Aside0.mk hr0
  have HC0 := Aside0.mk hc0
  clear hr0 hc0
  have HR1 := Aside0.mk hr1
  have HC1 := Aside0.mk hc1
  clear hr1 hc1
  have H : (if (l0.length : Int) = (l1.length : Int) then (laws_sameInts.l0 k l0 l1 0) else (some false)) = some r := h
  clear h
  by_cases c3 : (l0.length : Int) = (l1.length : Int)
  · rw [if_pos c3] at H
    have c3b0 : ((l0.length : Int) == (l1.length : Int)) = true := beq_iff_eq.mpr c3
    have c3b1 : ((l0.length : Int) != (l1.length : Int)) = false := bne_eq_false_iff_eq.mpr c3
    have c3b2 : (l0.length == l1.length) = true := by first | simpa using c3 | (simp at c3 ⊢; omega)
    clear c3
    have H' := Aside0.mk H
    clear H
    go_enter Try.func18, Try.ntmps18
    go_wp2
    repeat (go_quiet (fail); try go_wp2)
    go_loopg [5] k (fun kq v5 w' => ∃ (x5_1 : Int), v5 = .int .i64 x5_1 ∧ Aside0 (laws_sameInts.l0 kq l0 l1 x5_1 = some r) ∧ Aside0 (kq ≤ k) ∧ Drawn0 w w')
    case atStart => exact ⟨(0), (by first | rfl | (simp; done) | (simp [*]; done)), H', ⟨Nat.le_refl _⟩, by repeat (first | exact Drawn0.refl _ | apply Drawn0.step)⟩
    case round =>
      clear H'
      try clear c1
      try clear p2
      try clear c3
      try clear c3b0
      try clear c3b1
      try clear c3b2
      obtain ⟨x5_1, rfl, HA, HK1, ⟨m1, rfl⟩⟩ := hrel
      cases gk with
      | zero => exact absurd HA.out (by simp [laws_sameInts.l0])
      | succ k1 =>
        have H := HA.out
        clear HA
        simp only [laws_sameInts.l0] at H
        by_cases c4 : x5_1 < (l0.length : Int)
        · rw [if_pos c4] at H
          have c4b0 : decide (x5_1 < (l0.length : Int)) = true := decide_eq_true c4
          clear c4
          by_cases c5 : 0 ≤ x5_1
          · rw [if_pos c5] at H
            have c5b0 : decide (0 ≤ x5_1) = true := decide_eq_true c5
            clear c5
            by_cases c6 : x5_1 < (l1.length : Int)
            · rw [if_pos c6] at H
              have c6b0 : decide (x5_1 < (l1.length : Int)) = true := decide_eq_true c6
              clear c6
              by_cases c7 : (rd l0 x5_1) = (rd l1 x5_1)
              · rw [if_pos c7] at H
                have c7b0 : ((rd l0 x5_1) == (rd l1 x5_1)) = true := beq_iff_eq.mpr c7
                have c7b1 : ((rd l0 x5_1) != (rd l1 x5_1)) = false := bne_eq_false_iff_eq.mpr c7
                clear c7
                have H' := Aside0.mk H
                clear H
                have p246 : 0 ≤ (x5_1 : Int) := of_decide_eq_true (by first | (with_reducible assumption) | assumption)
                have q246 : x5_1 < (l0.length : Int) := of_decide_eq_true (by first | (with_reducible assumption) | assumption)
                obtain ⟨ad246, e246, hx246_0⟩ := Kd.at_int HR0.out x5_1 p246 q246
                cases e246
                replace p246 := eq_true p246
                replace q246 := eq_true q246
                have p247 : 0 ≤ (x5_1 : Int) := of_decide_eq_true (by first | (with_reducible assumption) | assumption)
                have q247 : x5_1 < (l1.length : Int) := of_decide_eq_true (by first | (with_reducible assumption) | assumption)
                obtain ⟨ad247, e247, hx247_0⟩ := Kd.at_int HR1.out x5_1 p247 q247
                cases e247
                replace p247 := eq_true p247
                replace q247 := eq_true q247
                go_wp2
                repeat (go_quiet (fail); try go_wp2)
                go_roundg k1
                case measure => have := HK1.out; omega
                case rel => exact ⟨(wrap64 (x5_1 + 1)), (by first | rfl | (simp; done) | (simp [*]; done)), H', ⟨by have := HK1.out; omega⟩, by repeat (first | exact Drawn0.refl _ | apply Drawn0.step)⟩
              · rw [if_neg c7] at H
                have c7b0 : ((rd l0 x5_1) == (rd l1 x5_1)) = false := beq_eq_false_iff_ne.mpr c7
                have c7b1 : ((rd l0 x5_1) != (rd l1 x5_1)) = true := bne_iff_ne.mpr c7
                obtain rfl := Option.some.inj H
                have p246 : 0 ≤ (x5_1 : Int) := of_decide_eq_true (by first | (with_reducible assumption) | assumption)
                have q246 : x5_1 < (l0.length : Int) := of_decide_eq_true (by first | (with_reducible assumption) | assumption)
                obtain ⟨ad246, e246, hx246_0⟩ := Kd.at_int HR0.out x5_1 p246 q246
                cases e246
                replace p246 := eq_true p246
                replace q246 := eq_true q246
                have p247 : 0 ≤ (x5_1 : Int) := of_decide_eq_true (by first | (with_reducible assumption) | assumption)
                have q247 : x5_1 < (l1.length : Int) := of_decide_eq_true (by first | (with_reducible assumption) | assumption)
                obtain ⟨ad247, e247, hx247_0⟩ := Kd.at_int HR1.out x5_1 p247 q247
                cases e247
                replace p247 := eq_true p247
                replace q247 := eq_true q247
                go_wp2
                repeat (go_quiet (fail); try go_wp2)
                go_ret
                exact ⟨by first | rfl | (simp; done) | (simp [*]; done), by repeat (first | exact Drawn0.refl _ | apply Drawn0.step)⟩
            · rw [if_neg c6] at H
              exact absurd H (by simp)
          · rw [if_neg c5] at H
            exact absurd H (by simp)
        · rw [if_neg c4] at H
          have c4b0 : decide (x5_1 < (l0.length : Int)) = false := decide_eq_false c4
          clear c4
          obtain rfl := Option.some.inj H
          go_wp2
          repeat (go_quiet (fail); try go_wp2)
          go_ret
          exact ⟨by first | rfl | (simp; done) | (simp [*]; done), by repeat (first | exact Drawn0.refl _ | apply Drawn0.step)⟩
  · rw [if_neg c3] at H
    have c3b0 : ((l0.length : Int) == (l1.length : Int)) = false := beq_eq_false_iff_ne.mpr c3
    have c3b1 : ((l0.length : Int) != (l1.length : Int)) = true := bne_iff_ne.mpr c3
    have c3b2 : (l0.length == l1.length) = false := by first | simpa using c3 | (simp at c3 ⊢; omega)
    obtain rfl := Option.some.inj H
    go_enter Try.func18, Try.ntmps18
    go_wp2
    repeat (go_quiet (fail); try go_wp2)
    go_ret
    exact ⟨by first | rfl | (simp; done) | (simp [*]; done), by repeat (first | exact Drawn0.refl _ | apply Drawn0.step)⟩

end Go.Proofs.Ytgkifmabdfjejaa.P

/- Plain facts on the law's last word and the sameness of rows. -/
namespace Go.Proofs.Ytgkifmabdfjejaa.P
open Go.RowKit Go.Proofs.YtgkifmabdfjejaaW.PrintWords Go.Proofs.YtgkifmabdfjejaaW.PrintLast

theorem alive_eq : laws_alive.f = some true := by
  unfold laws_alive.f
  rw [impl_PlaceOf_eq, Option.bind_some, show plOr 0 0 = 0 by decide, if_pos rfl, impl_PlaceOf_eq, Option.bind_some, show plOr 0 1 = -1 by decide]
  rfl
theorem same_round (l : List Int) (hl : l.length ≤ 1048576) (d : Nat) : ∀ (k i : Nat), i + d = l.length → d < k → laws_sameInts.l0 k l l (i : Int) = some true := by
  induction d with
  | zero =>
    intro k i h hk
    obtain ⟨k, rfl⟩ : ∃ m, k = m + 1 := ⟨k - 1, by omega⟩
    simp only [laws_sameInts.l0]
    rw [if_neg (by omega)]
  | succ d ih =>
    intro k i h hk
    obtain ⟨k, rfl⟩ : ∃ m, k = m + 1 := ⟨k - 1, by omega⟩
    simp only [laws_sameInts.l0]
    rw [if_pos (by omega), if_pos (by omega), if_pos (by omega), if_pos trivial, wrap_succ i l.length (by omega) hl]
    exact ih k (i + 1) (by omega) (by omega)
theorem same_k (l : List Int) (hl : l.length ≤ 1048576) (k : Nat) (hk : 1048576 < k) : laws_sameInts.f k l l = some true := by
  unfold laws_sameInts.f
  rw [if_pos rfl]
  exact same_round l hl l.length k 0 (by omega) (by omega)

end Go.Proofs.Ytgkifmabdfjejaa.P

/- Every place is one entry: the pure statement of the law FnPlaceOf. No condition. -/
namespace Go.Proofs.Ytgkifmabdfjejaa.Pure
open Go.RowKit Go.Proofs.Ytgkifmabdfjejaa.P Go.Proofs.YtgkifmabdfjejaaW.PrintWords Go.Proofs.YtgkifmabdfjejaaW.PrintLast

def placeLaw (a s : Int) : Option Bool := if plOr a s < 0 then (if plOr a s = (-1) then some true else some false) else (if s = a then (if plOr (wrap64 (a + 1)) 0 = wrap64 (plOr a s + 1) then some true else if a = 5 then (if plOr (wrap64 (a + 1)) 0 = (-1) then some (plOr a s == 20) else some false) else some false) else if plOr a (wrap64 (s + 1)) = wrap64 (plOr a s + 1) then some true else if a = 5 then some false else some false)
theorem placeLaw_all (i j : Int) (h1 : 0 ≤ i) (h2 : i < 8) (h3 : 0 ≤ j) (h4 : j < 8) : placeLaw (wrap64 (i - 1)) (wrap64 (j - 1)) = some true := by
  have hf : ∀ x y : Fin 8, placeLaw (wrap64 ((x.val : Int) - 1)) (wrap64 ((y.val : Int) - 1)) = some true := by decide +kernel
  have := hf ⟨i.toNat, by omega⟩ ⟨j.toNat, by omega⟩
  simp only [] at this
  rwa [show ((i.toNat : Nat) : Int) = i by omega, show ((j.toNat : Nat) : Int) = j by omega] at this
theorem FnPlaceOf : laws_FnPlaceOf.Pure := by
  intro l _ _ hw
  obtain ⟨K, hK⟩ : ∃ K, K = 2097300 := ⟨_, rfl⟩
  refine ⟨K + 1, ?_⟩
  unfold laws_FnPlaceOf.f
  by_cases hl : (l.length : Int) > 1048576
  · rw [if_pos hl]
  · rw [if_neg hl]
    obtain ⟨xs, eo, hs⟩ := src_open l hw
    unfold spec_DrawPlaceOf.f
    rw [eo, Option.bind_some]
    obtain ⟨i, e1, g1, g2⟩ := pick_k xs hs 0 8 (by omega) (by omega) (K + 1) (by omega)
    obtain ⟨j, e2, g3, g4⟩ := pick_k xs hs (0 + 1) 8 (by omega) (by omega) (K + 1) (by omega)
    have := placeLaw_all i j g1 (g2 (by omega)) g3 (g4 (by omega))
    unfold placeLaw at this
    simp only [e1, e2, Option.bind_some, impl_PlaceOf_eq, spec_PlaceOf_eq, alive_eq, if_true]
    exact this

end Go.Proofs.Ytgkifmabdfjejaa.Pure
