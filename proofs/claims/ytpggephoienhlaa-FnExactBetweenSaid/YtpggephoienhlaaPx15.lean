-- Written by wip/gen/lay.py, a program of this session, with the kit's print as its base. Lean checks every line.
import Derived.Test.YtpggephoienhlaaPx0
import Derived.Test.YtpggephoienhlaaPx4
import Derived.Test.YtpggephoienhlaaPx9
import Derived.Test.YtpggephoienhlaaPx14
namespace Go.Proofs.Ytpggephoienhlaa.P
open Go.RowKit Go.Proofs.YtpggephoienhlaaW.PrintWords Go.Proofs.YtpggephoienhlaaW.PrintLast Go.Proofs.YtpggephoienhlaaW.PrintMore
attribute [local go_sem] max2_int min2_int max_two min_two max_three min_three max_four min_four   -- for this text's walks alone
set_option linter.unusedVariables false
set_option linter.unusedSimpArgs false

/-! ### HAND impl_triangleBy: function 42 -/
theorem holds_here (l : List Int) (a s : Int) (hl : 21 ≤ l.length) (h1 : 0 ≤ a) (h2 : a ≤ 5) (h3 : 0 ≤ s) (h4 : s ≤ a) : impl_holds.f l a s = some (hd l a s) := by
  have hp : impl_placeOf.f a s = some (a * (a + 1) / 2 + s) := by
    unfold impl_placeOf.f
    have ha : a = 0 ∨ a = 1 ∨ a = 2 ∨ a = 3 ∨ a = 4 ∨ a = 5 := by omega
    rcases ha with rfl | rfl | rfl | rfl | rfl | rfl <;> (congr 1; simp [wrap64]; omega)
  have hb : 0 ≤ a * (a + 1) / 2 + s ∧ a * (a + 1) / 2 + s < 21 := by
    have ha : a = 0 ∨ a = 1 ∨ a = 2 ∨ a = 3 ∨ a = 4 ∨ a = 5 := by omega
    rcases ha with rfl | rfl | rfl | rfl | rfl | rfl <;> omega
  unfold impl_holds.f hd
  rw [hp, Option.bind_some, if_pos hb.1, if_pos (by omega)]
theorem isTriangle_round (l : List Int) (hl : l.length ≤ 9223372036854775807) (d : Nat) : ∀ (k i : Nat), i + d = l.length → d < k → impl_isTriangle.l0 k l l (l.length : Int) (i : Int) = some ((l.drop i).all (fun x => x == 0 || x == 1) && l.length == 21) := by
  induction d with
  | zero =>
    intro k i h hk
    obtain ⟨k, rfl⟩ : ∃ m, k = m + 1 := ⟨k - 1, by omega⟩
    simp only [impl_isTriangle.l0]
    rw [if_neg (by omega), List.drop_of_length_le (by omega)]
    congr 1
    rw [List.all_nil, Bool.true_and, Bool.eq_iff_iff, beq_iff_eq, beq_iff_eq]
    omega
  | succ d ih =>
    intro k i h hk
    obtain ⟨k, rfl⟩ : ∃ m, k = m + 1 := ⟨k - 1, by omega⟩
    have hi : i < l.length := by omega
    have hr : rd l (i : Int) = l[i] := by simp [rd, List.getD_eq_getElem?_getD, List.getElem?_eq_getElem hi]
    have hd_ : l.drop i = l[i] :: l.drop (i + 1) := List.drop_eq_getElem_cons hi
    have hw : wrap64 ((i : Int) + 1) = ((i + 1 : Nat) : Int) := by unfold wrap64; omega
    simp only [impl_isTriangle.l0]
    rw [if_pos (by omega), if_pos (by omega), if_pos (by omega), hr, hw, ih k (i + 1) (by omega) (by omega), hd_, List.all_cons]
    by_cases h0 : l[i] = 0
    · rw [if_pos h0, show (l[i] == 0 || l[i] == 1) = true from by simp [h0], Bool.true_and]
    · by_cases h1 : l[i] = 1
      · rw [if_neg h0, if_pos h1, show (l[i] == 0 || l[i] == 1) = true from by simp [h1], Bool.true_and]
      · rw [if_neg h0, if_neg h1, show (l[i] == 0 || l[i] == 1) = false from by simp [h0, h1], Bool.false_and, Bool.false_and]
theorem isTriangle_here (l : List Int) (hl : l.length ≤ 9223372036854775807) : impl_isTriangle.f (l.length + 1) l = some (isTri l) := by
  unfold impl_isTriangle.f isTri
  have := isTriangle_round l hl l.length (l.length + 1) 0 (by omega) (by omega)
  simpa using this
/-- What a function value of two numbers hands back, wherever a triangle asks it. -/
def Gives2 (g : Nat) (cap : Array Value) (so : Int → Int → Bool) (w : World) : Prop :=
  ∀ (W : World) (a s : Int), Below w.heap.size w W → 0 ≤ a → a ≤ 5 → 0 ≤ s → s ≤ a →
    Calls Try.prog g (#[.int .i64 a, .int .i64 s] ++ cap) W fun e w' => e = .returned (.bool (so a s)) ∧ Drawn0 W w'
set_option maxHeartbeats 1000000 in
set_option maxRecDepth 100000 in
theorem impl_triangleBy.calls (g : Nat) (eg : ∀ args w, (callFunc g args).run Try.prog w = .ok (.enter g args) w) (cap : Array Value) (so : Int → Int → Bool) (w : World) (hs : Gives2 g cap so w) :
    Calls Try.prog 42 #[.func (.func g) #[] cap] w fun e w' => ∃ v0_ : Value, e = .returned (v0_) ∧ Kd.R (Kd.int .i64) 3 w' w.heap.size (fun _ => True) v0_ (triBy so) ∧ Below w.heap.size w w' := by
  have HS := Aside0.mk hs
  clear hs
  have HB := Aside0.mk (Below.refl w.heap.size w)
  obtain ⟨y0, hy0⟩ : ∃ y_ : List Int, y_ = (([] : List Int)) := ⟨_, rfl⟩
  have Ny0 := Aside0.mk hy0
  clear hy0
  go_enter Try.func42, Try.ntmps42
  go_wp2_with (first | ((with_reducible refine gate_dst (N := 7) rfl ?_); refine Kd.R_lit (Kd.int .i64) _ 3 ?hg (N := 7) ?hd (xs := ([] : List Int)) (inner := []) (ok := fun _ => True) (okp := fun _ => True) ?hr ?hp (fun _ hk => hk) trivial (Below.refl _ _) (Nat.le_refl _) (by simp) ?_; (case hd => rfl); (case hg => rfl); (case hr => first | (go_simp; done) | (go_simp; rfl)); (case hp => exact (Reps.none _ _)); intro v113 w2 ho3 hb hg_ hnew_; clear hg_ hnew_; (first | rw [← Ny0.out] at ho3 | (simp only [Int.reduceToNat] at ho3; rw [← Ny0.out] at ho3)); have n0_ := Aside0.mk (Kd.R_lower ho3 (below_size (by repeat (first | (with_reducible first | exact HB.out | apply below_alloc | apply pw_below_drewN | apply below_drew1) | exact HB.out)))); have n1_ := Aside0.mk (below_step (by repeat (first | (with_reducible first | exact HB.out | apply below_alloc | apply pw_below_drewN | apply below_drew1) | exact HB.out)) hb); clear HB; have HO := n0_; have HB := n1_; clear n0_ n1_; clear hb ho3))
  go_loopg [3, 8] 6 (fun kq v3 v8 w' => ∃ (n : Nat) (x3 : List Int), v8 = .int .i64 n ∧ Aside0 (n + kq = 6 ∧ x3 = triRows so n) ∧ Aside0 (Kd.R (Kd.int .i64) 3 w' w.heap.size (fun _ => True) v3 x3) ∧ Aside0 (Below w.heap.size w w'))
  case atStart => exact ⟨0, y0, rfl, ⟨rfl, Ny0.out⟩, ⟨by (with_reducible repeat (first | apply Kd.R_alloc | apply Kd.R_drewN | apply Kd.R_drew)); exact HO.out⟩, ⟨by repeat (first | (with_reducible first | exact HB.out | apply below_alloc | apply pw_below_drewN | apply below_drew1) | exact HB.out)⟩⟩
  case round =>
    clear HO Ny0
    obtain ⟨n, x3, rfl, HN, HO, HB⟩ := hrel
    by_cases hn : n < 6
    · obtain ⟨k1, rfl⟩ : ∃ m, gk = m + 1 := ⟨gk - 1, by have := HN.out.1; omega⟩
      have hn0 : decide ((n : Int) < 6) = true := decide_eq_true (by omega)
      go_wp2
      go_loopg [3, 13] (n + 1) (fun kq v3 v13 w' => ∃ (m : Nat) (y3 : List Int), v13 = .int .i64 m ∧ Aside0 (m + kq = n + 1 ∧ y3 = triRows so n ++ triRow so n m) ∧ Aside0 (Kd.R (Kd.int .i64) 3 w' w.heap.size (fun _ => True) v3 y3) ∧ Aside0 (Below w.heap.size w w'))
      case atStart => exact ⟨0, x3, rfl, ⟨by omega, by rw [HN.out.2, triRow_zero, List.append_nil]⟩, ⟨by (with_reducible repeat (first | apply Kd.R_alloc | apply Kd.R_drewN | apply Kd.R_drew)); exact HO.out⟩, ⟨by repeat (first | (with_reducible first | exact HB.out | apply below_alloc | apply pw_below_drewN | apply below_drew1) | exact HB.out)⟩⟩
      case round =>
        clear HO
        obtain ⟨m, y3, rfl, HM, HO, HB⟩ := hrel
        by_cases hm : m < n + 1
        · obtain ⟨k2, rfl⟩ : ∃ j, gk = j + 1 := ⟨gk - 1, by have := HM.out.1; omega⟩
          have hlen : y3.length < 100 := by
            have h1 := triRows_length_le so n (by omega)
            have h2 := triRow_length so n m
            rw [HM.out.2, List.length_append]; omega
          have LM := Aside0.mk hlen
          clear hlen
          have hm5 : (m : Int) ≤ n := by omega
          have hn5 : (n : Int) ≤ 5 := by omega
          obtain ⟨b, hb0⟩ : ∃ b, so n m = b := ⟨_, rfl⟩
          have cS := HS.out wr n m HB.out (by omega) (by omega) (by omega) (by omega)
          rw [hb0] at cS
          have cS' := Aside0.mk cS
          clear cS
          obtain ⟨y4, hy4⟩ : ∃ y_ : List Int, y_ = (y3 ++ [if b = true then 1 else 0]) := ⟨_, rfl⟩
          have Ny4 := Aside0.mk hy4
          have Nb := Aside0.mk hb0
          clear hy4 hb0
          have fin : y4 = triRows so n ++ triRow so n (m + 1) := by rw [Ny4.out, HM.out.2, triRow_succ, Nb.out, List.append_assoc]
          have Nf := Aside0.mk fin
          clear fin
          cases b with
          | true =>
            go_wp2_with (first | (go_at_fn g; refine cS'.out.mono ?_; rintro e w' ⟨rfl, ⟨nd, rfl⟩⟩) | ((with_reducible refine gate_builtin (b := .append) (xs := #[.tmp 20, .tmp 22]) rfl ?_); at_builtin; refine Kd.R_append (Kd.int .i64) (w0 := w) w.heap.size rfl (.tmp 20) (.tmp 22) 25 3 (.int .i64 0) 8 rfl Try.underlying25 info3 rfl (by decide) (by omega) _ y3 1 [.int .i64 1] (fun _ => True) (fun _ => False) rfl rfl ?aP (fun _ hk => hk.elim) ?aF ?aO ?aB ?aS ?aL ?_; (case aP => exact rfl); (case aB => exact (by repeat (first | (with_reducible first | exact HB.out | apply below_alloc | apply pw_below_drewN | apply below_drew1) | exact HB.out))); (case aF => exact (fun _ _ => trivial)); (case aO => exact (by (with_reducible repeat (first | apply Kd.R_alloc | apply Kd.R_drewN | apply Kd.R_drew)); exact HO.out)); (case aS => exact (below_size (by repeat (first | (with_reducible first | exact HB.out | apply below_alloc | apply pw_below_drewN | apply below_drew1) | exact HB.out)))); (case aL => have := LM.out; omega); intro v118 w9 ho hb hg hat; rw [show y3 ++ [1] = y4 from Ny4.out.symm] at ho; have n0_ := Aside0.mk (hb); have n1_ := Aside0.mk (ho); clear HB; clear HO; have HB := n0_; have HO := n1_; clear n0_ n1_; clear ho hb hg hat))
            go_roundg k2
            case measure => omega
            case rel => exact ⟨m + 1, y4, by go_num, ⟨by have := HM.out.1; omega, Nf.out⟩, ⟨by (with_reducible repeat (first | apply Kd.R_alloc | apply Kd.R_drewN | apply Kd.R_drew)); exact HO.out⟩, ⟨by repeat (first | (with_reducible first | exact HB.out | apply below_alloc | apply pw_below_drewN | apply below_drew1) | exact HB.out)⟩⟩
          | false =>
            go_wp2_with (first | (go_at_fn g; refine cS'.out.mono ?_; rintro e w' ⟨rfl, ⟨nd, rfl⟩⟩) | ((with_reducible refine gate_builtin (b := .append) (xs := #[.tmp 20, .tmp 22]) rfl ?_); at_builtin; refine Kd.R_append (Kd.int .i64) (w0 := w) w.heap.size rfl (.tmp 20) (.tmp 22) 25 3 (.int .i64 0) 8 rfl Try.underlying25 info3 rfl (by decide) (by omega) _ y3 0 [.int .i64 0] (fun _ => True) (fun _ => False) rfl rfl ?aP (fun _ hk => hk.elim) ?aF ?aO ?aB ?aS ?aL ?_; (case aP => exact rfl); (case aB => exact (by repeat (first | (with_reducible first | exact HB.out | apply below_alloc | apply pw_below_drewN | apply below_drew1) | exact HB.out))); (case aF => exact (fun _ _ => trivial)); (case aO => exact (by (with_reducible repeat (first | apply Kd.R_alloc | apply Kd.R_drewN | apply Kd.R_drew)); exact HO.out)); (case aS => exact (below_size (by repeat (first | (with_reducible first | exact HB.out | apply below_alloc | apply pw_below_drewN | apply below_drew1) | exact HB.out)))); (case aL => have := LM.out; omega); intro v118 w9 ho hb hg hat; rw [show y3 ++ [0] = y4 from Ny4.out.symm] at ho; have n0_ := Aside0.mk (hb); have n1_ := Aside0.mk (ho); clear HB; clear HO; have HB := n0_; have HO := n1_; clear n0_ n1_; clear ho hb hg hat))
            go_roundg k2
            case measure => omega
            case rel => exact ⟨m + 1, y4, by go_num, ⟨by have := HM.out.1; omega, Nf.out⟩, ⟨by (with_reducible repeat (first | apply Kd.R_alloc | apply Kd.R_drewN | apply Kd.R_drew)); exact HO.out⟩, ⟨by repeat (first | (with_reducible first | exact HB.out | apply below_alloc | apply pw_below_drewN | apply below_drew1) | exact HB.out)⟩⟩
        · go_wp2
          go_roundg k1
          case measure => omega
          case rel =>
            have hmn : m = n + 1 := by have := HM.out.1; omega
            exact ⟨n + 1, y3, by go_num, ⟨by have := HN.out.1; omega, by rw [HM.out.2, hmn, triRows_succ]⟩, ⟨by (with_reducible repeat (first | apply Kd.R_alloc | apply Kd.R_drewN | apply Kd.R_drew)); exact HO.out⟩, ⟨by repeat (first | (with_reducible first | exact HB.out | apply below_alloc | apply pw_below_drewN | apply below_drew1) | exact HB.out)⟩⟩
    · go_wp2
      go_ret
      have hn6 : n = 6 := by have := HN.out.1; omega
      exact ⟨_, rfl, by rw [show triBy so = x3 from by rw [HN.out.2, hn6]; rfl]; (with_reducible repeat (first | apply Kd.R_alloc | apply Kd.R_drewN | apply Kd.R_drew)); exact HO.out, by repeat (first | (with_reducible first | exact HB.out | apply below_alloc | apply pw_below_drewN | apply below_drew1) | exact HB.out)⟩

end Go.Proofs.Ytpggephoienhlaa.P
