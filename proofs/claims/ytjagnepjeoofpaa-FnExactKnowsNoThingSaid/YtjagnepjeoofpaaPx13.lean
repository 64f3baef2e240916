-- Written by wip/gen/lay.py, a program of this session, with the kit's print as its base. Lean checks every line.
import Derived.Test.YtjagnepjeoofpaaPx0
import Derived.Test.YtjagnepjeoofpaaPx3
import Derived.Test.YtjagnepjeoofpaaPx6
import Derived.Test.YtjagnepjeoofpaaPx9
namespace Go.Proofs.Ytjagnepjeoofpaa.P
open Go.RowKit Go.Proofs.YtjagnepjeoofpaaW.PrintWords Go.Proofs.YtjagnepjeoofpaaW.PrintLast Go.Proofs.YtjagnepjeoofpaaW.PrintMore
attribute [local go_sem] max2_int min2_int max_two min_two max_three min_three max_four min_four   -- for this text's walks alone
set_option linter.unusedVariables false
set_option linter.unusedSimpArgs false

/-! ### HAND impl_LooksInside: function 24 -/
def impl_LooksInside.so (t : Int) (rel : List Int) (a b : Int) : Bool := hr t rel a b == hr t rel a (Go.bits .and .i64 a b)
def impl_LooksInside.f (a0 : Int) (l1 : List Int) : Option Bool := some (isRel a0 l1 && forAllP a0 (impl_LooksInside.so a0 l1))
theorem and_range (t a b : Int) (h1 : 0 ≤ t) (h2 : t ≤ 3) (h3 : 0 ≤ a) (h4 : a < pw t) (h5 : 0 ≤ b) (h6 : b < pw t) : 0 ≤ Go.bits .and .i64 a b ∧ Go.bits .and .i64 a b < pw t := by
  have hf : ∀ x y : Fin 8, Go.bits .and .i64 (x.val : Int) (y.val : Int) = ((x.val &&& y.val : Nat) : Int) := by decide +kernel
  have hp := pw_range t h1 h2
  obtain ⟨n, rfl⟩ := Int.eq_ofNat_of_zero_le h3
  obtain ⟨m, rfl⟩ := Int.eq_ofNat_of_zero_le h5
  have he := hf ⟨n, by omega⟩ ⟨m, by omega⟩
  rw [he]
  have hm : m < 2 ^ t.toNat := by
    unfold pw at h6
    rw [← Int.ofNat_lt]
    simpa using h6
  have := Nat.and_lt_two_pow n hm
  refine ⟨by omega, ?_⟩
  unfold pw
  rw [← Int.ofNat_lt] at this
  simpa using this
set_option maxHeartbeats 1000000 in
set_option maxRecDepth 100000 in
theorem impl_LooksInside.lit (t : Int) (A1 : Option Addr) (c1 : Nat) (l1 : List Int) (b0 b1 : Nat) (w : World) (ht1 : 0 ≤ t) (ht2 : t ≤ 3) (hl : l1.length = 4 ^ t.toNat) (hb0 : w.cell? ⟨b0, 0, none⟩ = some (.int .i64 t)) (hb1 : w.cell? ⟨b1, 0, none⟩ = some (.slice A1 l1.length c1)) (hr1 : Kd.C (Kd.int .i64) w A1 l1.length l1) (hc1 : l1.length ≤ c1)
    (a b : Int) (h1 : 0 ≤ a) (h2 : a < pw t) (h3 : 0 ≤ b) (h4 : b < pw t) :
    Calls Try.prog 49 #[.int .i64 a, .int .i64 b, .pointer (some ⟨b0, 0, none⟩), .pointer (some ⟨b1, 0, none⟩)] w fun e w' => e = .returned (.bool (impl_LooksInside.so t l1 a b)) ∧ Drawn0 w w' := by
  have HR1 := Aside0.mk hr1
  have HC1 := Aside0.mk hc1
  have HL := Aside0.mk hl
  clear hr1 hc1 hl
  have hh := holdsOf_here t l1 a b ht1 ht2 HL.out h1 h2 h3 h4
  have hk := holdsOf_here t l1 a (Go.bits .and .i64 a b) ht1 ht2 HL.out h1 h2 (and_range t a b ht1 ht2 h1 h2 h3 h4).1 (and_range t a b ht1 ht2 h1 h2 h3 h4).2
  unfold impl_LooksInside.so
  obtain ⟨x, ex⟩ : ∃ b_, hr t l1 a b = b_ := ⟨_, rfl⟩
  obtain ⟨y, ey⟩ : ∃ b_, hr t l1 a (Go.bits .and .i64 a b) = b_ := ⟨_, rfl⟩
  rw [ex] at hh ⊢
  rw [ey] at hk ⊢
  have H1 := Aside0.mk hh
  have H2 := Aside0.mk hk
  clear hh hk ex ey h1 h2 h3 h4 ht1 ht2
  cases x <;> cases y <;>
  · go_enter Try.func49, Try.ntmps49
    go_wp2
    go_quiet (first | (go_at_call 45; (with_reducible refine (impl_holdsOf.calls t A1 c1 l1 a b _ _ ?s1 HC1.out H1.out).mono ?_); (case s1 => repeat (first | exact HR1.out | (with_reducible refine Kd.C_alloc ?_ _) | (with_reducible refine Kd.C_drewN ?_ _) | (with_reducible refine Kd.C_drew ?_))); rintro e w' ⟨rfl, ⟨nd, rfl⟩⟩; (try first | exact ⟨rfl, _, World.drewN_drewN _ _ _⟩ | exact ⟨rfl, _, Eq.trans (World.drewN_drewN _ _ _) (congrArg (World.drewN _) (Nat.add_assoc _ _ _))⟩)) | (go_at_call 45; (with_reducible refine (impl_holdsOf.calls t A1 c1 l1 a (Go.bits .and .i64 a b) _ _ ?s1 HC1.out H2.out).mono ?_); (case s1 => repeat (first | exact HR1.out | (with_reducible refine Kd.C_alloc ?_ _) | (with_reducible refine Kd.C_drewN ?_ _) | (with_reducible refine Kd.C_drew ?_))); rintro e w' ⟨rfl, ⟨nd, rfl⟩⟩; (try first | exact ⟨rfl, _, World.drewN_drewN _ _ _⟩ | exact ⟨rfl, _, Eq.trans (World.drewN_drewN _ _ _) (congrArg (World.drewN _) (Nat.add_assoc _ _ _))⟩)))
    go_wp2
    go_ret
    exact ⟨rfl, by repeat (first | exact Drawn0.refl _ | apply Drawn0.step)⟩
set_option maxHeartbeats 2000000 in
set_option maxRecDepth 100000 in
theorem impl_LooksInside.calls (a0 : Int) (A1 : Option Addr) (c1 : Nat) (l1 : List Int) (r : Bool) (w : World) (hr1 : Kd.C (Kd.int .i64) w A1 l1.length l1) (hc1 : l1.length ≤ c1) (h : impl_LooksInside.f a0 l1 = some r) :
    Calls Try.prog 24 #[.int .i64 a0, .slice A1 l1.length c1] w fun e w' => e = .returned (.bool r) ∧ Below w.heap.size w w' := by
  have HT := Aside0.mk (isRelation_k a0 l1 hr1.2.1 (l1.length + 2) (by omega))
  have HB := Aside0.mk (below_alloc (below_alloc (Below.refl w.heap.size w) (.cells #[.int .i64 a0] 3)) (.cells #[.slice A1 l1.length c1] 22))
  have HR1 := Aside0.mk (Kd.C_alloc (Kd.C_alloc hr1 (.cells #[.int .i64 a0] 3)) (.cells #[.slice A1 l1.length c1] 22))
  have HC1 := Aside0.mk hc1
  obtain rfl : (isRel a0 l1 && forAllP a0 (impl_LooksInside.so a0 l1)) = r := Option.some.inj h
  obtain ⟨x, ex⟩ : ∃ b, isRel a0 l1 = b := ⟨_, rfl⟩
  rw [ex] at HT ⊢
  cases x with
  | true =>
    obtain ⟨q1, q2, q3⟩ := isRel_range ex
    have HS := Aside0.mk (fun (nd : Nat) => show GivesSets 49 #[.pointer (some ⟨w.heap.size, 0, none⟩), .pointer (some ⟨w.heap.size + 1, 0, none⟩)] a0 (impl_LooksInside.so a0 l1) (((w.alloc (.cells #[.int .i64 a0] 3)).alloc (.cells #[.slice A1 l1.length c1] 22)).drewN nd) from fun W a b hW h1 h2 h3 h4 =>
      impl_LooksInside.lit a0 A1 c1 l1 w.heap.size (w.heap.size + 1) W q1 q2 q3 ((hW.cell (p := ⟨w.heap.size, 0, none⟩) (by simp; omega)).trans (by simp)) ((hW.cell (p := ⟨w.heap.size + 1, 0, none⟩) (by simp)).trans (by simp)) (Kd.C_below (Kd.C_drewN HR1.out nd) hW) hc1 a b h1 h2 h3 h4)
    have HQ := Aside0.mk (show 0 ≤ a0 ∧ a0 ≤ 3 from ⟨q1, q2⟩)
    rw [Bool.true_and]
    clear h ex q1 q2 q3 hr1 hc1
    go_enter Try.func24, Try.ntmps24
    go_wp2_with (first | (go_at_call 44; (with_reducible refine (impl_isRelation.calls _ a0 A1 c1 l1 _ _ ?s1 HC1.out HT.out).mono ?_); (case s1 => repeat (first | exact HR1.out | (with_reducible refine Kd.C_alloc ?_ _) | (with_reducible refine Kd.C_drewN ?_ _) | (with_reducible refine Kd.C_drew ?_))); rintro e w' ⟨rfl, ⟨nd, rfl⟩⟩) | (go_at_call 46; refine (impl_forAllSets.calls _ (enters_of Try.func49 (by kernel_rfl) rfl) _ a0 HQ.out.1 HQ.out.2 _ _ (HS.out _)).mono ?_; rintro e w' ⟨rfl, ⟨nd, rfl⟩⟩))
    go_ret
    exact ⟨rfl, by repeat (first | (with_reducible first | exact HB.out | apply below_alloc | apply pw_below_drewN | apply below_drew1) | exact HB.out)⟩
  | false =>
    rw [Bool.false_and]
    clear h ex hr1 hc1
    go_enter Try.func24, Try.ntmps24
    go_wp2_with (first | (go_at_call 44; (with_reducible refine (impl_isRelation.calls _ a0 A1 c1 l1 _ _ ?s1 HC1.out HT.out).mono ?_); (case s1 => repeat (first | exact HR1.out | (with_reducible refine Kd.C_alloc ?_ _) | (with_reducible refine Kd.C_drewN ?_ _) | (with_reducible refine Kd.C_drew ?_))); rintro e w' ⟨rfl, ⟨nd, rfl⟩⟩))
    go_ret
    exact ⟨rfl, by repeat (first | (with_reducible first | exact HB.out | apply below_alloc | apply pw_below_drewN | apply below_drew1) | exact HB.out)⟩

end Go.Proofs.Ytjagnepjeoofpaa.P
