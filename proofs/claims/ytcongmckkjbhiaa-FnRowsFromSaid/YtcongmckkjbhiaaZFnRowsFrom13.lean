-- Texts of this claim, laid one behind the other by wip/gen/merge.py.
import Derived.Test.YtcongmckkjbhiaaZFnRowsFrom0
import Derived.Test.YtcongmckkjbhiaaZFnRowsFrom9
import Derived.Test.YtcongmckkjbhiaaZFnRowsFrom12
import Derived.Test.YtcongmckkjbhiaaZFnRowsFrom10
namespace Go.Proofs.Ytcongmckkjbhiaa.P
open Go.RowKit Go.Proofs.YtcongmckkjbhiaaW.PrintWords Go.Proofs.YtcongmckkjbhiaaW.PrintLast Go.Proofs.YtcongmckkjbhiaaW.PrintMore
attribute [local go_sem] max2_int min2_int max_two min_two max_three min_three max_four min_four
set_option linter.unusedVariables false
set_option linter.unusedSimpArgs false
/-! ### HAND impl_KnowsNoThing: function 16 -/
def impl_KnowsNoThing.so (t : Int) (rel : List Int) (a b : Int) : Bool := kntP t rel a b
def impl_KnowsNoThing.f (a0 : Int) (l1 : List Int) : Option Bool := some (isRel a0 l1 && forAllP a0 (impl_KnowsNoThing.so a0 l1))
theorem exch_here (t s i k : Int) (h1 : 0 ≤ t) (h2 : t ≤ 3) (h3 : 0 ≤ s) (h4 : s < pw t) (h5 : 0 ≤ k) (h6 : k < i) (h7 : i < t) : impl_exchanged.f s i k = some (exch s i k) ∧ 0 ≤ exch s i k ∧ exch s i k < pw t := by
 have hf : ∀ T : Fin 4, ∀ x : Fin 8, ∀ p q : Fin 3, (x.val : Int) < pw T.val → q.val < p.val → p.val < T.val → impl_exchanged.f x.val p.val q.val = some (exch x.val p.val q.val) ∧ 0 ≤ exch x.val p.val q.val ∧ exch x.val p.val q.val < pw T.val := by decide +kernel
 have hp := pw_range t h1 h2
 obtain ⟨T, rfl⟩ := Int.eq_ofNat_of_zero_le h1
 obtain ⟨x, rfl⟩ := Int.eq_ofNat_of_zero_le h3
 obtain ⟨q, rfl⟩ := Int.eq_ofNat_of_zero_le h5
 obtain ⟨p, rfl⟩ := Int.eq_ofNat_of_zero_le (show 0 ≤ i by omega)
 exact hf ⟨T, by omega⟩ ⟨x, by omega⟩ ⟨p, by omega⟩ ⟨q, by omega⟩ h4 (show q < p by omega) (show p < T by omega)
set_option maxHeartbeats 1000000 in
set_option maxRecDepth 100000 in
theorem impl_KnowsNoThing.lit (t : Int) (A1 : Option Addr) (c1 : Nat) (l1 : List Int) (b0 b1 : Nat) (w : World) (ht1 : 0 ≤ t) (ht2 : t ≤ 3) (hl : l1.length = 4 ^ t.toNat) (hb0 : w.cell? ⟨b0, 0, none⟩ = some (.int .i64 t)) (hb1 : w.cell? ⟨b1, 0, none⟩ = some (.slice A1 l1.length c1)) (hr1 : Kd.C (Kd.int .i64) w A1 l1.length l1) (hc1 : l1.length ≤ c1)
  (a b : Int) (h1 : 0 ≤ a) (h2 : a < pw t) (h3 : 0 ≤ b) (h4 : b < pw t) :
  Calls Try.prog 48 #[.int .i64 a, .int .i64 b, .pointer (some ⟨b0, 0, none⟩), .pointer (some ⟨b1, 0, none⟩)] w fun e w' => e = .returned (.bool (impl_KnowsNoThing.so t l1 a b)) ∧ Drawn0 w w' := by
 have HR1 := Aside0.mk hr1
 have HC1 := Aside0.mk hc1
 have HL := Aside0.mk hl
 clear hr1 hc1 hl
 obtain ⟨T, rfl⟩ := Int.eq_ofNat_of_zero_le ht1
 go_enter Try.func48, Try.ntmps48
 go_wp2
 go_loopg [10] T (fun kq v10 w' => ∃ (n : Nat), v10 = .int .i64 n ∧ Aside0 (n + kq = T ∧ ∀ i k : Nat, i < n → k < i → kntAt T l1 a b i k = true) ∧ Drawn0 w w')
 case atStart => exact ⟨0, rfl, ⟨by omega, fun i k h => absurd h (by omega)⟩, by repeat (first | exact Drawn0.refl _ | apply Drawn0.step)⟩
 case round =>
  obtain ⟨n, rfl, HN, ⟨m1, rfl⟩⟩ := hrel
  by_cases hn : n < T
  ·obtain ⟨k1, rfl⟩ : ∃ m, gk = m + 1 := ⟨gk - 1, by have := HN.out.1; omega⟩
   have hn0 : decide ((n : Int) < T) = true := decide_eq_true (by omega)
   have hn1 : decide (n < T) = true := decide_eq_true hn
   go_wp2
   go_loopg [14] n (fun kq v14 w' => ∃ (m : Nat), v14 = .int .i64 m ∧ Aside0 (m + kq = n ∧ ∀ k : Nat, k < m → kntAt T l1 a b n k = true) ∧ Drawn0 w w')
   case atStart => exact ⟨0, rfl, ⟨by omega, fun s h => absurd h (by omega)⟩, by repeat (first | exact Drawn0.refl _ | apply Drawn0.step)⟩
   case round =>
    obtain ⟨m, rfl, HM, ⟨m2, rfl⟩⟩ := hrel
    by_cases hm : m < n
    ·obtain ⟨k2, rfl⟩ : ∃ j, gk = j + 1 := ⟨gk - 1, by have := HM.out.1; omega⟩
     have hm0 : decide ((m : Int) < n) = true := decide_eq_true (by omega)
     have hm1 : decide (m < n) = true := decide_eq_true hm
     obtain ⟨p1, p2, p3⟩ := exch_here T a n m ht1 ht2 h1 h2 (by omega) (by omega) (by omega)
     obtain ⟨q1, q2, q3⟩ := exch_here T b n m ht1 ht2 h3 h4 (by omega) (by omega) (by omega)
     have hh := holdsOf_here T l1 a b ht1 ht2 HL.out h1 h2 h3 h4
     have hk := holdsOf_here T l1 (exch a n m) (exch b n m) ht1 ht2 HL.out p2 p3 q2 q3
     obtain ⟨x, ex⟩ : ∃ b_, hr T l1 a b = b_ := ⟨_, rfl⟩
     obtain ⟨y, ey⟩ : ∃ b_, hr T l1 (exch a n m) (exch b n m) = b_ := ⟨_, rfl⟩
     have HO := Aside0.mk (show kntAt T l1 a b n m = (x == y) from by unfold kntAt; rw [ex, ey])
     rw [ex] at hh
     rw [ey] at hk
     obtain ⟨z1, ez1⟩ : ∃ z, exch a n m = z := ⟨_, rfl⟩
     obtain ⟨z2, ez2⟩ : ∃ z, exch b n m = z := ⟨_, rfl⟩
     rw [ez1] at p1 hk
     rw [ez2] at q1 hk
     have H1 := Aside0.mk hh
     have H2 := Aside0.mk hk
     have H3 := Aside0.mk p1
     have H4 := Aside0.mk q1
     clear hh hk p1 p2 p3 q1 q2 q3 ex ey ez1 ez2
     have HT : (x == y) = true → Aside0 (m + 1 + k2 = n ∧ ∀ k : Nat, k < m + 1 → kntAt T l1 a b n k = true) := fun h => ⟨by have := HM.out.1; omega, fun k hk => by
      rcases Nat.lt_or_ge k m with h' | h'
      ·exact HM.out.2 k h'
      ·obtain rfl : k = m := by omega
       rw [HO.out, h]⟩
     have HF : (x == y) = false → Aside0 (kntP T l1 a b = false) := fun h => ⟨kntP_false T l1 a b n m (by simpa using hn) hm (by rw [HO.out, h])⟩
     clear HO
     have HT' := Aside0.mk HT
     have HF' := Aside0.mk HF
     clear HT HF
     cases x <;> cases y
     ·have HX := HT'.out rfl
      clear HT' HF'
      go_wp2
      go_quiet (first | (go_at_call 43; (with_reducible refine (impl_holdsOf.calls T A1 c1 l1 a b _ _ ?s1 HC1.out H1.out).mono ?_); (case s1 => repeat (first | exact HR1.out | (with_reducible refine Kd.C_alloc ?_ _) | (with_reducible refine Kd.C_drewN ?_ _) | (with_reducible refine Kd.C_drew ?_))); rintro e w' ⟨rfl, ⟨nd, rfl⟩⟩; (try first | exact ⟨rfl, _, World.drewN_drewN _ _ _⟩ | exact ⟨rfl, _, Eq.trans (World.drewN_drewN _ _ _) (congrArg (World.drewN _) (Nat.add_assoc _ _ _))⟩)) | (go_at_call 43; (with_reducible refine (impl_holdsOf.calls T A1 c1 l1 z1 z2 _ _ ?s1 HC1.out H2.out).mono ?_); (case s1 => repeat (first | exact HR1.out | (with_reducible refine Kd.C_alloc ?_ _) | (with_reducible refine Kd.C_drewN ?_ _) | (with_reducible refine Kd.C_drew ?_))); rintro e w' ⟨rfl, ⟨nd, rfl⟩⟩; (try first | exact ⟨rfl, _, World.drewN_drewN _ _ _⟩ | exact ⟨rfl, _, Eq.trans (World.drewN_drewN _ _ _) (congrArg (World.drewN _) (Nat.add_assoc _ _ _))⟩)) | (go_at_call 49; (with_reducible refine (impl_exchanged.calls a _ _ _ _ H3.out).mono ?_); rintro e w' ⟨rfl, ⟨nd, rfl⟩⟩; (try first | exact ⟨rfl, _, World.drewN_drewN _ _ _⟩ | exact ⟨rfl, _, Eq.trans (World.drewN_drewN _ _ _) (congrArg (World.drewN _) (Nat.add_assoc _ _ _))⟩)) | (go_at_call 49; (with_reducible refine (impl_exchanged.calls b _ _ _ _ H4.out).mono ?_); rintro e w' ⟨rfl, ⟨nd, rfl⟩⟩; (try first | exact ⟨rfl, _, World.drewN_drewN _ _ _⟩ | exact ⟨rfl, _, Eq.trans (World.drewN_drewN _ _ _) (congrArg (World.drewN _) (Nat.add_assoc _ _ _))⟩)))
      go_wp2
      go_roundg k2
      case measure => omega
      case rel => exact ⟨m + 1, by go_num, HX, by repeat (first | exact Drawn0.refl _ | apply Drawn0.step)⟩
     ·have HX := HF'.out rfl
      clear HT' HF'
      go_wp2
      go_quiet (first | (go_at_call 43; (with_reducible refine (impl_holdsOf.calls T A1 c1 l1 a b _ _ ?s1 HC1.out H1.out).mono ?_); (case s1 => repeat (first | exact HR1.out | (with_reducible refine Kd.C_alloc ?_ _) | (with_reducible refine Kd.C_drewN ?_ _) | (with_reducible refine Kd.C_drew ?_))); rintro e w' ⟨rfl, ⟨nd, rfl⟩⟩; (try first | exact ⟨rfl, _, World.drewN_drewN _ _ _⟩ | exact ⟨rfl, _, Eq.trans (World.drewN_drewN _ _ _) (congrArg (World.drewN _) (Nat.add_assoc _ _ _))⟩)) | (go_at_call 43; (with_reducible refine (impl_holdsOf.calls T A1 c1 l1 z1 z2 _ _ ?s1 HC1.out H2.out).mono ?_); (case s1 => repeat (first | exact HR1.out | (with_reducible refine Kd.C_alloc ?_ _) | (with_reducible refine Kd.C_drewN ?_ _) | (with_reducible refine Kd.C_drew ?_))); rintro e w' ⟨rfl, ⟨nd, rfl⟩⟩; (try first | exact ⟨rfl, _, World.drewN_drewN _ _ _⟩ | exact ⟨rfl, _, Eq.trans (World.drewN_drewN _ _ _) (congrArg (World.drewN _) (Nat.add_assoc _ _ _))⟩)) | (go_at_call 49; (with_reducible refine (impl_exchanged.calls a _ _ _ _ H3.out).mono ?_); rintro e w' ⟨rfl, ⟨nd, rfl⟩⟩; (try first | exact ⟨rfl, _, World.drewN_drewN _ _ _⟩ | exact ⟨rfl, _, Eq.trans (World.drewN_drewN _ _ _) (congrArg (World.drewN _) (Nat.add_assoc _ _ _))⟩)) | (go_at_call 49; (with_reducible refine (impl_exchanged.calls b _ _ _ _ H4.out).mono ?_); rintro e w' ⟨rfl, ⟨nd, rfl⟩⟩; (try first | exact ⟨rfl, _, World.drewN_drewN _ _ _⟩ | exact ⟨rfl, _, Eq.trans (World.drewN_drewN _ _ _) (congrArg (World.drewN _) (Nat.add_assoc _ _ _))⟩)))
      go_wp2
      go_ret
      exact ⟨by unfold impl_KnowsNoThing.so; rw [HX.out]; rfl, by repeat (first | exact Drawn0.refl _ | apply Drawn0.step)⟩
     ·have HX := HF'.out rfl
      clear HT' HF'
      go_wp2
      go_quiet (first | (go_at_call 43; (with_reducible refine (impl_holdsOf.calls T A1 c1 l1 a b _ _ ?s1 HC1.out H1.out).mono ?_); (case s1 => repeat (first | exact HR1.out | (with_reducible refine Kd.C_alloc ?_ _) | (with_reducible refine Kd.C_drewN ?_ _) | (with_reducible refine Kd.C_drew ?_))); rintro e w' ⟨rfl, ⟨nd, rfl⟩⟩; (try first | exact ⟨rfl, _, World.drewN_drewN _ _ _⟩ | exact ⟨rfl, _, Eq.trans (World.drewN_drewN _ _ _) (congrArg (World.drewN _) (Nat.add_assoc _ _ _))⟩)) | (go_at_call 43; (with_reducible refine (impl_holdsOf.calls T A1 c1 l1 z1 z2 _ _ ?s1 HC1.out H2.out).mono ?_); (case s1 => repeat (first | exact HR1.out | (with_reducible refine Kd.C_alloc ?_ _) | (with_reducible refine Kd.C_drewN ?_ _) | (with_reducible refine Kd.C_drew ?_))); rintro e w' ⟨rfl, ⟨nd, rfl⟩⟩; (try first | exact ⟨rfl, _, World.drewN_drewN _ _ _⟩ | exact ⟨rfl, _, Eq.trans (World.drewN_drewN _ _ _) (congrArg (World.drewN _) (Nat.add_assoc _ _ _))⟩)) | (go_at_call 49; (with_reducible refine (impl_exchanged.calls a _ _ _ _ H3.out).mono ?_); rintro e w' ⟨rfl, ⟨nd, rfl⟩⟩; (try first | exact ⟨rfl, _, World.drewN_drewN _ _ _⟩ | exact ⟨rfl, _, Eq.trans (World.drewN_drewN _ _ _) (congrArg (World.drewN _) (Nat.add_assoc _ _ _))⟩)) | (go_at_call 49; (with_reducible refine (impl_exchanged.calls b _ _ _ _ H4.out).mono ?_); rintro e w' ⟨rfl, ⟨nd, rfl⟩⟩; (try first | exact ⟨rfl, _, World.drewN_drewN _ _ _⟩ | exact ⟨rfl, _, Eq.trans (World.drewN_drewN _ _ _) (congrArg (World.drewN _) (Nat.add_assoc _ _ _))⟩)))
      go_wp2
      go_ret
      exact ⟨by unfold impl_KnowsNoThing.so; rw [HX.out]; rfl, by repeat (first | exact Drawn0.refl _ | apply Drawn0.step)⟩
     ·have HX := HT'.out rfl
      clear HT' HF'
      go_wp2
      go_quiet (first | (go_at_call 43; (with_reducible refine (impl_holdsOf.calls T A1 c1 l1 a b _ _ ?s1 HC1.out H1.out).mono ?_); (case s1 => repeat (first | exact HR1.out | (with_reducible refine Kd.C_alloc ?_ _) | (with_reducible refine Kd.C_drewN ?_ _) | (with_reducible refine Kd.C_drew ?_))); rintro e w' ⟨rfl, ⟨nd, rfl⟩⟩; (try first | exact ⟨rfl, _, World.drewN_drewN _ _ _⟩ | exact ⟨rfl, _, Eq.trans (World.drewN_drewN _ _ _) (congrArg (World.drewN _) (Nat.add_assoc _ _ _))⟩)) | (go_at_call 43; (with_reducible refine (impl_holdsOf.calls T A1 c1 l1 z1 z2 _ _ ?s1 HC1.out H2.out).mono ?_); (case s1 => repeat (first | exact HR1.out | (with_reducible refine Kd.C_alloc ?_ _) | (with_reducible refine Kd.C_drewN ?_ _) | (with_reducible refine Kd.C_drew ?_))); rintro e w' ⟨rfl, ⟨nd, rfl⟩⟩; (try first | exact ⟨rfl, _, World.drewN_drewN _ _ _⟩ | exact ⟨rfl, _, Eq.trans (World.drewN_drewN _ _ _) (congrArg (World.drewN _) (Nat.add_assoc _ _ _))⟩)) | (go_at_call 49; (with_reducible refine (impl_exchanged.calls a _ _ _ _ H3.out).mono ?_); rintro e w' ⟨rfl, ⟨nd, rfl⟩⟩; (try first | exact ⟨rfl, _, World.drewN_drewN _ _ _⟩ | exact ⟨rfl, _, Eq.trans (World.drewN_drewN _ _ _) (congrArg (World.drewN _) (Nat.add_assoc _ _ _))⟩)) | (go_at_call 49; (with_reducible refine (impl_exchanged.calls b _ _ _ _ H4.out).mono ?_); rintro e w' ⟨rfl, ⟨nd, rfl⟩⟩; (try first | exact ⟨rfl, _, World.drewN_drewN _ _ _⟩ | exact ⟨rfl, _, Eq.trans (World.drewN_drewN _ _ _) (congrArg (World.drewN _) (Nat.add_assoc _ _ _))⟩)))
      go_wp2
      go_roundg k2
      case measure => omega
      case rel => exact ⟨m + 1, by go_num, HX, by repeat (first | exact Drawn0.refl _ | apply Drawn0.step)⟩
    ·have hm0 : decide ((m : Int) < n) = false := decide_eq_false (by omega)
     have hm1 : decide (m < n) = false := decide_eq_false hm
     go_wp2
     go_roundg k1
     case measure => omega
     case rel =>
      have hmn : m = n := by have := HM.out.1; omega
      exact ⟨n + 1, by go_num, ⟨by have := HN.out.1; omega, fun i k hi hk => by
       rcases Nat.lt_or_ge i n with h' | h'
       ·exact HN.out.2 i k h' hk
       ·obtain rfl : i = n := by omega
        exact HM.out.2 k (by omega)⟩, by repeat (first | exact Drawn0.refl _ | apply Drawn0.step)⟩
  ·have hn0 : decide ((n : Int) < T) = false := decide_eq_false (by omega)
   have hn1 : decide (n < T) = false := decide_eq_false hn
   go_wp2
   go_ret
   have hn6 : n = T := by have := HN.out.1; omega
   exact ⟨by unfold impl_KnowsNoThing.so; rw [kntP_true T l1 a b (fun i k hi hk => HN.out.2 i k (by simp at hi; omega) hk)]; rfl, by repeat (first | exact Drawn0.refl _ | apply Drawn0.step)⟩
set_option maxHeartbeats 2000000 in
set_option maxRecDepth 100000 in
theorem impl_KnowsNoThing.calls (a0 : Int) (A1 : Option Addr) (c1 : Nat) (l1 : List Int) (r : Bool) (w : World) (hr1 : Kd.C (Kd.int .i64) w A1 l1.length l1) (hc1 : l1.length ≤ c1) (h : impl_KnowsNoThing.f a0 l1 = some r) :
  Calls Try.prog 16 #[.int .i64 a0, .slice A1 l1.length c1] w fun e w' => e = .returned (.bool r) ∧ Below w.heap.size w w' := by
 have HT := Aside0.mk (isRelation_k a0 l1 hr1.2.1 (l1.length + 2) (by omega))
 have HB := Aside0.mk (below_alloc (below_alloc (Below.refl w.heap.size w) (.cells #[.int .i64 a0] 3)) (.cells #[.slice A1 l1.length c1] 23))
 have HR1 := Aside0.mk (Kd.C_alloc (Kd.C_alloc hr1 (.cells #[.int .i64 a0] 3)) (.cells #[.slice A1 l1.length c1] 23))
 have HC1 := Aside0.mk hc1
 obtain rfl : (isRel a0 l1 && forAllP a0 (impl_KnowsNoThing.so a0 l1)) = r := Option.some.inj h
 obtain ⟨x, ex⟩ : ∃ b, isRel a0 l1 = b := ⟨_, rfl⟩
 rw [ex] at HT ⊢
 cases x with
 | true =>
  obtain ⟨q1, q2, q3⟩ := isRel_range ex
  have HS := Aside0.mk (fun (nd : Nat) => show GivesSets 48 #[.pointer (some ⟨w.heap.size, 0, none⟩), .pointer (some ⟨w.heap.size + 1, 0, none⟩)] a0 (impl_KnowsNoThing.so a0 l1) (((w.alloc (.cells #[.int .i64 a0] 3)).alloc (.cells #[.slice A1 l1.length c1] 23)).drewN nd) from fun W a b hW h1 h2 h3 h4 =>
   impl_KnowsNoThing.lit a0 A1 c1 l1 w.heap.size (w.heap.size + 1) W q1 q2 q3 ((hW.cell (p := ⟨w.heap.size, 0, none⟩) (by simp; omega)).trans (by simp)) ((hW.cell (p := ⟨w.heap.size + 1, 0, none⟩) (by simp)).trans (by simp)) (Kd.C_below (Kd.C_drewN HR1.out nd) hW) hc1 a b h1 h2 h3 h4)
  have HQ := Aside0.mk (show 0 ≤ a0 ∧ a0 ≤ 3 from ⟨q1, q2⟩)
  rw [Bool.true_and]
  clear h ex q1 q2 q3 hr1 hc1
  go_enter Try.func16, Try.ntmps16
  go_wp2_with (first | (go_at_call 41; (with_reducible refine (impl_isRelation.calls _ a0 A1 c1 l1 _ _ ?s1 HC1.out HT.out).mono ?_); (case s1 => repeat (first | exact HR1.out | (with_reducible refine Kd.C_alloc ?_ _) | (with_reducible refine Kd.C_drewN ?_ _) | (with_reducible refine Kd.C_drew ?_))); rintro e w' ⟨rfl, ⟨nd, rfl⟩⟩) | (go_at_call 44; refine (impl_forAllSets.calls _ (enters_of Try.func48 (by kernel_rfl) rfl) _ a0 HQ.out.1 HQ.out.2 _ _ (HS.out _)).mono ?_; rintro e w' ⟨rfl, ⟨nd, rfl⟩⟩))
  go_ret
  exact ⟨rfl, by repeat (first | (with_reducible first | exact HB.out | apply below_alloc | apply pw_below_drewN | apply below_drew1) | exact HB.out)⟩
 | false =>
  rw [Bool.false_and]
  clear h ex hr1 hc1
  go_enter Try.func16, Try.ntmps16
  go_wp2_with (first | (go_at_call 41; (with_reducible refine (impl_isRelation.calls _ a0 A1 c1 l1 _ _ ?s1 HC1.out HT.out).mono ?_); (case s1 => repeat (first | exact HR1.out | (with_reducible refine Kd.C_alloc ?_ _) | (with_reducible refine Kd.C_drewN ?_ _) | (with_reducible refine Kd.C_drew ?_))); rintro e w' ⟨rfl, ⟨nd, rfl⟩⟩))
  go_ret
  exact ⟨rfl, by repeat (first | (with_reducible first | exact HB.out | apply below_alloc | apply pw_below_drewN | apply below_drew1) | exact HB.out)⟩
/-! ### impl_PlaceOf: function 50 -/
def impl_PlaceOf.f (a0 : Int) (a1 : Int) : Option (Int) := if a0 < 0 then (some (-1)) else (if a0 > 5 then (some (-1)) else (if a1 < 0 then (some (-1)) else (if a1 > a0 then (some (-1)) else ((impl_placeOf.f a0 a1).bind fun t372 => (some t372)))))
set_option maxHeartbeats 8000000 in
set_option maxRecDepth 100000 in
theorem impl_PlaceOf.calls (a0 : Int) (a1 : Int) (r : Int) (w : World) (h : impl_PlaceOf.f a0 a1 = some r) :
  Calls Try.prog 50 #[.int .i64 a0, .int .i64 a1] w fun e w' => e = .returned (.int .i64 r) ∧ Drawn0 w w' := by
 have H : (if a0 < 0 then (some (-1)) else (if a0 > 5 then (some (-1)) else (if a1 < 0 then (some (-1)) else (if a1 > a0 then (some (-1)) else ((impl_placeOf.f a0 a1).bind fun t372 => (some t372)))))) = some r := h
 clear h
 by_cases c3 : a0 < 0
 ·rw [if_pos c3] at H
  have c3b0 : decide (a0 < 0) = true := decide_eq_true c3
  clear c3
  obtain rfl := Option.some.inj H
  go_enter Try.func50, Try.ntmps50
  go_wp2
  go_ret
  exact ⟨by first | rfl | (simp; done) | (simp [*]; done), by repeat (first | exact Drawn0.refl _ | apply Drawn0.step)⟩
 ·rw [if_neg c3] at H
  have c3b0 : decide (a0 < 0) = false := decide_eq_false c3
  clear c3
  by_cases c4 : a0 > 5
  ·rw [if_pos c4] at H
   have c4b0 : decide (5 < a0) = true := decide_eq_true c4
   clear c4
   obtain rfl := Option.some.inj H
   go_enter Try.func50, Try.ntmps50
   go_wp2
   go_ret
   exact ⟨by first | rfl | (simp; done) | (simp [*]; done), by repeat (first | exact Drawn0.refl _ | apply Drawn0.step)⟩
  ·rw [if_neg c4] at H
   have c4b0 : decide (5 < a0) = false := decide_eq_false c4
   clear c4
   by_cases c5 : a1 < 0
   ·rw [if_pos c5] at H
    have c5b0 : decide (a1 < 0) = true := decide_eq_true c5
    clear c5
    obtain rfl := Option.some.inj H
    go_enter Try.func50, Try.ntmps50
    go_wp2
    go_ret
    exact ⟨by first | rfl | (simp; done) | (simp [*]; done), by repeat (first | exact Drawn0.refl _ | apply Drawn0.step)⟩
   ·rw [if_neg c5] at H
    have c5b0 : decide (a1 < 0) = false := decide_eq_false c5
    clear c5
    by_cases c6 : a1 > a0
    ·rw [if_pos c6] at H
     have c6b0 : decide (a0 < a1) = true := decide_eq_true c6
     clear c6
     obtain rfl := Option.some.inj H
     go_enter Try.func50, Try.ntmps50
     go_wp2
     go_ret
     exact ⟨by first | rfl | (simp; done) | (simp [*]; done), by repeat (first | exact Drawn0.refl _ | apply Drawn0.step)⟩
    ·rw [if_neg c6] at H
     have c6b0 : decide (a0 < a1) = false := decide_eq_false c6
     clear c6
     replace H := Option.bind_eq_some_iff.mp H
     obtain ⟨t372, A70, H⟩ := H
     replace H : (some t372) = some r := H
     have A7 := Aside0.mk A70
     clear A70
     obtain rfl := Option.some.inj H
     go_enter Try.func50, Try.ntmps50
     go_wp2_with (first | ((with_reducible refine gate_callee (f := 42) rfl ?_); refine goesL_ (some 22) rfl rfl Try.func42 (by kernel_rfl) rfl #[.int .i64 a0, .int .i64 a1] rfl (by (try simp only [List.map_toArray, List.map_cons, List.map_nil]); first | done | rfl | (simp only [List.length_drop, List.length_take]; rfl)) ?_; (with_reducible refine (impl_placeOf.calls a0 a1 t372 _ A7.out).mono ?_); rintro e w' ⟨rfl, ⟨nd, rfl⟩⟩; refine ⟨_, rfl, ?_⟩))
     go_ret
     exact ⟨by first | rfl | (simp; done) | (simp [*]; done), by repeat (first | exact Drawn0.refl _ | apply Drawn0.step)⟩
/-! ### laws_alive: function 17 -/
def laws_alive.f  : Option (Bool) := (impl_PlaceOf.f 0 0).bind fun t373 => (if t373 = 0 then ((impl_PlaceOf.f 0 1).bind fun t374 => (some (t374 == (-1)))) else (some false))
set_option maxHeartbeats 8000000 in
set_option maxRecDepth 100000 in
theorem laws_alive.calls  (r : Bool) (w : World) (h : laws_alive.f  = some r) :
  Calls Try.prog 17 #[] w fun e w' => e = .returned (.bool r) ∧ Drawn0 w w' := by
 have H : ((impl_PlaceOf.f 0 0).bind fun t373 => (if t373 = 0 then ((impl_PlaceOf.f 0 1).bind fun t374 => (some (t374 == (-1)))) else (some false))) = some r := h
 clear h
 replace H := Option.bind_eq_some_iff.mp H
 obtain ⟨t373, A10, H⟩ := H
 replace H : (if t373 = 0 then ((impl_PlaceOf.f 0 1).bind fun t374 => (some (t374 == (-1)))) else (some false)) = some r := H
 have A1 := Aside0.mk A10
 clear A10
 by_cases c2 : t373 = 0
 ·rw [if_pos c2] at H
  have c2b0 : (t373 == 0) = true := beq_iff_eq.mpr c2
  have c2b1 : (t373 != 0) = false := bne_eq_false_iff_eq.mpr c2
  clear c2
  replace H := Option.bind_eq_some_iff.mp H
  obtain ⟨t374, A30, H⟩ := H
  replace H : (some (t374 == (-1))) = some r := H
  have A3 := Aside0.mk A30
  clear A30
  obtain rfl := Option.some.inj H
  go_enter Try.func17, Try.ntmps17
  go_wp2_with (first | ((with_reducible refine gate_callee (f := 50) rfl ?_); refine goesL_ (some 1) rfl rfl Try.func50 (by kernel_rfl) rfl #[.int .i64 0, .int .i64 0] rfl (by (try simp only [List.map_toArray, List.map_cons, List.map_nil]); first | done | rfl | (simp only [List.length_drop, List.length_take]; rfl)) ?_; (with_reducible refine (impl_PlaceOf.calls 0 0 t373 _ A1.out).mono ?_); rintro e w' ⟨rfl, ⟨nd, rfl⟩⟩; refine ⟨_, rfl, ?_⟩) | (go_at_call 50; (with_reducible refine (impl_PlaceOf.calls 0 1 t374 _ A3.out).mono ?_); rintro e w' ⟨rfl, ⟨nd, rfl⟩⟩))
  go_ret
  exact ⟨by first | rfl | (simp; done) | (simp [*]; done), by repeat (first | exact Drawn0.refl _ | apply Drawn0.step)⟩
 ·rw [if_neg c2] at H
  have c2b0 : (t373 == 0) = false := beq_eq_false_iff_ne.mpr c2
  have c2b1 : (t373 != 0) = true := bne_iff_ne.mpr c2
  obtain rfl := Option.some.inj H
  go_enter Try.func17, Try.ntmps17
  go_wp2_with (first | ((with_reducible refine gate_callee (f := 50) rfl ?_); refine goesL_ (some 1) rfl rfl Try.func50 (by kernel_rfl) rfl #[.int .i64 0, .int .i64 0] rfl (by (try simp only [List.map_toArray, List.map_cons, List.map_nil]); first | done | rfl | (simp only [List.length_drop, List.length_take]; rfl)) ?_; (with_reducible refine (impl_PlaceOf.calls 0 0 t373 _ A1.out).mono ?_); rintro e w' ⟨rfl, ⟨nd, rfl⟩⟩; refine ⟨_, rfl, ?_⟩))
  go_ret
  exact ⟨by first | rfl | (simp; done) | (simp [*]; done), by repeat (first | exact Drawn0.refl _ | apply Drawn0.step)⟩
/-! ### impl_isTriangle: function 51 -/
def impl_isTriangle.l0 : Nat → List Int → List Int → Int → Int → Option (Bool)
 | 0, _, _, _, _ => none
 | k + 1, x0, x5, x6, x7 => if x7 < x6 then (if 0 ≤ x7 then (if x7 < (x5.length : Int) then (if (rd x5 x7) = 0 then (impl_isTriangle.l0 k x0 x5 x6 (wrap64 (x7 + 1))) else (if (rd x5 x7) = 1 then (impl_isTriangle.l0 k x0 x5 x6 (wrap64 (x7 + 1))) else (some false))) else (none)) else (none)) else (some ((x0.length : Int) == 21))
def impl_isTriangle.f (k : Nat) (l0 : List Int) : Option (Bool) := impl_isTriangle.l0 k l0 l0 (l0.length : Int) 0
theorem impl_isTriangle.mono_l : ∀ k, (∀ y0 y1 y2 y3, LeO (impl_isTriangle.l0 k y0 y1 y2 y3) (impl_isTriangle.l0 (k + 1) y0 y1 y2 y3))
 | 0 => fun _ _ _ _ r h => by simp [impl_isTriangle.l0] at h
 | k + 1 => by
  have ih0 := impl_isTriangle.mono_l k
  ·intro y0 y1 y2 y3
   unfold impl_isTriangle.l0
   repeat' first
   | (with_reducible exact ih0 _ _ _ _)
   | (with_reducible exact LeO.refl _)
   | (with_reducible exact LeO.none _)
   | (with_reducible refine LeO.ite ?_ ?_)
   | (with_reducible refine LeO.bind ?_ (fun _ => ?_))
theorem impl_isTriangle.mono : ∀ a0 k, LeO (impl_isTriangle.f k a0) (impl_isTriangle.f (k + 1) a0) := by
 intro a0 k
 have ih0 := impl_isTriangle.mono_l k
 unfold impl_isTriangle.f
 repeat' first
   | (with_reducible exact ih0 _ _ _ _)
   | (with_reducible exact LeO.refl _)
   | (with_reducible exact LeO.none _)
   | (with_reducible refine LeO.ite ?_ ?_)
   | (with_reducible refine LeO.bind ?_ (fun _ => ?_))
set_option maxHeartbeats 8000000 in
set_option maxRecDepth 100000 in
theorem impl_isTriangle.calls (k : Nat) (A0 : Option Addr) (c0 : Nat) (l0 : List Int) (r : Bool) (w : World) (hr0 : Kd.C (Kd.int .i64) w A0 l0.length l0) (hc0 : l0.length ≤ c0) (h : impl_isTriangle.f k l0 = some r) :
  Calls Try.prog 51 #[.slice A0 l0.length c0] w fun e w' => e = .returned (.bool r) ∧ Drawn0 w w' := by
 have HR0 := Aside0.mk hr0
 have HC0 := Aside0.mk hc0
 clear hr0 hc0
 have H : (impl_isTriangle.l0 k l0 l0 (l0.length : Int) 0) = some r := h
 clear h
 have H' := Aside0.mk H
 clear H
 go_enter Try.func51, Try.ntmps51
 go_wp2
 go_loopg [7] k (fun kq v7 w' => ∃ (x7_1 : Int), v7 = .int .i64 x7_1 ∧ Aside0 (impl_isTriangle.l0 kq l0 l0 (l0.length : Int) x7_1 = some r) ∧ Aside0 (kq ≤ k) ∧ Drawn0 w w')
 case atStart => exact ⟨(0), (by first | rfl | (simp; done) | (simp [*]; done)), H', ⟨Nat.le_refl _⟩, by repeat (first | exact Drawn0.refl _ | apply Drawn0.step)⟩
 case round =>
  clear H'
  obtain ⟨x7_1, rfl, HA, HK1, ⟨m1, rfl⟩⟩ := hrel
  cases gk with
  | zero => exact absurd HA.out (by simp [impl_isTriangle.l0])
  | succ k1 =>
   have H := HA.out
   clear HA
   simp only [impl_isTriangle.l0] at H
   by_cases c2 : x7_1 < (l0.length : Int)
   ·rw [if_pos c2] at H
    have c2b0 : decide (x7_1 < (l0.length : Int)) = true := decide_eq_true c2
    clear c2
    by_cases c3 : 0 ≤ x7_1
    ·rw [if_pos c3] at H
     have c3b0 : decide (0 ≤ x7_1) = true := decide_eq_true c3
     clear c3
     by_cases c4 : x7_1 < (l0.length : Int)
     ·rw [if_pos c4] at H
      have c4b0 : decide (x7_1 < (l0.length : Int)) = true := decide_eq_true c4
      clear c4
      by_cases c5 : (rd l0 x7_1) = 0
      ·rw [if_pos c5] at H
       have c5b0 : ((rd l0 x7_1) == 0) = true := beq_iff_eq.mpr c5
       have c5b1 : ((rd l0 x7_1) != 0) = false := bne_eq_false_iff_eq.mpr c5
       clear c5
       have H' := Aside0.mk H
       clear H
       have p375 : 0 ≤ (x7_1 : Int) := of_decide_eq_true (by first | (with_reducible assumption) | assumption)
       have q375 : x7_1 < (l0.length : Int) := of_decide_eq_true (by first | (with_reducible assumption) | assumption)
       obtain ⟨ad375, e375, hx375_0⟩ := Kd.at_int HR0.out x7_1 p375 q375
       cases e375
       replace p375 := eq_true p375
       replace q375 := eq_true q375
       go_wp2
       go_roundg k1
       case measure => have := HK1.out; omega
       case rel => exact ⟨(wrap64 (x7_1 + 1)), (by first | rfl | (simp; done) | (simp [*]; done)), H', ⟨by have := HK1.out; omega⟩, by repeat (first | exact Drawn0.refl _ | apply Drawn0.step)⟩
      ·rw [if_neg c5] at H
       have c5b0 : ((rd l0 x7_1) == 0) = false := beq_eq_false_iff_ne.mpr c5
       have c5b1 : ((rd l0 x7_1) != 0) = true := bne_iff_ne.mpr c5
       by_cases c6 : (rd l0 x7_1) = 1
       ·rw [if_pos c6] at H
        have c6b0 : ((rd l0 x7_1) == 1) = true := beq_iff_eq.mpr c6
        have c6b1 : ((rd l0 x7_1) != 1) = false := bne_eq_false_iff_eq.mpr c6
        clear c6
        have H' := Aside0.mk H
        clear H
        have p375 : 0 ≤ (x7_1 : Int) := of_decide_eq_true (by first | (with_reducible assumption) | assumption)
        have q375 : x7_1 < (l0.length : Int) := of_decide_eq_true (by first | (with_reducible assumption) | assumption)
        obtain ⟨ad375, e375, hx375_0⟩ := Kd.at_int HR0.out x7_1 p375 q375
        cases e375
        replace p375 := eq_true p375
        replace q375 := eq_true q375
        go_wp2
        go_roundg k1
        case measure => have := HK1.out; omega
        case rel => exact ⟨(wrap64 (x7_1 + 1)), (by first | rfl | (simp; done) | (simp [*]; done)), H', ⟨by have := HK1.out; omega⟩, by repeat (first | exact Drawn0.refl _ | apply Drawn0.step)⟩
       ·rw [if_neg c6] at H
        have c6b0 : ((rd l0 x7_1) == 1) = false := beq_eq_false_iff_ne.mpr c6
        have c6b1 : ((rd l0 x7_1) != 1) = true := bne_iff_ne.mpr c6
        obtain rfl := Option.some.inj H
        have p375 : 0 ≤ (x7_1 : Int) := of_decide_eq_true (by first | (with_reducible assumption) | assumption)
        have q375 : x7_1 < (l0.length : Int) := of_decide_eq_true (by first | (with_reducible assumption) | assumption)
        obtain ⟨ad375, e375, hx375_0⟩ := Kd.at_int HR0.out x7_1 p375 q375
        cases e375
        replace p375 := eq_true p375
        replace q375 := eq_true q375
        go_wp2
        go_ret
        exact ⟨by first | rfl | (simp; done) | (simp [*]; done), by repeat (first | exact Drawn0.refl _ | apply Drawn0.step)⟩
     ·rw [if_neg c4] at H
      exact absurd H (by simp)
    ·rw [if_neg c3] at H
     exact absurd H (by simp)
   ·rw [if_neg c2] at H
    have c2b0 : decide (x7_1 < (l0.length : Int)) = false := decide_eq_false c2
    clear c2
    obtain rfl := Option.some.inj H
    go_wp2
    go_ret
    exact ⟨by first | rfl | (simp; done) | (simp [*]; done), by repeat (first | exact Drawn0.refl _ | apply Drawn0.step)⟩
/-! ### impl_RelationFrom: function 18 -/
mutual
def impl_RelationFrom.j0 : Nat → Int → List Int → Bool → Option (List Int)
 | 0, _, _, _ => none
 | k + 1, x0, x1, x18 => if x18 = true then (some ([] : List Int)) else (if 0 ≤ x0 then (impl_RelationFrom.l0 k x0 x1 (([] : List Int)) (shl .i64 1 x0) 0) else (none))
def impl_RelationFrom.l0 : Nat → Int → List Int → List Int → Int → Int → Option (List Int)
 | 0, _, _, _, _, _ => none
 | k + 1, x0, x1, x5, x21, x22 => if x22 < x21 then (if 0 ≤ x0 then (impl_RelationFrom.l1 k x0 x1 x5 x22 x21 x22 (shl .i64 1 x0) 0) else (none)) else (some x5)
def impl_RelationFrom.l1 : Nat → Int → List Int → List Int → Int → Int → Int → Int → Int → Option (List Int)
 | 0, _, _, _, _, _, _, _, _ => none
 | k + 1, x0, x1, x5, x6, x21, x22, x26, x27 => if x27 < x26 then ((impl_sizeOf.f x6).bind fun t380 => ((impl_sizeOf.f (Go.bits .and .i64 x6 x27)).bind fun t381 => ((impl_placeOf.f t380 t381).bind fun t382 => (if 0 ≤ t382 then (if t382 < (x1.length : Int) then (if x5.length < 17592186044416 then (impl_RelationFrom.l1 k x0 x1 (x5 ++ [rd x1 t382]) x6 x21 x22 x26 (wrap64 (x27 + 1))) else (none)) else (none)) else (none))))) else (impl_RelationFrom.l0 k x0 x1 x5 x21 (wrap64 (x22 + 1)))
end
def impl_RelationFrom.f (k : Nat) (a0 : Int) (l1 : List Int) : Option (List Int) := if a0 < 0 then (impl_RelationFrom.j0 k a0 l1 true) else (if a0 > 3 then (impl_RelationFrom.j0 k a0 l1 true) else ((impl_isTriangle.f k l1).bind fun t376 => (impl_RelationFrom.j0 k a0 l1 (!t376))))
theorem impl_RelationFrom.mono_l : ∀ k, (∀ y0 y1 y2, LeO (impl_RelationFrom.j0 k y0 y1 y2) (impl_RelationFrom.j0 (k + 1) y0 y1 y2)) ∧ (∀ y0 y1 y2 y3 y4, LeO (impl_RelationFrom.l0 k y0 y1 y2 y3 y4) (impl_RelationFrom.l0 (k + 1) y0 y1 y2 y3 y4)) ∧ (∀ y0 y1 y2 y3 y4 y5 y6 y7, LeO (impl_RelationFrom.l1 k y0 y1 y2 y3 y4 y5 y6 y7) (impl_RelationFrom.l1 (k + 1) y0 y1 y2 y3 y4 y5 y6 y7))
 | 0 => ⟨fun _ _ _ r h => by simp [impl_RelationFrom.j0] at h, fun _ _ _ _ _ r h => by simp [impl_RelationFrom.l0] at h, fun _ _ _ _ _ _ _ _ r h => by simp [impl_RelationFrom.l1] at h⟩
 | k + 1 => by
  obtain ⟨ih0, ih1, ih2⟩ := impl_RelationFrom.mono_l k
  refine ⟨?_, ?_, ?_⟩
  ·intro y0 y1 y2
   unfold impl_RelationFrom.j0
   repeat' first
   | (with_reducible exact ih0 _ _ _)
   | (with_reducible exact ih1 _ _ _ _ _)
   | (with_reducible exact ih2 _ _ _ _ _ _ _ _)
   | (with_reducible exact impl_isTriangle.mono _ _)
   | (with_reducible exact LeO.refl _)
   | (with_reducible exact LeO.none _)
   | (with_reducible refine LeO.ite ?_ ?_)
   | (with_reducible refine LeO.bind ?_ (fun _ => ?_))
  ·intro y0 y1 y2 y3 y4
   unfold impl_RelationFrom.l0
   repeat' first
   | (with_reducible exact ih0 _ _ _)
   | (with_reducible exact ih1 _ _ _ _ _)
   | (with_reducible exact ih2 _ _ _ _ _ _ _ _)
   | (with_reducible exact impl_isTriangle.mono _ _)
   | (with_reducible exact LeO.refl _)
   | (with_reducible exact LeO.none _)
   | (with_reducible refine LeO.ite ?_ ?_)
   | (with_reducible refine LeO.bind ?_ (fun _ => ?_))
  ·intro y0 y1 y2 y3 y4 y5 y6 y7
   unfold impl_RelationFrom.l1
   repeat' first
   | (with_reducible exact ih0 _ _ _)
   | (with_reducible exact ih1 _ _ _ _ _)
   | (with_reducible exact ih2 _ _ _ _ _ _ _ _)
   | (with_reducible exact impl_isTriangle.mono _ _)
   | (with_reducible exact LeO.refl _)
   | (with_reducible exact LeO.none _)
   | (with_reducible refine LeO.ite ?_ ?_)
   | (with_reducible refine LeO.bind ?_ (fun _ => ?_))
theorem impl_RelationFrom.mono : ∀ a0 a1 k, LeO (impl_RelationFrom.f k a0 a1) (impl_RelationFrom.f (k + 1) a0 a1) := by
 intro a0 a1 k
 obtain ⟨ih0, ih1, ih2⟩ := impl_RelationFrom.mono_l k
 unfold impl_RelationFrom.f
 repeat' first
   | (with_reducible exact ih0 _ _ _)
   | (with_reducible exact ih1 _ _ _ _ _)
   | (with_reducible exact ih2 _ _ _ _ _ _ _ _)
   | (with_reducible exact impl_isTriangle.mono _ _)
   | (with_reducible exact LeO.refl _)
   | (with_reducible exact LeO.none _)
   | (with_reducible refine LeO.ite ?_ ?_)
   | (with_reducible refine LeO.bind ?_ (fun _ => ?_))
set_option maxHeartbeats 8000000 in
set_option maxRecDepth 100000 in
theorem impl_RelationFrom.calls (k : Nat) (a0 : Int) (A1 : Option Addr) (c1 : Nat) (l1 : List Int) (r : List Int) (w : World) (hr1 : Kd.C (Kd.int .i64) w A1 l1.length l1) (hc1 : l1.length ≤ c1) (h : impl_RelationFrom.f k a0 l1 = some r) :
  Calls Try.prog 18 #[.int .i64 a0, .slice A1 l1.length c1] w fun e w' => ∃ v0_ : Value, e = .returned (v0_) ∧ Kd.R (Kd.int .i64) 3 w' w.heap.size (fun _ => True) v0_ r ∧ Below w.heap.size w w' := by
 have HR1 := Aside0.mk hr1
 have HC1 := Aside0.mk hc1
 clear hr1 hc1
 have HB := Aside0.mk (Below.refl w.heap.size w)
 have H : (if a0 < 0 then (impl_RelationFrom.j0 k a0 l1 true) else (if a0 > 3 then (impl_RelationFrom.j0 k a0 l1 true) else ((impl_isTriangle.f k l1).bind fun t376 => (impl_RelationFrom.j0 k a0 l1 (!t376))))) = some r := h
 clear h
 have HC3 := Aside0.mk H
 clear H
 go_enter Try.func18, Try.ntmps18
 go_upto_region 1 with (fail)
 go_cut [18] (fun v18 wc => ∃ (kq : Nat) (x18_2 : Bool), v18 = .bool x18_2 ∧ Aside0 (impl_RelationFrom.j0 kq a0 l1 x18_2 = some r) ∧ Aside0 (kq ≤ k) ∧ Aside0 (Below w.heap.size w wc))
 case first =>
  have H := HC3.out
  clear HC3
  by_cases c4 : a0 < 0
  ·rw [if_pos c4] at H
   have c4b0 : decide (a0 < 0) = true := decide_eq_true c4
   clear c4
   (first | rw [c4b0] | (simp only [i64_w, i32_w]; rw [c4b0]) | skip)
   have H' := Aside0.mk H
   clear H
   go_wp2
   go_meet
   case rel => exact ⟨_, (true), (by first | rfl | (simp; done) | (simp [*]; done)), H', ⟨by first | omega | exact Nat.le_refl _⟩, ⟨by repeat (first | (with_reducible first | exact HB.out | apply below_alloc | apply pw_below_drewN | apply below_drew1) | exact HB.out)⟩⟩
  ·rw [if_neg c4] at H
   have c4b0 : decide (a0 < 0) = false := decide_eq_false c4
   clear c4
   (first | rw [c4b0] | (simp only [i64_w, i32_w]; rw [c4b0]) | skip)
   by_cases c5 : a0 > 3
   ·rw [if_pos c5] at H
    have c5b0 : decide (3 < a0) = true := decide_eq_true c5
    clear c5
    have H' := Aside0.mk H
    clear H
    go_wp2
    go_meet
    case rel => exact ⟨_, (true), (by first | rfl | (simp; done) | (simp [*]; done)), H', ⟨by first | omega | exact Nat.le_refl _⟩, ⟨by repeat (first | (with_reducible first | exact HB.out | apply below_alloc | apply pw_below_drewN | apply below_drew1) | exact HB.out)⟩⟩
   ·rw [if_neg c5] at H
    have c5b0 : decide (3 < a0) = false := decide_eq_false c5
    clear c5
    replace H := Option.bind_eq_some_iff.mp H
    obtain ⟨t376, A60, H⟩ := H
    replace H : (impl_RelationFrom.j0 k a0 l1 (!t376)) = some r := H
    have A6 := Aside0.mk A60
    clear A60
    have H' := Aside0.mk H
    clear H
    go_wp2_with (first | (go_at_call 51; (with_reducible refine (impl_isTriangle.calls k _ _ l1 t376 _ ?side1 ?side2 A6.out).mono ?_); (case side1 => repeat (first | exact (Kd.C_below HR1.out HB.out) | (with_reducible refine Kd.C_alloc ?_ _) | (with_reducible refine Kd.C_drewN ?_ _) | (with_reducible refine Kd.C_drew ?_))); (case side2 => exact HC1.out); rintro e w' ⟨rfl, ⟨nd, rfl⟩⟩))
    go_meet
    case rel => exact ⟨_, (!t376), (by first | rfl | (simp; done) | (simp [*]; done)), H', ⟨by first | omega | exact Nat.le_refl _⟩, ⟨by repeat (first | (with_reducible first | exact HB.out | apply below_alloc | apply pw_below_drewN | apply below_drew1) | exact HB.out)⟩⟩
 case rest =>
  clear HC3
  try clear c1
  try clear p2
  try clear c4
  try clear c4b0
  try clear c5
  try clear c5b0
  obtain ⟨kq, x18_2, rfl, HA, HJ2, HB⟩ := hcut
  cases kq with
  | zero => exact absurd HA.out (by simp [impl_RelationFrom.j0])
  | succ kj2 =>
   have H := HA.out
   clear HA
   simp only [impl_RelationFrom.j0] at H
   by_cases c7 : x18_2 = true
   ·subst c7
    have H1 : (some ([] : List Int)) = some r := by rw [if_pos rfl] at H; exact H
    clear H
    have H := H1
    clear H1
    obtain rfl := Option.some.inj H
    go_wp2
    go_ret
    exact ⟨_, by first | rfl | (simp [errW_none, errW_some] <;> rfl) | (simp [*, errW_none, errW_some] <;> rfl), by first | exact Kd.R_nil _ _ _ _ _ | exact Kd.N_nil _ _ _ _ _ | exact Kd.V_nil _ _ _ _ _ | exact Kd.Q_nil _ _ _ _ _ | exact Kd.S_nil _ _ _ _ _, by repeat (first | (with_reducible first | exact HB.out | apply below_alloc | apply pw_below_drewN | apply below_drew1) | exact HB.out)⟩
   ·replace c7 := Bool.eq_false_iff.mpr c7
    subst c7
    have H1 : (if 0 ≤ a0 then (impl_RelationFrom.l0 kj2 a0 l1 (([] : List Int)) (shl .i64 1 a0) 0) else (none)) = some r := by rw [if_neg (show ¬ (false = true) by decide)] at H; exact H
    clear H
    have H := H1
    clear H1
    obtain ⟨y377, hy377⟩ : ∃ y_ : List Int, y_ = (([] : List Int)) := ⟨_, rfl⟩
    replace H : (if 0 ≤ a0 then (impl_RelationFrom.l0 kj2 a0 l1 y377 (shl .i64 1 a0) 0) else (none)) = some r := by first | (rw [hy377]; with_reducible exact H) | (have H2_ := (Option.bind_some _ _).symm.trans H; rw [hy377]; with_reducible exact H2_) | (have H2_ := (Option.bind_some _ _).symm.trans H; with_reducible exact H2_) | with_reducible exact H | (rw [hy377]; exact H) | exact H
    have Ny377 := Aside0.mk hy377
    clear hy377
    by_cases c8 : 0 ≤ a0
    ·rw [if_pos c8] at H
     have c8b0 := eq_true c8
     have c8b1 : decide (0 ≤ a0) = true := decide_eq_true c8
     clear c8
     obtain ⟨ji9, hji9⟩ : ∃ j_ : Int, (shl .i64 1 a0) = j_ := ⟨_, rfl⟩
     replace H : (impl_RelationFrom.l0 kj2 a0 l1 y377 ji9 0) = some r := by first | (rw [hji9] at H; exact H) | (simp only [hji9] at H ⊢; exact H)
     have hji9_ : (IntKind.i64.wrap (1 * 2 ^ min a0.toNat 64)) = ji9 := hji9
     have hji9z : a0 ≤ 64 → (IntKind.i64.wrap (1 * 2 ^ a0.toNat)) = ji9 := shl_small hji9
     have hji9u : (IntKind.i64.wrap (2 ^ min a0.toNat 64)) = ji9 := by have h_ := hji9_; rw [Int.one_mul] at h_; exact h_
     have hji9v : a0 ≤ 64 → (IntKind.i64.wrap (2 ^ a0.toNat)) = ji9 := fun hle_ => by have h_ := hji9z hle_; rw [Int.one_mul] at h_; exact h_
     have hji9y : (wrap64 (1 * 2 ^ min a0.toNat 64)) = ji9 := (i64_w _).symm.trans hji9_
     have hji9x : a0 ≤ 64 → (wrap64 (1 * 2 ^ a0.toNat)) = ji9 := fun h_ => (i64_w _).symm.trans (hji9z h_)
     have H' := Aside0.mk H
     clear H
     go_wp2_with (first | ((with_reducible refine gate_dst (N := 19) rfl ?_); refine Kd.R_lit (Kd.int .i64) _ 3 ?hg (N := 19) ?hd (xs := ([] : List Int)) (inner := []) (ok := fun _ => True) (okp := fun _ => True) ?hr ?hp (fun _ hk => hk) trivial (Below.refl _ _) (Nat.le_refl _) (by simp) ?_; (case hd => rfl); (case hg => rfl); (case hr => first | (go_simp; done) | (go_simp; rfl)); (case hp => exact (Reps.none _ _)); intro v378 w10 ho11 hb hg_ hnew_; clear hg_ hnew_; (first | rw [← Ny377.out] at ho11 | (simp only [Int.reduceToNat] at ho11; rw [← Ny377.out] at ho11)); have n0_ := Aside0.mk (Kd.R_lower ho11 (below_size (by repeat (first | (with_reducible first | exact HB.out | apply below_alloc | apply pw_below_drewN | apply below_drew1) | exact HB.out)))); have n1_ := Aside0.mk (below_step (by repeat (first | (with_reducible first | exact HB.out | apply below_alloc | apply pw_below_drewN | apply below_drew1) | exact HB.out)) hb); clear HB; have HO379 := n0_; have HB := n1_; clear n0_ n1_; clear hb ho11))
     go_loopg [5, 22] kj2 (fun kq v5 v22 w' => ∃ (x5_2 : List Int) (x22_2 : Int), v22 = .int .i64 x22_2 ∧ Aside0 (impl_RelationFrom.l0 kq a0 l1 x5_2 ji9 x22_2 = some r) ∧ Aside0 (kq ≤ kj2) ∧ Aside0 (Kd.R (Kd.int .i64) 3 w' w.heap.size (fun _ => True) v5 x5_2) ∧ Aside0 (Below w.heap.size w w'))
     case atStart => exact ⟨(y377), (0), (by first | rfl | (simp; done) | (simp [*]; done)), H', ⟨Nat.le_refl _⟩, ⟨by (with_reducible repeat (first | apply Kd.R_alloc | apply Kd.R_drewN | apply Kd.R_drew)); exact HO379.out⟩, ⟨by repeat (first | (with_reducible first | exact HB.out | apply below_alloc | apply pw_below_drewN | apply below_drew1) | exact HB.out)⟩⟩
     case round =>
      clear H'
      try clear c1
      try clear p2
      try clear c4
      try clear c4b0
      try clear c5
      try clear c5b0
      try clear p6
      try clear c7
      try clear c8
      try clear c8b0
      try clear c8b1
      try clear p2
      obtain ⟨x5_2, x22_2, rfl, HA, HK2, HO_5, HB⟩ := hrel
      cases gk with
      | zero => exact absurd HA.out (by simp [impl_RelationFrom.l0])
      | succ k2 =>
       have H := HA.out
       clear HA
       simp only [impl_RelationFrom.l0] at H
       by_cases c12 : x22_2 < ji9
       ·rw [if_pos c12] at H
        have c12b0 : decide (x22_2 < ji9) = true := decide_eq_true c12
        clear c12
        by_cases c13 : 0 ≤ a0
        ·rw [if_pos c13] at H
         have c13b0 := eq_true c13
         have c13b1 : decide (0 ≤ a0) = true := decide_eq_true c13
         clear c13
         replace H : (impl_RelationFrom.l1 k2 a0 l1 x5_2 x22_2 ji9 x22_2 ji9 0) = some r := by first | exact H | (rw [hji9] at H; exact H) | (simp only [hji9] at H ⊢; exact H)
         have H' := Aside0.mk H
         clear H
         go_wp2
         go_loopg [5, 27] k2 (fun kq v5 v27 w' => ∃ (x5_3 : List Int) (x27_3 : Int), v27 = .int .i64 x27_3 ∧ Aside0 (impl_RelationFrom.l1 kq a0 l1 x5_3 x22_2 ji9 x22_2 ji9 x27_3 = some r) ∧ Aside0 (kq ≤ k2) ∧ Aside0 (Kd.R (Kd.int .i64) 3 w' w.heap.size (fun _ => True) v5 x5_3) ∧ Aside0 (Below w.heap.size w w'))
         case atStart => exact ⟨(x5_2), (0), (by first | rfl | (simp; done) | (simp [*]; done)), H', ⟨Nat.le_refl _⟩, ⟨by (with_reducible repeat (first | apply Kd.R_alloc | apply Kd.R_drewN | apply Kd.R_drew)); exact HO_5.out⟩, ⟨by repeat (first | (with_reducible first | exact HB.out | apply below_alloc | apply pw_below_drewN | apply below_drew1) | exact HB.out)⟩⟩
         case round =>
          clear H'
          try clear c1
          try clear p2
          try clear c4
          try clear c4b0
          try clear c5
          try clear c5b0
          try clear p6
          try clear c7
          try clear c8
          try clear c8b0
          try clear c8b1
          try clear c12
          try clear c12b0
          try clear c13
          try clear c13b0
          try clear c13b1
          try clear p2
          try clear p6
          obtain ⟨x5_3, x27_3, rfl, HA, HK3, HO_5, HB⟩ := hrel
          cases gk with
          | zero => exact absurd HA.out (by simp [impl_RelationFrom.l1])
          | succ k3 =>
           have H := HA.out
           clear HA
           simp only [impl_RelationFrom.l1] at H
           by_cases c14 : x27_3 < ji9
           ·rw [if_pos c14] at H
            have c14b0 : decide (x27_3 < ji9) = true := decide_eq_true c14
            clear c14
            replace H := Option.bind_eq_some_iff.mp H
            obtain ⟨t380, A150, H⟩ := H
            replace H : ((impl_sizeOf.f (Go.bits .and .i64 x22_2 x27_3)).bind fun t381 => ((impl_placeOf.f t380 t381).bind fun t382 => (if 0 ≤ t382 then (if t382 < (l1.length : Int) then (if x5_3.length < 17592186044416 then (impl_RelationFrom.l1 k3 a0 l1 (x5_3 ++ [rd l1 t382]) x22_2 ji9 x22_2 ji9 (wrap64 (x27_3 + 1))) else (none)) else (none)) else (none)))) = some r := H
            have A15 := Aside0.mk A150
            clear A150
            replace H := Option.bind_eq_some_iff.mp H
            obtain ⟨t381, A160, H⟩ := H
            replace H : ((impl_placeOf.f t380 t381).bind fun t382 => (if 0 ≤ t382 then (if t382 < (l1.length : Int) then (if x5_3.length < 17592186044416 then (impl_RelationFrom.l1 k3 a0 l1 (x5_3 ++ [rd l1 t382]) x22_2 ji9 x22_2 ji9 (wrap64 (x27_3 + 1))) else (none)) else (none)) else (none))) = some r := H
            have A16 := Aside0.mk A160
            clear A160
            replace H := Option.bind_eq_some_iff.mp H
            obtain ⟨t382, A170, H⟩ := H
            replace H : (if 0 ≤ t382 then (if t382 < (l1.length : Int) then (if x5_3.length < 17592186044416 then (impl_RelationFrom.l1 k3 a0 l1 (x5_3 ++ [rd l1 t382]) x22_2 ji9 x22_2 ji9 (wrap64 (x27_3 + 1))) else (none)) else (none)) else (none)) = some r := H
            have A17 := Aside0.mk A170
            clear A170
            by_cases c18 : 0 ≤ t382
            ·rw [if_pos c18] at H
             have c18b0 : decide (0 ≤ t382) = true := decide_eq_true c18
             clear c18
             by_cases c19 : t382 < (l1.length : Int)
             ·rw [if_pos c19] at H
              have c19b0 : decide (t382 < (l1.length : Int)) = true := decide_eq_true c19
              clear c19
              by_cases c20 : x5_3.length < 17592186044416
              ·rw [if_pos c20] at H
               have LMc20 := Aside0.mk c20
               clear c20
               obtain ⟨y384, hy384⟩ : ∃ y_ : List Int, y_ = (x5_3 ++ [rd l1 t382]) := ⟨_, rfl⟩
               replace H : (impl_RelationFrom.l1 k3 a0 l1 y384 x22_2 ji9 x22_2 ji9 (wrap64 (x27_3 + 1))) = some r := by first | (rw [hy384]; with_reducible exact H) | (have H2_ := (Option.bind_some _ _).symm.trans H; rw [hy384]; with_reducible exact H2_) | (have H2_ := (Option.bind_some _ _).symm.trans H; with_reducible exact H2_) | with_reducible exact H | (rw [hy384]; exact H) | exact H
               have Ny384 := Aside0.mk hy384
               clear hy384
               have H' := Aside0.mk H
               clear H
               go_wp2_with (first | ((with_reducible refine gate_callee (f := 46) rfl ?_); refine goesL_ (some 33) rfl rfl Try.func46 (by kernel_rfl) rfl #[.int .i64 x22_2] rfl (by (try simp only [List.map_toArray, List.map_cons, List.map_nil]); first | done | rfl | (simp only [List.length_drop, List.length_take]; rfl)) ?_; (with_reducible refine (impl_sizeOf.calls x22_2 t380 _ A15.out).mono ?_); rintro e w' ⟨rfl, ⟨nd, rfl⟩⟩; refine ⟨_, rfl, ?_⟩) | ((with_reducible refine gate_callee (f := 46) rfl ?_); refine goesL_ (some 37) rfl rfl Try.func46 (by kernel_rfl) rfl #[.int .i64 (Go.bits .and .i64 x22_2 x27_3)] rfl (by (try simp only [List.map_toArray, List.map_cons, List.map_nil]); first | done | rfl | (simp only [List.length_drop, List.length_take]; rfl)) ?_; (with_reducible refine (impl_sizeOf.calls (Go.bits .and .i64 x22_2 x27_3) t381 _ A16.out).mono ?_); rintro e w' ⟨rfl, ⟨nd, rfl⟩⟩; refine ⟨_, rfl, ?_⟩) | ((with_reducible refine gate_callee (f := 42) rfl ?_); refine goesL_ (some 38) rfl rfl Try.func42 (by kernel_rfl) rfl #[.int .i64 t380, .int .i64 t381] rfl (by (try simp only [List.map_toArray, List.map_cons, List.map_nil]); first | done | rfl | (simp only [List.length_drop, List.length_take]; rfl)) ?_; (with_reducible refine (impl_placeOf.calls t380 t381 t382 _ A17.out).mono ?_); rintro e w' ⟨rfl, ⟨nd, rfl⟩⟩; refine ⟨_, rfl, ?_⟩; have p383 : 0 ≤ (t382 : Int) := of_decide_eq_true (by first | (with_reducible assumption) | assumption); have q383 : t382 < (l1.length : Int) := of_decide_eq_true (by first | (with_reducible assumption) | assumption); obtain ⟨ad383, e383, hx383_0⟩ := Kd.at_int HR1.out t382 p383 q383; cases e383; replace hx383_0 := (HB.out.cell (World.block_lt_of_cell? w _ hx383_0)).trans hx383_0; replace p383 := eq_true p383; replace q383 := eq_true q383) | ((with_reducible refine gate_builtin (b := .append) (xs := #[.tmp 30, .tmp 41]) rfl ?_); at_builtin; refine Kd.R_append (Kd.int .i64) (w0 := w) w.heap.size rfl (.tmp 30) (.tmp 41) 23 3 (.int .i64 0) 8 rfl Try.underlying23 info3 rfl (by decide) (by omega) u5 x5_3 (rd l1 t382) [.int .i64 (rd l1 t382)] (fun _ => True) (fun _ => False) rfl rfl ?aP (fun _ hk => hk.elim) ?aF ?aO ?aB ?aS ?aL ?_; (case aP => exact rfl); (case aB => exact (by repeat (first | (with_reducible first | exact HB.out | apply below_alloc | apply pw_below_drewN | apply below_drew1) | exact HB.out))); (case aF => exact (fun _ _ => trivial)); (case aO => exact (by (with_reducible repeat (first | apply Kd.R_alloc | apply Kd.R_drewN | apply Kd.R_drew)); exact HO_5.out)); (case aS => exact (below_size (by repeat (first | (with_reducible first | exact HB.out | apply below_alloc | apply pw_below_drewN | apply below_drew1) | exact HB.out)))); (case aL => have := LMc20.out; omega); intro v385 w21 ho hb hg hat; rw [← Ny384.out] at ho; have n0_ := Aside0.mk (hb); have n1_ := Aside0.mk (ho); clear HB; clear HO_5; have HB := n0_; have HO386 := n1_; clear n0_ n1_; clear ho hb hg hat))
               go_roundg k3
               case measure => have := HJ2.out; have := HK2.out; have := HK3.out; omega
               case rel => exact ⟨(y384), (wrap64 (x27_3 + 1)), (by first | rfl | (simp; done) | (simp [*]; done)), H', ⟨by have := HJ2.out; have := HK2.out; have := HK3.out; omega⟩, ⟨by (with_reducible repeat (first | apply Kd.R_alloc | apply Kd.R_drewN | apply Kd.R_drew)); exact HO386.out⟩, ⟨by repeat (first | (with_reducible first | exact HB.out | apply below_alloc | apply pw_below_drewN | apply below_drew1) | exact HB.out)⟩⟩
              ·rw [if_neg c20] at H
               exact absurd H (by simp)
             ·rw [if_neg c19] at H
              exact absurd H (by simp)
            ·rw [if_neg c18] at H
             exact absurd H (by simp)
           ·rw [if_neg c14] at H
            have c14b0 : decide (x27_3 < ji9) = false := decide_eq_false c14
            clear c14
            have H' := Aside0.mk H
            clear H
            go_wp2
            go_roundg k3
            case measure => have := HJ2.out; have := HK2.out; have := HK3.out; omega
            case rel => exact ⟨(x5_3), (wrap64 (x22_2 + 1)), (by first | rfl | (simp; done) | (simp [*]; done)), H', ⟨by have := HJ2.out; have := HK2.out; have := HK3.out; omega⟩, ⟨by (with_reducible repeat (first | apply Kd.R_alloc | apply Kd.R_drewN | apply Kd.R_drew)); exact HO_5.out⟩, ⟨by repeat (first | (with_reducible first | exact HB.out | apply below_alloc | apply pw_below_drewN | apply below_drew1) | exact HB.out)⟩⟩
        ·rw [if_neg c13] at H
         exact absurd H (by simp)
       ·rw [if_neg c12] at H
        have c12b0 : decide (x22_2 < ji9) = false := decide_eq_false c12
        clear c12
        obtain rfl := Option.some.inj H
        go_wp2
        go_ret
        exact ⟨_, by first | rfl | (simp [errW_none, errW_some] <;> rfl) | (simp only [← hji9]; first | rfl | (simp [errW_none, errW_some] <;> rfl)) | (simp [*, errW_none, errW_some] <;> rfl), by (with_reducible repeat (first | apply Kd.R_alloc | apply Kd.R_drewN | apply Kd.R_drew)); exact HO_5.out, by repeat (first | (with_reducible first | exact HB.out | apply below_alloc | apply pw_below_drewN | apply below_drew1) | exact HB.out)⟩
    ·rw [if_neg c8] at H
     exact absurd H (by simp)
end Go.Proofs.Ytcongmckkjbhiaa.P
