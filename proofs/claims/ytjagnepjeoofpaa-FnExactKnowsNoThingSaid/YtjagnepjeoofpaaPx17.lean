-- Written by wip/gen/lay.py, a program of this session, with the kit's print as its base. Lean checks every line.
import Derived.Test.YtjagnepjeoofpaaPx0
import Derived.Test.YtjagnepjeoofpaaPx3
import Derived.Test.YtjagnepjeoofpaaPx6
import Derived.Test.YtjagnepjeoofpaaPx9
import Derived.Test.YtjagnepjeoofpaaPx16
namespace Go.Proofs.Ytjagnepjeoofpaa.P
open Go.RowKit Go.Proofs.YtjagnepjeoofpaaW.PrintWords Go.Proofs.YtjagnepjeoofpaaW.PrintLast Go.Proofs.YtjagnepjeoofpaaW.PrintMore
attribute [local go_sem] max2_int min2_int max_two min_two max_three min_three max_four min_four   -- for this text's walks alone
set_option linter.unusedVariables false
set_option linter.unusedSimpArgs false

/-! ### HAND impl_KnowsNoThing: function 26 -/
def impl_KnowsNoThing.so (t : Int) (rel : List Int) (a b : Int) : Bool := kntP t rel a b
def impl_KnowsNoThing.f (a0 : Int) (l1 : List Int) : Option Bool := some (isRel a0 l1 && forAllP a0 (impl_KnowsNoThing.so a0 l1))
theorem exch_here (t s i k : Int) (h1 : 0 ≤ t) (h2 : t ≤ 3) (h3 : 0 ≤ s) (h4 : s < pw t) (h5 : 0 ≤ k) (h6 : k < i) (h7 : i < t) : impl_exchanged.f s i k = some (exch s i k) ∧ 0 ≤ exch s i k ∧ exch s i k < pw t := by
  have hf : ∀ T : Fin 4, ∀ x : Fin 8, ∀ p q : Fin 3, (x.val : Int) < pw T.val → q.val < p.val → p.val < T.val → impl_exchanged.f x.val p.val q.val = some (exch x.val p.val q.val) ∧ 0 ≤ exch x.val p.val q.val ∧ exch x.val p.val q.val < pw T.val := by decide +kernel
  have hp := pw_range t h1 h2
  obtain ⟨T, rfl⟩ := Int.eq_ofNat_of_zero_le h1
  obtain ⟨x, rfl⟩ := Int.eq_ofNat_of_zero_le h3
  obtain ⟨q, rfl⟩ := Int.eq_ofNat_of_zero_le h5
  obtain ⟨p, rfl⟩ := Int.eq_ofNat_of_zero_le (show 0 ≤ i by omega)
  exact hf ⟨T, by omega⟩ ⟨x, by omega⟩ ⟨p, by omega⟩ ⟨q, by omega⟩ h4 (show q < p by omega) (show p < T by omega)
set_option maxHeartbeats 1000000 in
set_option maxRecDepth 100000 in
theorem impl_KnowsNoThing.lit (t : Int) (A1 : Option Addr) (c1 : Nat) (l1 : List Int) (b0 b1 : Nat) (w : World) (ht1 : 0 ≤ t) (ht2 : t ≤ 3) (hl : l1.length = 4 ^ t.toNat) (hb0 : w.cell? ⟨b0, 0, none⟩ = some (.int .i64 t)) (hb1 : w.cell? ⟨b1, 0, none⟩ = some (.slice A1 l1.length c1)) (hr1 : Kd.C (Kd.int .i64) w A1 l1.length l1) (hc1 : l1.length ≤ c1)
    (a b : Int) (h1 : 0 ≤ a) (h2 : a < pw t) (h3 : 0 ≤ b) (h4 : b < pw t) :
    Calls Try.prog 51 #[.int .i64 a, .int .i64 b, .pointer (some ⟨b0, 0, none⟩), .pointer (some ⟨b1, 0, none⟩)] w fun e w' => e = .returned (.bool (impl_KnowsNoThing.so t l1 a b)) ∧ Drawn0 w w' := by
  have HR1 := Aside0.mk hr1
  have HC1 := Aside0.mk hc1
  have HL := Aside0.mk hl
  clear hr1 hc1 hl
  obtain ⟨T, rfl⟩ := Int.eq_ofNat_of_zero_le ht1
  go_enter Try.func51, Try.ntmps51
  go_wp2
  go_loopg [10] T (fun kq v10 w' => ∃ (n : Nat), v10 = .int .i64 n ∧ Aside0 (n + kq = T ∧ ∀ i k : Nat, i < n → k < i → kntAt T l1 a b i k = true) ∧ Drawn0 w w')
  case atStart => exact ⟨0, rfl, ⟨by omega, fun i k h => absurd h (by omega)⟩, by repeat (first | exact Drawn0.refl _ | apply Drawn0.step)⟩
  case round =>
    obtain ⟨n, rfl, HN, ⟨m1, rfl⟩⟩ := hrel
    by_cases hn : n < T
    · obtain ⟨k1, rfl⟩ : ∃ m, gk = m + 1 := ⟨gk - 1, by have := HN.out.1; omega⟩
      have hn0 : decide ((n : Int) < T) = true := decide_eq_true (by omega)
      have hn1 : decide (n < T) = true := decide_eq_true hn
      go_wp2
      go_loopg [14] n (fun kq v14 w' => ∃ (m : Nat), v14 = .int .i64 m ∧ Aside0 (m + kq = n ∧ ∀ k : Nat, k < m → kntAt T l1 a b n k = true) ∧ Drawn0 w w')
      case atStart => exact ⟨0, rfl, ⟨by omega, fun s h => absurd h (by omega)⟩, by repeat (first | exact Drawn0.refl _ | apply Drawn0.step)⟩
      case round =>
        obtain ⟨m, rfl, HM, ⟨m2, rfl⟩⟩ := hrel
        by_cases hm : m < n
        · obtain ⟨k2, rfl⟩ : ∃ j, gk = j + 1 := ⟨gk - 1, by have := HM.out.1; omega⟩
          have hm0 : decide ((m : Int) < n) = true := decide_eq_true (by omega)
          have hm1 : decide (m < n) = true := decide_eq_true hm
          obtain ⟨p1, p2, p3⟩ := exch_here T a n m ht1 ht2 h1 h2 (by omega) (by omega) (by omega)
          obtain ⟨q1, q2, q3⟩ := exch_here T b n m ht1 ht2 h3 h4 (by omega) (by omega) (by omega)
          have hh := holdsOf_here T l1 a b ht1 ht2 HL.out h1 h2 h3 h4
          have hk := holdsOf_here T l1 (exch a n m) (exch b n m) ht1 ht2 HL.out p2 p3 q2 q3
          obtain ⟨x, ex⟩ : ∃ b_, hr T l1 a b = b_ := ⟨_, rfl⟩
          obtain ⟨y, ey⟩ : ∃ b_, hr T l1 (exch a n m) (exch b n m) = b_ := ⟨_, rfl⟩
          have HO := Aside0.mk (show kntAt T l1 a b n m = (x == y) from by unfold kntAt; rw [ex, ey])
          rw [ex] at hh
          rw [ey] at hk
          obtain ⟨z1, ez1⟩ : ∃ z, exch a n m = z := ⟨_, rfl⟩
          obtain ⟨z2, ez2⟩ : ∃ z, exch b n m = z := ⟨_, rfl⟩
          rw [ez1] at p1 hk
          rw [ez2] at q1 hk
          have H1 := Aside0.mk hh
          have H2 := Aside0.mk hk
          have H3 := Aside0.mk p1
          have H4 := Aside0.mk q1
          clear hh hk p1 p2 p3 q1 q2 q3 ex ey ez1 ez2
          have HT : (x == y) = true → Aside0 (m + 1 + k2 = n ∧ ∀ k : Nat, k < m + 1 → kntAt T l1 a b n k = true) := fun h => ⟨by have := HM.out.1; omega, fun k hk => by
            rcases Nat.lt_or_ge k m with h' | h'
            · exact HM.out.2 k h'
            · obtain rfl : k = m := by omega
              rw [HO.out, h]⟩
          have HF : (x == y) = false → Aside0 (kntP T l1 a b = false) := fun h => ⟨kntP_false T l1 a b n m (by simpa using hn) hm (by rw [HO.out, h])⟩
          clear HO
          have HT' := Aside0.mk HT
          have HF' := Aside0.mk HF
          clear HT HF
          cases x <;> cases y
          · have HX := HT'.out rfl
            clear HT' HF'
            go_wp2
            go_quiet (first | (go_at_call 45; (with_reducible refine (impl_holdsOf.calls T A1 c1 l1 a b _ _ ?s1 HC1.out H1.out).mono ?_); (case s1 => repeat (first | exact HR1.out | (with_reducible refine Kd.C_alloc ?_ _) | (with_reducible refine Kd.C_drewN ?_ _) | (with_reducible refine Kd.C_drew ?_))); rintro e w' ⟨rfl, ⟨nd, rfl⟩⟩; (try first | exact ⟨rfl, _, World.drewN_drewN _ _ _⟩ | exact ⟨rfl, _, Eq.trans (World.drewN_drewN _ _ _) (congrArg (World.drewN _) (Nat.add_assoc _ _ _))⟩)) | (go_at_call 45; (with_reducible refine (impl_holdsOf.calls T A1 c1 l1 z1 z2 _ _ ?s1 HC1.out H2.out).mono ?_); (case s1 => repeat (first | exact HR1.out | (with_reducible refine Kd.C_alloc ?_ _) | (with_reducible refine Kd.C_drewN ?_ _) | (with_reducible refine Kd.C_drew ?_))); rintro e w' ⟨rfl, ⟨nd, rfl⟩⟩; (try first | exact ⟨rfl, _, World.drewN_drewN _ _ _⟩ | exact ⟨rfl, _, Eq.trans (World.drewN_drewN _ _ _) (congrArg (World.drewN _) (Nat.add_assoc _ _ _))⟩)) | (go_at_call 52; (with_reducible refine (impl_exchanged.calls a _ _ _ _ H3.out).mono ?_); rintro e w' ⟨rfl, ⟨nd, rfl⟩⟩; (try first | exact ⟨rfl, _, World.drewN_drewN _ _ _⟩ | exact ⟨rfl, _, Eq.trans (World.drewN_drewN _ _ _) (congrArg (World.drewN _) (Nat.add_assoc _ _ _))⟩)) | (go_at_call 52; (with_reducible refine (impl_exchanged.calls b _ _ _ _ H4.out).mono ?_); rintro e w' ⟨rfl, ⟨nd, rfl⟩⟩; (try first | exact ⟨rfl, _, World.drewN_drewN _ _ _⟩ | exact ⟨rfl, _, Eq.trans (World.drewN_drewN _ _ _) (congrArg (World.drewN _) (Nat.add_assoc _ _ _))⟩)))
            go_wp2
            go_roundg k2
            case measure => omega
            case rel => exact ⟨m + 1, by go_num, HX, by repeat (first | exact Drawn0.refl _ | apply Drawn0.step)⟩
          · have HX := HF'.out rfl
            clear HT' HF'
            go_wp2
            go_quiet (first | (go_at_call 45; (with_reducible refine (impl_holdsOf.calls T A1 c1 l1 a b _ _ ?s1 HC1.out H1.out).mono ?_); (case s1 => repeat (first | exact HR1.out | (with_reducible refine Kd.C_alloc ?_ _) | (with_reducible refine Kd.C_drewN ?_ _) | (with_reducible refine Kd.C_drew ?_))); rintro e w' ⟨rfl, ⟨nd, rfl⟩⟩; (try first | exact ⟨rfl, _, World.drewN_drewN _ _ _⟩ | exact ⟨rfl, _, Eq.trans (World.drewN_drewN _ _ _) (congrArg (World.drewN _) (Nat.add_assoc _ _ _))⟩)) | (go_at_call 45; (with_reducible refine (impl_holdsOf.calls T A1 c1 l1 z1 z2 _ _ ?s1 HC1.out H2.out).mono ?_); (case s1 => repeat (first | exact HR1.out | (with_reducible refine Kd.C_alloc ?_ _) | (with_reducible refine Kd.C_drewN ?_ _) | (with_reducible refine Kd.C_drew ?_))); rintro e w' ⟨rfl, ⟨nd, rfl⟩⟩; (try first | exact ⟨rfl, _, World.drewN_drewN _ _ _⟩ | exact ⟨rfl, _, Eq.trans (World.drewN_drewN _ _ _) (congrArg (World.drewN _) (Nat.add_assoc _ _ _))⟩)) | (go_at_call 52; (with_reducible refine (impl_exchanged.calls a _ _ _ _ H3.out).mono ?_); rintro e w' ⟨rfl, ⟨nd, rfl⟩⟩; (try first | exact ⟨rfl, _, World.drewN_drewN _ _ _⟩ | exact ⟨rfl, _, Eq.trans (World.drewN_drewN _ _ _) (congrArg (World.drewN _) (Nat.add_assoc _ _ _))⟩)) | (go_at_call 52; (with_reducible refine (impl_exchanged.calls b _ _ _ _ H4.out).mono ?_); rintro e w' ⟨rfl, ⟨nd, rfl⟩⟩; (try first | exact ⟨rfl, _, World.drewN_drewN _ _ _⟩ | exact ⟨rfl, _, Eq.trans (World.drewN_drewN _ _ _) (congrArg (World.drewN _) (Nat.add_assoc _ _ _))⟩)))
            go_wp2
            go_ret
            exact ⟨by unfold impl_KnowsNoThing.so; rw [HX.out]; rfl, by repeat (first | exact Drawn0.refl _ | apply Drawn0.step)⟩
          · have HX := HF'.out rfl
            clear HT' HF'
            go_wp2
            go_quiet (first | (go_at_call 45; (with_reducible refine (impl_holdsOf.calls T A1 c1 l1 a b _ _ ?s1 HC1.out H1.out).mono ?_); (case s1 => repeat (first | exact HR1.out | (with_reducible refine Kd.C_alloc ?_ _) | (with_reducible refine Kd.C_drewN ?_ _) | (with_reducible refine Kd.C_drew ?_))); rintro e w' ⟨rfl, ⟨nd, rfl⟩⟩; (try first | exact ⟨rfl, _, World.drewN_drewN _ _ _⟩ | exact ⟨rfl, _, Eq.trans (World.drewN_drewN _ _ _) (congrArg (World.drewN _) (Nat.add_assoc _ _ _))⟩)) | (go_at_call 45; (with_reducible refine (impl_holdsOf.calls T A1 c1 l1 z1 z2 _ _ ?s1 HC1.out H2.out).mono ?_); (case s1 => repeat (first | exact HR1.out | (with_reducible refine Kd.C_alloc ?_ _) | (with_reducible refine Kd.C_drewN ?_ _) | (with_reducible refine Kd.C_drew ?_))); rintro e w' ⟨rfl, ⟨nd, rfl⟩⟩; (try first | exact ⟨rfl, _, World.drewN_drewN _ _ _⟩ | exact ⟨rfl, _, Eq.trans (World.drewN_drewN _ _ _) (congrArg (World.drewN _) (Nat.add_assoc _ _ _))⟩)) | (go_at_call 52; (with_reducible refine (impl_exchanged.calls a _ _ _ _ H3.out).mono ?_); rintro e w' ⟨rfl, ⟨nd, rfl⟩⟩; (try first | exact ⟨rfl, _, World.drewN_drewN _ _ _⟩ | exact ⟨rfl, _, Eq.trans (World.drewN_drewN _ _ _) (congrArg (World.drewN _) (Nat.add_assoc _ _ _))⟩)) | (go_at_call 52; (with_reducible refine (impl_exchanged.calls b _ _ _ _ H4.out).mono ?_); rintro e w' ⟨rfl, ⟨nd, rfl⟩⟩; (try first | exact ⟨rfl, _, World.drewN_drewN _ _ _⟩ | exact ⟨rfl, _, Eq.trans (World.drewN_drewN _ _ _) (congrArg (World.drewN _) (Nat.add_assoc _ _ _))⟩)))
            go_wp2
            go_ret
            exact ⟨by unfold impl_KnowsNoThing.so; rw [HX.out]; rfl, by repeat (first | exact Drawn0.refl _ | apply Drawn0.step)⟩
          · have HX := HT'.out rfl
            clear HT' HF'
            go_wp2
            go_quiet (first | (go_at_call 45; (with_reducible refine (impl_holdsOf.calls T A1 c1 l1 a b _ _ ?s1 HC1.out H1.out).mono ?_); (case s1 => repeat (first | exact HR1.out | (with_reducible refine Kd.C_alloc ?_ _) | (with_reducible refine Kd.C_drewN ?_ _) | (with_reducible refine Kd.C_drew ?_))); rintro e w' ⟨rfl, ⟨nd, rfl⟩⟩; (try first | exact ⟨rfl, _, World.drewN_drewN _ _ _⟩ | exact ⟨rfl, _, Eq.trans (World.drewN_drewN _ _ _) (congrArg (World.drewN _) (Nat.add_assoc _ _ _))⟩)) | (go_at_call 45; (with_reducible refine (impl_holdsOf.calls T A1 c1 l1 z1 z2 _ _ ?s1 HC1.out H2.out).mono ?_); (case s1 => repeat (first | exact HR1.out | (with_reducible refine Kd.C_alloc ?_ _) | (with_reducible refine Kd.C_drewN ?_ _) | (with_reducible refine Kd.C_drew ?_))); rintro e w' ⟨rfl, ⟨nd, rfl⟩⟩; (try first | exact ⟨rfl, _, World.drewN_drewN _ _ _⟩ | exact ⟨rfl, _, Eq.trans (World.drewN_drewN _ _ _) (congrArg (World.drewN _) (Nat.add_assoc _ _ _))⟩)) | (go_at_call 52; (with_reducible refine (impl_exchanged.calls a _ _ _ _ H3.out).mono ?_); rintro e w' ⟨rfl, ⟨nd, rfl⟩⟩; (try first | exact ⟨rfl, _, World.drewN_drewN _ _ _⟩ | exact ⟨rfl, _, Eq.trans (World.drewN_drewN _ _ _) (congrArg (World.drewN _) (Nat.add_assoc _ _ _))⟩)) | (go_at_call 52; (with_reducible refine (impl_exchanged.calls b _ _ _ _ H4.out).mono ?_); rintro e w' ⟨rfl, ⟨nd, rfl⟩⟩; (try first | exact ⟨rfl, _, World.drewN_drewN _ _ _⟩ | exact ⟨rfl, _, Eq.trans (World.drewN_drewN _ _ _) (congrArg (World.drewN _) (Nat.add_assoc _ _ _))⟩)))
            go_wp2
            go_roundg k2
            case measure => omega
            case rel => exact ⟨m + 1, by go_num, HX, by repeat (first | exact Drawn0.refl _ | apply Drawn0.step)⟩
        · have hm0 : decide ((m : Int) < n) = false := decide_eq_false (by omega)
          have hm1 : decide (m < n) = false := decide_eq_false hm
          go_wp2
          go_roundg k1
          case measure => omega
          case rel =>
            have hmn : m = n := by have := HM.out.1; omega
            exact ⟨n + 1, by go_num, ⟨by have := HN.out.1; omega, fun i k hi hk => by
              rcases Nat.lt_or_ge i n with h' | h'
              · exact HN.out.2 i k h' hk
              · obtain rfl : i = n := by omega
                exact HM.out.2 k (by omega)⟩, by repeat (first | exact Drawn0.refl _ | apply Drawn0.step)⟩
    · have hn0 : decide ((n : Int) < T) = false := decide_eq_false (by omega)
      have hn1 : decide (n < T) = false := decide_eq_false hn
      go_wp2
      go_ret
      have hn6 : n = T := by have := HN.out.1; omega
      exact ⟨by unfold impl_KnowsNoThing.so; rw [kntP_true T l1 a b (fun i k hi hk => HN.out.2 i k (by simp at hi; omega) hk)]; rfl, by repeat (first | exact Drawn0.refl _ | apply Drawn0.step)⟩
set_option maxHeartbeats 2000000 in
set_option maxRecDepth 100000 in
theorem impl_KnowsNoThing.calls (a0 : Int) (A1 : Option Addr) (c1 : Nat) (l1 : List Int) (r : Bool) (w : World) (hr1 : Kd.C (Kd.int .i64) w A1 l1.length l1) (hc1 : l1.length ≤ c1) (h : impl_KnowsNoThing.f a0 l1 = some r) :
    Calls Try.prog 26 #[.int .i64 a0, .slice A1 l1.length c1] w fun e w' => e = .returned (.bool r) ∧ Below w.heap.size w w' := by
  have HT := Aside0.mk (isRelation_k a0 l1 hr1.2.1 (l1.length + 2) (by omega))
  have HB := Aside0.mk (below_alloc (below_alloc (Below.refl w.heap.size w) (.cells #[.int .i64 a0] 3)) (.cells #[.slice A1 l1.length c1] 22))
  have HR1 := Aside0.mk (Kd.C_alloc (Kd.C_alloc hr1 (.cells #[.int .i64 a0] 3)) (.cells #[.slice A1 l1.length c1] 22))
  have HC1 := Aside0.mk hc1
  obtain rfl : (isRel a0 l1 && forAllP a0 (impl_KnowsNoThing.so a0 l1)) = r := Option.some.inj h
  obtain ⟨x, ex⟩ : ∃ b, isRel a0 l1 = b := ⟨_, rfl⟩
  rw [ex] at HT ⊢
  cases x with
  | true =>
    obtain ⟨q1, q2, q3⟩ := isRel_range ex
    have HS := Aside0.mk (fun (nd : Nat) => show GivesSets 51 #[.pointer (some ⟨w.heap.size, 0, none⟩), .pointer (some ⟨w.heap.size + 1, 0, none⟩)] a0 (impl_KnowsNoThing.so a0 l1) (((w.alloc (.cells #[.int .i64 a0] 3)).alloc (.cells #[.slice A1 l1.length c1] 22)).drewN nd) from fun W a b hW h1 h2 h3 h4 =>
      impl_KnowsNoThing.lit a0 A1 c1 l1 w.heap.size (w.heap.size + 1) W q1 q2 q3 ((hW.cell (p := ⟨w.heap.size, 0, none⟩) (by simp; omega)).trans (by simp)) ((hW.cell (p := ⟨w.heap.size + 1, 0, none⟩) (by simp)).trans (by simp)) (Kd.C_below (Kd.C_drewN HR1.out nd) hW) hc1 a b h1 h2 h3 h4)
    have HQ := Aside0.mk (show 0 ≤ a0 ∧ a0 ≤ 3 from ⟨q1, q2⟩)
    rw [Bool.true_and]
    clear h ex q1 q2 q3 hr1 hc1
    go_enter Try.func26, Try.ntmps26
    go_wp2_with (first | (go_at_call 44; (with_reducible refine (impl_isRelation.calls _ a0 A1 c1 l1 _ _ ?s1 HC1.out HT.out).mono ?_); (case s1 => repeat (first | exact HR1.out | (with_reducible refine Kd.C_alloc ?_ _) | (with_reducible refine Kd.C_drewN ?_ _) | (with_reducible refine Kd.C_drew ?_))); rintro e w' ⟨rfl, ⟨nd, rfl⟩⟩) | (go_at_call 46; refine (impl_forAllSets.calls _ (enters_of Try.func51 (by kernel_rfl) rfl) _ a0 HQ.out.1 HQ.out.2 _ _ (HS.out _)).mono ?_; rintro e w' ⟨rfl, ⟨nd, rfl⟩⟩))
    go_ret
    exact ⟨rfl, by repeat (first | (with_reducible first | exact HB.out | apply below_alloc | apply pw_below_drewN | apply below_drew1) | exact HB.out)⟩
  | false =>
    rw [Bool.false_and]
    clear h ex hr1 hc1
    go_enter Try.func26, Try.ntmps26
    go_wp2_with (first | (go_at_call 44; (with_reducible refine (impl_isRelation.calls _ a0 A1 c1 l1 _ _ ?s1 HC1.out HT.out).mono ?_); (case s1 => repeat (first | exact HR1.out | (with_reducible refine Kd.C_alloc ?_ _) | (with_reducible refine Kd.C_drewN ?_ _) | (with_reducible refine Kd.C_drew ?_))); rintro e w' ⟨rfl, ⟨nd, rfl⟩⟩))
    go_ret
    exact ⟨rfl, by repeat (first | (with_reducible first | exact HB.out | apply below_alloc | apply pw_below_drewN | apply below_drew1) | exact HB.out)⟩

end Go.Proofs.Ytjagnepjeoofpaa.P
