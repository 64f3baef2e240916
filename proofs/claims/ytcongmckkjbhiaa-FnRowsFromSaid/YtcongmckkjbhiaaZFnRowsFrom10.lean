-- Texts of this claim, laid one behind the other by wip/gen/merge.py.
import Derived.Test.YtcongmckkjbhiaaZFnRowsFrom0
import Derived.Test.YtcongmckkjbhiaaZFnRowsFrom9
namespace Go.Proofs.Ytcongmckkjbhiaa.P
open Go.RowKit Go.Proofs.YtcongmckkjbhiaaW.PrintWords Go.Proofs.YtcongmckkjbhiaaW.PrintLast Go.Proofs.YtcongmckkjbhiaaW.PrintMore
attribute [local go_sem] max2_int min2_int max_two min_two max_three min_three max_four min_four
set_option linter.unusedVariables false
set_option linter.unusedSimpArgs false
/-! ### impl_sizeOf: function 46 -/
def impl_sizeOf.f (a0 : Int) : Option (Int) := (bits_OnesCount.f (IntKind.u64.wrap (a0))).bind fun t348 => (some t348)
set_option maxHeartbeats 8000000 in
set_option maxRecDepth 100000 in
theorem impl_sizeOf.calls (a0 : Int) (r : Int) (w : World) (h : impl_sizeOf.f a0 = some r) :
  Calls Try.prog 46 #[.int .i64 a0] w fun e w' => e = .returned (.int .i64 r) ∧ Drawn0 w w' := by
 have H : ((bits_OnesCount.f (IntKind.u64.wrap (a0))).bind fun t348 => (some t348)) = some r := h
 clear h
 replace H := Option.bind_eq_some_iff.mp H
 obtain ⟨t348, A20, H⟩ := H
 replace H : (some t348) = some r := H
 have A2 := Aside0.mk A20
 clear A20
 obtain rfl := Option.some.inj H
 go_enter Try.func46, Try.ntmps46
 go_wp2_with (first | ((with_reducible refine gate_callee (f := 63) rfl ?_); refine goesL_ (some 5) rfl rfl Try.func63 (by kernel_rfl) rfl #[.int .u64 (IntKind.u64.wrap (a0))] rfl (by (try simp only [List.map_toArray, List.map_cons, List.map_nil]); first | done | rfl | (simp only [List.length_drop, List.length_take]; rfl)) ?_; (with_reducible refine (bits_OnesCount.calls (IntKind.u64.wrap (a0)) t348 _ A2.out).mono ?_); rintro e w' ⟨rfl, ⟨nd, rfl⟩⟩; refine ⟨_, rfl, ?_⟩))
 go_ret
 exact ⟨by first | rfl | (simp; done) | (simp [*]; done), by repeat (first | exact Drawn0.refl _ | apply Drawn0.step)⟩
/-! ### HAND impl_RowsFrom: function 12 -/
def rfPairs : List (Nat × Nat) := [(0, 0), (1, 0), (1, 1), (2, 0), (2, 1), (2, 2), (3, 0), (3, 1), (3, 2), (3, 3)]
def rfBit (t : Int) (l : List Int) (i : Nat) : Bool := hr t l (2 ^ (rfPairs.getD i (0, 0)).1 - 1) (2 ^ (rfPairs.getD i (0, 0)).2 - 1)
def rfFill (t : Int) (l : List Int) (n q : Nat) : List Int := (List.range n).map fun i => if i < q ∧ rfBit t l i = true then 1 else 0
theorem rfFill_length (t : Int) (l : List Int) (n q : Nat) : (rfFill t l n q).length = n := by simp [rfFill]
theorem rfFill_zero (t : Int) (l : List Int) (n : Nat) : rfFill t l n 0 = List.replicate n 0 := by
 unfold rfFill
 apply List.ext_getElem (by simp)
 intro i h1 h2
 simp
theorem rf_at (T a s : Nat) (hT : T ≤ 3) (ha : a ≤ T) (hs : s ≤ a) : wrap64 (wrap64 ((2 : Int) ^ a) - 1) = 2 ^ (rfPairs.getD (a * (a + 1) / 2 + s) (0, 0)).1 - 1 ∧ wrap64 (wrap64 ((2 : Int) ^ s) - 1) = 2 ^ (rfPairs.getD (a * (a + 1) / 2 + s) (0, 0)).2 - 1 ∧ 0 ≤ (2 : Int) ^ (rfPairs.getD (a * (a + 1) / 2 + s) (0, 0)).1 - 1 ∧ (2 : Int) ^ (rfPairs.getD (a * (a + 1) / 2 + s) (0, 0)).1 - 1 < pw T ∧ 0 ≤ (2 : Int) ^ (rfPairs.getD (a * (a + 1) / 2 + s) (0, 0)).2 - 1 ∧ (2 : Int) ^ (rfPairs.getD (a * (a + 1) / 2 + s) (0, 0)).2 - 1 < pw T := by
 have hf : ∀ T a s : Fin 4, a.val ≤ T.val → s.val ≤ a.val → wrap64 (wrap64 ((2 : Int) ^ a.val) - 1) = 2 ^ (rfPairs.getD (a.val * (a.val + 1) / 2 + s.val) (0, 0)).1 - 1 ∧ wrap64 (wrap64 ((2 : Int) ^ s.val) - 1) = 2 ^ (rfPairs.getD (a.val * (a.val + 1) / 2 + s.val) (0, 0)).2 - 1 ∧ 0 ≤ (2 : Int) ^ (rfPairs.getD (a.val * (a.val + 1) / 2 + s.val) (0, 0)).1 - 1 ∧ (2 : Int) ^ (rfPairs.getD (a.val * (a.val + 1) / 2 + s.val) (0, 0)).1 - 1 < pw T.val ∧ 0 ≤ (2 : Int) ^ (rfPairs.getD (a.val * (a.val + 1) / 2 + s.val) (0, 0)).2 - 1 ∧ (2 : Int) ^ (rfPairs.getD (a.val * (a.val + 1) / 2 + s.val) (0, 0)).2 - 1 < pw T.val := by decide +kernel
 exact hf ⟨T, by omega⟩ ⟨a, by omega⟩ ⟨s, by omega⟩ ha hs
theorem rf_holds (T a s : Nat) (l : List Int) (hl : l.length = 4 ^ (T : Int).toNat) (hT : T ≤ 3) (ha : a ≤ T) (hs : s ≤ a) : impl_holdsOf.f (T : Int) l (wrap64 (wrap64 ((2 : Int) ^ a) - 1)) (wrap64 (wrap64 ((2 : Int) ^ s) - 1)) = some (rfBit T l (a * (a + 1) / 2 + s)) := by
 obtain ⟨e1, e2, h1, h2, h3, h4⟩ := rf_at T a s hT ha hs
 rw [e1, e2]
 exact holdsOf_here T l _ _ (by omega) (by omega) hl h1 h2 h3 h4
theorem rfFill_none (t : Int) (l : List Int) (n q : Nat) (h : rfBit t l q = false) : rfFill t l n (q + 1) = rfFill t l n q := by
 unfold rfFill
 refine List.map_congr_left fun i _ => ?_
 by_cases e : i = q
 ·subst e
  simp [h]
 ·have : i < q + 1 ↔ i < q := by omega
  simp only [this]
theorem rfFill_one (t : Int) (l : List Int) (n q : Nat) (h : rfBit t l q = true) : (rfFill t l n q).set q 1 = rfFill t l n (q + 1) := by
 unfold rfFill
 apply List.ext_getElem (by simp)
 intro i h1 h2
 rw [List.getElem_set]
 by_cases e : q = i
 ·subst e
  simp [h]
 ·have : i < q + 1 ↔ i < q := by omega
  simp [e, this]
theorem rf_place (T a s : Nat) (hT : T ≤ 3) (ha : a ≤ T) (hs : s ≤ a) : impl_placeOf.f (a : Int) (s : Int) = some (((a * (a + 1) / 2 + s : Nat)) : Int) := by
 have hf : ∀ T a s : Fin 4, a.val ≤ T.val → s.val ≤ a.val → impl_placeOf.f (a.val : Int) (s.val : Int) = some (((a.val * (a.val + 1) / 2 + s.val : Nat)) : Int) := by decide +kernel
 exact hf ⟨T, by omega⟩ ⟨a, by omega⟩ ⟨s, by omega⟩ ha hs
set_option maxHeartbeats 2000000 in
set_option maxRecDepth 100000 in
theorem impl_placeOf.still (a0 : Int) (a1 : Int) (r : Int) (w : World) (h : impl_placeOf.f a0 a1 = some r) :
  Calls Try.prog 42 #[.int .i64 a0, .int .i64 a1] w fun e w' => e = .returned (.int .i64 r) ∧ w' = w := by
 have H : (some (wrap64 ((wrap64 (Int.tdiv (wrap64 (a0 * (wrap64 (a0 + 1)))) 2)) + a1))) = some r := h
 clear h
 obtain rfl := Option.some.inj H
 go_enter Try.func42, Try.ntmps42
 go_wp2
 go_ret
 exact ⟨by first | rfl | (simp; done) | (simp [*]; done), rfl⟩
def rfSz (x : Int) : Int := x % 2 + x / 2 % 2 + x / 4 % 2
def rfIdx (a b : Int) : Int := rfSz a * (rfSz a + 1) / 2 + rfSz (Go.bits .and .i64 a b)
def rfSo (t : Int) (l o : List Int) (a b : Int) : Bool := hr t l a b == (rd o (rfIdx a b) == 1)
theorem rf_calls (T : Nat) (a b : Int) (hT : T ≤ 3) (h1 : 0 ≤ a) (h2 : a < pw T) (h3 : 0 ≤ b) (h4 : b < pw T) : impl_sizeOf.f a = some (rfSz a) ∧ impl_sizeOf.f (Go.bits .and .i64 a b) = some (rfSz (Go.bits .and .i64 a b)) ∧ impl_placeOf.f (rfSz a) (rfSz (Go.bits .and .i64 a b)) = some (rfIdx a b) ∧ ∃ p q : Nat, p ≤ T ∧ q ≤ p ∧ rfIdx a b = ((p * (p + 1) / 2 + q : Nat) : Int) := by
 have hf : ∀ T : Fin 4, ∀ x y : Fin 8, (x.val : Int) < pw T.val → (y.val : Int) < pw T.val → impl_sizeOf.f x.val = some (rfSz x.val) ∧ impl_sizeOf.f (Go.bits .and .i64 x.val y.val) = some (rfSz (Go.bits .and .i64 x.val y.val)) ∧ impl_placeOf.f (rfSz x.val) (rfSz (Go.bits .and .i64 x.val y.val)) = some (rfIdx x.val y.val) ∧ ∃ p q : Fin 4, p.val ≤ T.val ∧ q.val ≤ p.val ∧ rfIdx x.val y.val = ((p.val * (p.val + 1) / 2 + q.val : Nat) : Int) := by decide +kernel
 have hp := pw_range T (by omega) (by omega)
 obtain ⟨x, rfl⟩ := Int.eq_ofNat_of_zero_le h1
 obtain ⟨y, rfl⟩ := Int.eq_ofNat_of_zero_le h3
 obtain ⟨e1, e2, e3, p, q, e4, e5, e6⟩ := hf ⟨T, by omega⟩ ⟨x, by omega⟩ ⟨y, by omega⟩ h2 h4
 exact ⟨e1, e2, e3, p.val, q.val, e4, e5, e6⟩
set_option maxHeartbeats 2000000 in
set_option maxRecDepth 100000 in
theorem impl_RowsFrom.lit (T : Nat) (hT : T ≤ 3) (A1 : Option Addr) (c1 : Nat) (l1 o : List Int) (b0 b1 b2 go9 co9 PN base : Nat) (w : World) (hl : l1.length = 4 ^ (T : Int).toNat) (hb0 : w.cell? ⟨b0, 0, none⟩ = some (.int .i64 (T : Int))) (hb1 : w.cell? ⟨b1, 0, none⟩ = some (.slice A1 l1.length c1)) (hb2 : w.cell? ⟨b2, 0, none⟩ = some (.slice (some ⟨go9, 0, none⟩) PN co9)) (hr1 : Kd.C (Kd.int .i64) w A1 l1.length l1) (hc1 : l1.length ≤ c1) (hO : Kd.R (Kd.int .i64) 3 w base (fun _ => True) (.slice (some ⟨go9, 0, none⟩) PN co9) o) (hPQ : ∀ a s : Nat, a ≤ T → s ≤ a → a * (a + 1) / 2 + s < PN)
  (a b : Int) (h1 : 0 ≤ a) (h2 : a < pw T) (h3 : 0 ≤ b) (h4 : b < pw T) :
  Calls Try.prog 45 #[.int .i64 a, .int .i64 b, .pointer (some ⟨b0, 0, none⟩), .pointer (some ⟨b1, 0, none⟩), .pointer (some ⟨b2, 0, none⟩)] w fun e w' => e = .returned (.bool (rfSo T l1 o a b)) ∧ Drawn0 w w' := by
 have hh := holdsOf_here T l1 a b (by omega) (by omega) hl h1 h2 h3 h4
 obtain ⟨z1, z2, z3, p, q, z4, z5, z6⟩ := rf_calls T a b hT h1 h2 h3 h4
 have hq := hPQ p q z4 z5
 obtain ⟨i, ei⟩ : ∃ i : Nat, i = p * (p + 1) / 2 + q := ⟨_, rfl⟩
 rw [← ei] at z6 hq
 unfold rfSo
 rw [z6]
 rw [z6] at z3
 have p9 : 0 ≤ (i : Int) := Int.natCast_nonneg _
 have q9 : (i : Int) < (PN : Int) := by omega
 obtain ⟨hx9, hf9⟩ := Kd.R_celln 0 hO (i : Int) p9 q9
 rw [Int.toNat_natCast] at hx9 hf9
 obtain ⟨x, ex⟩ : ∃ x, hr T l1 a b = x := ⟨_, rfl⟩
 obtain ⟨m, em⟩ : ∃ m, Go.bits .and .i64 a b = m := ⟨_, rfl⟩
 rw [ex] at hh ⊢
 rw [em] at z2 z3
 obtain ⟨s1, es1⟩ : ∃ s1, rfSz a = s1 := ⟨_, rfl⟩
 obtain ⟨s2, es2⟩ : ∃ s2, rfSz m = s2 := ⟨_, rfl⟩
 rw [es1] at z1 z3
 rw [es2] at z2 z3
 replace p9 := eq_true p9
 replace q9 := eq_true q9
 have HR1 := Aside0.mk hr1
 have HC1 := Aside0.mk hc1
 have H1 := Aside0.mk hh
 have Z1 := Aside0.mk z1
 have Z2 := Aside0.mk z2
 have Z3 := Aside0.mk z3
 clear hh z1 z2 z3 z4 z5 z6 ex es1 es2 hr1 hc1 hO hPQ h1 h2 h3 h4 hl ei hf9 hq
 go_enter Try.func45, Try.ntmps45
 go_wp2
 go_quiet (first | (go_at_call 43; (with_reducible refine (impl_holdsOf.calls (T : Int) A1 c1 l1 _ _ _ _ ?s1 HC1.out H1.out).mono ?_); (case s1 => repeat (first | exact HR1.out | (with_reducible refine Kd.C_drewN ?_ _) | (with_reducible refine Kd.C_drew ?_))); rintro e w' ⟨rfl, ⟨nd, rfl⟩⟩; (try first | exact ⟨rfl, _, World.drewN_drewN _ _ _⟩ | exact ⟨rfl, _, Eq.trans (World.drewN_drewN _ _ _) (congrArg (World.drewN _) (Nat.add_assoc _ _ _))⟩)) | (go_at_call 46; (with_reducible refine (impl_sizeOf.calls a _ _ Z1.out).mono ?_); rintro e w' ⟨rfl, ⟨nd, rfl⟩⟩; (try first | exact ⟨rfl, _, World.drewN_drewN _ _ _⟩ | exact ⟨rfl, _, Eq.trans (World.drewN_drewN _ _ _) (congrArg (World.drewN _) (Nat.add_assoc _ _ _))⟩)) | (go_at_call 46; (with_reducible refine (impl_sizeOf.calls m _ _ Z2.out).mono ?_); rintro e w' ⟨rfl, ⟨nd, rfl⟩⟩; (try first | exact ⟨rfl, _, World.drewN_drewN _ _ _⟩ | exact ⟨rfl, _, Eq.trans (World.drewN_drewN _ _ _) (congrArg (World.drewN _) (Nat.add_assoc _ _ _))⟩)) | (go_at_call 42; (with_reducible refine (impl_placeOf.calls s1 s2 _ _ Z3.out).mono ?_); rintro e w' ⟨rfl, ⟨nd, rfl⟩⟩; (try first | exact ⟨rfl, _, World.drewN_drewN _ _ _⟩ | exact ⟨rfl, _, Eq.trans (World.drewN_drewN _ _ _) (congrArg (World.drewN _) (Nat.add_assoc _ _ _))⟩)))
 go_wp2
 go_ret
 exact ⟨rfl, by repeat (first | exact Drawn0.refl _ | apply Drawn0.step)⟩
/-- How many entries rows of at most so many things have. -/
def rfPN (t : Int) : Nat := (t.toNat + 1) * (t.toNat + 2) / 2
def rfOut (t : Int) (l : List Int) : List Int := rfFill t l (rfPN t) (rfPN t)
def rfFine (t : Int) (l : List Int) : Bool := isRel t l && forAllP t (rfSo t l (rfOut t l))
def impl_RowsFrom.f (a0 : Int) (l1 : List Int) : Option (List Int × Bool) := some (if rfFine a0 l1 = true then rfOut a0 l1 else [], rfFine a0 l1)
set_option maxHeartbeats 2000000 in
set_option maxRecDepth 100000 in
theorem impl_RowsFrom.dev (y : Bool) (T : Nat) (hT : T ≤ 3) (A1 : Option Addr) (c1 : Nat) (l1 : List Int) (w : World) (hr1 : Kd.C (Kd.int .i64) w A1 l1.length l1) (hc1 : l1.length ≤ c1) (hrel : isRel T l1 = true) (PN : Nat) (hPN : PN ≤ 10) (hP1 : 0 < PN) (hPQ : ∀ a s : Nat, a ≤ T → s ≤ a → a * (a + 1) / 2 + s < PN) (hP : impl_placeOf.f ((T : Int) + 1) 0 = some (PN : Int)) (hend : ∀ q : Nat, q = (T + 1) * (T + 1 + 1) / 2 → q = PN) (hy : forAllP T (rfSo T l1 (rfFill T l1 PN PN)) = y) :
  Calls Try.prog 12 #[.int .i64 T, .slice A1 l1.length c1] w fun e w' => ∃ v0_ : Value, e = .returned (.tuple #[v0_, .bool y]) ∧ Kd.R (Kd.int .i64) 3 w' w.heap.size (fun _ => True) v0_ (if y = true then rfFill T l1 PN PN else []) ∧ Below w.heap.size w w' := by
 have HT := Aside0.mk (isRelation_k T l1 hr1.2.1 (l1.length + 2) (by omega))
 rw [hrel] at HT
 have HB := Aside0.mk (below_alloc (below_alloc (Below.refl w.heap.size w) (.cells #[.int .i64 (T : Int)] 3)) (.cells #[.slice A1 l1.length c1] 23))
 have HR1 := Aside0.mk (Kd.C_alloc (Kd.C_alloc hr1 (.cells #[.int .i64 (T : Int)] 3)) (.cells #[.slice A1 l1.length c1] 23))
 have HC1 := Aside0.mk hc1
 have HR0 := Aside0.mk hr1
 have HLN := Aside0.mk (isRel_range hrel).2.2
 clear hr1 hc1
 go_enter Try.func12, Try.ntmps12
 have HP := Aside0.mk hP
 have HPN := Aside0.mk hPN
 have HP1 := Aside0.mk hP1
 have HPQ := Aside0.mk hPQ
 have p0 : decide (0 ≤ (PN : Int)) = true := decide_eq_true (Int.natCast_nonneg _)
 have p1 : decide ((PN : Int).toNat ≤ 35184372088832) = true := decide_eq_true (by omega)
 have HY := Aside0.mk hy
 have HE := Aside0.mk hend
 clear hP hPN hP1 hPQ hrel hy hend
 go_wp2_with (first | (go_at_call 41; (with_reducible refine (impl_isRelation.calls _ (T : Int) A1 c1 l1 _ _ ?s1 HC1.out HT.out).mono ?_); (case s1 => repeat (first | exact HR1.out | (with_reducible refine Kd.C_alloc ?_ _) | (with_reducible refine Kd.C_drewN ?_ _) | (with_reducible refine Kd.C_drew ?_))); rintro e w' ⟨rfl, ⟨nd, rfl⟩⟩) | (go_at_call 42; refine (impl_placeOf.calls _ _ _ _ HP.out).mono ?_; rintro e w' ⟨rfl, ⟨nd, rfl⟩⟩) | ((with_reducible refine gate_dst (N := 17) rfl ?_); refine Kd.R_make (Kd.int .i64) _ 3 rfl (N := 17) rfl 23 _ _ rfl (PN : Int) rfl rfl Try.underlying23 (.int .i64 0) 8 info3 rfl (by decide) (by omega) 0 (ok := fun _ => True) (okp := fun _ => True) rfl (fun _ hk => hk) trivial (of_decide_eq_true p0) (Nat.le_trans (Nat.mul_le_mul_right _ (of_decide_eq_true p1)) (by omega)) (Below.refl _ _) (Nat.le_refl _) ?_; intro v109 w4 ho5 hb hg_ hnew_; clear hg_ hnew_; obtain ⟨go9, co9, eo9, gb9, gl9, cl9⟩ := Kd.R_form ho5 (by simpa using HP1.out); rw [show (List.replicate (PN : Int).toNat (0 : Int)).length = PN from by simp] at eo9; cases eo9; have hb0 : w4.cell? ⟨w.heap.size, 0, none⟩ = some (.int .i64 (T : Int)) := (hb.cell (p := ⟨w.heap.size, 0, none⟩) (by simp; omega)).trans (by simp); have hb1 : w4.cell? ⟨w.heap.size + 1, 0, none⟩ = some (.slice A1 l1.length c1) := (hb.cell (p := ⟨w.heap.size + 1, 0, none⟩) (by simp)).trans (by simp); have hz4 : w.heap.size < w4.heap.size ∧ w.heap.size + 1 < w4.heap.size := (by have := World.block_lt_of_cell? w4 _ hb0; have := World.block_lt_of_cell? w4 _ hb1; exact ⟨by assumption, by assumption⟩); obtain ⟨hz40, hz41⟩ := hz4; have HO := Aside0.mk ho5; have HGB := Aside0.mk gb9; have HGL := Aside0.mk gl9; have HBB := Aside0.mk hb; clear ho5 hb gb9 gl9 cl9))
 go_loopg [20] (T + 1) (fun kq v20 w' => ∃ (a : Nat) (o : List Int), v20 = .int .i64 a ∧ Aside0 (a + kq = T + 1 ∧ o = rfFill T l1 PN (a * (a + 1) / 2)) ∧ w'.cell? ⟨w.heap.size, 0, none⟩ = some (.int .i64 (T : Int)) ∧ w'.cell? ⟨w.heap.size + 1, 0, none⟩ = some (.slice A1 l1.length c1) ∧ w'.cell? ⟨w4.heap.size, 0, none⟩ = some (.slice (some ⟨go9, 0, none⟩) PN co9) ∧ Aside0 (Kd.R (Kd.int .i64) 3 w' w.heap.size (fun _ => True) (.slice (some ⟨go9, 0, none⟩) PN co9) o) ∧ Aside0 (Below w.heap.size w w' ∧ w4.heap.size < w'.heap.size))
 case atStart =>
  refine ⟨0, rfFill T l1 PN 0, rfl, ⟨by omega, rfl⟩, ?_, ?_, ?_, ?_, ?_⟩
  ·rw [World.cell?_alloc_past _ _ _ hz40]; exact hb0
  ·rw [World.cell?_alloc_past _ _ _ hz41]; exact hb1
  ·simp
  ·rw [rfFill_zero]
   exact ⟨Kd.R_alloc (Kd.R_lower HO.out (by simp; omega)) _⟩
  ·exact ⟨below_alloc (below_step (pw_below_drewN HB.out _) HBB.out) _, by simp⟩
 case round =>
  obtain ⟨a, o, rfl, HN, hb0, hb1, hb2, HO, HB⟩ := hrel
  by_cases hn : a < T + 1
  ·obtain ⟨k1, rfl⟩ : ∃ m, gk = m + 1 := ⟨gk - 1, by have := HN.out.1; omega⟩
   have hn0 : decide ((a : Int) < (T : Int) + 1) = true := decide_eq_true (by omega)
   have hn1 : decide (a < T + 1) = true := decide_eq_true hn
   go_wp2
   go_loopg [25] (a + 1) (fun kq v25 w' => ∃ (s : Nat) (o : List Int), v25 = .int .i64 s ∧ Aside0 (s + kq = a + 1 ∧ o = rfFill T l1 PN (a * (a + 1) / 2 + s)) ∧ w'.cell? ⟨w.heap.size, 0, none⟩ = some (.int .i64 (T : Int)) ∧ w'.cell? ⟨w.heap.size + 1, 0, none⟩ = some (.slice A1 l1.length c1) ∧ w'.cell? ⟨w4.heap.size, 0, none⟩ = some (.slice (some ⟨go9, 0, none⟩) PN co9) ∧ Aside0 (Kd.R (Kd.int .i64) 3 w' w.heap.size (fun _ => True) (.slice (some ⟨go9, 0, none⟩) PN co9) o) ∧ Aside0 (Below w.heap.size w w' ∧ w4.heap.size < w'.heap.size))
   case atStart => exact ⟨0, o, rfl, ⟨by omega, HN.out.2⟩, hb0, hb1, hb2, HO, HB⟩
   case round =>
    clear hb0 hb1 hb2 HO HB
    obtain ⟨s, o, rfl, HM, hb0, hb1, hb2, HO, HB⟩ := hrel
    by_cases hm : s < a + 1
    ·obtain ⟨k2, rfl⟩ : ∃ j, gk = j + 1 := ⟨gk - 1, by have := HM.out.1; omega⟩
     have hm0 : decide ((s : Int) < (a : Int) + 1) = true := decide_eq_true (by omega)
     have hm1 : decide (s < a + 1) = true := decide_eq_true hm
     have hms : s ≤ a := by omega
     go_wp2
     have HCr := Aside0.mk (Kd.C_below HR0.out HB.out.1)
     have hh := rf_holds T a s l1 HLN.out hT (by omega) (by omega)
     obtain ⟨x, ex⟩ : ∃ x, rfBit T l1 (a * (a + 1) / 2 + s) = x := ⟨_, rfl⟩
     rw [ex] at hh
     have EX := Aside0.mk ex
     have H1 := Aside0.mk hh
     clear hh ex
     cases x with
     | false =>
      go_quiet (first | (go_at_call 43; (with_reducible refine (impl_holdsOf.calls (T : Int) A1 c1 l1 _ _ _ _ ?s1 HC1.out H1.out).mono ?_); (case s1 => repeat (first | exact HCr.out | (with_reducible refine Kd.C_drewN ?_ _) | (with_reducible refine Kd.C_drew ?_))); rintro e w' ⟨rfl, ⟨nd, rfl⟩⟩; (try first | exact ⟨rfl, _, World.drewN_drewN _ _ _⟩ | exact ⟨rfl, _, Eq.trans (World.drewN_drewN _ _ _) (congrArg (World.drewN _) (Nat.add_assoc _ _ _))⟩)))
      go_wp2
      go_roundg k2
      case measure => omega
      case rel => exact ⟨s + 1, o, by go_num, ⟨by have := HM.out.1; omega, by rw [← Nat.add_assoc, rfFill_none _ _ _ _ EX.out]; exact HM.out.2⟩, by simpa using hb0, by simpa using hb1, by simpa using hb2, ⟨Kd.R_drewN HO.out _⟩, ⟨pw_below_drewN HB.out.1 _, by simpa using HB.out.2⟩⟩
     | true =>
      go_quiet (first | (go_at_call 43; (with_reducible refine (impl_holdsOf.calls (T : Int) A1 c1 l1 _ _ _ _ ?s1 HC1.out H1.out).mono ?_); (case s1 => repeat (first | exact HCr.out | (with_reducible refine Kd.C_drewN ?_ _) | (with_reducible refine Kd.C_drew ?_))); rintro e w' ⟨rfl, ⟨nd, rfl⟩⟩; (try first | exact ⟨rfl, _, World.drewN_drewN _ _ _⟩ | exact ⟨rfl, _, Eq.trans (World.drewN_drewN _ _ _) (congrArg (World.drewN _) (Nat.add_assoc _ _ _))⟩)))
      go_wp2
      have HQ := Aside0.mk (rf_place T a s hT (by omega) hms)
      refine wp_region_still_tail 4 (by kernel_rfl) (by kernel_rfl) ?_
      simp only [List.take_succ_cons, List.take_zero, List.drop_succ_cons, List.drop_zero]
      change wpStill _ _ ((wr.drewN nq).drew) _ _ _
      generalize hw2 : (wr.drewN nq).drew = w2
      have hb0 : w2.cell? ⟨w.heap.size, 0, none⟩ = some (.int .i64 (T : Int)) := by rw [← hw2]; simpa using hb0
      have hb1 : w2.cell? ⟨w.heap.size + 1, 0, none⟩ = some (.slice A1 l1.length c1) := by rw [← hw2]; simpa using hb1
      have hb2 : w2.cell? ⟨w4.heap.size, 0, none⟩ = some (.slice (some ⟨go9, 0, none⟩) PN co9) := by rw [← hw2]; simpa using hb2
      have HO2 := Aside0.mk (show Kd.R (Kd.int .i64) 3 w2 w.heap.size (fun _ => True) (.slice (some ⟨go9, 0, none⟩) PN co9) o by rw [← hw2]; exact Kd.R_drew (Kd.R_drewN HO.out _))
      have HB2 := Aside0.mk (show Below w.heap.size w w2 ∧ w4.heap.size < w2.heap.size from ⟨by rw [← hw2]; exact below_drew1 (pw_below_drewN HB.out.1 _), by rw [← hw2]; simpa using HB.out.2⟩)
      have HW2 := Aside0.mk hw2
      clear hw2 HO HB
      repeat still_step
      still_call (impl_placeOf.still (a : Int) (s : Int) _ _ HQ.out)
      refine wpStill_nil ?_
      change wpList _ _ _ _ _ ((wr.drewN nq).drew)
      rw [HW2.out]
      have hlo : o.length = PN := by rw [HM.out.2]; exact rfFill_length _ _ _ _
      have hq : a * (a + 1) / 2 + s < PN := HPQ.out a s (by omega) hms
      obtain ⟨q, eq⟩ : ∃ q, a * (a + 1) / 2 + s = q := ⟨_, rfl⟩
      rw [eq] at hq ⊢
      have p9 : 0 ≤ (q : Int) := Int.natCast_nonneg _
      have q9 : (q : Int) < (PN : Int) := by omega
      obtain ⟨hx9_0, hf9_0⟩ := Kd.R_celln 0 HO2.out (q : Int) p9 q9
      replace p9 := eq_true p9
      replace q9 := eq_true q9
      have HP10 := Kd.R_putg HO2.out (q : Int) 1
      rw [Int.toNat_natCast] at hx9_0 hf9_0 HP10
      go_wp2_with (first | ((with_reducible refine gate_store (t := 3) (p := 41) rfl ?_); refine store_event (t := 3) (p := 41) (v := ?vo_w11) (w1 := (w2.setCell ⟨go9, q, none⟩ (.int .i64 1))) ?hg ?ho ?hn ?hr ?_; (case ho => rfl); (case hg => rfl); (case hn => rfl); (case hr => first | (go_simp; done) | (go_simp; rfl)); intro w11 hw))
      have hb0' : w11.cell? ⟨w.heap.size, 0, none⟩ = some (.int .i64 (T : Int)) := by rw [hw]; exact HP10.2.cell hb0 (by have := HGB.out; simp at this ⊢; omega)
      have hb1' : w11.cell? ⟨w.heap.size + 1, 0, none⟩ = some (.slice A1 l1.length c1) := by rw [hw]; exact HP10.2.cell hb1 (by have := HGB.out; simp at this ⊢; omega)
      have hb2' : w11.cell? ⟨w4.heap.size, 0, none⟩ = some (.slice (some ⟨go9, 0, none⟩) PN co9) := by rw [hw]; exact HP10.2.cell hb2 (by have := HGL.out; simp; omega)
      have HO3 := Aside0.mk (show Kd.R (Kd.int .i64) 3 w11 w.heap.size (fun _ => True) (.slice (some ⟨go9, 0, none⟩) PN co9) (o.set q 1) by rw [hw]; exact HP10.1)
      have HB3 := Aside0.mk (show Below w.heap.size w w11 ∧ w4.heap.size < w11.heap.size from ⟨by rw [hw]; exact below_set HB2.out.1 (by have := HGB.out; simp at this; omega), by have := World.block_lt_of_cell? w11 _ hb2'; exact this⟩)
      subst hw
      clear hx9_0 hf9_0 HP10 hb0 hb1 hb2 HO2 HB2
      go_roundg k2
      case measure => omega
      case rel =>
       refine ⟨s + 1, o.set q 1, by go_num, ⟨by have := HM.out.1; omega, ?_⟩, hb0', hb1', hb2', HO3, HB3⟩
       rw [HM.out.2, ← eq, ← Nat.add_assoc]
       exact rfFill_one _ _ _ _ EX.out
    ·have hm0 : decide ((s : Int) < (a : Int) + 1) = false := decide_eq_false (by omega)
     have hm1 : decide (s < a + 1) = false := decide_eq_false hm
     go_wp2
     go_roundg k1
     case measure => omega
     case rel =>
      have hms : s = a + 1 := by have := HM.out.1; omega
      refine ⟨a + 1, o, by go_num, ⟨by have := HN.out.1; omega, ?_⟩, hb0, hb1, hb2, HO, HB⟩
      rw [HM.out.2, hms]
      congr 1
      have h3 : a ≤ 3 := by omega
      rcases (show a = 0 ∨ a = 1 ∨ a = 2 ∨ a = 3 by omega) with e | e | e | e <;> subst e <;> rfl
  ·have hn0 : decide ((a : Int) < (T : Int) + 1) = false := decide_eq_false (by omega)
   have hn1 : decide (a < T + 1) = false := decide_eq_false hn
   have HCr := Aside0.mk (Kd.C_below HR0.out HB.out.1)
   have ho : o = rfFill T l1 PN PN := by
    have ha : a = T + 1 := by have := HN.out.1; omega
    rw [HN.out.2, ha, HE.out _ rfl]
   have HX := Aside0.mk (fun (W0 : World) (hW0 : Below wr.heap.size wr W0) => impl_forAllSets.calls 45 (enters_of Try.func45 (by kernel_rfl) rfl) #[.pointer (some ⟨w.heap.size, 0, none⟩), .pointer (some ⟨w.heap.size + 1, 0, none⟩), .pointer (some ⟨w4.heap.size, 0, none⟩)] T (by omega) (by omega) (rfSo T l1 o) W0 (fun W x z hW h1 h2 h3 h4 =>
    impl_RowsFrom.lit T hT A1 c1 l1 o _ _ _ go9 co9 PN w.heap.size W HLN.out (((below_step hW0 hW).cell (p := ⟨w.heap.size, 0, none⟩) (World.block_lt_of_cell? _ _ hb0)).trans hb0) (((below_step hW0 hW).cell (p := ⟨w.heap.size + 1, 0, none⟩) (World.block_lt_of_cell? _ _ hb1)).trans hb1) (((below_step hW0 hW).cell (p := ⟨w4.heap.size, 0, none⟩) (World.block_lt_of_cell? _ _ hb2)).trans hb2) (Kd.C_below HCr.out (below_step hW0 hW)) HC1.out (Kd.R_below HO.out (below_step hW0 hW)) HPQ.out x z h1 h2 h3 h4))
   rw [ho, HY.out] at HX
   have HO2 := Aside0.mk (ho ▸ HO.out)
   have HB2 := Aside0.mk HB.out.1
   clear ho HO HB HCr HN
   cases y with
   | true =>
    go_wp2_with (first | (go_at_call 44; refine (HX.out _ ?hx).mono ?_; (case hx => repeat (first | exact Below.refl _ _ | apply pw_below_drewN | apply below_drew1)); rintro e w' ⟨rfl, ⟨nd, rfl⟩⟩))
    go_ret2
    exact ⟨_, rfl, (by first | exact Kd.R_drewN HO2.out _ | exact HO2.out | exact Kd.R_drew (Kd.R_drewN HO2.out _)), by repeat (first | exact HB2.out | apply pw_below_drewN | apply below_drew1)⟩
   | false =>
    go_wp2_with (first | (go_at_call 44; refine (HX.out _ ?hx).mono ?_; (case hx => repeat (first | exact Below.refl _ _ | apply pw_below_drewN | apply below_drew1)); rintro e w' ⟨rfl, ⟨nd, rfl⟩⟩))
    go_ret2
    exact ⟨_, rfl, Kd.R_nil _ _ _ _ _, by repeat (first | exact HB2.out | apply pw_below_drewN | apply below_drew1)⟩
theorem rfPN_facts (T : Nat) (h : T ≤ 3) : rfPN T ≤ 10 ∧ 0 < rfPN T ∧ (∀ a s : Nat, a ≤ T → s ≤ a → a * (a + 1) / 2 + s < rfPN T) ∧ impl_placeOf.f ((T : Int) + 1) 0 = some (rfPN T : Int) ∧ (∀ q : Nat, q = (T + 1) * (T + 1 + 1) / 2 → q = rfPN T) := by
 have hf : ∀ T : Fin 4, rfPN T.val ≤ 10 ∧ 0 < rfPN T.val ∧ (∀ a s : Fin 4, a.val ≤ T.val → s.val ≤ a.val → a.val * (a.val + 1) / 2 + s.val < rfPN T.val) ∧ impl_placeOf.f ((T.val : Int) + 1) 0 = some (rfPN T.val : Int) ∧ (T.val + 1) * (T.val + 1 + 1) / 2 = rfPN T.val := by decide +kernel
 obtain ⟨h1, h2, h3, h4, h5⟩ := hf ⟨T, by omega⟩
 exact ⟨h1, h2, fun a s ha hs => h3 ⟨a, by omega⟩ ⟨s, by omega⟩ ha hs, h4, fun q hq => hq.trans h5⟩
set_option maxHeartbeats 2000000 in
set_option maxRecDepth 100000 in
theorem impl_RowsFrom.not (a0 : Int) (A1 : Option Addr) (c1 : Nat) (l1 : List Int) (w : World) (hr1 : Kd.C (Kd.int .i64) w A1 l1.length l1) (hc1 : l1.length ≤ c1) (hrel : isRel a0 l1 = false) :
  Calls Try.prog 12 #[.int .i64 a0, .slice A1 l1.length c1] w fun e w' => ∃ v0_ : Value, e = .returned (.tuple #[v0_, .bool false]) ∧ Kd.R (Kd.int .i64) 3 w' w.heap.size (fun _ => True) v0_ [] ∧ Below w.heap.size w w' := by
 have HT := Aside0.mk (isRelation_k a0 l1 hr1.2.1 (l1.length + 2) (by omega))
 rw [hrel] at HT
 have HB := Aside0.mk (below_alloc (below_alloc (Below.refl w.heap.size w) (.cells #[.int .i64 a0] 3)) (.cells #[.slice A1 l1.length c1] 23))
 have HR1 := Aside0.mk (Kd.C_alloc (Kd.C_alloc hr1 (.cells #[.int .i64 a0] 3)) (.cells #[.slice A1 l1.length c1] 23))
 have HC1 := Aside0.mk hc1
 clear hr1 hc1 hrel
 go_enter Try.func12, Try.ntmps12
 go_wp2_with (first | (go_at_call 41; (with_reducible refine (impl_isRelation.calls _ a0 A1 c1 l1 _ _ ?s1 HC1.out HT.out).mono ?_); (case s1 => repeat (first | exact HR1.out | (with_reducible refine Kd.C_alloc ?_ _) | (with_reducible refine Kd.C_drewN ?_ _) | (with_reducible refine Kd.C_drew ?_))); rintro e w' ⟨rfl, ⟨nd, rfl⟩⟩))
 go_ret2
 exact ⟨_, rfl, Kd.R_nil _ _ _ _ _, by repeat (first | exact HB.out | apply pw_below_drewN | apply below_drew1)⟩
theorem impl_RowsFrom.calls (a0 : Int) (A1 : Option Addr) (c1 : Nat) (l1 : List Int) (r1 : List Int) (r2 : Bool) (w : World) (hr1 : Kd.C (Kd.int .i64) w A1 l1.length l1) (hc1 : l1.length ≤ c1) (h : impl_RowsFrom.f a0 l1 = some (r1, r2)) :
  Calls Try.prog 12 #[.int .i64 a0, .slice A1 l1.length c1] w fun e w' => ∃ v0_ : Value, e = .returned (.tuple #[v0_, .bool r2]) ∧ Kd.R (Kd.int .i64) 3 w' w.heap.size (fun _ => True) v0_ r1 ∧ Below w.heap.size w w' := by
 unfold impl_RowsFrom.f at h
 obtain ⟨rfl, rfl⟩ := Prod.mk.inj (Option.some.inj h)
 clear h
 by_cases hrel : isRel a0 l1 = true
 ·obtain ⟨q1, q2, q3⟩ := isRel_range hrel
  obtain ⟨T, rfl⟩ := Int.eq_ofNat_of_zero_le q1
  obtain ⟨g1, g2, g3, g4, g5⟩ := rfPN_facts T (by omega)
  have he : rfFine T l1 = forAllP T (rfSo T l1 (rfFill T l1 (rfPN T) (rfPN T))) := by unfold rfFine rfOut; rw [hrel, Bool.true_and]
  exact impl_RowsFrom.dev (rfFine T l1) T (by omega) A1 c1 l1 w hr1 hc1 hrel (rfPN T) g1 g2 g3 g4 g5 he.symm
 ·have he : rfFine a0 l1 = false := by unfold rfFine; rw [Bool.eq_false_iff.mpr hrel, Bool.false_and]
  rw [he]
  exact impl_RowsFrom.not a0 A1 c1 l1 w hr1 hc1 (Bool.eq_false_iff.mpr hrel)
/-! ### spec_RelationOk: function 21 -/
def spec_RelationOk.l0 : Nat → Int → List Int → Int → Option (Bool)
 | 0, _, _, _ => none
 | k + 1, x0, x1, x5 => if x5 < (x1.length : Int) then (if 0 ≤ x5 then ((spec_l1In.f (rd x1 x5) 0 1).bind fun t350 => (if t350 = true then (spec_RelationOk.l0 k x0 x1 (wrap64 (x5 + 1))) else (some false))) else (none)) else ((spec_l1In.f x0 0 3).bind fun t351 => (if t351 = true then (if 0 ≤ (wrap64 (2 * x0)) then (some ((x1.length : Int) == (shl .i64 1 (wrap64 (2 * x0))))) else (none)) else (some false)))
def spec_RelationOk.f (k : Nat) (a0 : Int) (l1 : List Int) : Option (Bool) := spec_RelationOk.l0 k a0 l1 0
theorem spec_RelationOk.mono_l : ∀ k, (∀ y0 y1 y2, LeO (spec_RelationOk.l0 k y0 y1 y2) (spec_RelationOk.l0 (k + 1) y0 y1 y2))
 | 0 => fun _ _ _ r h => by simp [spec_RelationOk.l0] at h
 | k + 1 => by
  have ih0 := spec_RelationOk.mono_l k
  ·intro y0 y1 y2
   unfold spec_RelationOk.l0
   repeat' first
   | (with_reducible exact ih0 _ _ _)
   | (with_reducible exact LeO.refl _)
   | (with_reducible exact LeO.none _)
   | (with_reducible refine LeO.ite ?_ ?_)
   | (with_reducible refine LeO.bind ?_ (fun _ => ?_))
theorem spec_RelationOk.mono : ∀ a0 a1 k, LeO (spec_RelationOk.f k a0 a1) (spec_RelationOk.f (k + 1) a0 a1) := by
 intro a0 a1 k
 have ih0 := spec_RelationOk.mono_l k
 unfold spec_RelationOk.f
 repeat' first
   | (with_reducible exact ih0 _ _ _)
   | (with_reducible exact LeO.refl _)
   | (with_reducible exact LeO.none _)
   | (with_reducible refine LeO.ite ?_ ?_)
   | (with_reducible refine LeO.bind ?_ (fun _ => ?_))
set_option maxHeartbeats 8000000 in
set_option maxRecDepth 100000 in
theorem spec_RelationOk.calls (k : Nat) (a0 : Int) (A1 : Option Addr) (c1 : Nat) (l1 : List Int) (r : Bool) (w : World) (hr1 : Kd.C (Kd.int .i64) w A1 l1.length l1) (hc1 : l1.length ≤ c1) (h : spec_RelationOk.f k a0 l1 = some r) :
  Calls Try.prog 21 #[.int .i64 a0, .slice A1 l1.length c1] w fun e w' => e = .returned (.bool r) ∧ Drawn0 w w' := by
 have HR1 := Aside0.mk hr1
 have HC1 := Aside0.mk hc1
 clear hr1 hc1
 have H : (spec_RelationOk.l0 k a0 l1 0) = some r := h
 clear h
 have H' := Aside0.mk H
 clear H
 go_enter Try.func21, Try.ntmps21
 go_wp2
 go_loopg [5] k (fun kq v5 w' => ∃ (x5_1 : Int), v5 = .int .i64 x5_1 ∧ Aside0 (spec_RelationOk.l0 kq a0 l1 x5_1 = some r) ∧ Aside0 (kq ≤ k) ∧ Drawn0 w w')
 case atStart => exact ⟨(0), (by first | rfl | (simp; done) | (simp [*]; done)), H', ⟨Nat.le_refl _⟩, by repeat (first | exact Drawn0.refl _ | apply Drawn0.step)⟩
 case round =>
  clear H'
  try clear c1
  try clear c2
  try clear p2
  obtain ⟨x5_1, rfl, HA, HK1, ⟨m1, rfl⟩⟩ := hrel
  cases gk with
  | zero => exact absurd HA.out (by simp [spec_RelationOk.l0])
  | succ k1 =>
   have H := HA.out
   clear HA
   simp only [spec_RelationOk.l0] at H
   by_cases c3 : x5_1 < (l1.length : Int)
   ·rw [if_pos c3] at H
    have c3b0 : decide (x5_1 < (l1.length : Int)) = true := decide_eq_true c3
    clear c3
    by_cases c4 : 0 ≤ x5_1
    ·rw [if_pos c4] at H
     have c4b0 : decide (0 ≤ x5_1) = true := decide_eq_true c4
     clear c4
     replace H := Option.bind_eq_some_iff.mp H
     obtain ⟨t350, A50, H⟩ := H
     replace H : (if t350 = true then (spec_RelationOk.l0 k1 a0 l1 (wrap64 (x5_1 + 1))) else (some false)) = some r := H
     have A5 := Aside0.mk A50
     clear A50
     by_cases c6 : t350 = true
     ·subst c6
      have H1 : (spec_RelationOk.l0 k1 a0 l1 (wrap64 (x5_1 + 1))) = some r := by rw [if_pos rfl] at H; exact H
      clear H
      have H := H1
      clear H1
      have H' := Aside0.mk H
      clear H
      have p349 : 0 ≤ (x5_1 : Int) := of_decide_eq_true (by first | (with_reducible assumption) | assumption)
      have q349 : x5_1 < (l1.length : Int) := of_decide_eq_true (by first | (with_reducible assumption) | assumption)
      obtain ⟨ad349, e349, hx349_0⟩ := Kd.at_int HR1.out x5_1 p349 q349
      cases e349
      replace p349 := eq_true p349
      replace q349 := eq_true q349
      go_wp2_with (first | ((with_reducible refine gate_callee (f := 52) rfl ?_); refine goesL_ (some 16) rfl rfl Try.func52 (by kernel_rfl) rfl #[.int .i64 (rd l1 x5_1), .int .i64 0, .int .i64 1] rfl (by (try simp only [List.map_toArray, List.map_cons, List.map_nil]); first | done | rfl | (simp only [List.length_drop, List.length_take]; rfl)) ?_; (with_reducible refine (spec_l1In.calls (rd l1 x5_1) 0 1 true _ A5.out).mono ?_); rintro e w' ⟨rfl, ⟨nd, rfl⟩⟩; refine ⟨_, rfl, ?_⟩))
      go_roundg k1
      case measure => have := HK1.out; omega
      case rel => exact ⟨(wrap64 (x5_1 + 1)), (by first | rfl | (simp; done) | (simp [*]; done)), H', ⟨by have := HK1.out; omega⟩, by repeat (first | exact Drawn0.refl _ | apply Drawn0.step)⟩
     ·replace c6 := Bool.eq_false_iff.mpr c6
      subst c6
      have H1 : (some false) = some r := by rw [if_neg (show ¬ (false = true) by decide)] at H; exact H
      clear H
      have H := H1
      clear H1
      obtain rfl := Option.some.inj H
      have p349 : 0 ≤ (x5_1 : Int) := of_decide_eq_true (by first | (with_reducible assumption) | assumption)
      have q349 : x5_1 < (l1.length : Int) := of_decide_eq_true (by first | (with_reducible assumption) | assumption)
      obtain ⟨ad349, e349, hx349_0⟩ := Kd.at_int HR1.out x5_1 p349 q349
      cases e349
      replace p349 := eq_true p349
      replace q349 := eq_true q349
      go_wp2_with (first | ((with_reducible refine gate_callee (f := 52) rfl ?_); refine goesL_ (some 16) rfl rfl Try.func52 (by kernel_rfl) rfl #[.int .i64 (rd l1 x5_1), .int .i64 0, .int .i64 1] rfl (by (try simp only [List.map_toArray, List.map_cons, List.map_nil]); first | done | rfl | (simp only [List.length_drop, List.length_take]; rfl)) ?_; (with_reducible refine (spec_l1In.calls (rd l1 x5_1) 0 1 false _ A5.out).mono ?_); rintro e w' ⟨rfl, ⟨nd, rfl⟩⟩; refine ⟨_, rfl, ?_⟩))
      go_ret
      exact ⟨by first | rfl | (simp; done) | (simp [*]; done), by repeat (first | exact Drawn0.refl _ | apply Drawn0.step)⟩
    ·rw [if_neg c4] at H
     exact absurd H (by simp)
   ·rw [if_neg c3] at H
    have c3b0 : decide (x5_1 < (l1.length : Int)) = false := decide_eq_false c3
    clear c3
    replace H := Option.bind_eq_some_iff.mp H
    obtain ⟨t351, A70, H⟩ := H
    replace H : (if t351 = true then (if 0 ≤ (wrap64 (2 * a0)) then (some ((l1.length : Int) == (shl .i64 1 (wrap64 (2 * a0))))) else (none)) else (some false)) = some r := H
    have A7 := Aside0.mk A70
    clear A70
    by_cases c8 : t351 = true
    ·subst c8
     have H1 : (if 0 ≤ (wrap64 (2 * a0)) then (some ((l1.length : Int) == (shl .i64 1 (wrap64 (2 * a0))))) else (none)) = some r := by rw [if_pos rfl] at H; exact H
     clear H
     have H := H1
     clear H1
     obtain ⟨ji9, hji9⟩ : ∃ j_ : Int, (wrap64 (2 * a0)) = j_ := ⟨_, rfl⟩
     replace H : (if 0 ≤ (ji9) then (some ((l1.length : Int) == (shl .i64 1 (ji9)))) else (none)) = some r := by first | (rw [hji9] at H; exact H) | (simp only [hji9] at H ⊢; exact H)
     (try rw [hji9] at A7)
     have hji9w : (IntKind.i64.wrap (2 * a0)) = ji9 := (i64_w _).trans hji9
     by_cases c10 : 0 ≤ (ji9)
     ·rw [if_pos c10] at H
      have c10b0 := eq_true c10
      have c10b1 : decide (0 ≤ (ji9)) = true := decide_eq_true c10
      clear c10
      obtain ⟨ji11, hji11⟩ : ∃ j_ : Int, (shl .i64 1 (ji9)) = j_ := ⟨_, rfl⟩
      replace H : (some ((l1.length : Int) == (ji11))) = some r := by first | (rw [hji11] at H; exact H) | (simp only [hji11] at H ⊢; exact H)
      (try rw [hji11] at A7)
      have hji11_ : (IntKind.i64.wrap (1 * 2 ^ min (ji9).toNat 64)) = ji11 := hji11
      have hji11z : (ji9) ≤ 64 → (IntKind.i64.wrap (1 * 2 ^ (ji9).toNat)) = ji11 := shl_small hji11
      have hji11u : (IntKind.i64.wrap (2 ^ min (ji9).toNat 64)) = ji11 := by have h_ := hji11_; rw [Int.one_mul] at h_; exact h_
      have hji11v : (ji9) ≤ 64 → (IntKind.i64.wrap (2 ^ (ji9).toNat)) = ji11 := fun hle_ => by have h_ := hji11z hle_; rw [Int.one_mul] at h_; exact h_
      have hji11y : (wrap64 (1 * 2 ^ min (ji9).toNat 64)) = ji11 := (i64_w _).symm.trans hji11_
      have hji11x : (ji9) ≤ 64 → (wrap64 (1 * 2 ^ (ji9).toNat)) = ji11 := fun h_ => (i64_w _).symm.trans (hji11z h_)
      obtain rfl := Option.some.inj H
      go_wp2_with (first | ((with_reducible refine gate_callee (f := 52) rfl ?_); refine goesL_ (some 19) rfl rfl Try.func52 (by kernel_rfl) rfl #[.int .i64 a0, .int .i64 0, .int .i64 3] rfl (by (try simp only [List.map_toArray, List.map_cons, List.map_nil]); first | done | rfl | (simp only [List.length_drop, List.length_take]; rfl)) ?_; (with_reducible refine (spec_l1In.calls a0 0 3 true _ A7.out).mono ?_); rintro e w' ⟨rfl, ⟨nd, rfl⟩⟩; refine ⟨_, rfl, ?_⟩))
      go_ret
      exact ⟨by first | rfl | (simp; done) | (simp only [← hji9, ← hji11] <;> (first | rfl | simp)) | (simp [*]; done), by repeat (first | exact Drawn0.refl _ | apply Drawn0.step)⟩
     ·rw [if_neg c10] at H
      exact absurd H (by simp)
    ·replace c8 := Bool.eq_false_iff.mpr c8
     subst c8
     have H1 : (some false) = some r := by rw [if_neg (show ¬ (false = true) by decide)] at H; exact H
     clear H
     have H := H1
     clear H1
     obtain rfl := Option.some.inj H
     go_wp2_with (first | ((with_reducible refine gate_callee (f := 52) rfl ?_); refine goesL_ (some 19) rfl rfl Try.func52 (by kernel_rfl) rfl #[.int .i64 a0, .int .i64 0, .int .i64 3] rfl (by (try simp only [List.map_toArray, List.map_cons, List.map_nil]); first | done | rfl | (simp only [List.length_drop, List.length_take]; rfl)) ?_; (with_reducible refine (spec_l1In.calls a0 0 3 false _ A7.out).mono ?_); rintro e w' ⟨rfl, ⟨nd, rfl⟩⟩; refine ⟨_, rfl, ?_⟩))
     go_ret
     exact ⟨by first | rfl | (simp; done) | (simp [*]; done), by repeat (first | exact Drawn0.refl _ | apply Drawn0.step)⟩
/-! ### spec_LooksInside: function 26 -/
mutual
def spec_LooksInside.l0 : Nat → Int → List Int → Int → Option (Bool)
 | 0, _, _, _ => none
 | k + 1, x0, x1, x5 => if 0 ≤ x0 then (if x5 < (shl .i64 1 x0) then (spec_LooksInside.l1 k x0 x1 x5 0) else (some true)) else (none)
def spec_LooksInside.l1 : Nat → Int → List Int → Int → Int → Option (Bool)
 | 0, _, _, _, _ => none
 | k + 1, x0, x1, x5, x6 => if 0 ≤ x0 then (if x6 < (shl .i64 1 x0) then (if 0 ≤ (wrap64 ((shl .i64 x5 x0) + x6)) then (if (wrap64 ((shl .i64 x5 x0) + x6)) < (x1.length : Int) then ((spec_l2Both.f k x5 x6).bind fun t354 => (if 0 ≤ (wrap64 ((shl .i64 x5 x0) + t354)) then (if (wrap64 ((shl .i64 x5 x0) + t354)) < (x1.length : Int) then (if (rd x1 (wrap64 ((shl .i64 x5 x0) + x6))) = (rd x1 (wrap64 ((shl .i64 x5 x0) + t354))) then (spec_LooksInside.l1 k x0 x1 x5 (wrap64 (x6 + 1))) else (some false)) else (none)) else (none))) else (none)) else (none)) else (spec_LooksInside.l0 k x0 x1 (wrap64 (x5 + 1)))) else (none)
end
def spec_LooksInside.f (k : Nat) (a0 : Int) (l1 : List Int) : Option (Bool) := (spec_RelationOk.f k a0 l1).bind fun t352 => (if t352 = true then (spec_LooksInside.l0 k a0 l1 0) else (some false))
theorem spec_LooksInside.mono_l : ∀ k, (∀ y0 y1 y2, LeO (spec_LooksInside.l0 k y0 y1 y2) (spec_LooksInside.l0 (k + 1) y0 y1 y2)) ∧ (∀ y0 y1 y2 y3, LeO (spec_LooksInside.l1 k y0 y1 y2 y3) (spec_LooksInside.l1 (k + 1) y0 y1 y2 y3))
 | 0 => ⟨fun _ _ _ r h => by simp [spec_LooksInside.l0] at h, fun _ _ _ _ r h => by simp [spec_LooksInside.l1] at h⟩
 | k + 1 => by
  obtain ⟨ih0, ih1⟩ := spec_LooksInside.mono_l k
  refine ⟨?_, ?_⟩
  ·intro y0 y1 y2
   unfold spec_LooksInside.l0
   repeat' first
   | (with_reducible exact ih0 _ _ _)
   | (with_reducible exact ih1 _ _ _ _)
   | (with_reducible exact spec_RelationOk.mono _ _ _)
   | (with_reducible exact spec_l2Both.mono _ _ _)
   | (with_reducible exact LeO.refl _)
   | (with_reducible exact LeO.none _)
   | (with_reducible refine LeO.ite ?_ ?_)
   | (with_reducible refine LeO.bind ?_ (fun _ => ?_))
  ·intro y0 y1 y2 y3
   unfold spec_LooksInside.l1
   repeat' first
   | (with_reducible exact ih0 _ _ _)
   | (with_reducible exact ih1 _ _ _ _)
   | (with_reducible exact spec_RelationOk.mono _ _ _)
   | (with_reducible exact spec_l2Both.mono _ _ _)
   | (with_reducible exact LeO.refl _)
   | (with_reducible exact LeO.none _)
   | (with_reducible refine LeO.ite ?_ ?_)
   | (with_reducible refine LeO.bind ?_ (fun _ => ?_))
theorem spec_LooksInside.mono : ∀ a0 a1 k, LeO (spec_LooksInside.f k a0 a1) (spec_LooksInside.f (k + 1) a0 a1) := by
 intro a0 a1 k
 obtain ⟨ih0, ih1⟩ := spec_LooksInside.mono_l k
 unfold spec_LooksInside.f
 repeat' first
   | (with_reducible exact ih0 _ _ _)
   | (with_reducible exact ih1 _ _ _ _)
   | (with_reducible exact spec_RelationOk.mono _ _ _)
   | (with_reducible exact spec_l2Both.mono _ _ _)
   | (with_reducible exact LeO.refl _)
   | (with_reducible exact LeO.none _)
   | (with_reducible refine LeO.ite ?_ ?_)
   | (with_reducible refine LeO.bind ?_ (fun _ => ?_))
set_option maxHeartbeats 8000000 in
set_option maxRecDepth 100000 in
theorem spec_LooksInside.calls (k : Nat) (a0 : Int) (A1 : Option Addr) (c1 : Nat) (l1 : List Int) (r : Bool) (w : World) (hr1 : Kd.C (Kd.int .i64) w A1 l1.length l1) (hc1 : l1.length ≤ c1) (h : spec_LooksInside.f k a0 l1 = some r) :
  Calls Try.prog 26 #[.int .i64 a0, .slice A1 l1.length c1] w fun e w' => e = .returned (.bool r) ∧ Drawn0 w w' := by
 have HR1 := Aside0.mk hr1
 have HC1 := Aside0.mk hc1
 clear hr1 hc1
 have H : ((spec_RelationOk.f k a0 l1).bind fun t352 => (if t352 = true then (spec_LooksInside.l0 k a0 l1 0) else (some false))) = some r := h
 clear h
 replace H := Option.bind_eq_some_iff.mp H
 obtain ⟨t352, A30, H⟩ := H
 replace H : (if t352 = true then (spec_LooksInside.l0 k a0 l1 0) else (some false)) = some r := H
 have A3 := Aside0.mk A30
 clear A30
 by_cases c4 : t352 = true
 ·subst c4
  have H1 : (spec_LooksInside.l0 k a0 l1 0) = some r := by rw [if_pos rfl] at H; exact H
  clear H
  have H := H1
  clear H1
  have H' := Aside0.mk H
  clear H
  go_enter Try.func26, Try.ntmps26
  go_wp2_with (first | (go_at_call 21; (with_reducible refine (spec_RelationOk.calls k a0 _ _ l1 true _ ?side1 ?side2 A3.out).mono ?_); (case side1 => repeat (first | exact HR1.out | (with_reducible refine Kd.C_alloc ?_ _) | (with_reducible refine Kd.C_drewN ?_ _) | (with_reducible refine Kd.C_drew ?_))); (case side2 => exact HC1.out); rintro e w' ⟨rfl, ⟨nd, rfl⟩⟩; (try first | exact ⟨rfl, _, World.drewN_drewN _ _ _⟩ | exact ⟨rfl, _, Eq.trans (World.drewN_drewN _ _ _) (congrArg (World.drewN _) (Nat.add_assoc _ _ _))⟩)))
  repeat (go_quiet (first | (go_at_call 21; (with_reducible refine (spec_RelationOk.calls k a0 _ _ l1 true _ ?side1 ?side2 A3.out).mono ?_); (case side1 => repeat (first | exact HR1.out | (with_reducible refine Kd.C_alloc ?_ _) | (with_reducible refine Kd.C_drewN ?_ _) | (with_reducible refine Kd.C_drew ?_))); (case side2 => exact HC1.out); rintro e w' ⟨rfl, ⟨nd, rfl⟩⟩; (try first | exact ⟨rfl, _, World.drewN_drewN _ _ _⟩ | exact ⟨rfl, _, Eq.trans (World.drewN_drewN _ _ _) (congrArg (World.drewN _) (Nat.add_assoc _ _ _))⟩))); try go_wp2_with (first | (go_at_call 21; (with_reducible refine (spec_RelationOk.calls k a0 _ _ l1 true _ ?side1 ?side2 A3.out).mono ?_); (case side1 => repeat (first | exact HR1.out | (with_reducible refine Kd.C_alloc ?_ _) | (with_reducible refine Kd.C_drewN ?_ _) | (with_reducible refine Kd.C_drew ?_))); (case side2 => exact HC1.out); rintro e w' ⟨rfl, ⟨nd, rfl⟩⟩; (try first | exact ⟨rfl, _, World.drewN_drewN _ _ _⟩ | exact ⟨rfl, _, Eq.trans (World.drewN_drewN _ _ _) (congrArg (World.drewN _) (Nat.add_assoc _ _ _))⟩))))
  go_loopg [5] k (fun kq v5 w' => ∃ (x5_1 : Int), v5 = .int .i64 x5_1 ∧ Aside0 (spec_LooksInside.l0 kq a0 l1 x5_1 = some r) ∧ Aside0 (kq ≤ k) ∧ Drawn0 w w')
  case atStart => exact ⟨(0), (by first | rfl | (simp; done) | (simp [*]; done)), H', ⟨Nat.le_refl _⟩, by repeat (first | exact Drawn0.refl _ | apply Drawn0.step)⟩
  case round =>
   clear H'
   try clear c1
   try clear c2
   try clear p2
   try clear c4
   obtain ⟨x5_1, rfl, HA, HK1, ⟨m1, rfl⟩⟩ := hrel
   cases gk with
   | zero => exact absurd HA.out (by simp [spec_LooksInside.l0])
   | succ k1 =>
    have H := HA.out
    clear HA
    simp only [spec_LooksInside.l0] at H
    by_cases c5 : 0 ≤ a0
    ·rw [if_pos c5] at H
     have c5b0 := eq_true c5
     have c5b1 : decide (0 ≤ a0) = true := decide_eq_true c5
     clear c5
     obtain ⟨ji6, hji6⟩ : ∃ j_ : Int, (shl .i64 1 a0) = j_ := ⟨_, rfl⟩
     replace H : (if x5_1 < (ji6) then (spec_LooksInside.l1 k1 a0 l1 x5_1 0) else (some true)) = some r := by first | (rw [hji6] at H; exact H) | (simp only [hji6] at H ⊢; exact H)
     have hji6_ : (IntKind.i64.wrap (1 * 2 ^ min a0.toNat 64)) = ji6 := hji6
     have hji6z : a0 ≤ 64 → (IntKind.i64.wrap (1 * 2 ^ a0.toNat)) = ji6 := shl_small hji6
     have hji6u : (IntKind.i64.wrap (2 ^ min a0.toNat 64)) = ji6 := by have h_ := hji6_; rw [Int.one_mul] at h_; exact h_
     have hji6v : a0 ≤ 64 → (IntKind.i64.wrap (2 ^ a0.toNat)) = ji6 := fun hle_ => by have h_ := hji6z hle_; rw [Int.one_mul] at h_; exact h_
     have hji6y : (wrap64 (1 * 2 ^ min a0.toNat 64)) = ji6 := (i64_w _).symm.trans hji6_
     have hji6x : a0 ≤ 64 → (wrap64 (1 * 2 ^ a0.toNat)) = ji6 := fun h_ => (i64_w _).symm.trans (hji6z h_)
     by_cases c7 : x5_1 < (ji6)
     ·rw [if_pos c7] at H
      have c7b0 : decide (x5_1 < (ji6)) = true := decide_eq_true c7
      clear c7
      have H' := Aside0.mk H
      clear H
      go_wp2
      repeat (go_quiet (fail); try go_wp2)
      go_loopg [6] k1 (fun kq v6 w' => ∃ (x6_2 : Int), v6 = .int .i64 x6_2 ∧ Aside0 (spec_LooksInside.l1 kq a0 l1 x5_1 x6_2 = some r) ∧ Aside0 (kq ≤ k1) ∧ Drawn0 w w')
      case atStart => exact ⟨(0), (by first | rfl | (simp; done) | (simp [*]; done)), H', ⟨Nat.le_refl _⟩, by repeat (first | exact Drawn0.refl _ | apply Drawn0.step)⟩
      case round =>
       clear H'
       try clear c1
       try clear c2
       try clear p2
       try clear c4
       try clear c5
       try clear c5b0
       try clear c5b1
       try clear p6
       try clear c7
       try clear c7b0
       try clear p2
       obtain ⟨x6_2, rfl, HA, HK2, ⟨m2, rfl⟩⟩ := hrel
       cases gk with
       | zero => exact absurd HA.out (by simp [spec_LooksInside.l1])
       | succ k2 =>
        have H := HA.out
        clear HA
        simp only [spec_LooksInside.l1] at H
        by_cases c8 : 0 ≤ a0
        ·rw [if_pos c8] at H
         have c8b0 := eq_true c8
         have c8b1 : decide (0 ≤ a0) = true := decide_eq_true c8
         clear c8
         replace H : (if x6_2 < (ji6) then (if 0 ≤ (wrap64 ((shl .i64 x5_1 a0) + x6_2)) then (if (wrap64 ((shl .i64 x5_1 a0) + x6_2)) < (l1.length : Int) then ((spec_l2Both.f k2 x5_1 x6_2).bind fun t354 => (if 0 ≤ (wrap64 ((shl .i64 x5_1 a0) + t354)) then (if (wrap64 ((shl .i64 x5_1 a0) + t354)) < (l1.length : Int) then (if (rd l1 (wrap64 ((shl .i64 x5_1 a0) + x6_2))) = (rd l1 (wrap64 ((shl .i64 x5_1 a0) + t354))) then (spec_LooksInside.l1 k2 a0 l1 x5_1 (wrap64 (x6_2 + 1))) else (some false)) else (none)) else (none))) else (none)) else (none)) else (spec_LooksInside.l0 k2 a0 l1 (wrap64 (x5_1 + 1)))) = some r := by first | exact H | (rw [hji6] at H; exact H) | (simp only [hji6] at H ⊢; exact H)
         by_cases c9 : x6_2 < (ji6)
         ·rw [if_pos c9] at H
          have c9b0 : decide (x6_2 < (ji6)) = true := decide_eq_true c9
          clear c9
          have c10b0 := eq_true (of_decide_eq_true (by first | (with_reducible assumption) | assumption) : 0 ≤ a0)
          obtain ⟨ji11, hji11⟩ : ∃ j_ : Int, (shl .i64 x5_1 a0) = j_ := ⟨_, rfl⟩
          replace H : (if 0 ≤ (wrap64 ((ji11) + x6_2)) then (if (wrap64 ((ji11) + x6_2)) < (l1.length : Int) then ((spec_l2Both.f k2 x5_1 x6_2).bind fun t354 => (if 0 ≤ (wrap64 ((ji11) + t354)) then (if (wrap64 ((ji11) + t354)) < (l1.length : Int) then (if (rd l1 (wrap64 ((ji11) + x6_2))) = (rd l1 (wrap64 ((ji11) + t354))) then (spec_LooksInside.l1 k2 a0 l1 x5_1 (wrap64 (x6_2 + 1))) else (some false)) else (none)) else (none))) else (none)) else (none)) = some r := by first | (rw [hji11] at H; exact H) | (simp only [hji11] at H ⊢; exact H)
          have hji11_ : (IntKind.i64.wrap (x5_1 * 2 ^ min a0.toNat 64)) = ji11 := hji11
          have hji11z : a0 ≤ 64 → (IntKind.i64.wrap (x5_1 * 2 ^ a0.toNat)) = ji11 := shl_small hji11
          have hji11y : (wrap64 (x5_1 * 2 ^ min a0.toNat 64)) = ji11 := (i64_w _).symm.trans hji11_
          have hji11x : a0 ≤ 64 → (wrap64 (x5_1 * 2 ^ a0.toNat)) = ji11 := fun h_ => (i64_w _).symm.trans (hji11z h_)
          obtain ⟨ji12, hji12⟩ : ∃ j_ : Int, (wrap64 ((ji11) + x6_2)) = j_ := ⟨_, rfl⟩
          replace H : (if 0 ≤ (ji12) then (if (ji12) < (l1.length : Int) then ((spec_l2Both.f k2 x5_1 x6_2).bind fun t354 => (if 0 ≤ (wrap64 ((ji11) + t354)) then (if (wrap64 ((ji11) + t354)) < (l1.length : Int) then (if (rd l1 (ji12)) = (rd l1 (wrap64 ((ji11) + t354))) then (spec_LooksInside.l1 k2 a0 l1 x5_1 (wrap64 (x6_2 + 1))) else (some false)) else (none)) else (none))) else (none)) else (none)) = some r := by first | (rw [hji12] at H; exact H) | (simp only [hji12] at H ⊢; exact H)
          have hji12w : (IntKind.i64.wrap ((ji11) + x6_2)) = ji12 := (i64_w _).trans hji12
          by_cases c13 : 0 ≤ (ji12)
          ·rw [if_pos c13] at H
           have c13b0 : decide (0 ≤ (ji12)) = true := decide_eq_true c13
           clear c13
           by_cases c14 : (ji12) < (l1.length : Int)
           ·rw [if_pos c14] at H
            have c14b0 : decide ((ji12) < (l1.length : Int)) = true := decide_eq_true c14
            clear c14
            have c15b0 := eq_true (of_decide_eq_true (by first | (with_reducible assumption) | assumption) : 0 ≤ a0)
            replace H := Option.bind_eq_some_iff.mp H
            obtain ⟨t354, A160, H⟩ := H
            replace H : (if 0 ≤ (wrap64 ((ji11) + t354)) then (if (wrap64 ((ji11) + t354)) < (l1.length : Int) then (if (rd l1 (ji12)) = (rd l1 (wrap64 ((ji11) + t354))) then (spec_LooksInside.l1 k2 a0 l1 x5_1 (wrap64 (x6_2 + 1))) else (some false)) else (none)) else (none)) = some r := H
            have A16 := Aside0.mk A160
            clear A160
            obtain ⟨ji17, hji17⟩ : ∃ j_ : Int, (wrap64 ((ji11) + t354)) = j_ := ⟨_, rfl⟩
            replace H : (if 0 ≤ (ji17) then (if (ji17) < (l1.length : Int) then (if (rd l1 (ji12)) = (rd l1 (ji17)) then (spec_LooksInside.l1 k2 a0 l1 x5_1 (wrap64 (x6_2 + 1))) else (some false)) else (none)) else (none)) = some r := by first | (rw [hji17] at H; exact H) | (simp only [hji17] at H ⊢; exact H)
            (try rw [hji17] at A16)
            have hji17w : (IntKind.i64.wrap ((ji11) + t354)) = ji17 := (i64_w _).trans hji17
            by_cases c18 : 0 ≤ (ji17)
            ·rw [if_pos c18] at H
             have c18b0 : decide (0 ≤ (ji17)) = true := decide_eq_true c18
             clear c18
             by_cases c19 : (ji17) < (l1.length : Int)
             ·rw [if_pos c19] at H
              have c19b0 : decide ((ji17) < (l1.length : Int)) = true := decide_eq_true c19
              clear c19
              by_cases c20 : (rd l1 (ji12)) = (rd l1 (ji17))
              ·rw [if_pos c20] at H
               have c20b0 : ((rd l1 (ji12)) == (rd l1 (ji17))) = true := beq_iff_eq.mpr c20
               have c20b1 : ((rd l1 (ji12)) != (rd l1 (ji17))) = false := bne_eq_false_iff_eq.mpr c20
               clear c20
               have H' := Aside0.mk H
               clear H
               have p353 : 0 ≤ ((ji12) : Int) := of_decide_eq_true (by first | (with_reducible assumption) | assumption)
               have q353 : (ji12) < (l1.length : Int) := of_decide_eq_true (by first | (with_reducible assumption) | assumption)
               obtain ⟨ad353, e353, hx353_0⟩ := Kd.at_int HR1.out (ji12) p353 q353
               cases e353
               replace p353 := eq_true p353
               replace q353 := eq_true q353
               go_wp2_with (first | (go_at_call 54; (with_reducible refine (spec_l2Both.calls k2 x5_1 x6_2 t354 _ A16.out).mono ?_); rintro e w' ⟨rfl, ⟨nd, rfl⟩⟩; (try first | exact ⟨rfl, _, World.drewN_drewN _ _ _⟩ | exact ⟨rfl, _, Eq.trans (World.drewN_drewN _ _ _) (congrArg (World.drewN _) (Nat.add_assoc _ _ _))⟩); have p355 : 0 ≤ ((ji17) : Int) := of_decide_eq_true (by first | (with_reducible assumption) | assumption); have q355 : (ji17) < (l1.length : Int) := of_decide_eq_true (by first | (with_reducible assumption) | assumption); obtain ⟨ad355, e355, hx355_0⟩ := Kd.at_int HR1.out (ji17) p355 q355; obtain rfl : ad353 = ad355 := (by injection e355); replace p355 := eq_true p355; replace q355 := eq_true q355))
               repeat (go_quiet (first | (go_at_call 54; (with_reducible refine (spec_l2Both.calls k2 x5_1 x6_2 t354 _ A16.out).mono ?_); rintro e w' ⟨rfl, ⟨nd, rfl⟩⟩; (try first | exact ⟨rfl, _, World.drewN_drewN _ _ _⟩ | exact ⟨rfl, _, Eq.trans (World.drewN_drewN _ _ _) (congrArg (World.drewN _) (Nat.add_assoc _ _ _))⟩); have p355 : 0 ≤ ((ji17) : Int) := of_decide_eq_true (by first | (with_reducible assumption) | assumption); have q355 : (ji17) < (l1.length : Int) := of_decide_eq_true (by first | (with_reducible assumption) | assumption); obtain ⟨ad355, e355, hx355_0⟩ := Kd.at_int HR1.out (ji17) p355 q355; obtain rfl : ad353 = ad355 := (by injection e355); replace p355 := eq_true p355; replace q355 := eq_true q355)); try go_wp2_with (first | (go_at_call 54; (with_reducible refine (spec_l2Both.calls k2 x5_1 x6_2 t354 _ A16.out).mono ?_); rintro e w' ⟨rfl, ⟨nd, rfl⟩⟩; (try first | exact ⟨rfl, _, World.drewN_drewN _ _ _⟩ | exact ⟨rfl, _, Eq.trans (World.drewN_drewN _ _ _) (congrArg (World.drewN _) (Nat.add_assoc _ _ _))⟩); have p355 : 0 ≤ ((ji17) : Int) := of_decide_eq_true (by first | (with_reducible assumption) | assumption); have q355 : (ji17) < (l1.length : Int) := of_decide_eq_true (by first | (with_reducible assumption) | assumption); obtain ⟨ad355, e355, hx355_0⟩ := Kd.at_int HR1.out (ji17) p355 q355; obtain rfl : ad353 = ad355 := (by injection e355); replace p355 := eq_true p355; replace q355 := eq_true q355)))
               go_roundg k2
               case measure => have := HK1.out; have := HK2.out; omega
               case rel => exact ⟨(wrap64 (x6_2 + 1)), (by first | rfl | (simp; done) | (simp [*]; done)), H', ⟨by have := HK1.out; have := HK2.out; omega⟩, by repeat (first | exact Drawn0.refl _ | apply Drawn0.step)⟩
              ·rw [if_neg c20] at H
               have c20b0 : ((rd l1 (ji12)) == (rd l1 (ji17))) = false := beq_eq_false_iff_ne.mpr c20
               have c20b1 : ((rd l1 (ji12)) != (rd l1 (ji17))) = true := bne_iff_ne.mpr c20
               obtain rfl := Option.some.inj H
               have p353 : 0 ≤ ((ji12) : Int) := of_decide_eq_true (by first | (with_reducible assumption) | assumption)
               have q353 : (ji12) < (l1.length : Int) := of_decide_eq_true (by first | (with_reducible assumption) | assumption)
               obtain ⟨ad353, e353, hx353_0⟩ := Kd.at_int HR1.out (ji12) p353 q353
               cases e353
               replace p353 := eq_true p353
               replace q353 := eq_true q353
               go_wp2_with (first | (go_at_call 54; (with_reducible refine (spec_l2Both.calls k2 x5_1 x6_2 t354 _ A16.out).mono ?_); rintro e w' ⟨rfl, ⟨nd, rfl⟩⟩; (try first | exact ⟨rfl, _, World.drewN_drewN _ _ _⟩ | exact ⟨rfl, _, Eq.trans (World.drewN_drewN _ _ _) (congrArg (World.drewN _) (Nat.add_assoc _ _ _))⟩); have p355 : 0 ≤ ((ji17) : Int) := of_decide_eq_true (by first | (with_reducible assumption) | assumption); have q355 : (ji17) < (l1.length : Int) := of_decide_eq_true (by first | (with_reducible assumption) | assumption); obtain ⟨ad355, e355, hx355_0⟩ := Kd.at_int HR1.out (ji17) p355 q355; obtain rfl : ad353 = ad355 := (by injection e355); replace p355 := eq_true p355; replace q355 := eq_true q355))
               repeat (go_quiet (first | (go_at_call 54; (with_reducible refine (spec_l2Both.calls k2 x5_1 x6_2 t354 _ A16.out).mono ?_); rintro e w' ⟨rfl, ⟨nd, rfl⟩⟩; (try first | exact ⟨rfl, _, World.drewN_drewN _ _ _⟩ | exact ⟨rfl, _, Eq.trans (World.drewN_drewN _ _ _) (congrArg (World.drewN _) (Nat.add_assoc _ _ _))⟩); have p355 : 0 ≤ ((ji17) : Int) := of_decide_eq_true (by first | (with_reducible assumption) | assumption); have q355 : (ji17) < (l1.length : Int) := of_decide_eq_true (by first | (with_reducible assumption) | assumption); obtain ⟨ad355, e355, hx355_0⟩ := Kd.at_int HR1.out (ji17) p355 q355; obtain rfl : ad353 = ad355 := (by injection e355); replace p355 := eq_true p355; replace q355 := eq_true q355)); try go_wp2_with (first | (go_at_call 54; (with_reducible refine (spec_l2Both.calls k2 x5_1 x6_2 t354 _ A16.out).mono ?_); rintro e w' ⟨rfl, ⟨nd, rfl⟩⟩; (try first | exact ⟨rfl, _, World.drewN_drewN _ _ _⟩ | exact ⟨rfl, _, Eq.trans (World.drewN_drewN _ _ _) (congrArg (World.drewN _) (Nat.add_assoc _ _ _))⟩); have p355 : 0 ≤ ((ji17) : Int) := of_decide_eq_true (by first | (with_reducible assumption) | assumption); have q355 : (ji17) < (l1.length : Int) := of_decide_eq_true (by first | (with_reducible assumption) | assumption); obtain ⟨ad355, e355, hx355_0⟩ := Kd.at_int HR1.out (ji17) p355 q355; obtain rfl : ad353 = ad355 := (by injection e355); replace p355 := eq_true p355; replace q355 := eq_true q355)))
               go_ret
               exact ⟨by first | rfl | (simp; done) | (simp only [← hji6, ← hji11, ← hji12, ← hji17] <;> (first | rfl | simp)) | (simp [*]; done), by repeat (first | exact Drawn0.refl _ | apply Drawn0.step)⟩
             ·rw [if_neg c19] at H
              exact absurd H (by simp)
            ·rw [if_neg c18] at H
             exact absurd H (by simp)
           ·rw [if_neg c14] at H
            exact absurd H (by simp)
          ·rw [if_neg c13] at H
           exact absurd H (by simp)
         ·rw [if_neg c9] at H
          have c9b0 : decide (x6_2 < (ji6)) = false := decide_eq_false c9
          clear c9
          have H' := Aside0.mk H
          clear H
          go_wp2
          repeat (go_quiet (fail); try go_wp2)
          go_roundg k2
          case measure => have := HK1.out; have := HK2.out; omega
          case rel => exact ⟨(wrap64 (x5_1 + 1)), (by first | rfl | (simp; done) | (simp [*]; done)), H', ⟨by have := HK1.out; have := HK2.out; omega⟩, by repeat (first | exact Drawn0.refl _ | apply Drawn0.step)⟩
        ·rw [if_neg c8] at H
         exact absurd H (by simp)
     ·rw [if_neg c7] at H
      have c7b0 : decide (x5_1 < (ji6)) = false := decide_eq_false c7
      clear c7
      obtain rfl := Option.some.inj H
      go_wp2
      repeat (go_quiet (fail); try go_wp2)
      go_ret
      exact ⟨by first | rfl | (simp; done) | (simp only [← hji6] <;> (first | rfl | simp)) | (simp [*]; done), by repeat (first | exact Drawn0.refl _ | apply Drawn0.step)⟩
    ·rw [if_neg c5] at H
     exact absurd H (by simp)
 ·replace c4 := Bool.eq_false_iff.mpr c4
  subst c4
  have H1 : (some false) = some r := by rw [if_neg (show ¬ (false = true) by decide)] at H; exact H
  clear H
  have H := H1
  clear H1
  obtain rfl := Option.some.inj H
  go_enter Try.func26, Try.ntmps26
  go_wp2_with (first | (go_at_call 21; (with_reducible refine (spec_RelationOk.calls k a0 _ _ l1 false _ ?side1 ?side2 A3.out).mono ?_); (case side1 => repeat (first | exact HR1.out | (with_reducible refine Kd.C_alloc ?_ _) | (with_reducible refine Kd.C_drewN ?_ _) | (with_reducible refine Kd.C_drew ?_))); (case side2 => exact HC1.out); rintro e w' ⟨rfl, ⟨nd, rfl⟩⟩; (try first | exact ⟨rfl, _, World.drewN_drewN _ _ _⟩ | exact ⟨rfl, _, Eq.trans (World.drewN_drewN _ _ _) (congrArg (World.drewN _) (Nat.add_assoc _ _ _))⟩)))
  repeat (go_quiet (first | (go_at_call 21; (with_reducible refine (spec_RelationOk.calls k a0 _ _ l1 false _ ?side1 ?side2 A3.out).mono ?_); (case side1 => repeat (first | exact HR1.out | (with_reducible refine Kd.C_alloc ?_ _) | (with_reducible refine Kd.C_drewN ?_ _) | (with_reducible refine Kd.C_drew ?_))); (case side2 => exact HC1.out); rintro e w' ⟨rfl, ⟨nd, rfl⟩⟩; (try first | exact ⟨rfl, _, World.drewN_drewN _ _ _⟩ | exact ⟨rfl, _, Eq.trans (World.drewN_drewN _ _ _) (congrArg (World.drewN _) (Nat.add_assoc _ _ _))⟩))); try go_wp2_with (first | (go_at_call 21; (with_reducible refine (spec_RelationOk.calls k a0 _ _ l1 false _ ?side1 ?side2 A3.out).mono ?_); (case side1 => repeat (first | exact HR1.out | (with_reducible refine Kd.C_alloc ?_ _) | (with_reducible refine Kd.C_drewN ?_ _) | (with_reducible refine Kd.C_drew ?_))); (case side2 => exact HC1.out); rintro e w' ⟨rfl, ⟨nd, rfl⟩⟩; (try first | exact ⟨rfl, _, World.drewN_drewN _ _ _⟩ | exact ⟨rfl, _, Eq.trans (World.drewN_drewN _ _ _) (congrArg (World.drewN _) (Nat.add_assoc _ _ _))⟩))))
  go_ret
  exact ⟨by first | rfl | (simp; done) | (simp [*]; done), by repeat (first | exact Drawn0.refl _ | apply Drawn0.step)⟩
end Go.Proofs.Ytcongmckkjbhiaa.P
