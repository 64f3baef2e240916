-- Texts of this claim, laid one behind the other by wip/gen/merge.py.
import Derived.Test.YtcdeofiigjgfaaaDoorZFnReadTriangle0
import Derived.Test.YtcdeofiigjgfaaaDoorZFnReadTriangle1
import Derived.Test.YtcdeofiigjgfaaaDoorZFnReadTriangle7
import Derived.Test.YtcdeofiigjgfaaaDoorZFnReadTriangle8
-- Written by wip/gen/lay.py, a program of this session, with the kit's print as its base. Lean checks every line.
namespace Go.Proofs.YtcdeofiigjgfaaaDoor.P
open Go.RowKit Go.Proofs.YtcdeofiigjgfaaaDoorW.PrintWords Go.Proofs.YtcdeofiigjgfaaaDoorW.PrintLast Go.Proofs.YtcdeofiigjgfaaaDoorW.PrintMore
attribute [local go_sem] max2_int min2_int max_two min_two max_three min_three max_four min_four   -- for this text's walks alone
set_option linter.unusedVariables false
set_option linter.unusedSimpArgs false

/-! ### spec_DrawReadTriangle: function 14 -/
def spec_DrawReadTriangle.f (k : Nat) (l0 : List Int) : Option (ByteArray) := (spec_l20Open.f l0).bind fun bt339 => ((spec_l20Tri.f k bt339.1 bt339.2 0).bind fun bt342 => ((spec_TriangleText.f k bt342.1).bind fun t346 => ((spec_l20Rd_pick.f k bt339.1 bt342.2 3).bind fun bt347 => (if bt347.1 = 0 then ((spec_l20Rd_pick.f k bt339.1 bt347.2 (t346.size : Int)).bind fun bt349 => (if 0 ≤ bt349.1 then (if bt349.1 ≤ (t346.size : Int) then ((some (([(⟨#[]⟩ : ByteArray), (⟨#[48]⟩ : ByteArray), (⟨#[47]⟩ : ByteArray), (⟨#[50]⟩ : ByteArray)] : List ByteArray) : List ByteArray)).bind fun y351 => ((spec_l20Rd_pick.f k bt339.1 bt349.2 4).bind fun bt354 => (if 0 ≤ bt354.1 then (if bt354.1 < (y351.length : Int) then (if (t346.extract 0 (bt349.1 : Int).toNat).size + (rdOf ByteArray.empty y351 bt354.1).size ≤ 9223372036854775807 then (if 0 ≤ (wrap64 (bt349.1 + 1)) then (if (wrap64 (bt349.1 + 1)) ≤ (t346.size : Int) then (if ((t346.extract 0 (bt349.1 : Int).toNat) ++ (rdOf ByteArray.empty y351 bt354.1)).size + (t346.extract ((wrap64 (bt349.1 + 1)) : Int).toNat t346.size).size ≤ 9223372036854775807 then (some (((t346.extract 0 (bt349.1 : Int).toNat) ++ (rdOf ByteArray.empty y351 bt354.1)) ++ (t346.extract ((wrap64 (bt349.1 + 1)) : Int).toNat t346.size))) else (none)) else (none)) else (none)) else (none)) else (none)) else (none)))) else (none)) else (none))) else (some t346)))))
theorem spec_DrawReadTriangle.mono : ∀ a0 k, LeO (spec_DrawReadTriangle.f k a0) (spec_DrawReadTriangle.f (k + 1) a0) := by
  intro a0 k
  unfold spec_DrawReadTriangle.f
  repeat' first
      | (with_reducible exact spec_TriangleText.mono _ _)
      | (with_reducible exact spec_l20Rd_pick.mono _ _ _ _)
      | (with_reducible exact spec_l20Tri.mono _ _ _ _)
      | (with_reducible exact LeO.refl _)
      | (with_reducible exact LeO.none _)
      | (with_reducible refine LeO.ite ?_ ?_)
      | (with_reducible refine LeO.bind ?_ (fun _ => ?_))
      | exact spec_TriangleText.mono _ _
      | exact spec_l20Rd_pick.mono _ _ _ _
      | exact spec_l20Tri.mono _ _ _ _
      | exact LeO.none _
      | refine LeO.ite ?_ ?_
      | refine LeO.bind ?_ (fun _ => ?_)
def spec_DrawReadTriangle.T5 : Bool × List (List Nat × List Nat) := (true, [([], []), ([], []), ([0, 1], [0, 1]), ([], []), ([], []), ([4], [4]), ([3, 5], [3, 5]), ([6], [6]), ([2, 7], [2, 7]), ([], []), ([], []), ([10], [10]), ([9, 11], [9, 11]), ([8, 12], [8, 12]), ([13, 5, 0, 1, 2, 3, 4, 5, 6, 7, 8, 9, 10, 11, 12, 13], [13])])
def spec_DrawReadTriangle.B5 : List Nat := [0, 0, 3, 0, 0, 16, 56, 120, 255, 0, 0, 1024, 3584, 8191, 16383]
theorem spec_DrawReadTriangle.tab5 : rtab .any (opsOf Tryd.f14 5) = spec_DrawReadTriangle.T5 := by kernel_rfl
theorem spec_DrawReadTriangle.bits5 : waitsOk spec_DrawReadTriangle.T5.2 spec_DrawReadTriangle.B5 = true := by kernel_rfl
set_option maxHeartbeats 8000000 in
set_option maxRecDepth 100000 in
theorem spec_DrawReadTriangle.calls (k : Nat) (A0 : Option Addr) (c0 : Nat) (l0 : List Int) (r : ByteArray) (w : World) (hr0 : Kd.C (Kd.int .u8) w A0 l0.length l0) (hc0 : l0.length ≤ c0) (h : spec_DrawReadTriangle.f k l0 = some r) :
    Calls Tryd.prog 14 #[.slice A0 l0.length c0] w fun e w' => e = .returned (.string r) ∧ Below w.heap.size w w' := by
  have HR0 := Aside0.mk hr0
  have HC0 := Aside0.mk hc0
  clear hr0 hc0
  have HB := Aside0.mk (Below.refl w.heap.size w)
  have H : ((spec_l20Open.f l0).bind fun bt339 => ((spec_l20Tri.f k bt339.1 bt339.2 0).bind fun bt342 => ((spec_TriangleText.f k bt342.1).bind fun t346 => ((spec_l20Rd_pick.f k bt339.1 bt342.2 3).bind fun bt347 => (if bt347.1 = 0 then ((spec_l20Rd_pick.f k bt339.1 bt347.2 (t346.size : Int)).bind fun bt349 => (if 0 ≤ bt349.1 then (if bt349.1 ≤ (t346.size : Int) then ((some (([(⟨#[]⟩ : ByteArray), (⟨#[48]⟩ : ByteArray), (⟨#[47]⟩ : ByteArray), (⟨#[50]⟩ : ByteArray)] : List ByteArray) : List ByteArray)).bind fun y351 => ((spec_l20Rd_pick.f k bt339.1 bt349.2 4).bind fun bt354 => (if 0 ≤ bt354.1 then (if bt354.1 < (y351.length : Int) then (if (t346.extract 0 (bt349.1 : Int).toNat).size + (rdOf ByteArray.empty y351 bt354.1).size ≤ 9223372036854775807 then (if 0 ≤ (wrap64 (bt349.1 + 1)) then (if (wrap64 (bt349.1 + 1)) ≤ (t346.size : Int) then (if ((t346.extract 0 (bt349.1 : Int).toNat) ++ (rdOf ByteArray.empty y351 bt354.1)).size + (t346.extract ((wrap64 (bt349.1 + 1)) : Int).toNat t346.size).size ≤ 9223372036854775807 then (some (((t346.extract 0 (bt349.1 : Int).toNat) ++ (rdOf ByteArray.empty y351 bt354.1)) ++ (t346.extract ((wrap64 (bt349.1 + 1)) : Int).toNat t346.size))) else (none)) else (none)) else (none)) else (none)) else (none)) else (none)))) else (none)) else (none))) else (some t346)))))) = some r := h
  clear h
  replace H := Option.bind_eq_some_iff.mp H
  obtain ⟨⟨t339, t340⟩, A20, H⟩ := H
  replace H : ((spec_l20Tri.f k t339 t340 0).bind fun bt342 => ((spec_TriangleText.f k bt342.1).bind fun t346 => ((spec_l20Rd_pick.f k t339 bt342.2 3).bind fun bt347 => (if bt347.1 = 0 then ((spec_l20Rd_pick.f k t339 bt347.2 (t346.size : Int)).bind fun bt349 => (if 0 ≤ bt349.1 then (if bt349.1 ≤ (t346.size : Int) then ((some (([(⟨#[]⟩ : ByteArray), (⟨#[48]⟩ : ByteArray), (⟨#[47]⟩ : ByteArray), (⟨#[50]⟩ : ByteArray)] : List ByteArray) : List ByteArray)).bind fun y351 => ((spec_l20Rd_pick.f k t339 bt349.2 4).bind fun bt354 => (if 0 ≤ bt354.1 then (if bt354.1 < (y351.length : Int) then (if (t346.extract 0 (bt349.1 : Int).toNat).size + (rdOf ByteArray.empty y351 bt354.1).size ≤ 9223372036854775807 then (if 0 ≤ (wrap64 (bt349.1 + 1)) then (if (wrap64 (bt349.1 + 1)) ≤ (t346.size : Int) then (if ((t346.extract 0 (bt349.1 : Int).toNat) ++ (rdOf ByteArray.empty y351 bt354.1)).size + (t346.extract ((wrap64 (bt349.1 + 1)) : Int).toNat t346.size).size ≤ 9223372036854775807 then (some (((t346.extract 0 (bt349.1 : Int).toNat) ++ (rdOf ByteArray.empty y351 bt354.1)) ++ (t346.extract ((wrap64 (bt349.1 + 1)) : Int).toNat t346.size))) else (none)) else (none)) else (none)) else (none)) else (none)) else (none)))) else (none)) else (none))) else (some t346))))) = some r := H
  have A2 := Aside0.mk A20
  clear A20
  replace H := Option.bind_eq_some_iff.mp H
  obtain ⟨⟨t342, t345⟩, A30, H⟩ := H
  replace H : ((spec_TriangleText.f k t342).bind fun t346 => ((spec_l20Rd_pick.f k t339 t345 3).bind fun bt347 => (if bt347.1 = 0 then ((spec_l20Rd_pick.f k t339 bt347.2 (t346.size : Int)).bind fun bt349 => (if 0 ≤ bt349.1 then (if bt349.1 ≤ (t346.size : Int) then ((some (([(⟨#[]⟩ : ByteArray), (⟨#[48]⟩ : ByteArray), (⟨#[47]⟩ : ByteArray), (⟨#[50]⟩ : ByteArray)] : List ByteArray) : List ByteArray)).bind fun y351 => ((spec_l20Rd_pick.f k t339 bt349.2 4).bind fun bt354 => (if 0 ≤ bt354.1 then (if bt354.1 < (y351.length : Int) then (if (t346.extract 0 (bt349.1 : Int).toNat).size + (rdOf ByteArray.empty y351 bt354.1).size ≤ 9223372036854775807 then (if 0 ≤ (wrap64 (bt349.1 + 1)) then (if (wrap64 (bt349.1 + 1)) ≤ (t346.size : Int) then (if ((t346.extract 0 (bt349.1 : Int).toNat) ++ (rdOf ByteArray.empty y351 bt354.1)).size + (t346.extract ((wrap64 (bt349.1 + 1)) : Int).toNat t346.size).size ≤ 9223372036854775807 then (some (((t346.extract 0 (bt349.1 : Int).toNat) ++ (rdOf ByteArray.empty y351 bt354.1)) ++ (t346.extract ((wrap64 (bt349.1 + 1)) : Int).toNat t346.size))) else (none)) else (none)) else (none)) else (none)) else (none)) else (none)))) else (none)) else (none))) else (some t346)))) = some r := H
  have A3 := Aside0.mk A30
  clear A30
  replace H := Option.bind_eq_some_iff.mp H
  obtain ⟨t346, A40, H⟩ := H
  replace H : ((spec_l20Rd_pick.f k t339 t345 3).bind fun bt347 => (if bt347.1 = 0 then ((spec_l20Rd_pick.f k t339 bt347.2 (t346.size : Int)).bind fun bt349 => (if 0 ≤ bt349.1 then (if bt349.1 ≤ (t346.size : Int) then ((some (([(⟨#[]⟩ : ByteArray), (⟨#[48]⟩ : ByteArray), (⟨#[47]⟩ : ByteArray), (⟨#[50]⟩ : ByteArray)] : List ByteArray) : List ByteArray)).bind fun y351 => ((spec_l20Rd_pick.f k t339 bt349.2 4).bind fun bt354 => (if 0 ≤ bt354.1 then (if bt354.1 < (y351.length : Int) then (if (t346.extract 0 (bt349.1 : Int).toNat).size + (rdOf ByteArray.empty y351 bt354.1).size ≤ 9223372036854775807 then (if 0 ≤ (wrap64 (bt349.1 + 1)) then (if (wrap64 (bt349.1 + 1)) ≤ (t346.size : Int) then (if ((t346.extract 0 (bt349.1 : Int).toNat) ++ (rdOf ByteArray.empty y351 bt354.1)).size + (t346.extract ((wrap64 (bt349.1 + 1)) : Int).toNat t346.size).size ≤ 9223372036854775807 then (some (((t346.extract 0 (bt349.1 : Int).toNat) ++ (rdOf ByteArray.empty y351 bt354.1)) ++ (t346.extract ((wrap64 (bt349.1 + 1)) : Int).toNat t346.size))) else (none)) else (none)) else (none)) else (none)) else (none)) else (none)))) else (none)) else (none))) else (some t346))) = some r := H
  have A4 := Aside0.mk A40
  clear A40
  replace H := Option.bind_eq_some_iff.mp H
  obtain ⟨⟨t347, t348⟩, A50, H⟩ := H
  replace H : (if t347 = 0 then ((spec_l20Rd_pick.f k t339 t348 (t346.size : Int)).bind fun bt349 => (if 0 ≤ bt349.1 then (if bt349.1 ≤ (t346.size : Int) then ((some (([(⟨#[]⟩ : ByteArray), (⟨#[48]⟩ : ByteArray), (⟨#[47]⟩ : ByteArray), (⟨#[50]⟩ : ByteArray)] : List ByteArray) : List ByteArray)).bind fun y351 => ((spec_l20Rd_pick.f k t339 bt349.2 4).bind fun bt354 => (if 0 ≤ bt354.1 then (if bt354.1 < (y351.length : Int) then (if (t346.extract 0 (bt349.1 : Int).toNat).size + (rdOf ByteArray.empty y351 bt354.1).size ≤ 9223372036854775807 then (if 0 ≤ (wrap64 (bt349.1 + 1)) then (if (wrap64 (bt349.1 + 1)) ≤ (t346.size : Int) then (if ((t346.extract 0 (bt349.1 : Int).toNat) ++ (rdOf ByteArray.empty y351 bt354.1)).size + (t346.extract ((wrap64 (bt349.1 + 1)) : Int).toNat t346.size).size ≤ 9223372036854775807 then (some (((t346.extract 0 (bt349.1 : Int).toNat) ++ (rdOf ByteArray.empty y351 bt354.1)) ++ (t346.extract ((wrap64 (bt349.1 + 1)) : Int).toNat t346.size))) else (none)) else (none)) else (none)) else (none)) else (none)) else (none)))) else (none)) else (none))) else (some t346)) = some r := H
  have A5 := Aside0.mk A50
  clear A50
  by_cases c6 : t347 = 0
  · rw [if_pos c6] at H
    have c6b0 : (t347 == 0) = true := beq_iff_eq.mpr c6
    have c6b1 : (t347 != 0) = false := bne_eq_false_iff_eq.mpr c6
    clear c6
    replace H := Option.bind_eq_some_iff.mp H
    obtain ⟨⟨t349, t350⟩, A70, H⟩ := H
    replace H : (if 0 ≤ t349 then (if t349 ≤ (t346.size : Int) then ((some (([(⟨#[]⟩ : ByteArray), (⟨#[48]⟩ : ByteArray), (⟨#[47]⟩ : ByteArray), (⟨#[50]⟩ : ByteArray)] : List ByteArray) : List ByteArray)).bind fun y351 => ((spec_l20Rd_pick.f k t339 t350 4).bind fun bt354 => (if 0 ≤ bt354.1 then (if bt354.1 < (y351.length : Int) then (if (t346.extract 0 (t349 : Int).toNat).size + (rdOf ByteArray.empty y351 bt354.1).size ≤ 9223372036854775807 then (if 0 ≤ (wrap64 (t349 + 1)) then (if (wrap64 (t349 + 1)) ≤ (t346.size : Int) then (if ((t346.extract 0 (t349 : Int).toNat) ++ (rdOf ByteArray.empty y351 bt354.1)).size + (t346.extract ((wrap64 (t349 + 1)) : Int).toNat t346.size).size ≤ 9223372036854775807 then (some (((t346.extract 0 (t349 : Int).toNat) ++ (rdOf ByteArray.empty y351 bt354.1)) ++ (t346.extract ((wrap64 (t349 + 1)) : Int).toNat t346.size))) else (none)) else (none)) else (none)) else (none)) else (none)) else (none)))) else (none)) else (none)) = some r := H
    have A7 := Aside0.mk A70
    clear A70
    by_cases c8 : 0 ≤ t349
    · rw [if_pos c8] at H
      have c8b0 := eq_true c8
      have c8b1 : decide (0 ≤ t349) = true := decide_eq_true c8
      clear c8
      by_cases c9 : t349 ≤ (t346.size : Int)
      · rw [if_pos c9] at H
        have c9b0 := eq_true c9
        have c9b1 : decide (t349 ≤ (t346.size : Int)) = true := decide_eq_true c9
        clear c9
        obtain ⟨y351, hy351⟩ : ∃ y_ : List ByteArray, y_ = (([(⟨#[]⟩ : ByteArray), (⟨#[48]⟩ : ByteArray), (⟨#[47]⟩ : ByteArray), (⟨#[50]⟩ : ByteArray)] : List ByteArray)) := ⟨_, rfl⟩
        replace H : ((spec_l20Rd_pick.f k t339 t350 4).bind fun bt354 => (if 0 ≤ bt354.1 then (if bt354.1 < (y351.length : Int) then (if (t346.extract 0 (t349 : Int).toNat).size + (rdOf ByteArray.empty y351 bt354.1).size ≤ 9223372036854775807 then (if 0 ≤ (wrap64 (t349 + 1)) then (if (wrap64 (t349 + 1)) ≤ (t346.size : Int) then (if ((t346.extract 0 (t349 : Int).toNat) ++ (rdOf ByteArray.empty y351 bt354.1)).size + (t346.extract ((wrap64 (t349 + 1)) : Int).toNat t346.size).size ≤ 9223372036854775807 then (some (((t346.extract 0 (t349 : Int).toNat) ++ (rdOf ByteArray.empty y351 bt354.1)) ++ (t346.extract ((wrap64 (t349 + 1)) : Int).toNat t346.size))) else (none)) else (none)) else (none)) else (none)) else (none)) else (none))) = some r := by first | (rw [hy351]; with_reducible exact H) | (have H2_ := (Option.bind_some _ _).symm.trans H; rw [hy351]; with_reducible exact H2_) | (have H2_ := (Option.bind_some _ _).symm.trans H; with_reducible exact H2_) | with_reducible exact H | (rw [hy351]; exact H) | exact H
        have Ny351 := Aside0.mk hy351
        clear hy351
        replace H := Option.bind_eq_some_iff.mp H
        obtain ⟨⟨t354, t355⟩, A100, H⟩ := H
        replace H : (if 0 ≤ t354 then (if t354 < (y351.length : Int) then (if (t346.extract 0 (t349 : Int).toNat).size + (rdOf ByteArray.empty y351 t354).size ≤ 9223372036854775807 then (if 0 ≤ (wrap64 (t349 + 1)) then (if (wrap64 (t349 + 1)) ≤ (t346.size : Int) then (if ((t346.extract 0 (t349 : Int).toNat) ++ (rdOf ByteArray.empty y351 t354)).size + (t346.extract ((wrap64 (t349 + 1)) : Int).toNat t346.size).size ≤ 9223372036854775807 then (some (((t346.extract 0 (t349 : Int).toNat) ++ (rdOf ByteArray.empty y351 t354)) ++ (t346.extract ((wrap64 (t349 + 1)) : Int).toNat t346.size))) else (none)) else (none)) else (none)) else (none)) else (none)) else (none)) = some r := H
        have A10 := Aside0.mk A100
        clear A100
        by_cases c11 : 0 ≤ t354
        · rw [if_pos c11] at H
          have c11b0 : decide (0 ≤ t354) = true := decide_eq_true c11
          clear c11
          by_cases c12 : t354 < (y351.length : Int)
          · rw [if_pos c12] at H
            have c12b0 : decide (t354 < (y351.length : Int)) = true := decide_eq_true c12
            clear c12
            by_cases c13 : (t346.extract 0 (t349 : Int).toNat).size + (rdOf ByteArray.empty y351 t354).size ≤ 9223372036854775807
            · rw [if_pos c13] at H
              have c13b0 := eq_true c13
              have c13b1 : decide ((t346.extract 0 (t349 : Int).toNat).size + (rdOf ByteArray.empty y351 t354).size ≤ 9223372036854775807) = true := decide_eq_true c13
              try have c13b2 : (9223372036854775807 < (t346.extract 0 (t349 : Int).toNat).size + (rdOf ByteArray.empty y351 t354).size) = False := eq_false (Nat.not_lt.2 c13)
              obtain ⟨ji14, hji14⟩ : ∃ j_ : Int, (wrap64 (t349 + 1)) = j_ := ⟨_, rfl⟩
              replace H : (if 0 ≤ (ji14) then (if (ji14) ≤ (t346.size : Int) then (if ((t346.extract 0 (t349 : Int).toNat) ++ (rdOf ByteArray.empty y351 t354)).size + (t346.extract ((ji14) : Int).toNat t346.size).size ≤ 9223372036854775807 then (some (((t346.extract 0 (t349 : Int).toNat) ++ (rdOf ByteArray.empty y351 t354)) ++ (t346.extract ((ji14) : Int).toNat t346.size))) else (none)) else (none)) else (none)) = some r := by first | (rw [hji14] at H; exact H) | (simp only [hji14] at H ⊢; exact H)
              (try rw [hji14] at A2)
              (try rw [hji14] at A3)
              (try rw [hji14] at A4)
              (try rw [hji14] at A5)
              (try rw [hji14] at A7)
              (try rw [hji14] at A10)
              have hji14w : (IntKind.i64.wrap (t349 + 1)) = ji14 := (i64_w _).trans hji14
              by_cases c15 : 0 ≤ (ji14)
              · rw [if_pos c15] at H
                have c15b0 := eq_true c15
                have c15b1 : decide (0 ≤ (ji14)) = true := decide_eq_true c15
                clear c15
                by_cases c16 : (ji14) ≤ (t346.size : Int)
                · rw [if_pos c16] at H
                  have c16b0 := eq_true c16
                  have c16b1 : decide ((ji14) ≤ (t346.size : Int)) = true := decide_eq_true c16
                  clear c16
                  by_cases c17 : ((t346.extract 0 (t349 : Int).toNat) ++ (rdOf ByteArray.empty y351 t354)).size + (t346.extract ((ji14) : Int).toNat t346.size).size ≤ 9223372036854775807
                  · rw [if_pos c17] at H
                    have c17b0 := eq_true c17
                    have c17b1 : decide (((t346.extract 0 (t349 : Int).toNat) ++ (rdOf ByteArray.empty y351 t354)).size + (t346.extract ((ji14) : Int).toNat t346.size).size ≤ 9223372036854775807) = true := decide_eq_true c17
                    try have c17b2 : (9223372036854775807 < ((t346.extract 0 (t349 : Int).toNat) ++ (rdOf ByteArray.empty y351 t354)).size + (t346.extract ((ji14) : Int).toNat t346.size).size) = False := eq_false (Nat.not_lt.2 c17)
                    obtain rfl := Option.some.inj H
                    go_enter Tryd.func14, Tryd.ntmps14
                    try go_wp2_with (first | ((with_reducible refine gate_callee (f := 21) rfl ?_); refine goesL_ (some 7) rfl rfl Tryd.func21 (by kernel_rfl) rfl #[.slice A0 l0.length c0] rfl (by (try simp only [List.map_toArray, List.map_cons, List.map_nil]); first | done | rfl | (simp only [List.length_drop, List.length_take]; rfl)) ?_; (with_reducible refine (spec_l20Open.calls _ _ l0 t339 t340 w _ ?side1 ?side2 ?side3 A2.out).mono ?_); (case side1 => repeat (first | (with_reducible first | exact HB.out | apply below_alloc | apply pw_below_drewN | apply below_drew1) | exact HB.out)); (case side2 => exact HR0.out); (case side3 => exact HC0.out); rintro e w18 ⟨g341, rfl, hi, hb, hb2⟩; refine ⟨_, rfl, ?_⟩; have n0_ := Aside0.mk (hb); have n1_ := Aside0.mk (hi); clear HB; have HB := n0_; have HI341 := n1_; clear n0_ n1_; (try clear hb); (try clear hb2); (try clear hk); (try clear hi)) | ((with_reducible refine gate_callee (f := 20) rfl ?_); refine goesL_ (some 9) rfl rfl Tryd.func20 (by kernel_rfl) rfl #[.pointer (some ⟨g341, 0, none⟩), .int .i64 0] rfl (by (try simp only [List.map_toArray, List.map_cons, List.map_nil]); first | done | rfl | (simp only [List.length_drop, List.length_take]; rfl)) ?_; (with_reducible refine (spec_l20Tri.calls k g341 t339 t340 0 t342 t345 w _ ?side1 ?side2 A3.out).mono ?_); (case side1 => repeat (first | (with_reducible first | exact HI341.out | apply IsS47.alloc | apply IsS47.drewN | apply IsS47.drew | apply IsS47.set_1) | exact HI341.out)); (case side2 => repeat (first | (with_reducible first | exact HB.out | apply below_alloc | apply pw_below_drewN | apply below_drew1 | refine below_set ?_ (IsS47.ge HI341.out)) | exact HB.out)); rintro e w19 ⟨v343, rfl, ho0, hi, hb, hk⟩; refine ⟨_, rfl, ?_⟩; have n0_ := Aside0.mk (Kd.R_lower ho0 (below_size (by repeat (first | (with_reducible first | exact HB.out | apply below_alloc | apply pw_below_drewN | apply below_drew1 | refine below_set ?_ (IsS47.ge HI341.out)) | exact HB.out)))); have n1_ := Aside0.mk (hb); have n2_ := Aside0.mk (hi); clear HB; clear HI341; have HO344 := n0_; have HB := n1_; have HI341 := n2_; clear n0_ n1_ n2_; (try clear hb); (try clear hb2); (try clear hk); (try clear hi); (try clear ho0); obtain ⟨Ao20, co20, eo20⟩ := Kd.R_slice HO344.out; subst eo20) | ((with_reducible refine gate_callee (f := 9) rfl ?_); refine goesL_ (some 10) rfl rfl Tryd.func9 (by kernel_rfl) rfl #[.slice Ao20 t342.length co20] rfl (by (try simp only [List.map_toArray, List.map_cons, List.map_nil]); first | done | rfl | (simp only [List.length_drop, List.length_take]; rfl)) ?_; (with_reducible refine (spec_TriangleText.calls k _ _ t342 t346 _ ?side1 ?side2 A4.out).mono ?_); (case side1 => repeat (first | exact (Kd.R_reads' HO344.out).2.2 | (with_reducible refine Kd.C_alloc ?_ _) | (with_reducible refine Kd.C_drewN ?_ _) | (with_reducible refine Kd.C_drew ?_))); (case side2 => exact (Kd.R_reads' HO344.out).2.1); rintro e w21 ⟨rfl, hb⟩; refine ⟨_, rfl, ?_⟩; have n0_ := Aside0.mk (Kd.R_below (by (with_reducible repeat (first | apply Kd.R_alloc | apply Kd.R_drewN | apply Kd.R_drew)); exact HO344.out) hb); have n1_ := Aside0.mk (IsS47.below (by repeat (first | (with_reducible first | exact HI341.out | apply IsS47.alloc | apply IsS47.drewN | apply IsS47.drew | apply IsS47.set_1) | exact HI341.out)) hb); have n2_ := Aside0.mk (below_step (by repeat (first | (with_reducible first | exact HB.out | apply below_alloc | apply pw_below_drewN | apply below_drew1 | refine below_set ?_ (IsS47.ge HI341.out)) | exact HB.out)) hb); clear HO344; clear HI341; clear HB; have HO344 := n0_; have HI341 := n1_; have HB := n2_; clear n0_ n1_ n2_; (try clear hb); (try clear hb2); (try clear hk); (try clear hi)) | ((with_reducible refine gate_callee (f := 28) rfl ?_); refine goesL_ (some 12) rfl rfl Tryd.func28 (by kernel_rfl) rfl #[.pointer (some ⟨g341, 0, none⟩), .int .i64 3] rfl (by (try simp only [List.map_toArray, List.map_cons, List.map_nil]); first | done | rfl | (simp only [List.length_drop, List.length_take]; rfl)) ?_; (with_reducible refine (spec_l20Rd_pick.calls k g341 t339 t345 3 t347 t348 w _ ?side1 ?side2 A5.out).mono ?_); (case side1 => repeat (first | (with_reducible first | exact HI341.out | apply IsS47.alloc | apply IsS47.drewN | apply IsS47.drew | apply IsS47.set_1) | exact HI341.out)); (case side2 => repeat (first | (with_reducible first | exact HB.out | apply below_alloc | apply pw_below_drewN | apply below_drew1 | refine below_set ?_ (IsS47.ge HI341.out)) | exact HB.out)); rintro e w22 ⟨rfl, hi, hb, hk⟩; refine ⟨_, rfl, ?_⟩; have n0_ := Aside0.mk (Kd.R_mono (Kd.R_keep (IsS47.apart (show IsS47 w _ g341 t339 t345 from by repeat (first | (with_reducible first | exact HI341.out | apply IsS47.alloc | apply IsS47.drewN | apply IsS47.drew | apply IsS47.set_1) | exact HI341.out)) (by (with_reducible repeat (first | apply Kd.R_alloc | apply Kd.R_drewN | apply Kd.R_drew)); exact HO344.out) (by decide)) hk (fun _ h => h.2)) (fun _ h => h.1)); have n1_ := Aside0.mk (hb); have n2_ := Aside0.mk (hi); clear HO344; clear HB; clear HI341; have HO344 := n0_; have HB := n1_; have HI341 := n2_; clear n0_ n1_ n2_; (try clear hb); (try clear hb2); (try clear hk); (try clear hi)) | ((with_reducible refine gate_callee (f := 28) rfl ?_); refine goesL_ (some 17) rfl rfl Tryd.func28 (by kernel_rfl) rfl #[.pointer (some ⟨g341, 0, none⟩), .int .i64 (t346.size : Int)] rfl (by (try simp only [List.map_toArray, List.map_cons, List.map_nil]); first | done | rfl | (simp only [List.length_drop, List.length_take]; rfl)) ?_; (with_reducible refine (spec_l20Rd_pick.calls k g341 t339 t348 (t346.size : Int) t349 t350 w _ ?side1 ?side2 A7.out).mono ?_); (case side1 => repeat (first | (with_reducible first | exact HI341.out | apply IsS47.alloc | apply IsS47.drewN | apply IsS47.drew | apply IsS47.set_1) | exact HI341.out)); (case side2 => repeat (first | (with_reducible first | exact HB.out | apply below_alloc | apply pw_below_drewN | apply below_drew1 | refine below_set ?_ (IsS47.ge HI341.out)) | exact HB.out)); rintro e w23 ⟨rfl, hi, hb, hk⟩; refine ⟨_, rfl, ?_⟩; have n0_ := Aside0.mk (Kd.R_mono (Kd.R_keep (IsS47.apart (show IsS47 w _ g341 t339 t348 from by repeat (first | (with_reducible first | exact HI341.out | apply IsS47.alloc | apply IsS47.drewN | apply IsS47.drew | apply IsS47.set_1) | exact HI341.out)) (by (with_reducible repeat (first | apply Kd.R_alloc | apply Kd.R_drewN | apply Kd.R_drew)); exact HO344.out) (by decide)) hk (fun _ h => h.2)) (fun _ h => h.1)); have n1_ := Aside0.mk (hb); have n2_ := Aside0.mk (hi); clear HO344; clear HB; clear HI341; have HO344 := n0_; have HB := n1_; have HI341 := n2_; clear n0_ n1_ n2_; (try clear hb); (try clear hb2); (try clear hk); (try clear hi)))
                    have pi356 : (0 ≤ (t354 : Int)) = True := eq_true (of_decide_eq_true (by first | (with_reducible assumption) | assumption))
                    have qi356 : (t354 < (y351.length : Int)) = True := eq_true (of_decide_eq_true (by first | (with_reducible assumption) | assumption))
                    have n0_ := Aside0.mk (Kd.R_drew HO344.out)
                    have n1_ := Aside0.mk (IsS47.drew HI341.out)
                    have n2_ := Aside0.mk (below_drew1 HB.out)
                    clear HO344
                    clear HI341
                    clear HB
                    have HO344 := n0_
                    have HI341 := n1_
                    have HB := n2_
                    clear n0_ n1_ n2_
                    refine start_ (n := 15) (S := fun w' => True) (ds := []) #[false, false, false, false, false, false, false, false, false, false, false, false, false, false, false] (by kernel_rfl) rfl rfl trivial (fun hHeld => ?_); refine with_tabW spec_DrawReadTriangle.tab5 spec_DrawReadTriangle.bits5 (fun HT_ HW_ => ?_)
                    generalize w23.drew = w24 at HO344 HI341 HB hHeld ⊢
                    refine pure_ (i := 0) (N := some 18) (v := ?_) (a' := ?_) #[true, false, false, false, false, false, false, false, false, false, false, false, false, false, false] rfl rfl (any_of HT_.out (by kernel_rfl)) (fun _ _ _ h => h) (Or.inl ⟨by rfl, ?_⟩) ?_ ?_
                    rotate_left
                    · intro w'
                      go_simp
                      with_reducible rfl
                    rotate_left
                    · simp only [Act.put, List.setIfInBounds_toArray, List.set_cons_zero, List.set_cons_succ, i64_w, i32_w]
                      rfl
                    refine pure_ (i := 1) (N := some 19) (v := ?_) (a' := ?_) #[true, true, false, false, false, false, false, false, false, false, false, false, false, false, false] rfl rfl (any_of HT_.out (by kernel_rfl)) (fun _ _ _ h => h) (Or.inl ⟨by rfl, ?_⟩) ?_ ?_
                    rotate_left
                    · intro w'
                      go_simp
                      with_reducible rfl
                    rotate_left
                    · simp only [Act.put, List.setIfInBounds_toArray, List.set_cons_zero, List.set_cons_succ, i64_w, i32_w]
                      rfl
                    refine pure_ (i := 4) (N := some 22) (v := ?_) (a' := ?_) #[true, true, false, false, true, false, false, false, false, false, false, false, false, false, false] rfl rfl (any_of HT_.out (by kernel_rfl)) (fun _ _ _ h => h) (Or.inl ⟨by rfl, ?_⟩) ?_ ?_
                    rotate_left
                    · intro w'
                      go_simp
                      with_reducible rfl
                    rotate_left
                    · simp only [Act.put, List.setIfInBounds_toArray, List.set_cons_zero, List.set_cons_succ, i64_w, i32_w]
                      rfl
                    refine pure_ (i := 9) (N := some 27) (v := ?_) (a' := ?_) #[true, true, false, false, true, false, false, false, false, true, false, false, false, false, false] rfl rfl (any_of HT_.out (by kernel_rfl)) (fun _ _ _ h => h) (Or.inl ⟨by rfl, ?_⟩) ?_ ?_
                    rotate_left
                    · intro w'
                      go_simp
                      with_reducible rfl
                    rotate_left
                    · simp only [Act.put, List.setIfInBounds_toArray, List.set_cons_zero, List.set_cons_succ, i64_w, i32_w]
                      rfl
                    refine pure_ (i := 10) (N := some 28) (v := ?_) (a' := ?_) #[true, true, false, false, true, false, false, false, false, true, true, false, false, false, false] rfl rfl (any_of HT_.out (by kernel_rfl)) (fun _ _ _ h => h) (Or.inl ⟨by rfl, ?_⟩) ?_ ?_
                    rotate_left
                    · intro w'
                      go_simp
                      with_reducible rfl
                    rotate_left
                    · simp only [Act.put, List.setIfInBounds_toArray, List.set_cons_zero, List.set_cons_succ, i64_w, i32_w]
                      rfl
                    refine inv_at [2, 3, 5, 6, 7, 8, 11, 12, 13, 14] (fun a0_ b a w' => ∃ (v352 : Value) (adz_v352 : Addr) (m6_ : Value), a = putSel a0_ b [(2, 20, .string (t346.extract 0 (t349 : Int).toNat)), (3, 21, v352), (5, 23, .int .i64 t354), (6, 24, m6_), (7, 25, .string (rdOf ByteArray.empty y351 t354)), (8, 26, .string ((t346.extract 0 (t349 : Int).toNat) ++ (rdOf ByteArray.empty y351 t354))), (11, 29, .int .i64 ji14), (12, 30, .string (t346.extract ((ji14) : Int).toNat t346.size)), (13, 31, .string (((t346.extract 0 (t349 : Int).toNat) ++ (rdOf ByteArray.empty y351 t354)) ++ (t346.extract ((ji14) : Int).toNat t346.size))), (14, 2, .string (((t346.extract 0 (t349 : Int).toNat) ++ (rdOf ByteArray.empty y351 t354)) ++ (t346.extract ((ji14) : Int).toNat t346.size)))] ∧ (Kd.R (Kd.int .i64) 3 w' w.heap.size (fun _ => True) (.slice Ao20 t342.length co20) t342) ∧ (b 5 = false → IsS47 w w' g341 t339 t350) ∧ (Below w.heap.size w w') ∧ (b 3 = true → Kd.R Kd.string 9 w' w.heap.size (fun _ => True) v352 y351) ∧ (b 3 = true → ∃ c_, (v352 : Value) = .slice (some adz_v352) y351.length c_) ∧ (b 5 = true → IsS47 w w' g341 t339 t355) ∧ (b 6 = true → (m6_ : Value) = .pointer (some (adz_v352.add (t354).toNat)))) HT_.out HW_.out (by kernel_rfl) (by kernel_rfl) ?_ ?_ ?_
                    · exact ⟨.bool false, ⟨0, 0, none⟩, .bool false, by simp only [putSel, Bool.false_eq_true, if_false], HO344.out, fun _ => HI341.out, HB.out, fun h_ => absurd h_ (by decide), fun h_ => absurd h_ (by decide), fun h_ => absurd h_ (by decide), fun h_ => absurd h_ (by decide)⟩
                    · skip
                      clear HB HI341 HO344
                      refine steps_cons ?_ ?_
                      · rintro b a w' ⟨v352, adz_v352, m6_, ha, Q_HO344, Q_HI341, Q_HB, Q_HO353, Q_HA_HO353, Q_HI341_e5, Q_X6_⟩ hb_ hon hoff
                        refine ⟨_, rfl, fun K hK => ?_⟩
                        have e18 : a.tmps[18]? = some (.string t346) := by rw [ha]; exact (putSel_off rfl).trans rfl
                        have e19 : a.tmps[19]? = some (.int .i64 t349) := by rw [ha]; exact (putSel_off rfl).trans rfl
                        replace ha := Aside0.mk ha
                        have HO344 := Aside0.mk Q_HO344
                        have HB := Aside0.mk Q_HB
                        refine value_ (w1 := w') (v := .string (t346.extract 0 (t349 : Int).toNat)) (by rfl) rfl ?_ ?_
                        · go_simp
                          (try simp only [i64_w])
                          try rfl
                          try (simp only [ByteArray.size_append, ByteArray.size_extract, decide_eq_true_eq] at *; omega)
                        refine hK.out _ _ ⟨v352, adz_v352, m6_, (by rw [ha.out]; exact putSel_upk 0 hb_ rfl rfl rfl), Q_HO344, Q_HI341, Q_HB, Q_HO353, Q_HA_HO353, Q_HI341_e5, Q_X6_⟩
                      refine steps_cons ?_ ?_
                      · rintro b a w' ⟨v352, adz_v352, m6_, ha, Q_HO344, Q_HI341, Q_HB, Q_HO353, Q_HA_HO353, Q_HI341_e5, Q_X6_⟩ hb_ hon hoff
                        refine ⟨_, rfl, fun K hK => ?_⟩
                        replace ha := Aside0.mk ha
                        have HO344 := Aside0.mk Q_HO344
                        have HB := Aside0.mk Q_HB
                        refine Kd.R_lit_step Kd.string _ 9 ?hg (N := 21) ?hd (xs := ([(⟨#[]⟩ : ByteArray), (⟨#[48]⟩ : ByteArray), (⟨#[47]⟩ : ByteArray), (⟨#[50]⟩ : ByteArray)] : List ByteArray)) (inner := [.string (⟨#[]⟩ : ByteArray), .string (⟨#[48]⟩ : ByteArray), .string (⟨#[47]⟩ : ByteArray), .string (⟨#[50]⟩ : ByteArray)]) (ok := fun _ => True) (okp := fun _ => True) ?hr ?hp (fun _ hk => hk) trivial (Below.refl _ _) (Nat.le_refl _) (by simp) ?_; (case hd => rfl); (case hg => rfl); (case hr => first | (go_simp; done) | (go_simp; rfl)); (case hp => exact (Reps.one (show Kd.M Kd.string _ _ _ (⟨#[]⟩ : ByteArray) [.string (⟨#[]⟩ : ByteArray)] from rfl) (Reps.one (show Kd.M Kd.string _ _ _ (⟨#[48]⟩ : ByteArray) [.string (⟨#[48]⟩ : ByteArray)] from rfl) (Reps.one (show Kd.M Kd.string _ _ _ (⟨#[47]⟩ : ByteArray) [.string (⟨#[47]⟩ : ByteArray)] from rfl) (Reps.one (show Kd.M Kd.string _ _ _ (⟨#[50]⟩ : ByteArray) [.string (⟨#[50]⟩ : ByteArray)] from rfl) (Reps.none _ _))))))
                        intro v352 w25 ho26 hb hg_ hnew_
                        clear hg_ hnew_
                        (first | rw [← Ny351.out] at ho26 | (simp only [Int.reduceToNat] at ho26; rw [← Ny351.out] at ho26))
                        have n0_ := Aside0.mk (Kd.R_below (by (with_reducible repeat (first | apply Kd.R_alloc | apply Kd.R_drewN | apply Kd.R_drew)); exact HO344.out) hb)
                        have n1_ := Aside0.mk (Kd.R_lower ho26 (below_size (by repeat (first | (with_reducible first | exact HB.out | apply below_alloc | apply pw_below_drewN | apply below_drew1) | exact HB.out))))
                        have n3_ := Aside0.mk (below_step (by repeat (first | (with_reducible first | exact HB.out | apply below_alloc | apply pw_below_drewN | apply below_drew1) | exact HB.out)) hb)
                        have z_HI341 := fun (h0_ : b 5 = false) => (show IsS47 w w25 g341 t339 t350 from by first | exact (IsS47.below (by repeat (first | (with_reducible first | exact (Q_HI341 h0_) | apply IsS47.alloc | apply IsS47.drewN | apply IsS47.drew | apply IsS47.set_1) | exact (Q_HI341 h0_))) hb))
                        have z_HI341_e5 := fun (h0_ : b 5 = true) => (show IsS47 w w25 g341 t339 t355 from by first | exact (IsS47.below (by repeat (first | (with_reducible first | exact (Q_HI341_e5 h0_) | apply IsS47.alloc | apply IsS47.drewN | apply IsS47.drew | apply IsS47.set_1) | exact (Q_HI341_e5 h0_))) hb))
                        clear HO344
                        clear HB
                        have HO344 := n0_
                        have HO353 := n1_
                        have HB := n3_
                        clear n0_ n1_ n3_
                        clear hb ho26
                        obtain ⟨Ao27, co27, eo27⟩ := Kd.R_slice HO353.out
                        subst eo27
                        obtain ⟨ado27, fo27, _⟩ := Kd.at_string (Kd.R_reads' HO353.out).2.2 0 (by decide) (by rw [Ny351.out]; simp)
                        cases fo27
                        refine hK.out _ _ ⟨.slice (some ado27) y351.length co27, ado27, m6_, (by rw [ha.out]; exact putSel_upk 1 hb_ rfl rfl rfl), (by (with_reducible repeat (first | apply Kd.R_alloc | apply Kd.R_drewN | apply Kd.R_drew)); first | exact HO344.out | exact Kd.R_mono HO344.out (fun _ _ => trivial)), z_HI341, (by repeat (first | (with_reducible first | exact HB.out | apply below_alloc | apply pw_below_drewN | apply below_drew1) | exact HB.out)), fun _ => (by (with_reducible repeat (first | apply Kd.R_alloc | apply Kd.R_drewN | apply Kd.R_drew)); first | exact HO353.out | exact Kd.R_mono HO353.out (fun _ _ => trivial)), fun _ => ⟨_, rfl⟩, z_HI341_e5, fun h0_ => absurd ((hoff 6 (by kernel_rfl)).symm.trans h0_) (by decide)⟩
                      refine steps_cons ?_ ?_
                      · rintro b a w' ⟨v352, adz_v352, m6_, ha, Q_HO344, Q_HI341, Q_HB, Q_HO353, Q_HA_HO353, Q_HI341_e5, Q_X6_⟩ hb_ hon hoff
                        refine ⟨_, rfl, fun K hK => ?_⟩
                        have e22 : a.tmps[22]? = some (.pointer (some ⟨g341, 0, none⟩)) := by rw [ha]; exact (putSel_off rfl).trans rfl
                        replace ha := Aside0.mk ha
                        have HO344 := Aside0.mk Q_HO344
                        have HI341 := Aside0.mk (Q_HI341 hb_)
                        have HB := Aside0.mk Q_HB
                        refine goes_ Tryd.func28 (by kernel_rfl) rfl #[.pointer (some ⟨g341, 0, none⟩), .int .i64 4] (by rfl) rfl rfl (by first | (simp only [List.map_toArray, List.map_cons, List.map_nil, Act.eval, Array.getD_eq_getD_getElem?, Option.getD_some, e22]; done) | (simp only [List.map_toArray, List.map_cons, List.map_nil, Act.eval, Array.getD_eq_getD_getElem?, Option.getD_some, e22]; rfl)) ?_
                        with_reducible refine (spec_l20Rd_pick.calls k g341 t339 t350 4 t354 t355 w _ ?side1 ?side2 A10.out).mono ?_
                        (case side1 => repeat (first | (with_reducible first | exact HI341.out | apply IsS47.alloc | apply IsS47.drewN | apply IsS47.drew | apply IsS47.set_1) | exact HI341.out))
                        (case side2 => repeat (first | (with_reducible first | exact HB.out | apply below_alloc | apply pw_below_drewN | apply below_drew1 | refine below_set ?_ (IsS47.ge HI341.out)) | exact HB.out))
                        rintro e w25 ⟨rfl, hi, hb, hk⟩
                        refine ⟨_, rfl, ?_⟩
                        have n0_ := Aside0.mk (Kd.R_mono (Kd.R_keep (IsS47.apart (show IsS47 w _ g341 t339 t350 from by repeat (first | (with_reducible first | exact HI341.out | apply IsS47.alloc | apply IsS47.drewN | apply IsS47.drew | apply IsS47.set_1) | exact HI341.out)) (by (with_reducible repeat (first | apply Kd.R_alloc | apply Kd.R_drewN | apply Kd.R_drew)); exact HO344.out) (by decide)) hk (fun _ h => h.2)) (fun _ h => h.1))
                        have n1_ := Aside0.mk (hb)
                        have n2_ := Aside0.mk (hi)
                        have z_HO353 := fun (h0_ : b 3 = true) => (show Kd.R Kd.string 9 w25 w.heap.size (fun _ => True) v352 y351 from by first | exact (Kd.R_mono (Kd.R_keep (IsS47.apart (show IsS47 w _ g341 t339 t350 from by repeat (first | (with_reducible first | exact HI341.out | apply IsS47.alloc | apply IsS47.drewN | apply IsS47.drew | apply IsS47.set_1) | exact HI341.out)) (by (with_reducible repeat (first | apply Kd.R_alloc | apply Kd.R_drewN | apply Kd.R_drew)); exact (Q_HO353 h0_)) (by decide)) hk (fun _ h => h.2)) (fun _ h => h.1)) | exact Kd.R_mono (Kd.R_mono (Kd.R_keep (IsS47.apart (show IsS47 w _ g341 t339 t350 from by repeat (first | (with_reducible first | exact HI341.out | apply IsS47.alloc | apply IsS47.drewN | apply IsS47.drew | apply IsS47.set_1) | exact HI341.out)) (by (with_reducible repeat (first | apply Kd.R_alloc | apply Kd.R_drewN | apply Kd.R_drew)); exact (Q_HO353 h0_)) (by decide)) hk (fun _ h => h.2)) (fun _ h => h.1)) (fun _ h_ => by first | trivial | exact h_ | exact h_.1))
                        clear HO344
                        clear HB
                        clear HI341
                        have HO344 := n0_
                        have HB := n1_
                        have HI341 := n2_
                        clear n0_ n1_ n2_
                        (try clear hb)
                        (try clear hb2)
                        (try clear hk)
                        (try clear hi)
                        refine hK.out _ _ ⟨v352, adz_v352, m6_, (by rw [ha.out]; exact putSel_upk 2 hb_ rfl rfl rfl), (by (with_reducible repeat (first | apply Kd.R_alloc | apply Kd.R_drewN | apply Kd.R_drew)); first | exact HO344.out | exact Kd.R_mono HO344.out (fun _ _ => trivial)), fun h0_ => absurd ((up_self b 5).symm.trans h0_) (by decide), (by repeat (first | (with_reducible first | exact HB.out | apply below_alloc | apply pw_below_drewN | apply below_drew1 | refine below_set ?_ (IsS47.ge HI341.out)) | exact HB.out)), z_HO353, Q_HA_HO353, fun _ => (by repeat (first | (with_reducible first | exact HI341.out | apply IsS47.alloc | apply IsS47.drewN | apply IsS47.drew | apply IsS47.set_1) | exact HI341.out)), fun h0_ => absurd ((hoff 6 (by kernel_rfl)).symm.trans h0_) (by decide)⟩
                      refine steps_cons ?_ ?_
                      · rintro b a w' ⟨v352, adz_v352, m6_, ha, Q_HO344, Q_HI341, Q_HB, Q_HO353, Q_HA_HO353, Q_HI341_e5, Q_X6_⟩ hb_ hon hoff
                        refine ⟨_, rfl, fun K hK => ?_⟩
                        have e21 : a.tmps[21]? = some (v352) := by rw [ha]; exact putSel_on (e := (3, 21, v352)) 1 rfl rfl (hon 3 (by kernel_rfl)) rfl
                        have e23 : a.tmps[23]? = some (.int .i64 t354) := by rw [ha]; exact putSel_on (e := (5, 23, .int .i64 t354)) 2 rfl rfl (hon 5 (by kernel_rfl)) rfl
                        replace ha := Aside0.mk ha
                        have HO344 := Aside0.mk Q_HO344
                        have HB := Aside0.mk Q_HB
                        have HO353 := Aside0.mk (Q_HO353 (hon 3 (by kernel_rfl)))
                        have HA_HO353 := Aside0.mk (Q_HA_HO353 (hon 3 (by kernel_rfl)))
                        have HI341 := Aside0.mk (Q_HI341_e5 (hon 5 (by kernel_rfl)))
                        obtain ⟨c_, hv_⟩ := HA_HO353.out
                        rw [hv_] at e21
                        refine value_ (w1 := w') (v := .pointer (some (adz_v352.add (t354).toNat))) (by rfl) rfl ?_ ?_
                        · go_simp
                          (try simp only [i64_w])
                          try rfl
                          try (simp only [ByteArray.size_append, ByteArray.size_extract, decide_eq_true_eq] at *; omega)
                        refine hK.out _ _ ⟨v352, adz_v352, (.pointer (some (adz_v352.add (t354).toNat))), (by rw [ha.out]; exact putSel_upk 3 hb_ rfl rfl rfl), Q_HO344, fun h0_ => absurd ((hon 5 (by kernel_rfl)).symm.trans h0_) (by decide), Q_HB, Q_HO353, Q_HA_HO353, Q_HI341_e5, fun _ => rfl⟩
                      refine steps_cons ?_ ?_
                      · rintro b a w' ⟨v352, adz_v352, m6_, ha, Q_HO344, Q_HI341, Q_HB, Q_HO353, Q_HA_HO353, Q_HI341_e5, Q_X6_⟩ hb_ hon hoff
                        refine ⟨_, rfl, fun K hK => ?_⟩
                        have e24 : a.tmps[24]? = some (m6_) := by rw [ha]; exact putSel_on (e := (6, 24, m6_)) 3 rfl rfl (hon 6 (by kernel_rfl)) rfl
                        rw [Q_X6_ (hon 6 (by kernel_rfl))] at e24
                        replace ha := Aside0.mk ha
                        have HO344 := Aside0.mk Q_HO344
                        have HB := Aside0.mk Q_HB
                        have HO353 := Aside0.mk (Q_HO353 (hon 3 (by kernel_rfl)))
                        have HA_HO353 := Aside0.mk (Q_HA_HO353 (hon 3 (by kernel_rfl)))
                        have HI341 := Aside0.mk (Q_HI341_e5 (hon 5 (by kernel_rfl)))
                        obtain ⟨c_, hv_⟩ := HA_HO353.out
                        have hF_ := HO353.out
                        rw [hv_] at hF_
                        obtain ⟨ad_, ea_, hx_⟩ := Kd.at_string (Kd.R_reads' hF_).2.2 t354 (of_eq_true pi356) (of_eq_true qi356)
                        cases ea_
                        refine value_ (w1 := w') (v := .string (rdOf ByteArray.empty y351 t354)) (by rfl) rfl ?_ ?_
                        · go_simp
                          (try simp only [i64_w])
                          try rfl
                          try (simp only [ByteArray.size_append, ByteArray.size_extract, decide_eq_true_eq] at *; omega)
                        refine hK.out _ _ ⟨v352, adz_v352, m6_, (by rw [ha.out]; exact putSel_upk 4 hb_ rfl rfl rfl), Q_HO344, fun h0_ => absurd ((hon 5 (by kernel_rfl)).symm.trans h0_) (by decide), Q_HB, Q_HO353, Q_HA_HO353, Q_HI341_e5, Q_X6_⟩
                      refine steps_cons ?_ ?_
                      · rintro b a w' ⟨v352, adz_v352, m6_, ha, Q_HO344, Q_HI341, Q_HB, Q_HO353, Q_HA_HO353, Q_HI341_e5, Q_X6_⟩ hb_ hon hoff
                        refine ⟨_, rfl, fun K hK => ?_⟩
                        have e20 : a.tmps[20]? = some (.string (t346.extract 0 (t349 : Int).toNat)) := by rw [ha]; exact putSel_on (e := (2, 20, .string (t346.extract 0 (t349 : Int).toNat))) 0 rfl rfl (hon 2 (by kernel_rfl)) rfl
                        have e25 : a.tmps[25]? = some (.string (rdOf ByteArray.empty y351 t354)) := by rw [ha]; exact putSel_on (e := (7, 25, .string (rdOf ByteArray.empty y351 t354))) 4 rfl rfl (hon 7 (by kernel_rfl)) rfl
                        replace ha := Aside0.mk ha
                        have HO344 := Aside0.mk Q_HO344
                        have HB := Aside0.mk Q_HB
                        have HO353 := Aside0.mk (Q_HO353 (hon 3 (by kernel_rfl)))
                        have HA_HO353 := Aside0.mk (Q_HA_HO353 (hon 3 (by kernel_rfl)))
                        have HI341 := Aside0.mk (Q_HI341_e5 (hon 5 (by kernel_rfl)))
                        refine value_ (w1 := w') (v := .string ((t346.extract 0 (t349 : Int).toNat) ++ (rdOf ByteArray.empty y351 t354))) (by rfl) rfl ?_ ?_
                        · go_simp
                          (try simp only [i64_w])
                          try rfl
                          try (simp only [ByteArray.size_append, ByteArray.size_extract, decide_eq_true_eq] at *; omega)
                        refine hK.out _ _ ⟨v352, adz_v352, m6_, (by rw [ha.out]; exact putSel_upk 5 hb_ rfl rfl rfl), Q_HO344, fun h0_ => absurd ((hon 5 (by kernel_rfl)).symm.trans h0_) (by decide), Q_HB, Q_HO353, Q_HA_HO353, Q_HI341_e5, Q_X6_⟩
                      refine steps_cons ?_ ?_
                      · rintro b a w' ⟨v352, adz_v352, m6_, ha, Q_HO344, Q_HI341, Q_HB, Q_HO353, Q_HA_HO353, Q_HI341_e5, Q_X6_⟩ hb_ hon hoff
                        refine ⟨_, rfl, fun K hK => ?_⟩
                        have e28 : a.tmps[28]? = some (.int .i64 t349) := by rw [ha]; exact (putSel_off rfl).trans rfl
                        replace ha := Aside0.mk ha
                        have HO344 := Aside0.mk Q_HO344
                        have HB := Aside0.mk Q_HB
                        refine value_ (w1 := w') (v := .int .i64 ji14) (by rfl) rfl ?_ ?_
                        · go_simp
                          (try simp only [i64_w])
                          try rfl
                          try (simp only [ByteArray.size_append, ByteArray.size_extract, decide_eq_true_eq] at *; omega)
                        refine hK.out _ _ ⟨v352, adz_v352, m6_, (by rw [ha.out]; exact putSel_upk 6 hb_ rfl rfl rfl), Q_HO344, Q_HI341, Q_HB, Q_HO353, Q_HA_HO353, Q_HI341_e5, Q_X6_⟩
                      refine steps_cons ?_ ?_
                      · rintro b a w' ⟨v352, adz_v352, m6_, ha, Q_HO344, Q_HI341, Q_HB, Q_HO353, Q_HA_HO353, Q_HI341_e5, Q_X6_⟩ hb_ hon hoff
                        refine ⟨_, rfl, fun K hK => ?_⟩
                        have e27 : a.tmps[27]? = some (.string t346) := by rw [ha]; exact (putSel_off rfl).trans rfl
                        have e29 : a.tmps[29]? = some (.int .i64 ji14) := by rw [ha]; exact putSel_on (e := (11, 29, .int .i64 ji14)) 6 rfl rfl (hon 11 (by kernel_rfl)) rfl
                        replace ha := Aside0.mk ha
                        have HO344 := Aside0.mk Q_HO344
                        have HB := Aside0.mk Q_HB
                        refine value_ (w1 := w') (v := .string (t346.extract ((ji14) : Int).toNat t346.size)) (by rfl) rfl ?_ ?_
                        · go_simp
                          (try simp only [i64_w])
                          try rfl
                          try (simp only [ByteArray.size_append, ByteArray.size_extract, decide_eq_true_eq] at *; omega)
                        refine hK.out _ _ ⟨v352, adz_v352, m6_, (by rw [ha.out]; exact putSel_upk 7 hb_ rfl rfl rfl), Q_HO344, Q_HI341, Q_HB, Q_HO353, Q_HA_HO353, Q_HI341_e5, Q_X6_⟩
                      refine steps_cons ?_ ?_
                      · rintro b a w' ⟨v352, adz_v352, m6_, ha, Q_HO344, Q_HI341, Q_HB, Q_HO353, Q_HA_HO353, Q_HI341_e5, Q_X6_⟩ hb_ hon hoff
                        refine ⟨_, rfl, fun K hK => ?_⟩
                        have e26 : a.tmps[26]? = some (.string ((t346.extract 0 (t349 : Int).toNat) ++ (rdOf ByteArray.empty y351 t354))) := by rw [ha]; exact putSel_on (e := (8, 26, .string ((t346.extract 0 (t349 : Int).toNat) ++ (rdOf ByteArray.empty y351 t354)))) 5 rfl rfl (hon 8 (by kernel_rfl)) rfl
                        have e30 : a.tmps[30]? = some (.string (t346.extract ((ji14) : Int).toNat t346.size)) := by rw [ha]; exact putSel_on (e := (12, 30, .string (t346.extract ((ji14) : Int).toNat t346.size))) 7 rfl rfl (hon 12 (by kernel_rfl)) rfl
                        replace ha := Aside0.mk ha
                        have HO344 := Aside0.mk Q_HO344
                        have HB := Aside0.mk Q_HB
                        have HO353 := Aside0.mk (Q_HO353 (hon 3 (by kernel_rfl)))
                        have HA_HO353 := Aside0.mk (Q_HA_HO353 (hon 3 (by kernel_rfl)))
                        have HI341 := Aside0.mk (Q_HI341_e5 (hon 5 (by kernel_rfl)))
                        refine value_ (w1 := w') (v := .string (((t346.extract 0 (t349 : Int).toNat) ++ (rdOf ByteArray.empty y351 t354)) ++ (t346.extract ((ji14) : Int).toNat t346.size))) (by rfl) rfl ?_ ?_
                        · go_simp
                          (try simp only [i64_w])
                          try rfl
                          try (simp only [ByteArray.size_append, ByteArray.size_extract, decide_eq_true_eq] at *; omega)
                        refine hK.out _ _ ⟨v352, adz_v352, m6_, (by rw [ha.out]; exact putSel_upk 8 hb_ rfl rfl rfl), Q_HO344, fun h0_ => absurd ((hon 5 (by kernel_rfl)).symm.trans h0_) (by decide), Q_HB, Q_HO353, Q_HA_HO353, Q_HI341_e5, Q_X6_⟩
                      refine steps_cons ?_ ?_
                      · rintro b a w' ⟨v352, adz_v352, m6_, ha, Q_HO344, Q_HI341, Q_HB, Q_HO353, Q_HA_HO353, Q_HI341_e5, Q_X6_⟩ hb_ hon hoff
                        refine ⟨_, rfl, fun K hK => ?_⟩
                        have e31 : a.tmps[31]? = some (.string (((t346.extract 0 (t349 : Int).toNat) ++ (rdOf ByteArray.empty y351 t354)) ++ (t346.extract ((ji14) : Int).toNat t346.size))) := by rw [ha]; exact putSel_on (e := (13, 31, .string (((t346.extract 0 (t349 : Int).toNat) ++ (rdOf ByteArray.empty y351 t354)) ++ (t346.extract ((ji14) : Int).toNat t346.size)))) 8 rfl rfl (hon 13 (by kernel_rfl)) rfl
                        replace ha := Aside0.mk ha
                        have HO344 := Aside0.mk Q_HO344
                        have HB := Aside0.mk Q_HB
                        have HO353 := Aside0.mk (Q_HO353 (hon 3 (by kernel_rfl)))
                        have HA_HO353 := Aside0.mk (Q_HA_HO353 (hon 3 (by kernel_rfl)))
                        have HI341 := Aside0.mk (Q_HI341_e5 (hon 5 (by kernel_rfl)))
                        refine value_ (w1 := w') (v := .string (((t346.extract 0 (t349 : Int).toNat) ++ (rdOf ByteArray.empty y351 t354)) ++ (t346.extract ((ji14) : Int).toNat t346.size))) (by rfl) rfl ?_ ?_
                        · go_simp
                          (try simp only [i64_w])
                          try rfl
                          try (simp only [ByteArray.size_append, ByteArray.size_extract, decide_eq_true_eq] at *; omega)
                        refine hK.out _ _ ⟨v352, adz_v352, m6_, (by rw [ha.out]; exact putSel_upk 9 hb_ rfl rfl rfl), Q_HO344, fun h0_ => absurd ((hon 5 (by kernel_rfl)).symm.trans h0_) (by decide), Q_HB, Q_HO353, Q_HA_HO353, Q_HI341_e5, Q_X6_⟩
                      exact steps_nil
                    rintro b a w29 hall ⟨v352, adz_v352, m6_, ha, Q_HO344, Q_HI341, Q_HB, Q_HO353, Q_HA_HO353, Q_HI341_e5, Q_X6_⟩
                    clear HB HI341 HO344
                    have hb2_ := hall 2 (by kernel_rfl)
                    have hb3_ := hall 3 (by kernel_rfl)
                    have hb5_ := hall 5 (by kernel_rfl)
                    have hb6_ := hall 6 (by kernel_rfl)
                    have hb7_ := hall 7 (by kernel_rfl)
                    have hb8_ := hall 8 (by kernel_rfl)
                    have hb11_ := hall 11 (by kernel_rfl)
                    have hb12_ := hall 12 (by kernel_rfl)
                    have hb13_ := hall 13 (by kernel_rfl)
                    have hb14_ := hall 14 (by kernel_rfl)
                    subst ha
                    obtain rfl := Q_X6_ hb6_
                    simp only [putSel, hb2_, hb3_, hb5_, hb6_, hb7_, hb8_, hb11_, hb12_, hb13_, hb14_, if_true, Act.put, List.setIfInBounds_toArray, List.set_cons_zero, List.set_cons_succ]
                    have HO344 := Aside0.mk Q_HO344
                    clear Q_HO344
                    clear Q_HI341
                    have HB := Aside0.mk Q_HB
                    clear Q_HB
                    have HO353 := Aside0.mk (Q_HO353 hb3_)
                    clear Q_HO353
                    have HA_HO353 := Aside0.mk (Q_HA_HO353 hb3_)
                    clear Q_HA_HO353
                    have HI341 := Aside0.mk (Q_HI341_e5 hb5_)
                    clear Q_HI341_e5
                    clear hall hb2_ hb3_ hb5_ hb6_ hb7_ hb8_ hb11_ hb12_ hb13_ hb14_
                    obtain ⟨co30, eo30⟩ := HA_HO353.out
                    clear HA_HO353
                    subst eo30
                    try go_wp2
                    go_ret
                    exact ⟨by first | rfl | (simp [errW_none, errW_some] <;> rfl) | (simp only [← hji14]; first | rfl | (simp [errW_none, errW_some] <;> rfl)) | (simp [*, errW_none, errW_some] <;> rfl), by repeat (first | (with_reducible first | exact HB.out | apply below_alloc | apply pw_below_drewN | apply below_drew1 | refine below_set ?_ (IsS47.ge HI341.out)) | exact HB.out)⟩
                  · rw [if_neg c17] at H
                    exact absurd H (by simp)
                · rw [if_neg c16] at H
                  exact absurd H (by simp)
              · rw [if_neg c15] at H
                exact absurd H (by simp)
            · rw [if_neg c13] at H
              exact absurd H (by simp)
          · rw [if_neg c12] at H
            exact absurd H (by simp)
        · rw [if_neg c11] at H
          exact absurd H (by simp)
      · rw [if_neg c9] at H
        exact absurd H (by simp)
    · rw [if_neg c8] at H
      exact absurd H (by simp)
  · rw [if_neg c6] at H
    have c6b0 : (t347 == 0) = false := beq_eq_false_iff_ne.mpr c6
    have c6b1 : (t347 != 0) = true := bne_iff_ne.mpr c6
    obtain rfl := Option.some.inj H
    go_enter Tryd.func14, Tryd.ntmps14
    go_wp2_with (first | ((with_reducible refine gate_callee (f := 21) rfl ?_); refine goesL_ (some 7) rfl rfl Tryd.func21 (by kernel_rfl) rfl #[.slice A0 l0.length c0] rfl (by (try simp only [List.map_toArray, List.map_cons, List.map_nil]); first | done | rfl | (simp only [List.length_drop, List.length_take]; rfl)) ?_; (with_reducible refine (spec_l20Open.calls _ _ l0 t339 t340 w _ ?side1 ?side2 ?side3 A2.out).mono ?_); (case side1 => repeat (first | (with_reducible first | exact HB.out | apply below_alloc | apply pw_below_drewN | apply below_drew1) | exact HB.out)); (case side2 => exact HR0.out); (case side3 => exact HC0.out); rintro e w31 ⟨g341, rfl, hi, hb, hb2⟩; refine ⟨_, rfl, ?_⟩; have n0_ := Aside0.mk (hb); have n1_ := Aside0.mk (hi); clear HB; have HB := n0_; have HI341 := n1_; clear n0_ n1_; (try clear hb); (try clear hb2); (try clear hk); (try clear hi)) | ((with_reducible refine gate_callee (f := 20) rfl ?_); refine goesL_ (some 9) rfl rfl Tryd.func20 (by kernel_rfl) rfl #[.pointer (some ⟨g341, 0, none⟩), .int .i64 0] rfl (by (try simp only [List.map_toArray, List.map_cons, List.map_nil]); first | done | rfl | (simp only [List.length_drop, List.length_take]; rfl)) ?_; (with_reducible refine (spec_l20Tri.calls k g341 t339 t340 0 t342 t345 w _ ?side1 ?side2 A3.out).mono ?_); (case side1 => repeat (first | (with_reducible first | exact HI341.out | apply IsS47.alloc | apply IsS47.drewN | apply IsS47.drew | apply IsS47.set_1) | exact HI341.out)); (case side2 => repeat (first | (with_reducible first | exact HB.out | apply below_alloc | apply pw_below_drewN | apply below_drew1 | refine below_set ?_ (IsS47.ge HI341.out)) | exact HB.out)); rintro e w32 ⟨v343, rfl, ho0, hi, hb, hk⟩; refine ⟨_, rfl, ?_⟩; have n0_ := Aside0.mk (Kd.R_lower ho0 (below_size (by repeat (first | (with_reducible first | exact HB.out | apply below_alloc | apply pw_below_drewN | apply below_drew1 | refine below_set ?_ (IsS47.ge HI341.out)) | exact HB.out)))); have n1_ := Aside0.mk (hb); have n2_ := Aside0.mk (hi); clear HB; clear HI341; have HO344 := n0_; have HB := n1_; have HI341 := n2_; clear n0_ n1_ n2_; (try clear hb); (try clear hb2); (try clear hk); (try clear hi); (try clear ho0); obtain ⟨Ao33, co33, eo33⟩ := Kd.R_slice HO344.out; subst eo33) | ((with_reducible refine gate_callee (f := 9) rfl ?_); refine goesL_ (some 10) rfl rfl Tryd.func9 (by kernel_rfl) rfl #[.slice Ao33 t342.length co33] rfl (by (try simp only [List.map_toArray, List.map_cons, List.map_nil]); first | done | rfl | (simp only [List.length_drop, List.length_take]; rfl)) ?_; (with_reducible refine (spec_TriangleText.calls k _ _ t342 t346 _ ?side1 ?side2 A4.out).mono ?_); (case side1 => repeat (first | exact (Kd.R_reads' HO344.out).2.2 | (with_reducible refine Kd.C_alloc ?_ _) | (with_reducible refine Kd.C_drewN ?_ _) | (with_reducible refine Kd.C_drew ?_))); (case side2 => exact (Kd.R_reads' HO344.out).2.1); rintro e w34 ⟨rfl, hb⟩; refine ⟨_, rfl, ?_⟩; have n0_ := Aside0.mk (Kd.R_below (by (with_reducible repeat (first | apply Kd.R_alloc | apply Kd.R_drewN | apply Kd.R_drew)); exact HO344.out) hb); have n1_ := Aside0.mk (IsS47.below (by repeat (first | (with_reducible first | exact HI341.out | apply IsS47.alloc | apply IsS47.drewN | apply IsS47.drew | apply IsS47.set_1) | exact HI341.out)) hb); have n2_ := Aside0.mk (below_step (by repeat (first | (with_reducible first | exact HB.out | apply below_alloc | apply pw_below_drewN | apply below_drew1 | refine below_set ?_ (IsS47.ge HI341.out)) | exact HB.out)) hb); clear HO344; clear HI341; clear HB; have HO344 := n0_; have HI341 := n1_; have HB := n2_; clear n0_ n1_ n2_; (try clear hb); (try clear hb2); (try clear hk); (try clear hi)) | ((with_reducible refine gate_callee (f := 28) rfl ?_); refine goesL_ (some 12) rfl rfl Tryd.func28 (by kernel_rfl) rfl #[.pointer (some ⟨g341, 0, none⟩), .int .i64 3] rfl (by (try simp only [List.map_toArray, List.map_cons, List.map_nil]); first | done | rfl | (simp only [List.length_drop, List.length_take]; rfl)) ?_; (with_reducible refine (spec_l20Rd_pick.calls k g341 t339 t345 3 t347 t348 w _ ?side1 ?side2 A5.out).mono ?_); (case side1 => repeat (first | (with_reducible first | exact HI341.out | apply IsS47.alloc | apply IsS47.drewN | apply IsS47.drew | apply IsS47.set_1) | exact HI341.out)); (case side2 => repeat (first | (with_reducible first | exact HB.out | apply below_alloc | apply pw_below_drewN | apply below_drew1 | refine below_set ?_ (IsS47.ge HI341.out)) | exact HB.out)); rintro e w35 ⟨rfl, hi, hb, hk⟩; refine ⟨_, rfl, ?_⟩; have n0_ := Aside0.mk (Kd.R_mono (Kd.R_keep (IsS47.apart (show IsS47 w _ g341 t339 t345 from by repeat (first | (with_reducible first | exact HI341.out | apply IsS47.alloc | apply IsS47.drewN | apply IsS47.drew | apply IsS47.set_1) | exact HI341.out)) (by (with_reducible repeat (first | apply Kd.R_alloc | apply Kd.R_drewN | apply Kd.R_drew)); exact HO344.out) (by decide)) hk (fun _ h => h.2)) (fun _ h => h.1)); have n1_ := Aside0.mk (hb); have n2_ := Aside0.mk (hi); clear HO344; clear HB; clear HI341; have HO344 := n0_; have HB := n1_; have HI341 := n2_; clear n0_ n1_ n2_; (try clear hb); (try clear hb2); (try clear hk); (try clear hi)))
    go_ret
    exact ⟨by first | rfl | (simp [errW_none, errW_some] <;> rfl) | (simp [*, errW_none, errW_some] <;> rfl), by repeat (first | (with_reducible first | exact HB.out | apply below_alloc | apply pw_below_drewN | apply below_drew1 | refine below_set ?_ (IsS47.ge HI341.out)) | exact HB.out)⟩

end Go.Proofs.YtcdeofiigjgfaaaDoor.P
