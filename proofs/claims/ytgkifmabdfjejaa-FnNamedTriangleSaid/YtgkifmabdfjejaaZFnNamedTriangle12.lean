-- Texts of this claim, laid one behind the other by wip/gen/merge.py.
import Derived.Test.YtgkifmabdfjejaaZFnNamedTriangle11
import Derived.Test.YtgkifmabdfjejaaZFnNamedTriangle8
/- Names go together: the pure statement of the law FnNamedTriangle. No condition. -/
namespace Go.Proofs.Ytgkifmabdfjejaa.Pure
open Go.RowKit Go.Proofs.Ytgkifmabdfjejaa.P Go.Proofs.YtgkifmabdfjejaaW.PrintWords Go.Proofs.YtgkifmabdfjejaaW.PrintLast

theorem nameds : (notP (specNm [115, 111, 109, 101]).1 = (specNm [110, 111]).1 ∧ dualP (specNm [115, 111, 109, 101]).1 = (specNm [101, 118, 101, 114, 121]).1 ∧ (specNm [97, 116, 108, 101, 97, 115, 116, 49]).1 = (specNm [115, 111, 109, 101]).1 ∧ (specNm [97, 108, 108, 98, 117, 116, 48]).1 = (specNm [101, 118, 101, 114, 121]).1) := by decide +kernel
theorem draw_name (xs : List Int) (hs : Src xs) (k : Nat) (hk : 1 ≤ k) : ∃ t, ((spec_l20Rd_pick.f k xs 0 3).bind fun bt132 => (if bt132.1 = 0 then ((some (([(⟨#[97, 116, 108, 101, 97, 115, 116]⟩ : ByteArray), (⟨#[106, 117, 115, 116]⟩ : ByteArray), (⟨#[97, 108, 108, 98, 117, 116]⟩ : ByteArray)] : List ByteArray) : List ByteArray)).bind fun y134 => ((spec_l20Rd_pick.f k xs bt132.2 3).bind fun bt137 => (if 0 ≤ bt137.1 then (if bt137.1 < (y134.length : Int) then ((some (([(⟨#[48]⟩ : ByteArray), (⟨#[49]⟩ : ByteArray), (⟨#[52]⟩ : ByteArray), (⟨#[53]⟩ : ByteArray), (⟨#[54]⟩ : ByteArray), (⟨#[]⟩ : ByteArray)] : List ByteArray) : List ByteArray)).bind fun y140 => ((spec_l20Rd_pick.f k xs bt137.2 6).bind fun bt143 => (if 0 ≤ bt143.1 then (if bt143.1 < (y140.length : Int) then (if (rdOf ByteArray.empty y134 bt137.1).size + (rdOf ByteArray.empty y140 bt143.1).size ≤ 9223372036854775807 then (some ((rdOf ByteArray.empty y134 bt137.1) ++ (rdOf ByteArray.empty y140 bt143.1))) else (none)) else (none)) else (none)))) else (none)) else (none)))) else ((spec_l20Names.f).bind fun t146 => ((some (([(⟨#[]⟩ : ByteArray), (⟨#[97, 108, 108]⟩ : ByteArray), (⟨#[69, 118, 101, 114, 121]⟩ : ByteArray)] : List ByteArray) : List ByteArray)).bind fun y149 => (if t146.length + y149.length < 8796093022208 then ((some (t146 ++ y149 : List ByteArray)).bind fun y152 => ((spec_l20Rd_pick.f k xs bt132.2 13).bind fun bt155 => (if 0 ≤ bt155.1 then (if bt155.1 < (y152.length : Int) then (some (rdOf ByteArray.empty y152 bt155.1)) else (none)) else (none)))) else (none)))))) = some t := by
  obtain ⟨a, e1, g1, g2⟩ := pick_k xs hs 0 3 (by omega) (by omega) k (by omega)
  rw [e1, Option.bind_some]
  by_cases z : a = 0
  · obtain ⟨b, e2, g3, g4⟩ := pick_k xs hs (0 + 1) 3 (by omega) (by omega) k (by omega)
    obtain ⟨c, e3, g5, g6⟩ := pick_k xs hs (0 + 1 + 1) 6 (by omega) (by omega) k (by omega)
    have s1 : ∀ i : Fin 3, ∀ j : Fin 6, (rdOf ByteArray.empty [(⟨#[97, 116, 108, 101, 97, 115, 116]⟩ : ByteArray), (⟨#[106, 117, 115, 116]⟩ : ByteArray), (⟨#[97, 108, 108, 98, 117, 116]⟩ : ByteArray)] (i.val : Int)).size + (rdOf ByteArray.empty [(⟨#[48]⟩ : ByteArray), (⟨#[49]⟩ : ByteArray), (⟨#[52]⟩ : ByteArray), (⟨#[53]⟩ : ByteArray), (⟨#[54]⟩ : ByteArray), (⟨#[]⟩ : ByteArray)] (j.val : Int)).size ≤ 9223372036854775807 := by decide +kernel
    have := s1 ⟨b.toNat, by have := g4 (by omega); omega⟩ ⟨c.toNat, by have := g6 (by omega); omega⟩
    simp only [] at this
    rw [show ((b.toNat : Nat) : Int) = b by omega, show ((c.toNat : Nat) : Int) = c by omega] at this
    rw [if_pos z, Option.bind_some, e2, Option.bind_some, if_pos g3, if_pos (by exact g4 (by omega)), Option.bind_some, e3, Option.bind_some, if_pos g5, if_pos (by exact g6 (by omega)), if_pos (by exact this)]
    exact ⟨_, rfl⟩
  · obtain ⟨b, e2, g3, g4⟩ := pick_k xs hs (0 + 1) 13 (by omega) (by omega) k (by omega)
    rw [if_neg z, show spec_l20Names.f = some l20N from rfl, Option.bind_some, Option.bind_some, if_pos (by decide), Option.bind_some, e2, Option.bind_some, if_pos g3, if_pos (by exact g4 (by omega))]
    exact ⟨_, rfl⟩
theorem FnNamedTriangle : laws_FnNamedTriangle.Pure := by
  intro l _ _ hw
  obtain ⟨K, hK⟩ : ∃ K, K = 2097300 := ⟨_, rfl⟩
  refine ⟨K + 1, ?_⟩
  unfold laws_FnNamedTriangle.f
  by_cases hl : (l.length : Int) > 1048576
  · rw [if_pos hl]
  · rw [if_neg hl]
    obtain ⟨xs, eo, hs⟩ := src_open l hw
    unfold spec_DrawNamedTriangle.f
    rw [eo, Option.bind_some]
    obtain ⟨t, et⟩ := draw_name xs hs (K + 1) (by omega)
    obtain ⟨X, hX⟩ : ∃ X, X = (some t : Option ByteArray) := ⟨_, rfl⟩
    refine Eq.trans (congrArg (fun o => Option.bind o _) et) ?_
    have hln := specNm_length t.toList
    have hf := specNm_form t.toList
    have hi := impl_NamedTriangle_eq t
    have hsp := spec_NamedTriangle_k t (K + 1) (by omega)
    obtain ⟨r1, r2, hr⟩ : ∃ r1 r2, specNm t.toList = (r1, r2) := ⟨_, _, rfl⟩
    rw [hr] at hln hf hi hsp
    have hln : r1.length ≤ 21 := hln
    have q0 := impl_NamedTriangle_eq (⟨#[115, 111, 109, 101]⟩ : ByteArray)
    have q1 := impl_NamedTriangle_eq (⟨#[101, 118, 101, 114, 121]⟩ : ByteArray)
    have q2 := impl_NamedTriangle_eq (⟨#[110, 111]⟩ : ByteArray)
    have q3 := impl_NamedTriangle_eq (⟨#[97, 116, 108, 101, 97, 115, 116, 49]⟩ : ByteArray)
    have q4 := impl_NamedTriangle_eq (⟨#[97, 108, 108, 98, 117, 116, 48]⟩ : ByteArray)
    rw [ByteArray.toList_eq] at q0 q1 q2 q3 q4
    obtain ⟨v1, v2, v3, v4⟩ := nameds
    have l0 := specNm_length [115, 111, 109, 101]
    have l1 := specNm_length [101, 118, 101, 114, 121]
    have l2 := specNm_length [110, 111]
    have nx : laws_FnNamedTriangle.j0 (K + 1) r1 r2 false = some true := by
      simp only [laws_FnNamedTriangle.j0]
      rw [if_neg Bool.false_ne_true, q0, Option.bind_some, q1, Option.bind_some, q2, Option.bind_some, q3, Option.bind_some, q4, Option.bind_some]
      have w1 := impl_NotOf_k (specNm [115, 111, 109, 101]).1 (by omega) K (by omega)
      have w2 := impl_DualOf_k (specNm [115, 111, 109, 101]).1 (by omega) K (by omega)
      rw [v1] at w1
      rw [v2] at w2
      have w3 := same_k (specNm [115, 111, 109, 101]).1 (by omega) K (by omega)
      have w4 := same_k (specNm [101, 118, 101, 114, 121]).1 (by omega) K (by omega)
      have w5 := same_k (specNm [110, 111]).1 (by omega) K (by omega)
      have a3 : (specNm #[97, 116, 108, 101, 97, 115, 116, 49].toList).1 = (specNm [115, 111, 109, 101]).1 := v3
      have a4 : (specNm #[97, 108, 108, 98, 117, 116, 48].toList).1 = (specNm [101, 118, 101, 114, 121]).1 := v4
      rw [a3, a4]
      rw [show (#[115, 111, 109, 101] : Array UInt8).toList = [115, 111, 109, 101] from rfl, show (#[101, 118, 101, 114, 121] : Array UInt8).toList = [101, 118, 101, 114, 121] from rfl, show (#[110, 111] : Array UInt8).toList = [110, 111] from rfl]
      rw [w1, Option.bind_some, w5, Option.bind_some, if_pos rfl, w2, Option.bind_some, w4, Option.bind_some, if_pos rfl, w3, Option.bind_some, if_pos rfl, Option.bind_some, if_pos rfl, alive_eq]
      rcases hf with ⟨a, b, hab⟩ | hab
      · injection hab with hab1 hab2
        rw [if_pos hab2, impl_TriangleOk_k r1 (by omega) K (by omega), Option.bind_some, hab1, isTri_made a b, if_pos rfl]
        rfl
      · injection hab with hab1 hab2
        rw [if_neg (by rw [hab2]; exact Bool.false_ne_true), hab1, if_pos (by rfl)]
        rfl
    rw [Option.bind_some, hi, Option.bind_some, hsp, Option.bind_some, same_k r1 (by omega) (K + 1) (by omega), Option.bind_some, if_pos rfl, bne_self_eq_false]
    exact nx

end Go.Proofs.Ytgkifmabdfjejaa.Pure
