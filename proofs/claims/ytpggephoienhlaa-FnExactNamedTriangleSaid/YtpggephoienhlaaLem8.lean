/- Plain facts: what the reference's and the program's NamedTriangle come to, with enough rounds, for every text. -/
import Derived.Test.YtpggephoienhlaaLem2b
import Derived.Test.YtpggephoienhlaaPx21
import Derived.Test.YtpggephoienhlaaPx24
import Derived.Lib.PathFns
import Derived.Lib.IndexBytes
namespace Go.Proofs.Ytpggephoienhlaa.P
open Go.RowKit Go.Proofs.YtpggephoienhlaaW.PrintWords Go.Proofs.YtpggephoienhlaaW.PrintLast

/-! The reference's rules. -/
def madeB (rule n a s : Int) : Bool :=
  if rule = 0 then s == a else if rule = 1 then decide (n ≤ s) else if rule = 2 then s == n else if rule = 3 then decide (a < 2 * s) else if rule = 4 then s % 2 == 0 else if rule = 5 then a - s == n else false
def madeI (rule n a s : Int) : Int := if madeB rule n a s = true then 1 else 0
theorem spec_l1Made_l1 (rule n : Int) (a : Nat) (ha : a < 6) (d : Nat) : ∀ (m s : Nat), s + d = a + 1 →
    spec_l1Made.l1 (m + d + 1) rule n (rowsI (madeI rule n) a ++ rowI (madeI rule n) a s) (a : Int) (s : Int) = spec_l1Made.l0 m rule n (rowsI (madeI rule n) (a + 1)) ((a + 1 : Nat) : Int) := by
  induction d with
  | zero =>
    intro m s h
    obtain ⟨M, hM⟩ : ∃ M, M = m + 0 := ⟨_, rfl⟩
    rw [← hM, show m = M from by omega]
    simp only [spec_l1Made.l1]
    rw [if_neg (by omega), wrap_succ6 a (by omega), show s = a + 1 from by omega, ← rowsI_succ]
  | succ d ih =>
    intro m s h
    obtain ⟨M, hM⟩ : ∃ M, M = m + d + 1 := ⟨_, rfl⟩
    rw [show m + (d + 1) + 1 = M + 1 from by omega]
    have hb := rows_bound (madeI rule n) a s ha (by omega)
    have w1 : wrap64 (2 * (s : Int)) = 2 * s := by unfold wrap64; omega
    have w2 : wrap64 ((a : Int) - s) = (a : Int) - s := by unfold wrap64; omega
    have hm : Int.tmod (s : Int) 2 = (s : Int) % 2 := Int.tmod_eq_emod_of_nonneg (by omega)
    have hi := ih m (s + 1) (by omega)
    have key : ∀ b : Bool, madeB rule n a s = b → spec_l1Made.l1 M rule n ((rowsI (madeI rule n) a ++ rowI (madeI rule n) a s) ++ [if b = true then 1 else 0]) (a : Int) ((s + 1 : Nat) : Int) = spec_l1Made.l0 m rule n (rowsI (madeI rule n) (a + 1)) ((a + 1 : Nat) : Int) := by
      intro b hb'
      rw [List.append_assoc, show rowI (madeI rule n) a s ++ [if b = true then 1 else 0] = rowI (madeI rule n) a (s + 1) from by rw [rowI_succ, madeI, hb'], hM]
      exact hi
    simp only [spec_l1Made.l1]
    rw [if_pos (by omega), wrap_succ6 s (by omega), w1, w2, hm]
    simp only [if_pos hb]
    have kt := key true
    have kf := key false
    simp only [if_true, Bool.false_eq_true, if_false] at kt kf
    unfold madeB at kt kf
    by_cases r0 : rule = 0
    · rw [if_pos r0]
      simp only [if_pos r0] at kt kf
      by_cases c : (s : Int) = a
      · rw [if_pos c]; exact kt (by simpa using c)
      · rw [if_neg c]; exact kf (by simpa using c)
    · rw [if_neg r0]
      simp only [if_neg r0] at kt kf
      by_cases r1 : rule = 1
      · rw [if_pos r1]
        simp only [if_pos r1] at kt kf
        by_cases c : (s : Int) ≥ n
        · rw [if_pos c]; exact kt (decide_eq_true c)
        · rw [if_neg c]; exact kf (decide_eq_false c)
      · rw [if_neg r1]
        simp only [if_neg r1] at kt kf
        by_cases r2 : rule = 2
        · rw [if_pos r2]
          simp only [if_pos r2] at kt kf
          by_cases c : (s : Int) = n
          · rw [if_pos c]; exact kt (by simpa using c)
          · rw [if_neg c]; exact kf (by simpa using c)
        · rw [if_neg r2]
          simp only [if_neg r2] at kt kf
          by_cases r3 : rule = 3
          · rw [if_pos r3]
            simp only [if_pos r3] at kt kf
            by_cases c : 2 * (s : Int) > a
            · rw [if_pos c]; exact kt (decide_eq_true c)
            · rw [if_neg c]; exact kf (decide_eq_false c)
          · rw [if_neg r3]
            simp only [if_neg r3] at kt kf
            by_cases r4 : rule = 4
            · rw [if_pos r4]
              simp only [if_pos r4] at kt kf
              by_cases c : (s : Int) % 2 = 0
              · rw [if_pos c]; exact kt (by rw [c]; rfl)
              · rw [if_neg c]; exact kf (beq_eq_false_iff_ne.mpr c)
            · rw [if_neg r4]
              simp only [if_neg r4] at kt kf
              by_cases r5 : rule = 5
              · rw [if_pos r5]
                simp only [if_pos r5] at kt kf
                by_cases c : (a : Int) - s = n
                · rw [if_pos c]; exact kt (beq_iff_eq.mpr c)
                · rw [if_neg c]; exact kf (beq_eq_false_iff_ne.mpr c)
              · rw [if_neg r5]
                simp only [if_neg r5] at kt kf
                exact kf trivial
theorem spec_l1Made_l0 (rule n : Int) (e : Nat) : ∀ (k a : Nat), a + e = 6 → 10 * e + 10 < k → spec_l1Made.l0 k rule n (rowsI (madeI rule n) a) (a : Int) = some (triI (madeI rule n)) := by
  induction e with
  | zero =>
    intro k a h hk
    obtain ⟨k, rfl⟩ : ∃ m, k = m + 1 := ⟨k - 1, by omega⟩
    obtain rfl : a = 6 := by omega
    simp only [spec_l1Made.l0]
    rw [if_neg (by omega)]
    rfl
  | succ e ih =>
    intro k a h hk
    obtain ⟨k, rfl⟩ : ∃ m, k = m + (a + 1) + 1 + 1 := ⟨k - (a + 3), by omega⟩
    have hh := spec_l1Made_l1 rule n a (by omega) (a + 1) k 0 (by omega)
    rw [rowI_zero, List.append_nil] at hh
    simp only [spec_l1Made.l0]
    rw [if_pos (by omega)]
    refine Eq.trans hh ?_
    exact ih k (a + 1) (by omega) (by omega)
theorem spec_l1Made_k (rule n : Int) (k : Nat) (hk : 100 ≤ k) : spec_l1Made.f k rule n = some (triI (madeI rule n)) := spec_l1Made_l0 rule n 6 k 0 (by omega) (by omega)

/-! The names. -/
def digitB (n : Int) : ByteArray := strOfNums [(wrap64 (48 + n)) % 256]
theorem spec_l1Number_k (n : Int) (h : n < 10) (k : Nat) (hk : 1 ≤ k) : spec_l1Number.f k n = some (digitB n) := by
  obtain ⟨k, rfl⟩ : ∃ m, k = m + 1 := ⟨k - 1, by omega⟩
  simp only [spec_l1Number.f]
  rw [if_pos h]
  rfl
theorem digit_list (n : Nat) (h : n < 6) : (digitB (n : Int)).data.toList = [UInt8.ofNat (48 + n)] ∧ (digitB (n : Int)).size = 1 := by
  have hf : ∀ i : Fin 6, (digitB (i.val : Int)).data.toList = [UInt8.ofNat (48 + i.val)] ∧ (digitB (i.val : Int)).size = 1 := by decide +kernel
  exact hf ⟨n, h⟩
def wAtleast : List UInt8 := [97, 116, 108, 101, 97, 115, 116]
def wJust : List UInt8 := [106, 117, 115, 116]
def wAllbut : List UInt8 := [97, 108, 108, 98, 117, 116]
/-- What the reference answers to a name, by its letters: from the digit i on. -/
def specDig (L : List UInt8) : Nat → Nat → List Int × Bool
  | 0, _ => ([], false)
  | e + 1, i => if L = wAtleast ++ [UInt8.ofNat (48 + i)] ∧ 0 < i then (triI (madeI 1 i), true) else if L = wJust ++ [UInt8.ofNat (48 + i)] then (triI (madeI 2 i), true) else if L = wAllbut ++ [UInt8.ofNat (48 + i)] then (triI (madeI 5 i), true) else specDig L e (i + 1)
theorem cat_list (W : List UInt8) (n : Nat) (h : n < 6) : ((⟨W.toArray⟩ : ByteArray) ++ digitB (n : Int)).toList = W ++ [UInt8.ofNat (48 + n)] := by
  rw [ByteArray.toList_eq, ByteArray.data_append, Array.toList_append, (digit_list n h).1]
theorem spec_Named_l1 (a0 : ByteArray) (e : Nat) : ∀ (k i : Nat), i + e = 6 → 300 + 3 * e ≤ k → spec_NamedTriangle.l1 k a0 (i : Int) = some (specDig a0.toList e i) := by
  induction e with
  | zero =>
    intro k i h hk
    obtain ⟨k, rfl⟩ : ∃ m, k = m + 1 := ⟨k - 1, by omega⟩
    simp only [spec_NamedTriangle.l1]
    rw [if_neg (by omega)]
    rfl
  | succ e ih =>
    intro k i h hk
    obtain ⟨k, rfl⟩ : ∃ m, k = m + 1 + 1 := ⟨k - 2, by omega⟩
    have hz := (digit_list i (by omega)).2
    have c1 := cat_list wAtleast i (by omega)
    have c2 := cat_list wJust i (by omega)
    have c3 := cat_list wAllbut i (by omega)
    simp only [spec_NamedTriangle.l1]
    rw [if_pos (by omega), spec_l1Number_k _ (by omega) _ (by omega), Option.bind_some, if_pos (by omega), show ((⟨#[97, 116, 108, 101, 97, 115, 116]⟩ : ByteArray) ++ digitB (i : Int)).toList = wAtleast ++ [UInt8.ofNat (48 + i)] from c1]
    have hj : ∀ x : Bool, (x = true → a0.toList = wAtleast ++ [UInt8.ofNat (48 + i)] ∧ 0 < i) → (x = false → ¬ (a0.toList = wAtleast ++ [UInt8.ofNat (48 + i)] ∧ 0 < i)) → spec_NamedTriangle.j2 (k + 1) a0 (i : Int) (digitB (i : Int)) x = some (specDig a0.toList (e + 1) i) := by
      intro x h1 h2
      simp only [spec_NamedTriangle.j2]
      rw [specDig]
      cases x with
      | true =>
        rw [if_pos rfl, spec_l1Made_k _ _ _ (by omega), Option.bind_some, if_pos (h1 rfl)]
      | false =>
        rw [if_neg (by decide), if_neg (h2 rfl), if_pos (by omega), show ((⟨#[106, 117, 115, 116]⟩ : ByteArray) ++ digitB (i : Int)).toList = wJust ++ [UInt8.ofNat (48 + i)] from c2]
        by_cases g2 : a0.toList = wJust ++ [UInt8.ofNat (48 + i)]
        · rw [if_pos g2, if_pos g2, spec_l1Made_k _ _ _ (by omega), Option.bind_some]
        · rw [if_neg g2, if_neg g2, if_pos (by omega), show ((⟨#[97, 108, 108, 98, 117, 116]⟩ : ByteArray) ++ digitB (i : Int)).toList = wAllbut ++ [UInt8.ofNat (48 + i)] from c3]
          by_cases g3 : a0.toList = wAllbut ++ [UInt8.ofNat (48 + i)]
          · rw [if_pos g3, if_pos g3, spec_l1Made_k _ _ _ (by omega), Option.bind_some]
          · rw [if_neg g3, if_neg g3, wrap_succ6 i (by omega)]
            exact ih k (i + 1) (by omega) (by omega)
    by_cases g1 : a0.toList = wAtleast ++ [UInt8.ofNat (48 + i)]
    · rw [if_pos g1]
      refine hj _ (fun h => ⟨g1, by have := of_decide_eq_true h; omega⟩) (fun h h' => ?_)
      have := of_decide_eq_false h
      omega
    · rw [if_neg g1]
      exact hj false (fun h => absurd h (by decide)) (fun _ h' => g1 h'.1)
def specNm (L : List UInt8) : List Int × Bool :=
  if L = [101, 118, 101, 114, 121] then (triI (madeI 0 0), true) else if L = [115, 111, 109, 101] then (triI (madeI 1 1), true) else if L = [110, 111] then (triI (madeI 2 0), true) else if L = [109, 111, 115, 116] then (triI (madeI 3 0), true) else if L = [101, 118, 101, 110] then (triI (madeI 4 0), true) else specDig L 6 0
theorem spec_NamedTriangle_k (a0 : ByteArray) (k : Nat) (hk : 1000 ≤ k) : spec_NamedTriangle.f k a0 = some (specNm a0.toList) := by
  obtain ⟨k, rfl⟩ : ∃ m, k = m + 5 + 1 := ⟨k - 6, by omega⟩
  have hl := spec_Named_l1 a0 6 k 0 (by omega) (by omega)
  have m0 := fun r n => spec_l1Made_k r n (k + 5) (by omega)
  have m1 := fun r n => spec_l1Made_k r n (k + 4) (by omega)
  have m2 := fun r n => spec_l1Made_k r n (k + 3) (by omega)
  have m3 := fun r n => spec_l1Made_k r n (k + 2) (by omega)
  have m4 := fun r n => spec_l1Made_k r n (k + 1) (by omega)
  unfold spec_NamedTriangle.f specNm
  obtain ⟨x, hx⟩ : ∃ x, specDig a0.toList 6 0 = x := ⟨_, rfl⟩
  rw [hx] at hl ⊢
  have t0 : ((⟨#[101, 118, 101, 114, 121]⟩ : ByteArray)).toList = [101, 118, 101, 114, 121] := by rw [ByteArray.toList_eq]
  have t1 : ((⟨#[115, 111, 109, 101]⟩ : ByteArray)).toList = [115, 111, 109, 101] := by rw [ByteArray.toList_eq]
  have t2 : ((⟨#[110, 111]⟩ : ByteArray)).toList = [110, 111] := by rw [ByteArray.toList_eq]
  have t3 : ((⟨#[109, 111, 115, 116]⟩ : ByteArray)).toList = [109, 111, 115, 116] := by rw [ByteArray.toList_eq]
  have t4 : ((⟨#[101, 118, 101, 110]⟩ : ByteArray)).toList = [101, 118, 101, 110] := by rw [ByteArray.toList_eq]
  obtain ⟨ns, hns⟩ : ∃ ns : List ByteArray, ns = [(⟨#[101, 118, 101, 114, 121]⟩ : ByteArray), (⟨#[115, 111, 109, 101]⟩ : ByteArray), (⟨#[110, 111]⟩ : ByteArray), (⟨#[109, 111, 115, 116]⟩ : ByteArray), (⟨#[101, 118, 101, 110]⟩ : ByteArray)] := ⟨_, rfl⟩
  rw [← hns]
  have nl : ns.length = 5 := by rw [hns]; rfl
  have r0 : (rdOf ByteArray.empty ns 0).toList = [101, 118, 101, 114, 121] := by rw [hns]; exact t0
  have r1 : (rdOf ByteArray.empty ns 1).toList = [115, 111, 109, 101] := by rw [hns]; exact t1
  have r2 : (rdOf ByteArray.empty ns 2).toList = [110, 111] := by rw [hns]; exact t2
  have r3 : (rdOf ByteArray.empty ns 3).toList = [109, 111, 115, 116] := by rw [hns]; exact t3
  have r4 : (rdOf ByteArray.empty ns 4).toList = [101, 118, 101, 110] := by rw [hns]; exact t4
  have l5 : spec_NamedTriangle.l0 (k + 1) a0 ns 5 = some x := by
    rw [spec_NamedTriangle.l0]
    rw [if_neg (by omega)]
    exact hl
  have l4 : spec_NamedTriangle.l0 (k + 2) a0 ns 4 = some (if a0.toList = [101, 118, 101, 110] then (triI (madeI 4 0), true) else x) := by
    rw [spec_NamedTriangle.l0]
    rw [if_pos (by omega), if_pos (by omega), r4]
    by_cases g : a0.toList = [101, 118, 101, 110]
    · rw [if_pos g, if_pos g, Option.bind_some, if_pos (by decide), Option.bind_some, if_pos (by decide), show rd [0, 1, 2, 3, 4] 4 = 4 from rfl, show rd [0, 1, 0, 0, 0] 4 = 0 from rfl, m4 4 0, Option.bind_some]
    · rw [if_neg g, if_neg g, show wrap64 ((4 : Int) + 1) = 5 from by unfold wrap64; omega]
      exact l5
  have l3 : spec_NamedTriangle.l0 (k + 3) a0 ns 3 = some (if a0.toList = [109, 111, 115, 116] then (triI (madeI 3 0), true) else if a0.toList = [101, 118, 101, 110] then (triI (madeI 4 0), true) else x) := by
    rw [spec_NamedTriangle.l0]
    rw [if_pos (by omega), if_pos (by omega), r3]
    by_cases g : a0.toList = [109, 111, 115, 116]
    · rw [if_pos g, if_pos g, Option.bind_some, if_pos (by decide), Option.bind_some, if_pos (by decide), show rd [0, 1, 2, 3, 4] 3 = 3 from rfl, show rd [0, 1, 0, 0, 0] 3 = 0 from rfl, m3 3 0, Option.bind_some]
    · rw [if_neg g, if_neg g, show wrap64 ((3 : Int) + 1) = 4 from by unfold wrap64; omega]
      exact l4
  have l2 : spec_NamedTriangle.l0 (k + 4) a0 ns 2 = some (if a0.toList = [110, 111] then (triI (madeI 2 0), true) else if a0.toList = [109, 111, 115, 116] then (triI (madeI 3 0), true) else if a0.toList = [101, 118, 101, 110] then (triI (madeI 4 0), true) else x) := by
    rw [spec_NamedTriangle.l0]
    rw [if_pos (by omega), if_pos (by omega), r2]
    by_cases g : a0.toList = [110, 111]
    · rw [if_pos g, if_pos g, Option.bind_some, if_pos (by decide), Option.bind_some, if_pos (by decide), show rd [0, 1, 2, 3, 4] 2 = 2 from rfl, show rd [0, 1, 0, 0, 0] 2 = 0 from rfl, m2 2 0, Option.bind_some]
    · rw [if_neg g, if_neg g, show wrap64 ((2 : Int) + 1) = 3 from by unfold wrap64; omega]
      exact l3
  have l1 : spec_NamedTriangle.l0 (k + 5) a0 ns 1 = some (if a0.toList = [115, 111, 109, 101] then (triI (madeI 1 1), true) else if a0.toList = [110, 111] then (triI (madeI 2 0), true) else if a0.toList = [109, 111, 115, 116] then (triI (madeI 3 0), true) else if a0.toList = [101, 118, 101, 110] then (triI (madeI 4 0), true) else x) := by
    rw [spec_NamedTriangle.l0]
    rw [if_pos (by omega), if_pos (by omega), r1]
    by_cases g : a0.toList = [115, 111, 109, 101]
    · rw [if_pos g, if_pos g, Option.bind_some, if_pos (by decide), Option.bind_some, if_pos (by decide), show rd [0, 1, 2, 3, 4] 1 = 1 from rfl, show rd [0, 1, 0, 0, 0] 1 = 1 from rfl, m1 1 1, Option.bind_some]
    · rw [if_neg g, if_neg g, show wrap64 ((1 : Int) + 1) = 2 from by unfold wrap64; omega]
      exact l2
  rw [spec_NamedTriangle.l0]
  rw [if_pos (by omega), if_pos (by omega), r0]
  by_cases g : a0.toList = [101, 118, 101, 114, 121]
  · rw [if_pos g, if_pos g, Option.bind_some, if_pos (by decide), Option.bind_some, if_pos (by decide), show rd [0, 1, 2, 3, 4] 0 = 0 from rfl, show rd [0, 1, 0, 0, 0] 0 = 0 from rfl, m0 0 0, Option.bind_some]
  · rw [if_neg g, if_neg g, show wrap64 ((0 : Int) + 1) = 1 from by unfold wrap64; omega]
    exact l1

/-! The program's names. -/
def B (L : List UInt8) : ByteArray := ⟨L.toArray⟩
theorem B_of (a : ByteArray) : B a.toList = a := by
  rw [ByteArray.toList_eq]
  cases a
  rfl
theorem B_toList (L : List UInt8) : (B L).toList = L := by rw [ByteArray.toList_eq]; rfl
theorem B_size (L : List UInt8) : (B L).size = L.length := rfl
theorem B_data (L : List UInt8) : (B L).data.toList = L := rfl
/-- The digit that a text bears behind W, if it is W and one letter. -/
def cntP (L W : List UInt8) (lo hi : Int) : Int × Bool :=
  if L.take W.length = W ∧ L.length = W.length + 1 then
    let c : Int := ((L.getD W.length 0).toNat : Int) - 48
    (c, decide (lo ≤ c ∧ c ≤ hi))
  else (0, false)
theorem wrap_letter (b : UInt8) : wrap64 (wrap64 (b.toNat : Int) - 48) = (b.toNat : Int) - 48 := by
  have := b.toNat_lt
  unfold wrap64
  omega
theorem countIn_eq (L W : List UInt8) (lo hi : Int) : ∃ c b, impl_countIn.f (B L) (B W) lo hi = some (c, b) ∧ (b = true → (c, b) = cntP L W lo hi) ∧ (b = false → (cntP L W lo hi).2 = false) := by
  unfold impl_countIn.f strings_CutPrefix.f stringslite_CutPrefix.f stringslite_HasPrefix.f
  rw [B_size, B_size]
  by_cases h1 : W.length ≤ L.length
  · have h1' : (W.length : Int) ≤ (L.length : Int) := by omega
    rw [if_pos (show (L.length : Int) ≥ (W.length : Int) from h1'), if_pos (show 0 ≤ (W.length : Int) by omega), if_pos h1', Option.bind_some]
    have ht : ((B L).extract 0 ((W.length : Int)).toNat).toList = L.take W.length := by
      rw [ByteArray.toList_eq, Lib.Pa.extract_upto_list, Int.toNat_natCast, B_data]
    rw [ht, B_toList]
    by_cases h2 : L.take W.length = W
    · rw [beq_iff_eq.mpr h2, if_pos rfl, if_pos (show 0 ≤ (W.length : Int) by omega), if_pos h1', Option.bind_some, Option.bind_some]
      have hx : ((B L).extract ((W.length : Int)).toNat L.length).data.toList = L.drop W.length := by
        rw [Int.toNat_natCast, ← B_size L, Lib.extract_to_end, B_data]
      obtain ⟨E, hE⟩ : ∃ E, E = (B L).extract ((W.length : Int)).toNat L.length := ⟨_, rfl⟩
      rw [← hE] at hx ⊢
      have hsz : E.size = L.length - W.length := by
        show E.data.size = _
        rw [← Array.length_toList, hx, List.length_drop]
      rw [if_pos rfl]
      by_cases h3 : L.length = W.length + 1
      · have hs1 : E.size = 1 := by omega
        have hb : bt E 0 = ((L.getD W.length 0).toNat : Int) := by
          unfold bt
          rw [dif_pos (show (0 : Int).toNat < E.size by rw [hs1]; decide)]
          have : E.data.toList[0]? = L[W.length]? := by rw [hx, List.getElem?_drop]; rfl
          have g1 : E.data.toList[0]? = some (E[(0 : Int).toNat]'(by rw [hs1]; decide)) := by
            rw [List.getElem?_eq_getElem (by rw [Array.length_toList]; show 0 < E.size; omega)]
            rfl
          rw [g1] at this
          rw [List.getD_eq_getElem?_getD, ← this]
          rfl
        rw [if_pos (show (E.size : Int) = 1 by omega), if_pos (show (0 : Int) < (E.size : Int) by omega), hb, wrap_letter]
        have hc : cntP L W lo hi = (((L.getD W.length 0).toNat : Int) - 48, decide (lo ≤ ((L.getD W.length 0).toNat : Int) - 48 ∧ ((L.getD W.length 0).toNat : Int) - 48 ≤ hi)) := by
          unfold cntP
          rw [if_pos ⟨h2, h3⟩]
        rw [hc]
        by_cases g : ((L.getD W.length 0).toNat : Int) - 48 ≥ lo
        · rw [if_pos g]
          refine ⟨_, _, rfl, ?_, ?_⟩
          · intro hd
            rw [hd]
            have := of_decide_eq_true hd
            rw [decide_eq_true (show lo ≤ ((L.getD W.length 0).toNat : Int) - 48 ∧ ((L.getD W.length 0).toNat : Int) - 48 ≤ hi from ⟨g, this⟩)]
          · intro hd
            have := of_decide_eq_false hd
            exact decide_eq_false (fun h => this h.2)
        · rw [if_neg g]
          exact ⟨_, _, rfl, fun h => absurd h (by decide), fun _ => decide_eq_false (fun h => g h.1)⟩
      · rw [if_neg (show ¬ (E.size : Int) = 1 by omega)]
        refine ⟨_, _, rfl, fun h => absurd h (by decide), fun _ => ?_⟩
        unfold cntP
        rw [if_neg (fun h => h3 h.2)]
    · rw [beq_eq_false_iff_ne.mpr h2, if_neg (by decide), Option.bind_some, Option.bind_some, if_neg (Bool.false_ne_true)]
      refine ⟨_, _, rfl, fun h => absurd h (by decide), fun _ => ?_⟩
      unfold cntP
      rw [if_neg (fun h => h2 h.1)]
  · rw [if_neg (show ¬ (L.length : Int) ≥ (W.length : Int) by omega), Option.bind_some, if_neg (by decide), Option.bind_some, Option.bind_some, if_neg (Bool.false_ne_true)]
    refine ⟨_, _, rfl, fun h => absurd h (by decide), fun _ => ?_⟩
    unfold cntP
    rw [if_neg (fun h => by have := h.2; omega)]

theorem cntP_true (L W : List UInt8) (lo hi : Int) (h0 : 0 ≤ lo) (h : (cntP L W lo hi).2 = true) : ∃ n : Nat, lo ≤ (n : Int) ∧ (n : Int) ≤ hi ∧ L = W ++ [UInt8.ofNat (48 + n)] := by
  unfold cntP at h
  by_cases g : L.take W.length = W ∧ L.length = W.length + 1
  · rw [if_pos g] at h
    have hd : lo ≤ ((L.getD W.length 0).toNat : Int) - 48 ∧ ((L.getD W.length 0).toNat : Int) - 48 ≤ hi := of_decide_eq_true h
    refine ⟨(L.getD W.length 0).toNat - 48, by omega, by omega, ?_⟩
    rw [show 48 + ((L.getD W.length 0).toNat - 48) = (L.getD W.length 0).toNat by omega, UInt8.ofNat_toNat]
    have hx : L.drop W.length = [L.getD W.length 0] := by
      apply List.ext_getElem?
      intro i
      rw [List.getElem?_drop]
      cases i with
      | zero =>
        rw [Nat.add_zero, List.getD_eq_getElem?_getD, List.getElem?_eq_getElem (show W.length < L.length by omega)]
        rfl
      | succ i =>
        rw [List.getElem?_eq_none (by omega)]
        rfl
    have := List.take_append_drop W.length L
    rw [g.1, hx] at this
    exact this.symm
  · rw [if_neg g] at h
    exact absurd h (by decide)
def names : List (List UInt8) := [[101, 118, 101, 114, 121], [115, 111, 109, 101], [110, 111], [109, 111, 115, 116], [101, 118, 101, 110]] ++ ((List.range 5).map (fun i => wAtleast ++ [UInt8.ofNat (48 + (i + 1))]) ++ ((List.range 6).map (fun i => wJust ++ [UInt8.ofNat (48 + i)]) ++ (List.range 6).map (fun i => wAllbut ++ [UInt8.ofNat (48 + i)])))
def implNm (L : List UInt8) : List Int × Bool := namedPick (plainName L) (cntP L wAtleast 1 5) (cntP L wJust 0 5) (cntP L wAllbut 0 5)
theorem names_same : ∀ L ∈ names, implNm L = specNm L := by decide +kernel
theorem specDig_none (L : List UInt8) : ∀ (e i : Nat), (∀ j, j < i + e → (0 < j → L ≠ wAtleast ++ [UInt8.ofNat (48 + j)]) ∧ L ≠ wJust ++ [UInt8.ofNat (48 + j)] ∧ L ≠ wAllbut ++ [UInt8.ofNat (48 + j)]) → specDig L e i = ([], false)
  | 0, _, _ => rfl
  | e + 1, i, h => by
    obtain ⟨h1, h2, h3⟩ := h i (by omega)
    rw [specDig, if_neg (fun g => h1 g.2 g.1), if_neg h2, if_neg h3]
    exact specDig_none L e (i + 1) (fun j hj => h j (by omega))
theorem same_names (L : List UInt8) : implNm L = specNm L := by
  by_cases h : L ∈ names
  · exact names_same L h
  · have ha : ∀ j, 0 < j → j < 6 → L ≠ wAtleast ++ [UInt8.ofNat (48 + j)] := fun j h1 h2 g => h (by
      unfold names
      refine List.mem_append_right _ (List.mem_append_left _ (List.mem_map.mpr ⟨j - 1, List.mem_range.mpr (by omega), ?_⟩))
      rw [show j - 1 + 1 = j by omega, g])
    have hj : ∀ j, j < 6 → L ≠ wJust ++ [UInt8.ofNat (48 + j)] := fun j h2 g => h (by
      unfold names
      exact List.mem_append_right _ (List.mem_append_right _ (List.mem_append_left _ (List.mem_map.mpr ⟨j, List.mem_range.mpr h2, g.symm⟩))))
    have hb : ∀ j, j < 6 → L ≠ wAllbut ++ [UInt8.ofNat (48 + j)] := fun j h2 g => h (by
      unfold names
      exact List.mem_append_right _ (List.mem_append_right _ (List.mem_append_right _ (List.mem_map.mpr ⟨j, List.mem_range.mpr h2, g.symm⟩))))
    have c1 : (cntP L wAtleast 1 5).2 = false := by
      cases g : (cntP L wAtleast 1 5).2
      · rfl
      · obtain ⟨n, g1, g2, g3⟩ := cntP_true L wAtleast 1 5 (by omega) g
        exact absurd g3 (ha n (by omega) (by omega))
    have c2 : (cntP L wJust 0 5).2 = false := by
      cases g : (cntP L wJust 0 5).2
      · rfl
      · obtain ⟨n, g1, g2, g3⟩ := cntP_true L wJust 0 5 (by omega) g
        exact absurd g3 (hj n (by omega))
    have c3 : (cntP L wAllbut 0 5).2 = false := by
      cases g : (cntP L wAllbut 0 5).2
      · rfl
      · obtain ⟨n, g1, g2, g3⟩ := cntP_true L wAllbut 0 5 (by omega) g
        exact absurd g3 (hb n (by omega))
    have p0 : L ≠ [101, 118, 101, 114, 121] := fun g => h (by rw [g]; decide +kernel)
    have p1 : L ≠ [115, 111, 109, 101] := fun g => h (by rw [g]; decide +kernel)
    have p2 : L ≠ [110, 111] := fun g => h (by rw [g]; decide +kernel)
    have p3 : L ≠ [109, 111, 115, 116] := fun g => h (by rw [g]; decide +kernel)
    have p4 : L ≠ [101, 118, 101, 110] := fun g => h (by rw [g]; decide +kernel)
    unfold implNm specNm namedPick plainName
    rw [if_neg p0, if_neg p1, if_neg p2, if_neg p3, if_neg p4, c1, c2, c3, specDig_none L 6 0 (fun j hj' => ⟨fun g => ha j g (by omega), hj j (by omega), hb j (by omega)⟩), beq_eq_false_iff_ne.mpr p0, beq_eq_false_iff_ne.mpr p1, beq_eq_false_iff_ne.mpr p2, beq_eq_false_iff_ne.mpr p3, beq_eq_false_iff_ne.mpr p4]
    rfl
theorem pick_same (i : Nat) (c1 c2 c3 d1 d2 d3 : Int × Bool) (h1 : c1.2 = d1.2) (g1 : d1.2 = true → c1 = d1) (h2 : c2.2 = d2.2) (g2 : d2.2 = true → c2 = d2) (h3 : c3.2 = d3.2) (g3 : d3.2 = true → c3 = d3) : namedPick i c1 c2 c3 = namedPick i d1 d2 d3 := by
  unfold namedPick
  rw [h1, h2, h3]
  by_cases e3 : d3.2 = true
  · rw [if_pos e3, if_pos e3, g3 e3]
  · rw [if_neg e3, if_neg e3]
    by_cases e2 : d2.2 = true
    · rw [if_pos e2, if_pos e2, g2 e2]
    · rw [if_neg e2, if_neg e2]
      by_cases e1 : d1.2 = true
      · rw [if_pos e1, if_pos e1, g1 e1]
      · rw [if_neg e1, if_neg e1]
theorem count_same (L W : List UInt8) (lo hi : Int) : ∃ c, impl_countIn.f (B L) (B W) lo hi = some c ∧ c.2 = (cntP L W lo hi).2 ∧ ((cntP L W lo hi).2 = true → c = cntP L W lo hi) := by
  obtain ⟨c, b, h, h1, h2⟩ := countIn_eq L W lo hi
  refine ⟨(c, b), h, ?_⟩
  cases b with
  | true =>
    have := h1 rfl
    rw [← this]
    exact ⟨rfl, fun _ => rfl⟩
  | false =>
    have := h2 rfl
    rw [this]
    exact ⟨rfl, fun h => absurd h (by decide)⟩
theorem impl_NamedTriangle_eq (a0 : ByteArray) : impl_NamedTriangle.f a0 = some (specNm a0.toList) := by
  unfold impl_NamedTriangle.f impl_namedTriangle.f
  obtain ⟨c1, e1, h1, g1⟩ := count_same a0.toList wAtleast 1 5
  obtain ⟨c2, e2, h2, g2⟩ := count_same a0.toList wJust 0 5
  obtain ⟨c3, e3, h3, g3⟩ := count_same a0.toList wAllbut 0 5
  rw [B_of] at e1 e2 e3
  have e1 : impl_countIn.f a0 (⟨#[97, 116, 108, 101, 97, 115, 116]⟩ : ByteArray) 1 5 = some c1 := e1
  have e2 : impl_countIn.f a0 (⟨#[106, 117, 115, 116]⟩ : ByteArray) 0 5 = some c2 := e2
  have e3 : impl_countIn.f a0 (⟨#[97, 108, 108, 98, 117, 116]⟩ : ByteArray) 0 5 = some c3 := e3
  rw [e1, Option.bind_some, e2, Option.bind_some, e3, Option.bind_some, Option.bind_some, pick_same _ c1 c2 c3 _ _ _ h1 g1 h2 g2 h3 g3]
  exact congrArg some (same_names a0.toList)
theorem specDig_length (L : List UInt8) : ∀ e i, (specDig L e i).1.length ≤ 21
  | 0, _ => by simp [specDig]
  | e + 1, i => by
    rw [specDig]
    split
    · simp only [triI_length]; omega
    · split
      · simp only [triI_length]; omega
      · split
        · simp only [triI_length]; omega
        · exact specDig_length L e (i + 1)
theorem specNm_length (L : List UInt8) : (specNm L).1.length ≤ 21 := by
  unfold specNm
  repeat' split
  all_goals first | exact specDig_length L 6 0 | (simp only [triI_length]; omega)

end Go.Proofs.Ytpggephoienhlaa.P
