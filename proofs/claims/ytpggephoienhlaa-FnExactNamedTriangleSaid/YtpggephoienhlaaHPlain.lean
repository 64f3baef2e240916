-- Written by wip/gen/lay.py, a program of this session, with the kit's print as its base. Lean checks every line.
/- Plain definitions (no Go): the triangle of what holds for two numbers, row by row, and what the other makers of this seat come to. No condition. -/
import Derived.Test.YtpggephoienhlaaWWords
namespace Go.Proofs.Ytpggephoienhlaa.P
open Go.Proofs.YtpggephoienhlaaW.PrintWords

/-- The first m entries of row a. -/
def triRow (so : Int → Int → Bool) (a m : Nat) : List Int := (List.range m).map fun (s : Nat) => if so (a : Int) (s : Int) = true then 1 else 0
/-- The rows below n, one behind the other. -/
def triRows (so : Int → Int → Bool) (n : Nat) : List Int := (List.range n).flatMap fun a => triRow so a (a + 1)
def triBy (so : Int → Int → Bool) : List Int := triRows so 6
theorem triRow_zero (so : Int → Int → Bool) (a : Nat) : triRow so a 0 = [] := rfl
theorem triRow_succ (so : Int → Int → Bool) (a m : Nat) : triRow so a (m + 1) = triRow so a m ++ [if so (a : Int) (m : Int) = true then 1 else 0] := by
  simp [triRow, List.range_succ]
theorem triRows_zero (so : Int → Int → Bool) : triRows so 0 = [] := rfl
theorem triRows_succ (so : Int → Int → Bool) (n : Nat) : triRows so (n + 1) = triRows so n ++ triRow so n (n + 1) := by
  simp [triRows, List.range_succ]
theorem triRow_length (so : Int → Int → Bool) (a m : Nat) : (triRow so a m).length = m := by simp [triRow]
theorem triRows_length_le (so : Int → Int → Bool) : ∀ n, n ≤ 6 → (triRows so n).length ≤ 6 * n
  | 0, _ => by simp [triRows_zero]
  | n + 1, h => by
    have := triRows_length_le so n (by omega)
    rw [triRows_succ, List.length_append, triRow_length]
    omega
/-- Whether a triangle holds for two numbers. -/
def hd (l : List Int) (a s : Int) : Bool := rd l (a * (a + 1) / 2 + s) == 1
/-- A list of 21 numbers, each 0 or 1. -/
def isTri (l : List Int) : Bool := l.all (fun x => x == 0 || x == 1) && l.length == 21
theorem isTri_length {l : List Int} (h : isTri l = true) : l.length = 21 := by
  simp [isTri] at h
  exact h.2
/-- What a triangle holds for, something else is so for. -/
def okAt (l : List Int) (so : Int → Int → Bool) (a s : Int) : Bool := !(hd l a s) || so a s
def staysP (l : List Int) (so : Int → Int → Bool) : Bool := (List.range 6).all fun (a : Nat) => (List.range (a + 1)).all fun (s : Nat) => okAt l so (a : Int) (s : Int)
theorem staysP_true (l : List Int) (so : Int → Int → Bool) (h : ∀ a s : Nat, a < 6 → s ≤ a → okAt l so a s = true) : staysP l so = true := by
  simp only [staysP, List.all_eq_true, List.mem_range]
  exact fun a ha s hs => h a s ha (by omega)
theorem staysP_false (l : List Int) (so : Int → Int → Bool) (a s : Nat) (ha : a < 6) (hs : s ≤ a) (h : okAt l so a s = false) : staysP l so = false := by
  rw [Bool.eq_false_iff]
  intro hc
  simp only [staysP, List.all_eq_true, List.mem_range] at hc
  rw [hc a ha s (by omega)] at h
  exact absurd h (by decide)
/-- Whether a triangle holds for some number that is not greater; not less. -/
def upP (l : List Int) (a s : Int) : Bool := (List.range (s.toNat + 1)).any fun (k : Nat) => hd l a (k : Int)
def downP (l : List Int) (a s : Int) : Bool := (List.range (a.toNat + 1)).any fun (k : Nat) => decide (s ≤ (k : Int)) && hd l a (k : Int)
theorem upP_false (l : List Int) (a s : Int) (h : ∀ k : Nat, k < s.toNat + 1 → hd l a k = false) : upP l a s = false := by
  rw [Bool.eq_false_iff]
  intro hc
  simp only [upP, List.any_eq_true, List.mem_range] at hc
  obtain ⟨k, hk, h2⟩ := hc
  rw [h k hk] at h2
  exact absurd h2 (by decide)
theorem upP_true (l : List Int) (a s : Int) (k : Nat) (hk : k < s.toNat + 1) (h : hd l a k = true) : upP l a s = true := by
  simp only [upP, List.any_eq_true, List.mem_range]
  exact ⟨k, hk, h⟩
theorem downP_false (l : List Int) (a s : Int) (h : ∀ k : Nat, s ≤ (k : Int) → k < a.toNat + 1 → hd l a k = false) : downP l a s = false := by
  rw [Bool.eq_false_iff]
  intro hc
  simp only [downP, List.any_eq_true, List.mem_range, Bool.and_eq_true, decide_eq_true_eq] at hc
  obtain ⟨k, hk, h1, h2⟩ := hc
  rw [h k h1 hk] at h2
  exact absurd h2 (by decide)
theorem downP_true (l : List Int) (a s : Int) (k : Nat) (h1 : s ≤ (k : Int)) (hk : k < a.toNat + 1) (h : hd l a k = true) : downP l a s = true := by
  simp only [downP, List.any_eq_true, List.mem_range, Bool.and_eq_true, decide_eq_true_eq]
  exact ⟨k, hk, h1, h⟩

end Go.Proofs.Ytpggephoienhlaa.P
