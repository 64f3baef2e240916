-- Written by wip/gen/lay.py, a program of this session, with the kit's print as its base. Lean checks every line.
/- Plain definitions (no Go) on relations of sets of a small world. No condition. -/
import Derived.Test.YtpggephoienhlaaHPlain
namespace Go.Proofs.Ytpggephoienhlaa.P
open Go.Proofs.YtpggephoienhlaaW.PrintWords

/-- 2 to the power of a number of things. -/
def pw (t : Int) : Int := 2 ^ t.toNat
/-- Whether a relation's entry for two sets is 1. -/
def hr (t : Int) (rel : List Int) (a b : Int) : Bool := rd rel (a * pw t + b) == 1
def isRel (t : Int) (rel : List Int) : Bool := decide (0 ≤ t ∧ t ≤ 3) && (rel.length == 4 ^ t.toNat && rel.all (fun x => x == 0 || x == 1))
theorem isRel_range {t : Int} {rel : List Int} (h : isRel t rel = true) : 0 ≤ t ∧ t ≤ 3 ∧ rel.length = 4 ^ t.toNat := by
  simp only [isRel, Bool.and_eq_true, decide_eq_true_eq, beq_iff_eq] at h
  exact ⟨h.1.1, h.1.2, h.2.1⟩
theorem three (t : Int) (h1 : 0 ≤ t) (h2 : t ≤ 3) : t = 0 ∨ t = 1 ∨ t = 2 ∨ t = 3 := by omega
theorem pw_range (t : Int) (h1 : 0 ≤ t) (h2 : t ≤ 3) : 1 ≤ pw t ∧ pw t ≤ 8 := by
  rcases three t h1 h2 with rfl | rfl | rfl | rfl <;> decide
theorem index_range (t a b : Int) (h1 : 0 ≤ t) (h2 : t ≤ 3) (h3 : 0 ≤ a) (h4 : a < pw t) (h5 : 0 ≤ b) (h6 : b < pw t) : 0 ≤ a * pw t + b ∧ a * pw t + b < ((4 ^ t.toNat : Nat) : Int) ∧ a * pw t + b < 64 := by
  rcases three t h1 h2 with rfl | rfl | rfl | rfl <;> (unfold pw at *; simp at *; omega)
theorem and_range (t a b : Int) (h1 : 0 ≤ t) (h2 : t ≤ 3) (h3 : 0 ≤ a) (h4 : a < pw t) (h5 : 0 ≤ b) (h6 : b < pw t) : 0 ≤ Go.bits .and .i64 a b ∧ Go.bits .and .i64 a b < pw t := by
  have hf : ∀ x y : Fin 8, Go.bits .and .i64 (x.val : Int) (y.val : Int) = ((x.val &&& y.val : Nat) : Int) := by decide +kernel
  have hp := pw_range t h1 h2
  obtain ⟨n, rfl⟩ := Int.eq_ofNat_of_zero_le h3
  obtain ⟨m, rfl⟩ := Int.eq_ofNat_of_zero_le h5
  have he := hf ⟨n, by omega⟩ ⟨m, by omega⟩
  rw [he]
  have hm : m < 2 ^ t.toNat := by
    unfold pw at h6
    rw [← Int.ofNat_lt]
    simpa using h6
  have := Nat.and_lt_two_pow n hm
  refine ⟨by omega, ?_⟩
  unfold pw
  rw [← Int.ofNat_lt] at this
  simpa using this
def forAllP (t : Int) (so : Int → Int → Bool) : Bool := (List.range (2 ^ t.toNat)).all fun (a : Nat) => (List.range (2 ^ t.toNat)).all fun (b : Nat) => so (a : Int) (b : Int)
theorem forAllP_true (t : Int) (so : Int → Int → Bool) (B : Nat) (hB : 2 ^ t.toNat = B) (h : ∀ a b : Nat, a < B → b < B → so a b = true) : forAllP t so = true := by
  simp only [forAllP, List.all_eq_true, List.mem_range]
  exact fun a ha b hb => h a b (by omega) (by omega)
theorem forAllP_false (t : Int) (so : Int → Int → Bool) (B : Nat) (hB : 2 ^ t.toNat = B) (a b : Nat) (ha : a < B) (hb : b < B) (h : so a b = false) : forAllP t so = false := by
  rw [Bool.eq_false_iff]
  intro hc
  simp only [forAllP, List.all_eq_true, List.mem_range] at hc
  rw [hc a (by omega) b (by omega)] at h
  exact absurd h (by decide)
theorem forAllP_iff (t : Int) (so : Int → Int → Bool) : forAllP t so = true ↔ ∀ a b : Int, 0 ≤ a → a < pw t → 0 ≤ b → b < pw t → so a b = true := by
  have hp : ∀ n : Nat, (n : Int) < pw t ↔ n < 2 ^ t.toNat := fun n => by
    unfold pw
    rw [← Int.ofNat_lt]
    simp
  constructor
  · intro h a b h1 h2 h3 h4
    obtain ⟨a, rfl⟩ := Int.eq_ofNat_of_zero_le h1
    obtain ⟨b, rfl⟩ := Int.eq_ofNat_of_zero_le h3
    simp only [forAllP, List.all_eq_true, List.mem_range] at h
    exact h a ((hp a).1 h2) b ((hp b).1 h4)
  · intro h
    exact forAllP_true t so _ rfl fun a b ha hb => h a b (by omega) ((hp a).2 ha) (by omega) ((hp b).2 hb)
/-- A set with two things exchanged. -/
def exch (s i k : Int) : Int := s + (s / pw k % 2 - s / pw i % 2) * pw i + (s / pw i % 2 - s / pw k % 2) * pw k
/-- Whether a relation is the same with any two things exchanged, at two sets. -/
def kntAt (t : Int) (rel : List Int) (a b i k : Int) : Bool := hr t rel a b == hr t rel (exch a i k) (exch b i k)
def kntP (t : Int) (rel : List Int) (a b : Int) : Bool := (List.range t.toNat).all fun (i : Nat) => (List.range i).all fun (k : Nat) => kntAt t rel a b i k
theorem kntP_true (t : Int) (rel : List Int) (a b : Int) (h : ∀ i k : Nat, i < t.toNat → k < i → kntAt t rel a b i k = true) : kntP t rel a b = true := by
  simp only [kntP, List.all_eq_true, List.mem_range]
  exact fun i hi k hk => h i k hi hk
theorem kntP_false (t : Int) (rel : List Int) (a b : Int) (i k : Nat) (hi : i < t.toNat) (hk : k < i) (h : kntAt t rel a b i k = false) : kntP t rel a b = false := by
  rw [Bool.eq_false_iff]
  intro hc
  simp only [kntP, List.all_eq_true, List.mem_range] at hc
  rw [hc i hi k hk] at h
  exact absurd h (by decide)


end Go.Proofs.Ytpggephoienhlaa.P
