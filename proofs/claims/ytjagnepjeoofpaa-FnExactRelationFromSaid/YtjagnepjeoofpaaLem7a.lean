/- Plain facts on lists of numbers by rows of one length. No condition beyond those typed. -/
import Derived.Test.YtjagnepjeoofpaaHRel
import Derived.Test.YtjagnepjeoofpaaWLast
namespace Go.Proofs.Ytjagnepjeoofpaa.P
open Go.RowKit Go.Proofs.YtjagnepjeoofpaaW.PrintWords Go.Proofs.YtjagnepjeoofpaaW.PrintLast

def rowB (f : Int → Int → Int) (a m : Nat) : List Int := (List.range m).map fun (s : Nat) => f (a : Int) (s : Int)
def rowsB (f : Int → Int → Int) (B n : Nat) : List Int := (List.range n).flatMap fun a => rowB f a B
theorem rowB_zero (f : Int → Int → Int) (a : Nat) : rowB f a 0 = [] := rfl
theorem rowB_succ (f : Int → Int → Int) (a m : Nat) : rowB f a (m + 1) = rowB f a m ++ [f a m] := by simp [rowB, List.range_succ]
theorem rowsB_succ (f : Int → Int → Int) (B n : Nat) : rowsB f B (n + 1) = rowsB f B n ++ rowB f n B := by simp [rowsB, List.range_succ]
theorem rowB_length (f : Int → Int → Int) (a m : Nat) : (rowB f a m).length = m := by simp [rowB]
theorem rowsB_length (f : Int → Int → Int) (B : Nat) : ∀ n, (rowsB f B n).length = n * B
  | 0 => by simp [rowsB]
  | n + 1 => by rw [rowsB_succ, List.length_append, rowsB_length f B n, rowB_length, Nat.succ_mul]
theorem rowsB_bound (f : Int → Int → Int) (B n m : Nat) (hB : B ≤ 8) (hn : n ≤ 8) (hm : m ≤ 8) : (rowsB f B n ++ rowB f n m).length < 17592186044416 := by
  rw [List.length_append, rowsB_length, rowB_length]
  have := Nat.mul_le_mul hn hB
  omega
end Go.Proofs.Ytjagnepjeoofpaa.P
