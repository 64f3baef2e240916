/-
  No cell of these rows narrows 'for every input' (looked for: loops, veiled, ifaces, maps, wideKeys, modest, calm, conditions, laid).
  DERIVED. THE GIVEN ROWS OF THIS SEAT. 4 by the template 'for every input the law returns true; each argument reads behind the call as it read before'; 0 by the template 'total and deterministic' (their statements: YtbdbklnlpeichaaTotals.lean).
  GIVEN WITH THE SEED: the statements are not yours to turn. If you find one false, say at which input.
  Laid BY PROGRAM, IN A SANDBOX (cutbox-rows.mjs): the forced cells as the released guide's own fill.sh prints them over the translation 87586b143b4630f1… (all of the seat's roots in one cut). By AI agents, Wed Nov 11 2026. No macro, syntax, notation, axiom, sorry.
-/
import Derived.Test.YtbdbklnlpeichaaChecked
import GoSem.Claim
import GoSem.ClaimJoined
import GoSem.ClaimMapViews
import Derived.JoinedTies
import Derived.KernelRfl
namespace Go.Proofs.Ytbdbklnlpeichaa
/- THE CELL 'sum', in the pinned program and in every row, IS THE sha256 OF THE DUMP (.gsa) THAT YtbdbklnlpeichaaProg.lean LOADS. Nothing in Lean hashes anything: it is a label: what it is worth is what the hold of that sum in a sandbox is worth. -/
noncomputable def Try.pinned : Pinned := { name := "ytbdbklnlpeichaa", sum := "87586b143b4630f14139b653d109fca392c56ac3d0d23bcb6c0bdd3e1c4a24c6", checked := Try.checked }
namespace Rows
def none {H : Type} : Left H := { results := [], args := [] }

/-- 'laws.FnFewerDo': WHATEVER THE INPUT: true; the input reads as it did. -/
def fnFewerDoSpec : ChangeSpec := { name := "fnFewerDo", fn := fun _ => fun
  | [d1, d2] => { results := [.lit (.bool true)], args := [d1, d2] }
  | _ => none }
def fnFewerDoRow : OpenClaim := { program := "ytbdbklnlpeichaa", sum := "87586b143b4630f14139b653d109fca392c56ac3d0d23bcb6c0bdd3e1c4a24c6", func := "loop.example/quantifiers/laws.FnFewerDo", spec := "fnFewerDo", unfollowed := true, recurses := true, apart := false }
def FnFewerDoSaid : Prop := fnFewerDoRow.holds Try.pinned (OpenSpec.ofChange fnFewerDoSpec)

/-- ITS FALSE NEIGHBOUR: 'it returns false'. Refute it at one input. -/
def fnFewerDoWrong : ChangeSpec := { name := "fnFewerDo", fn := fun _ => fun
  | [d1, d2] => { results := [.lit (.bool false)], args := [d1, d2] }
  | _ => none }
def FnFewerDoWrongFalsely : Prop := fnFewerDoRow.holds Try.pinned (OpenSpec.ofChange fnFewerDoWrong)

/-- 'laws.FnBetween': WHATEVER THE INPUT: true; the input reads as it did. -/
def fnBetweenSpec : ChangeSpec := { name := "fnBetween", fn := fun _ => fun
  | [d1, d2] => { results := [.lit (.bool true)], args := [d1, d2] }
  | _ => none }
def fnBetweenRow : OpenClaim := { program := "ytbdbklnlpeichaa", sum := "87586b143b4630f14139b653d109fca392c56ac3d0d23bcb6c0bdd3e1c4a24c6", func := "loop.example/quantifiers/laws.FnBetween", spec := "fnBetween", unfollowed := true, recurses := true, apart := false }
def FnBetweenSaid : Prop := fnBetweenRow.holds Try.pinned (OpenSpec.ofChange fnBetweenSpec)

/-- ITS FALSE NEIGHBOUR: 'it returns false'. Refute it at one input. -/
def fnBetweenWrong : ChangeSpec := { name := "fnBetween", fn := fun _ => fun
  | [d1, d2] => { results := [.lit (.bool false)], args := [d1, d2] }
  | _ => none }
def FnBetweenWrongFalsely : Prop := fnBetweenRow.holds Try.pinned (OpenSpec.ofChange fnBetweenWrong)

/-- 'laws.FnMoreAre': WHATEVER THE INPUT: true; the input reads as it did. -/
def fnMoreAreSpec : ChangeSpec := { name := "fnMoreAre", fn := fun _ => fun
  | [d] => { results := [.lit (.bool true)], args := [d] }
  | _ => none }
def fnMoreAreRow : OpenClaim := { program := "ytbdbklnlpeichaa", sum := "87586b143b4630f14139b653d109fca392c56ac3d0d23bcb6c0bdd3e1c4a24c6", func := "loop.example/quantifiers/laws.FnMoreAre", spec := "fnMoreAre", unfollowed := true, recurses := true, apart := false }
def FnMoreAreSaid : Prop := fnMoreAreRow.holds Try.pinned (OpenSpec.ofChange fnMoreAreSpec)

/-- ITS FALSE NEIGHBOUR: 'it returns false'. Refute it at one input. -/
def fnMoreAreWrong : ChangeSpec := { name := "fnMoreAre", fn := fun _ => fun
  | [d] => { results := [.lit (.bool false)], args := [d] }
  | _ => none }
def FnMoreAreWrongFalsely : Prop := fnMoreAreRow.holds Try.pinned (OpenSpec.ofChange fnMoreAreWrong)

/-- 'laws.FnMoreDo': WHATEVER THE INPUT: true; the input reads as it did. -/
def fnMoreDoSpec : ChangeSpec := { name := "fnMoreDo", fn := fun _ => fun
  | [d] => { results := [.lit (.bool true)], args := [d] }
  | _ => none }
def fnMoreDoRow : OpenClaim := { program := "ytbdbklnlpeichaa", sum := "87586b143b4630f14139b653d109fca392c56ac3d0d23bcb6c0bdd3e1c4a24c6", func := "loop.example/quantifiers/laws.FnMoreDo", spec := "fnMoreDo", unfollowed := true, recurses := true, apart := false }
def FnMoreDoSaid : Prop := fnMoreDoRow.holds Try.pinned (OpenSpec.ofChange fnMoreDoSpec)

/-- ITS FALSE NEIGHBOUR: 'it returns false'. Refute it at one input. -/
def fnMoreDoWrong : ChangeSpec := { name := "fnMoreDo", fn := fun _ => fun
  | [d] => { results := [.lit (.bool false)], args := [d] }
  | _ => none }
def FnMoreDoWrongFalsely : Prop := fnMoreDoRow.holds Try.pinned (OpenSpec.ofChange fnMoreDoWrong)

/- THE SECOND FORM. 'bulk': how many values and letters a reading holds, each counted each time it is reached (what is shared counts as often as it is met; a slice's spare places count too). A statement '..UptoSaid' is the law's where the arguments, and the package variables that the reading takes, are together of bulk at most 1048576: NARROWER than '..Said'. Prove '..Said' where nothing that the law and all that it calls make is longer than what came in: it says more and counts as full. Else prove '..UptoSaid'. A law counts once. -/
mutual
def uptoBulk {H : Type} : DataW H → Nat
  | .lit (.string bytes) => bytes.length + 1
  | .lit _ => 1
  | .nil => 1
  | .ptr d => uptoBulk d + 1
  | .slice elems spare => uptoBulkAll elems + uptoBulkAll spare + 1
  | .agg parts => uptoBulkAll parts + 1
  | .iface _ d => uptoBulk d + 1
  | .map entries => uptoBulkEntries entries + 1
  | .held _ => 1
def uptoBulkAll {H : Type} : List (DataW H) → Nat
  | [] => 0
  | d :: r => uptoBulk d + uptoBulkAll r
def uptoBulkEntries {H : Type} : List (Lit × DataW H) → Nat
  | [] => 0
  | x :: r => uptoBulkEntry x + uptoBulkEntries r
def uptoBulkEntry {H : Type} : Lit × DataW H → Nat
  | (.string bytes, d) => bytes.length + uptoBulk d + 1
  | (_, d) => uptoBulk d + 1
 end
def uptoSmall : (H : Type) → List (DataW H) → Bool := fun _ ds => decide (uptoBulkAll ds ≤ 1048576)
def OpenSpec.upto (s : _root_.Go.ChangeSpec) : _root_.Go.OpenSpec := { _root_.Go.OpenSpec.ofChange s with cond := some uptoSmall }

/-- 'laws.FnFewerDo', WHERE WHAT IT READS IS OF BULK AT MOST 1048576: true; the input reads as it did. -/
def fnFewerDoUptoRow : OpenClaim := { program := "ytbdbklnlpeichaa", sum := "87586b143b4630f14139b653d109fca392c56ac3d0d23bcb6c0bdd3e1c4a24c6", func := "loop.example/quantifiers/laws.FnFewerDo", spec := "fnFewerDo", unfollowed := true, recurses := true, apart := false, narrowed := true }
def FnFewerDoUptoSaid : Prop := fnFewerDoUptoRow.holds Try.pinned (OpenSpec.upto fnFewerDoSpec)

/-- 'laws.FnBetween', WHERE WHAT IT READS IS OF BULK AT MOST 1048576: true; the input reads as it did. -/
def fnBetweenUptoRow : OpenClaim := { program := "ytbdbklnlpeichaa", sum := "87586b143b4630f14139b653d109fca392c56ac3d0d23bcb6c0bdd3e1c4a24c6", func := "loop.example/quantifiers/laws.FnBetween", spec := "fnBetween", unfollowed := true, recurses := true, apart := false, narrowed := true }
def FnBetweenUptoSaid : Prop := fnBetweenUptoRow.holds Try.pinned (OpenSpec.upto fnBetweenSpec)

/-- 'laws.FnMoreAre', WHERE WHAT IT READS IS OF BULK AT MOST 1048576: true; the input reads as it did. -/
def fnMoreAreUptoRow : OpenClaim := { program := "ytbdbklnlpeichaa", sum := "87586b143b4630f14139b653d109fca392c56ac3d0d23bcb6c0bdd3e1c4a24c6", func := "loop.example/quantifiers/laws.FnMoreAre", spec := "fnMoreAre", unfollowed := true, recurses := true, apart := false, narrowed := true }
def FnMoreAreUptoSaid : Prop := fnMoreAreUptoRow.holds Try.pinned (OpenSpec.upto fnMoreAreSpec)

/-- 'laws.FnMoreDo', WHERE WHAT IT READS IS OF BULK AT MOST 1048576: true; the input reads as it did. -/
def fnMoreDoUptoRow : OpenClaim := { program := "ytbdbklnlpeichaa", sum := "87586b143b4630f14139b653d109fca392c56ac3d0d23bcb6c0bdd3e1c4a24c6", func := "loop.example/quantifiers/laws.FnMoreDo", spec := "fnMoreDo", unfollowed := true, recurses := true, apart := false, narrowed := true }
def FnMoreDoUptoSaid : Prop := fnMoreDoUptoRow.holds Try.pinned (OpenSpec.upto fnMoreDoSpec)

end Rows
end Go.Proofs.Ytbdbklnlpeichaa
