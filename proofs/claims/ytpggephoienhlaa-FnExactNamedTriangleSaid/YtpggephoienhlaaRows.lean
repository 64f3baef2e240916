/-
  No cell of these rows narrows 'for every input' (looked for: loops, veiled, ifaces, maps, wideKeys, modest, calm, conditions, laid).
  DERIVED. THE GIVEN ROWS OF THIS SEAT. 11 by the template 'for every input the law returns true; each argument reads behind the call as it read before'; 0 by the template 'total and deterministic' (their statements: YtpggephoienhlaaTotals.lean).
  GIVEN WITH THE SEED: the statements are not yours to turn. If you find one false, say at which input.
  Laid BY PROGRAM, IN A SANDBOX (cutbox-rows.mjs): the forced cells as the released guide's own fill.sh prints them over the translation cec23a141d2176dc… (all of the seat's roots in one cut). By AI agents, Wed Nov 11 2026. No macro, syntax, notation, axiom, sorry.
-/
import Derived.Test.YtpggephoienhlaaChecked
import GoSem.Claim
import GoSem.ClaimJoined
import GoSem.ClaimMapViews
import Derived.JoinedTies
import Derived.KernelRfl
namespace Go.Proofs.Ytpggephoienhlaa
/- THE CELL 'sum', in the pinned program and in every row, IS THE sha256 OF THE DUMP (.gsa) THAT YtpggephoienhlaaProg.lean LOADS. Nothing in Lean hashes anything: it is a label: what it is worth is what the hold of that sum in a sandbox is worth. -/
noncomputable def Try.pinned : Pinned := { name := "ytpggephoienhlaa", sum := "cec23a141d2176dc54eb7dbf06a7e976c5c91754c742c1f95455b45b41d83894", checked := Try.checked }
namespace Rows
def none {H : Type} : Left H := { results := [], args := [] }

/-- 'laws.FnExactConstants': WHATEVER THE INPUT: true; the input reads as it did. -/
def fnExactConstantsSpec : ChangeSpec := { name := "fnExactConstants", fn := fun _ => fun
  | [] => { results := [.lit (.bool true)], args := [] }
  | _ => none }
def fnExactConstantsRow : OpenClaim := { program := "ytpggephoienhlaa", sum := "cec23a141d2176dc54eb7dbf06a7e976c5c91754c742c1f95455b45b41d83894", func := "loop.example/quantifiers/laws.FnExactConstants", spec := "fnExactConstants", apart := false }
def FnExactConstantsSaid : Prop := fnExactConstantsRow.holds Try.pinned (OpenSpec.ofChange fnExactConstantsSpec)

/-- ITS FALSE NEIGHBOUR: 'it returns false'. Refute it at one input. -/
def fnExactConstantsWrong : ChangeSpec := { name := "fnExactConstants", fn := fun _ => fun
  | [] => { results := [.lit (.bool false)], args := [] }
  | _ => none }
def FnExactConstantsWrongFalsely : Prop := fnExactConstantsRow.holds Try.pinned (OpenSpec.ofChange fnExactConstantsWrong)

/-- 'laws.FnExactPlaceOf': WHATEVER THE INPUT: true; the input reads as it did. -/
def fnExactPlaceOfSpec : ChangeSpec := { name := "fnExactPlaceOf", fn := fun _ => fun
  | [d1, d2] => { results := [.lit (.bool true)], args := [d1, d2] }
  | _ => none }
def fnExactPlaceOfRow : OpenClaim := { program := "ytpggephoienhlaa", sum := "cec23a141d2176dc54eb7dbf06a7e976c5c91754c742c1f95455b45b41d83894", func := "loop.example/quantifiers/laws.FnExactPlaceOf", spec := "fnExactPlaceOf", apart := false }
def FnExactPlaceOfSaid : Prop := fnExactPlaceOfRow.holds Try.pinned (OpenSpec.ofChange fnExactPlaceOfSpec)

/-- ITS FALSE NEIGHBOUR: 'it returns false'. Refute it at one input. -/
def fnExactPlaceOfWrong : ChangeSpec := { name := "fnExactPlaceOf", fn := fun _ => fun
  | [d1, d2] => { results := [.lit (.bool false)], args := [d1, d2] }
  | _ => none }
def FnExactPlaceOfWrongFalsely : Prop := fnExactPlaceOfRow.holds Try.pinned (OpenSpec.ofChange fnExactPlaceOfWrong)

/-- 'laws.FnExactTriangleOk': WHATEVER THE INPUT: true; the input reads as it did. -/
def fnExactTriangleOkSpec : ChangeSpec := { name := "fnExactTriangleOk", fn := fun _ => fun
  | [d] => { results := [.lit (.bool true)], args := [d] }
  | _ => none }
def fnExactTriangleOkRow : OpenClaim := { program := "ytpggephoienhlaa", sum := "cec23a141d2176dc54eb7dbf06a7e976c5c91754c742c1f95455b45b41d83894", func := "loop.example/quantifiers/laws.FnExactTriangleOk", spec := "fnExactTriangleOk", apart := false }
def FnExactTriangleOkSaid : Prop := fnExactTriangleOkRow.holds Try.pinned (OpenSpec.ofChange fnExactTriangleOkSpec)

/-- ITS FALSE NEIGHBOUR: 'it returns false'. Refute it at one input. -/
def fnExactTriangleOkWrong : ChangeSpec := { name := "fnExactTriangleOk", fn := fun _ => fun
  | [d] => { results := [.lit (.bool false)], args := [d] }
  | _ => none }
def FnExactTriangleOkWrongFalsely : Prop := fnExactTriangleOkRow.holds Try.pinned (OpenSpec.ofChange fnExactTriangleOkWrong)

/-- 'laws.FnExactNotOf': WHATEVER THE INPUT: true; the input reads as it did. -/
def fnExactNotOfSpec : ChangeSpec := { name := "fnExactNotOf", fn := fun _ => fun
  | [d] => { results := [.lit (.bool true)], args := [d] }
  | _ => none }
def fnExactNotOfRow : OpenClaim := { program := "ytpggephoienhlaa", sum := "cec23a141d2176dc54eb7dbf06a7e976c5c91754c742c1f95455b45b41d83894", func := "loop.example/quantifiers/laws.FnExactNotOf", spec := "fnExactNotOf", unfollowed := true, recurses := true, apart := false }
def FnExactNotOfSaid : Prop := fnExactNotOfRow.holds Try.pinned (OpenSpec.ofChange fnExactNotOfSpec)

/-- ITS FALSE NEIGHBOUR: 'it returns false'. Refute it at one input. -/
def fnExactNotOfWrong : ChangeSpec := { name := "fnExactNotOf", fn := fun _ => fun
  | [d] => { results := [.lit (.bool false)], args := [d] }
  | _ => none }
def FnExactNotOfWrongFalsely : Prop := fnExactNotOfRow.holds Try.pinned (OpenSpec.ofChange fnExactNotOfWrong)

/-- 'laws.FnExactBothOf': WHATEVER THE INPUT: true; the input reads as it did. -/
def fnExactBothOfSpec : ChangeSpec := { name := "fnExactBothOf", fn := fun _ => fun
  | [d1, d2] => { results := [.lit (.bool true)], args := [d1, d2] }
  | _ => none }
def fnExactBothOfRow : OpenClaim := { program := "ytpggephoienhlaa", sum := "cec23a141d2176dc54eb7dbf06a7e976c5c91754c742c1f95455b45b41d83894", func := "loop.example/quantifiers/laws.FnExactBothOf", spec := "fnExactBothOf", unfollowed := true, recurses := true, apart := false }
def FnExactBothOfSaid : Prop := fnExactBothOfRow.holds Try.pinned (OpenSpec.ofChange fnExactBothOfSpec)

/-- ITS FALSE NEIGHBOUR: 'it returns false'. Refute it at one input. -/
def fnExactBothOfWrong : ChangeSpec := { name := "fnExactBothOf", fn := fun _ => fun
  | [d1, d2] => { results := [.lit (.bool false)], args := [d1, d2] }
  | _ => none }
def FnExactBothOfWrongFalsely : Prop := fnExactBothOfRow.holds Try.pinned (OpenSpec.ofChange fnExactBothOfWrong)

/-- 'laws.FnExactEitherOf': WHATEVER THE INPUT: true; the input reads as it did. -/
def fnExactEitherOfSpec : ChangeSpec := { name := "fnExactEitherOf", fn := fun _ => fun
  | [d1, d2] => { results := [.lit (.bool true)], args := [d1, d2] }
  | _ => none }
def fnExactEitherOfRow : OpenClaim := { program := "ytpggephoienhlaa", sum := "cec23a141d2176dc54eb7dbf06a7e976c5c91754c742c1f95455b45b41d83894", func := "loop.example/quantifiers/laws.FnExactEitherOf", spec := "fnExactEitherOf", unfollowed := true, recurses := true, apart := false }
def FnExactEitherOfSaid : Prop := fnExactEitherOfRow.holds Try.pinned (OpenSpec.ofChange fnExactEitherOfSpec)

/-- ITS FALSE NEIGHBOUR: 'it returns false'. Refute it at one input. -/
def fnExactEitherOfWrong : ChangeSpec := { name := "fnExactEitherOf", fn := fun _ => fun
  | [d1, d2] => { results := [.lit (.bool false)], args := [d1, d2] }
  | _ => none }
def FnExactEitherOfWrongFalsely : Prop := fnExactEitherOfRow.holds Try.pinned (OpenSpec.ofChange fnExactEitherOfWrong)

/-- 'laws.FnExactInsideNot': WHATEVER THE INPUT: true; the input reads as it did. -/
def fnExactInsideNotSpec : ChangeSpec := { name := "fnExactInsideNot", fn := fun _ => fun
  | [d] => { results := [.lit (.bool true)], args := [d] }
  | _ => none }
def fnExactInsideNotRow : OpenClaim := { program := "ytpggephoienhlaa", sum := "cec23a141d2176dc54eb7dbf06a7e976c5c91754c742c1f95455b45b41d83894", func := "loop.example/quantifiers/laws.FnExactInsideNot", spec := "fnExactInsideNot", unfollowed := true, recurses := true, apart := false }
def FnExactInsideNotSaid : Prop := fnExactInsideNotRow.holds Try.pinned (OpenSpec.ofChange fnExactInsideNotSpec)

/-- ITS FALSE NEIGHBOUR: 'it returns false'. Refute it at one input. -/
def fnExactInsideNotWrong : ChangeSpec := { name := "fnExactInsideNot", fn := fun _ => fun
  | [d] => { results := [.lit (.bool false)], args := [d] }
  | _ => none }
def FnExactInsideNotWrongFalsely : Prop := fnExactInsideNotRow.holds Try.pinned (OpenSpec.ofChange fnExactInsideNotWrong)

/-- 'laws.FnExactDualOf': WHATEVER THE INPUT: true; the input reads as it did. -/
def fnExactDualOfSpec : ChangeSpec := { name := "fnExactDualOf", fn := fun _ => fun
  | [d] => { results := [.lit (.bool true)], args := [d] }
  | _ => none }
def fnExactDualOfRow : OpenClaim := { program := "ytpggephoienhlaa", sum := "cec23a141d2176dc54eb7dbf06a7e976c5c91754c742c1f95455b45b41d83894", func := "loop.example/quantifiers/laws.FnExactDualOf", spec := "fnExactDualOf", unfollowed := true, recurses := true, apart := false }
def FnExactDualOfSaid : Prop := fnExactDualOfRow.holds Try.pinned (OpenSpec.ofChange fnExactDualOfSpec)

/-- ITS FALSE NEIGHBOUR: 'it returns false'. Refute it at one input. -/
def fnExactDualOfWrong : ChangeSpec := { name := "fnExactDualOf", fn := fun _ => fun
  | [d] => { results := [.lit (.bool false)], args := [d] }
  | _ => none }
def FnExactDualOfWrongFalsely : Prop := fnExactDualOfRow.holds Try.pinned (OpenSpec.ofChange fnExactDualOfWrong)

/-- 'laws.FnExactNamedTriangle': WHATEVER THE INPUT: true; the input reads as it did. -/
def fnExactNamedTriangleSpec : ChangeSpec := { name := "fnExactNamedTriangle", fn := fun _ => fun
  | [d] => { results := [.lit (.bool true)], args := [d] }
  | _ => none }
def fnExactNamedTriangleRow : OpenClaim := { program := "ytpggephoienhlaa", sum := "cec23a141d2176dc54eb7dbf06a7e976c5c91754c742c1f95455b45b41d83894", func := "loop.example/quantifiers/laws.FnExactNamedTriangle", spec := "fnExactNamedTriangle", unfollowed := true, recurses := true, apart := false }
def FnExactNamedTriangleSaid : Prop := fnExactNamedTriangleRow.holds Try.pinned (OpenSpec.ofChange fnExactNamedTriangleSpec)

/-- ITS FALSE NEIGHBOUR: 'it returns false'. Refute it at one input. -/
def fnExactNamedTriangleWrong : ChangeSpec := { name := "fnExactNamedTriangle", fn := fun _ => fun
  | [d] => { results := [.lit (.bool false)], args := [d] }
  | _ => none }
def FnExactNamedTriangleWrongFalsely : Prop := fnExactNamedTriangleRow.holds Try.pinned (OpenSpec.ofChange fnExactNamedTriangleWrong)

/-- 'laws.FnExactSplitOf': WHATEVER THE INPUT: true; the input reads as it did. -/
def fnExactSplitOfSpec : ChangeSpec := { name := "fnExactSplitOf", fn := fun _ => fun
  | [d] => { results := [.lit (.bool true)], args := [d] }
  | _ => none }
def fnExactSplitOfRow : OpenClaim := { program := "ytpggephoienhlaa", sum := "cec23a141d2176dc54eb7dbf06a7e976c5c91754c742c1f95455b45b41d83894", func := "loop.example/quantifiers/laws.FnExactSplitOf", spec := "fnExactSplitOf", unfollowed := true, recurses := true, apart := false }
def FnExactSplitOfSaid : Prop := fnExactSplitOfRow.holds Try.pinned (OpenSpec.ofChange fnExactSplitOfSpec)

/-- ITS FALSE NEIGHBOUR: 'it returns false'. Refute it at one input. -/
def fnExactSplitOfWrong : ChangeSpec := { name := "fnExactSplitOf", fn := fun _ => fun
  | [d] => { results := [.lit (.bool false)], args := [d] }
  | _ => none }
def FnExactSplitOfWrongFalsely : Prop := fnExactSplitOfRow.holds Try.pinned (OpenSpec.ofChange fnExactSplitOfWrong)

/-- 'laws.FnExactBetween': WHATEVER THE INPUT: true; the input reads as it did. -/
def fnExactBetweenSpec : ChangeSpec := { name := "fnExactBetween", fn := fun _ => fun
  | [d] => { results := [.lit (.bool true)], args := [d] }
  | _ => none }
def fnExactBetweenRow : OpenClaim := { program := "ytpggephoienhlaa", sum := "cec23a141d2176dc54eb7dbf06a7e976c5c91754c742c1f95455b45b41d83894", func := "loop.example/quantifiers/laws.FnExactBetween", spec := "fnExactBetween", unfollowed := true, recurses := true, apart := false }
def FnExactBetweenSaid : Prop := fnExactBetweenRow.holds Try.pinned (OpenSpec.ofChange fnExactBetweenSpec)

/-- ITS FALSE NEIGHBOUR: 'it returns false'. Refute it at one input. -/
def fnExactBetweenWrong : ChangeSpec := { name := "fnExactBetween", fn := fun _ => fun
  | [d] => { results := [.lit (.bool false)], args := [d] }
  | _ => none }
def FnExactBetweenWrongFalsely : Prop := fnExactBetweenRow.holds Try.pinned (OpenSpec.ofChange fnExactBetweenWrong)

/- THE SECOND FORM. 'bulk': how many values and letters a reading holds, each counted each time it is reached (what is shared counts as often as it is met; a slice's spare places count too). A statement '..UptoSaid' is the law's where the arguments, and the package variables that the reading takes, are together of bulk at most 1048576: NARROWER than '..Said'. Prove '..Said' where nothing that the law and all that it calls make is longer than what came in: it says more and counts as full. Else prove '..UptoSaid'. A law counts once. -/
mutual
def uptoBulk {H : Type} : DataW H → Nat
  | .lit (.string bytes) => bytes.length + 1
  | .lit _ => 1
  | .nil => 1
  | .ptr d => uptoBulk d + 1
  | .slice elems spare => uptoBulkAll elems + uptoBulkAll spare + 1
  | .agg parts => uptoBulkAll parts + 1
  | .iface _ d => uptoBulk d + 1
  | .map entries => uptoBulkEntries entries + 1
  | .held _ => 1
def uptoBulkAll {H : Type} : List (DataW H) → Nat
  | [] => 0
  | d :: r => uptoBulk d + uptoBulkAll r
def uptoBulkEntries {H : Type} : List (Lit × DataW H) → Nat
  | [] => 0
  | x :: r => uptoBulkEntry x + uptoBulkEntries r
def uptoBulkEntry {H : Type} : Lit × DataW H → Nat
  | (.string bytes, d) => bytes.length + uptoBulk d + 1
  | (_, d) => uptoBulk d + 1
 end
def uptoSmall : (H : Type) → List (DataW H) → Bool := fun _ ds => decide (uptoBulkAll ds ≤ 1048576)
def OpenSpec.upto (s : _root_.Go.ChangeSpec) : _root_.Go.OpenSpec := { _root_.Go.OpenSpec.ofChange s with cond := some uptoSmall }

/-- 'laws.FnExactConstants', WHERE WHAT IT READS IS OF BULK AT MOST 1048576: true; the input reads as it did. -/
def fnExactConstantsUptoRow : OpenClaim := { program := "ytpggephoienhlaa", sum := "cec23a141d2176dc54eb7dbf06a7e976c5c91754c742c1f95455b45b41d83894", func := "loop.example/quantifiers/laws.FnExactConstants", spec := "fnExactConstants", apart := false, narrowed := true }
def FnExactConstantsUptoSaid : Prop := fnExactConstantsUptoRow.holds Try.pinned (OpenSpec.upto fnExactConstantsSpec)

/-- 'laws.FnExactPlaceOf', WHERE WHAT IT READS IS OF BULK AT MOST 1048576: true; the input reads as it did. -/
def fnExactPlaceOfUptoRow : OpenClaim := { program := "ytpggephoienhlaa", sum := "cec23a141d2176dc54eb7dbf06a7e976c5c91754c742c1f95455b45b41d83894", func := "loop.example/quantifiers/laws.FnExactPlaceOf", spec := "fnExactPlaceOf", apart := false, narrowed := true }
def FnExactPlaceOfUptoSaid : Prop := fnExactPlaceOfUptoRow.holds Try.pinned (OpenSpec.upto fnExactPlaceOfSpec)

/-- 'laws.FnExactTriangleOk', WHERE WHAT IT READS IS OF BULK AT MOST 1048576: true; the input reads as it did. -/
def fnExactTriangleOkUptoRow : OpenClaim := { program := "ytpggephoienhlaa", sum := "cec23a141d2176dc54eb7dbf06a7e976c5c91754c742c1f95455b45b41d83894", func := "loop.example/quantifiers/laws.FnExactTriangleOk", spec := "fnExactTriangleOk", apart := false, narrowed := true }
def FnExactTriangleOkUptoSaid : Prop := fnExactTriangleOkUptoRow.holds Try.pinned (OpenSpec.upto fnExactTriangleOkSpec)

/-- 'laws.FnExactNotOf', WHERE WHAT IT READS IS OF BULK AT MOST 1048576: true; the input reads as it did. -/
def fnExactNotOfUptoRow : OpenClaim := { program := "ytpggephoienhlaa", sum := "cec23a141d2176dc54eb7dbf06a7e976c5c91754c742c1f95455b45b41d83894", func := "loop.example/quantifiers/laws.FnExactNotOf", spec := "fnExactNotOf", unfollowed := true, recurses := true, apart := false, narrowed := true }
def FnExactNotOfUptoSaid : Prop := fnExactNotOfUptoRow.holds Try.pinned (OpenSpec.upto fnExactNotOfSpec)

/-- 'laws.FnExactBothOf', WHERE WHAT IT READS IS OF BULK AT MOST 1048576: true; the input reads as it did. -/
def fnExactBothOfUptoRow : OpenClaim := { program := "ytpggephoienhlaa", sum := "cec23a141d2176dc54eb7dbf06a7e976c5c91754c742c1f95455b45b41d83894", func := "loop.example/quantifiers/laws.FnExactBothOf", spec := "fnExactBothOf", unfollowed := true, recurses := true, apart := false, narrowed := true }
def FnExactBothOfUptoSaid : Prop := fnExactBothOfUptoRow.holds Try.pinned (OpenSpec.upto fnExactBothOfSpec)

/-- 'laws.FnExactEitherOf', WHERE WHAT IT READS IS OF BULK AT MOST 1048576: true; the input reads as it did. -/
def fnExactEitherOfUptoRow : OpenClaim := { program := "ytpggephoienhlaa", sum := "cec23a141d2176dc54eb7dbf06a7e976c5c91754c742c1f95455b45b41d83894", func := "loop.example/quantifiers/laws.FnExactEitherOf", spec := "fnExactEitherOf", unfollowed := true, recurses := true, apart := false, narrowed := true }
def FnExactEitherOfUptoSaid : Prop := fnExactEitherOfUptoRow.holds Try.pinned (OpenSpec.upto fnExactEitherOfSpec)

/-- 'laws.FnExactInsideNot', WHERE WHAT IT READS IS OF BULK AT MOST 1048576: true; the input reads as it did. -/
def fnExactInsideNotUptoRow : OpenClaim := { program := "ytpggephoienhlaa", sum := "cec23a141d2176dc54eb7dbf06a7e976c5c91754c742c1f95455b45b41d83894", func := "loop.example/quantifiers/laws.FnExactInsideNot", spec := "fnExactInsideNot", unfollowed := true, recurses := true, apart := false, narrowed := true }
def FnExactInsideNotUptoSaid : Prop := fnExactInsideNotUptoRow.holds Try.pinned (OpenSpec.upto fnExactInsideNotSpec)

/-- 'laws.FnExactDualOf', WHERE WHAT IT READS IS OF BULK AT MOST 1048576: true; the input reads as it did. -/
def fnExactDualOfUptoRow : OpenClaim := { program := "ytpggephoienhlaa", sum := "cec23a141d2176dc54eb7dbf06a7e976c5c91754c742c1f95455b45b41d83894", func := "loop.example/quantifiers/laws.FnExactDualOf", spec := "fnExactDualOf", unfollowed := true, recurses := true, apart := false, narrowed := true }
def FnExactDualOfUptoSaid : Prop := fnExactDualOfUptoRow.holds Try.pinned (OpenSpec.upto fnExactDualOfSpec)

/-- 'laws.FnExactNamedTriangle', WHERE WHAT IT READS IS OF BULK AT MOST 1048576: true; the input reads as it did. -/
def fnExactNamedTriangleUptoRow : OpenClaim := { program := "ytpggephoienhlaa", sum := "cec23a141d2176dc54eb7dbf06a7e976c5c91754c742c1f95455b45b41d83894", func := "loop.example/quantifiers/laws.FnExactNamedTriangle", spec := "fnExactNamedTriangle", unfollowed := true, recurses := true, apart := false, narrowed := true }
def FnExactNamedTriangleUptoSaid : Prop := fnExactNamedTriangleUptoRow.holds Try.pinned (OpenSpec.upto fnExactNamedTriangleSpec)

/-- 'laws.FnExactSplitOf', WHERE WHAT IT READS IS OF BULK AT MOST 1048576: true; the input reads as it did. -/
def fnExactSplitOfUptoRow : OpenClaim := { program := "ytpggephoienhlaa", sum := "cec23a141d2176dc54eb7dbf06a7e976c5c91754c742c1f95455b45b41d83894", func := "loop.example/quantifiers/laws.FnExactSplitOf", spec := "fnExactSplitOf", unfollowed := true, recurses := true, apart := false, narrowed := true }
def FnExactSplitOfUptoSaid : Prop := fnExactSplitOfUptoRow.holds Try.pinned (OpenSpec.upto fnExactSplitOfSpec)

/-- 'laws.FnExactBetween', WHERE WHAT IT READS IS OF BULK AT MOST 1048576: true; the input reads as it did. -/
def fnExactBetweenUptoRow : OpenClaim := { program := "ytpggephoienhlaa", sum := "cec23a141d2176dc54eb7dbf06a7e976c5c91754c742c1f95455b45b41d83894", func := "loop.example/quantifiers/laws.FnExactBetween", spec := "fnExactBetween", unfollowed := true, recurses := true, apart := false, narrowed := true }
def FnExactBetweenUptoSaid : Prop := fnExactBetweenUptoRow.holds Try.pinned (OpenSpec.upto fnExactBetweenSpec)

end Rows
end Go.Proofs.Ytpggephoienhlaa
