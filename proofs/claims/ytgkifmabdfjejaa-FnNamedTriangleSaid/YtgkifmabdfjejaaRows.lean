/-
  No cell of these rows narrows 'for every input' (looked for: loops, veiled, ifaces, maps, wideKeys, modest, calm, conditions, laid).
  DERIVED. THE GIVEN ROWS OF THIS SEAT. 8 by the template 'for every input the law returns true; each argument reads behind the call as it read before'; 0 by the template 'total and deterministic' (their statements: YtgkifmabdfjejaaTotals.lean).
  GIVEN WITH THE SEED: the statements are not yours to turn. If you find one false, say at which input.
  Laid BY PROGRAM, IN A SANDBOX (cutbox-rows.mjs): the forced cells as the released guide's own fill.sh prints them over the translation cb8ff8ad2bb51cd7… (all of the seat's roots in one cut). By AI agents, Wed Nov 11 2026. No macro, syntax, notation, axiom, sorry.
-/
import Derived.Test.YtgkifmabdfjejaaChecked
import GoSem.Claim
import GoSem.ClaimJoined
import GoSem.ClaimMapViews
import Derived.JoinedTies
import Derived.KernelRfl
namespace Go.Proofs.Ytgkifmabdfjejaa
/- THE CELL 'sum', in the pinned program and in every row, IS THE sha256 OF THE DUMP (.gsa) THAT YtgkifmabdfjejaaProg.lean LOADS. Nothing in Lean hashes anything: it is a label: what it is worth is what the hold of that sum in a sandbox is worth. -/
noncomputable def Try.pinned : Pinned := { name := "ytgkifmabdfjejaa", sum := "cb8ff8ad2bb51cd7b743c707bc94645900c98e32e64caa09c94355dc627a0ee5", checked := Try.checked }
namespace Rows
def none {H : Type} : Left H := { results := [], args := [] }

/-- 'laws.FnPlaceOf': WHATEVER THE INPUT: true; the input reads as it did. -/
def fnPlaceOfSpec : ChangeSpec := { name := "fnPlaceOf", fn := fun _ => fun
  | [d] => { results := [.lit (.bool true)], args := [d] }
  | _ => none }
def fnPlaceOfRow : OpenClaim := { program := "ytgkifmabdfjejaa", sum := "cb8ff8ad2bb51cd7b743c707bc94645900c98e32e64caa09c94355dc627a0ee5", func := "loop.example/quantifiers/laws.FnPlaceOf", spec := "fnPlaceOf", apart := false }
def FnPlaceOfSaid : Prop := fnPlaceOfRow.holds Try.pinned (OpenSpec.ofChange fnPlaceOfSpec)

/-- ITS FALSE NEIGHBOUR: 'it returns false'. Refute it at one input. -/
def fnPlaceOfWrong : ChangeSpec := { name := "fnPlaceOf", fn := fun _ => fun
  | [d] => { results := [.lit (.bool false)], args := [d] }
  | _ => none }
def FnPlaceOfWrongFalsely : Prop := fnPlaceOfRow.holds Try.pinned (OpenSpec.ofChange fnPlaceOfWrong)

/-- 'laws.FnNamedTriangle': WHATEVER THE INPUT: true; the input reads as it did. -/
def fnNamedTriangleSpec : ChangeSpec := { name := "fnNamedTriangle", fn := fun _ => fun
  | [d] => { results := [.lit (.bool true)], args := [d] }
  | _ => none }
def fnNamedTriangleRow : OpenClaim := { program := "ytgkifmabdfjejaa", sum := "cb8ff8ad2bb51cd7b743c707bc94645900c98e32e64caa09c94355dc627a0ee5", func := "loop.example/quantifiers/laws.FnNamedTriangle", spec := "fnNamedTriangle", unfollowed := true, recurses := true, apart := false }
def FnNamedTriangleSaid : Prop := fnNamedTriangleRow.holds Try.pinned (OpenSpec.ofChange fnNamedTriangleSpec)

/-- ITS FALSE NEIGHBOUR: 'it returns false'. Refute it at one input. -/
def fnNamedTriangleWrong : ChangeSpec := { name := "fnNamedTriangle", fn := fun _ => fun
  | [d] => { results := [.lit (.bool false)], args := [d] }
  | _ => none }
def FnNamedTriangleWrongFalsely : Prop := fnNamedTriangleRow.holds Try.pinned (OpenSpec.ofChange fnNamedTriangleWrong)

/-- 'laws.FnTriangleOk': WHATEVER THE INPUT: true; the input reads as it did. -/
def fnTriangleOkSpec : ChangeSpec := { name := "fnTriangleOk", fn := fun _ => fun
  | [d] => { results := [.lit (.bool true)], args := [d] }
  | _ => none }
def fnTriangleOkRow : OpenClaim := { program := "ytgkifmabdfjejaa", sum := "cb8ff8ad2bb51cd7b743c707bc94645900c98e32e64caa09c94355dc627a0ee5", func := "loop.example/quantifiers/laws.FnTriangleOk", spec := "fnTriangleOk", unfollowed := true, recurses := true, apart := false }
def FnTriangleOkSaid : Prop := fnTriangleOkRow.holds Try.pinned (OpenSpec.ofChange fnTriangleOkSpec)

/-- ITS FALSE NEIGHBOUR: 'it returns false'. Refute it at one input. -/
def fnTriangleOkWrong : ChangeSpec := { name := "fnTriangleOk", fn := fun _ => fun
  | [d] => { results := [.lit (.bool false)], args := [d] }
  | _ => none }
def FnTriangleOkWrongFalsely : Prop := fnTriangleOkRow.holds Try.pinned (OpenSpec.ofChange fnTriangleOkWrong)

/-- 'laws.FnEitherOf': WHATEVER THE INPUT: true; the input reads as it did. -/
def fnEitherOfSpec : ChangeSpec := { name := "fnEitherOf", fn := fun _ => fun
  | [d] => { results := [.lit (.bool true)], args := [d] }
  | _ => none }
def fnEitherOfRow : OpenClaim := { program := "ytgkifmabdfjejaa", sum := "cb8ff8ad2bb51cd7b743c707bc94645900c98e32e64caa09c94355dc627a0ee5", func := "loop.example/quantifiers/laws.FnEitherOf", spec := "fnEitherOf", unfollowed := true, recurses := true, apart := false }
def FnEitherOfSaid : Prop := fnEitherOfRow.holds Try.pinned (OpenSpec.ofChange fnEitherOfSpec)

/-- ITS FALSE NEIGHBOUR: 'it returns false'. Refute it at one input. -/
def fnEitherOfWrong : ChangeSpec := { name := "fnEitherOf", fn := fun _ => fun
  | [d] => { results := [.lit (.bool false)], args := [d] }
  | _ => none }
def FnEitherOfWrongFalsely : Prop := fnEitherOfRow.holds Try.pinned (OpenSpec.ofChange fnEitherOfWrong)

/-- 'laws.FnInsideNot': WHATEVER THE INPUT: true; the input reads as it did. -/
def fnInsideNotSpec : ChangeSpec := { name := "fnInsideNot", fn := fun _ => fun
  | [d] => { results := [.lit (.bool true)], args := [d] }
  | _ => none }
def fnInsideNotRow : OpenClaim := { program := "ytgkifmabdfjejaa", sum := "cb8ff8ad2bb51cd7b743c707bc94645900c98e32e64caa09c94355dc627a0ee5", func := "loop.example/quantifiers/laws.FnInsideNot", spec := "fnInsideNot", unfollowed := true, recurses := true, apart := false }
def FnInsideNotSaid : Prop := fnInsideNotRow.holds Try.pinned (OpenSpec.ofChange fnInsideNotSpec)

/-- ITS FALSE NEIGHBOUR: 'it returns false'. Refute it at one input. -/
def fnInsideNotWrong : ChangeSpec := { name := "fnInsideNot", fn := fun _ => fun
  | [d] => { results := [.lit (.bool false)], args := [d] }
  | _ => none }
def FnInsideNotWrongFalsely : Prop := fnInsideNotRow.holds Try.pinned (OpenSpec.ofChange fnInsideNotWrong)

/-- 'laws.FnNotOf': WHATEVER THE INPUT: true; the input reads as it did. -/
def fnNotOfSpec : ChangeSpec := { name := "fnNotOf", fn := fun _ => fun
  | [d] => { results := [.lit (.bool true)], args := [d] }
  | _ => none }
def fnNotOfRow : OpenClaim := { program := "ytgkifmabdfjejaa", sum := "cb8ff8ad2bb51cd7b743c707bc94645900c98e32e64caa09c94355dc627a0ee5", func := "loop.example/quantifiers/laws.FnNotOf", spec := "fnNotOf", unfollowed := true, recurses := true, apart := false }
def FnNotOfSaid : Prop := fnNotOfRow.holds Try.pinned (OpenSpec.ofChange fnNotOfSpec)

/-- ITS FALSE NEIGHBOUR: 'it returns false'. Refute it at one input. -/
def fnNotOfWrong : ChangeSpec := { name := "fnNotOf", fn := fun _ => fun
  | [d] => { results := [.lit (.bool false)], args := [d] }
  | _ => none }
def FnNotOfWrongFalsely : Prop := fnNotOfRow.holds Try.pinned (OpenSpec.ofChange fnNotOfWrong)

/-- 'laws.FnBothOf': WHATEVER THE INPUT: true; the input reads as it did. -/
def fnBothOfSpec : ChangeSpec := { name := "fnBothOf", fn := fun _ => fun
  | [d] => { results := [.lit (.bool true)], args := [d] }
  | _ => none }
def fnBothOfRow : OpenClaim := { program := "ytgkifmabdfjejaa", sum := "cb8ff8ad2bb51cd7b743c707bc94645900c98e32e64caa09c94355dc627a0ee5", func := "loop.example/quantifiers/laws.FnBothOf", spec := "fnBothOf", unfollowed := true, recurses := true, apart := false }
def FnBothOfSaid : Prop := fnBothOfRow.holds Try.pinned (OpenSpec.ofChange fnBothOfSpec)

/-- ITS FALSE NEIGHBOUR: 'it returns false'. Refute it at one input. -/
def fnBothOfWrong : ChangeSpec := { name := "fnBothOf", fn := fun _ => fun
  | [d] => { results := [.lit (.bool false)], args := [d] }
  | _ => none }
def FnBothOfWrongFalsely : Prop := fnBothOfRow.holds Try.pinned (OpenSpec.ofChange fnBothOfWrong)

/-- 'laws.FnDualOf': WHATEVER THE INPUT: true; the input reads as it did. -/
def fnDualOfSpec : ChangeSpec := { name := "fnDualOf", fn := fun _ => fun
  | [d] => { results := [.lit (.bool true)], args := [d] }
  | _ => none }
def fnDualOfRow : OpenClaim := { program := "ytgkifmabdfjejaa", sum := "cb8ff8ad2bb51cd7b743c707bc94645900c98e32e64caa09c94355dc627a0ee5", func := "loop.example/quantifiers/laws.FnDualOf", spec := "fnDualOf", unfollowed := true, recurses := true, apart := false }
def FnDualOfSaid : Prop := fnDualOfRow.holds Try.pinned (OpenSpec.ofChange fnDualOfSpec)

/-- ITS FALSE NEIGHBOUR: 'it returns false'. Refute it at one input. -/
def fnDualOfWrong : ChangeSpec := { name := "fnDualOf", fn := fun _ => fun
  | [d] => { results := [.lit (.bool false)], args := [d] }
  | _ => none }
def FnDualOfWrongFalsely : Prop := fnDualOfRow.holds Try.pinned (OpenSpec.ofChange fnDualOfWrong)

/- THE SECOND FORM. 'bulk': how many values and letters a reading holds, each counted each time it is reached (what is shared counts as often as it is met; a slice's spare places count too). A statement '..UptoSaid' is the law's where the arguments, and the package variables that the reading takes, are together of bulk at most 1048576: NARROWER than '..Said'. Prove '..Said' where nothing that the law and all that it calls make is longer than what came in: it says more and counts as full. Else prove '..UptoSaid'. A law counts once. -/
mutual
def uptoBulk {H : Type} : DataW H → Nat
  | .lit (.string bytes) => bytes.length + 1
  | .lit _ => 1
  | .nil => 1
  | .ptr d => uptoBulk d + 1
  | .slice elems spare => uptoBulkAll elems + uptoBulkAll spare + 1
  | .agg parts => uptoBulkAll parts + 1
  | .iface _ d => uptoBulk d + 1
  | .map entries => uptoBulkEntries entries + 1
  | .held _ => 1
def uptoBulkAll {H : Type} : List (DataW H) → Nat
  | [] => 0
  | d :: r => uptoBulk d + uptoBulkAll r
def uptoBulkEntries {H : Type} : List (Lit × DataW H) → Nat
  | [] => 0
  | x :: r => uptoBulkEntry x + uptoBulkEntries r
def uptoBulkEntry {H : Type} : Lit × DataW H → Nat
  | (.string bytes, d) => bytes.length + uptoBulk d + 1
  | (_, d) => uptoBulk d + 1
 end
def uptoSmall : (H : Type) → List (DataW H) → Bool := fun _ ds => decide (uptoBulkAll ds ≤ 1048576)
def OpenSpec.upto (s : _root_.Go.ChangeSpec) : _root_.Go.OpenSpec := { _root_.Go.OpenSpec.ofChange s with cond := some uptoSmall }

/-- 'laws.FnPlaceOf', WHERE WHAT IT READS IS OF BULK AT MOST 1048576: true; the input reads as it did. -/
def fnPlaceOfUptoRow : OpenClaim := { program := "ytgkifmabdfjejaa", sum := "cb8ff8ad2bb51cd7b743c707bc94645900c98e32e64caa09c94355dc627a0ee5", func := "loop.example/quantifiers/laws.FnPlaceOf", spec := "fnPlaceOf", apart := false, narrowed := true }
def FnPlaceOfUptoSaid : Prop := fnPlaceOfUptoRow.holds Try.pinned (OpenSpec.upto fnPlaceOfSpec)

/-- 'laws.FnNamedTriangle', WHERE WHAT IT READS IS OF BULK AT MOST 1048576: true; the input reads as it did. -/
def fnNamedTriangleUptoRow : OpenClaim := { program := "ytgkifmabdfjejaa", sum := "cb8ff8ad2bb51cd7b743c707bc94645900c98e32e64caa09c94355dc627a0ee5", func := "loop.example/quantifiers/laws.FnNamedTriangle", spec := "fnNamedTriangle", unfollowed := true, recurses := true, apart := false, narrowed := true }
def FnNamedTriangleUptoSaid : Prop := fnNamedTriangleUptoRow.holds Try.pinned (OpenSpec.upto fnNamedTriangleSpec)

/-- 'laws.FnTriangleOk', WHERE WHAT IT READS IS OF BULK AT MOST 1048576: true; the input reads as it did. -/
def fnTriangleOkUptoRow : OpenClaim := { program := "ytgkifmabdfjejaa", sum := "cb8ff8ad2bb51cd7b743c707bc94645900c98e32e64caa09c94355dc627a0ee5", func := "loop.example/quantifiers/laws.FnTriangleOk", spec := "fnTriangleOk", unfollowed := true, recurses := true, apart := false, narrowed := true }
def FnTriangleOkUptoSaid : Prop := fnTriangleOkUptoRow.holds Try.pinned (OpenSpec.upto fnTriangleOkSpec)

/-- 'laws.FnEitherOf', WHERE WHAT IT READS IS OF BULK AT MOST 1048576: true; the input reads as it did. -/
def fnEitherOfUptoRow : OpenClaim := { program := "ytgkifmabdfjejaa", sum := "cb8ff8ad2bb51cd7b743c707bc94645900c98e32e64caa09c94355dc627a0ee5", func := "loop.example/quantifiers/laws.FnEitherOf", spec := "fnEitherOf", unfollowed := true, recurses := true, apart := false, narrowed := true }
def FnEitherOfUptoSaid : Prop := fnEitherOfUptoRow.holds Try.pinned (OpenSpec.upto fnEitherOfSpec)

/-- 'laws.FnInsideNot', WHERE WHAT IT READS IS OF BULK AT MOST 1048576: true; the input reads as it did. -/
def fnInsideNotUptoRow : OpenClaim := { program := "ytgkifmabdfjejaa", sum := "cb8ff8ad2bb51cd7b743c707bc94645900c98e32e64caa09c94355dc627a0ee5", func := "loop.example/quantifiers/laws.FnInsideNot", spec := "fnInsideNot", unfollowed := true, recurses := true, apart := false, narrowed := true }
def FnInsideNotUptoSaid : Prop := fnInsideNotUptoRow.holds Try.pinned (OpenSpec.upto fnInsideNotSpec)

/-- 'laws.FnNotOf', WHERE WHAT IT READS IS OF BULK AT MOST 1048576: true; the input reads as it did. -/
def fnNotOfUptoRow : OpenClaim := { program := "ytgkifmabdfjejaa", sum := "cb8ff8ad2bb51cd7b743c707bc94645900c98e32e64caa09c94355dc627a0ee5", func := "loop.example/quantifiers/laws.FnNotOf", spec := "fnNotOf", unfollowed := true, recurses := true, apart := false, narrowed := true }
def FnNotOfUptoSaid : Prop := fnNotOfUptoRow.holds Try.pinned (OpenSpec.upto fnNotOfSpec)

/-- 'laws.FnBothOf', WHERE WHAT IT READS IS OF BULK AT MOST 1048576: true; the input reads as it did. -/
def fnBothOfUptoRow : OpenClaim := { program := "ytgkifmabdfjejaa", sum := "cb8ff8ad2bb51cd7b743c707bc94645900c98e32e64caa09c94355dc627a0ee5", func := "loop.example/quantifiers/laws.FnBothOf", spec := "fnBothOf", unfollowed := true, recurses := true, apart := false, narrowed := true }
def FnBothOfUptoSaid : Prop := fnBothOfUptoRow.holds Try.pinned (OpenSpec.upto fnBothOfSpec)

/-- 'laws.FnDualOf', WHERE WHAT IT READS IS OF BULK AT MOST 1048576: true; the input reads as it did. -/
def fnDualOfUptoRow : OpenClaim := { program := "ytgkifmabdfjejaa", sum := "cb8ff8ad2bb51cd7b743c707bc94645900c98e32e64caa09c94355dc627a0ee5", func := "loop.example/quantifiers/laws.FnDualOf", spec := "fnDualOf", unfollowed := true, recurses := true, apart := false, narrowed := true }
def FnDualOfUptoSaid : Prop := fnDualOfUptoRow.holds Try.pinned (OpenSpec.upto fnDualOfSpec)

end Rows
end Go.Proofs.Ytgkifmabdfjejaa
