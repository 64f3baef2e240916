/-
  No cell of these rows narrows 'for every input' (looked for: loops, veiled, ifaces, maps, wideKeys, modest, calm, conditions, laid).
  DERIVED. THE GIVEN ROWS OF THIS SEAT. 12 by the template 'for every input the law returns true; each argument reads behind the call as it read before'; 0 by the template 'total and deterministic' (their statements: YthgkkhpndiiabaaTotals.lean).
  GIVEN WITH THE SEED: the statements are not yours to turn. If you find one false, say at which input.
  Laid BY PROGRAM, IN A SANDBOX (cutbox-rows.mjs): the forced cells as the released guide's own fill.sh prints them over the translation dcb68a5b2edaeca0… (all of the seat's roots in one cut). By AI agents, Wed Nov 11 2026. No macro, syntax, notation, axiom, sorry.
-/
import Derived.Test.YthgkkhpndiiabaaChecked
import GoSem.Claim
import GoSem.ClaimJoined
import GoSem.ClaimMapViews
import Derived.JoinedTies
import Derived.KernelRfl
namespace Go.Proofs.Ythgkkhpndiiabaa
/- THE CELL 'sum', in the pinned program and in every row, IS THE sha256 OF THE DUMP (.gsa) THAT YthgkkhpndiiabaaProg.lean LOADS. Nothing in Lean hashes anything: it is a label: what it is worth is what the hold of that sum in a sandbox is worth. -/
noncomputable def Try.pinned : Pinned := { name := "ythgkkhpndiiabaa", sum := "dcb68a5b2edaeca09e6169a75009fc26bfd22beae71d944efd481880ac55bc74", checked := Try.checked }
namespace Rows
def none {H : Type} : Left H := { results := [], args := [] }

/-- 'laws.FnExactRelationOk': WHATEVER THE INPUT: true; the input reads as it did. -/
def fnExactRelationOkSpec : ChangeSpec := { name := "fnExactRelationOk", fn := fun _ => fun
  | [d1, d2] => { results := [.lit (.bool true)], args := [d1, d2] }
  | _ => none }
def fnExactRelationOkRow : OpenClaim := { program := "ythgkkhpndiiabaa", sum := "dcb68a5b2edaeca09e6169a75009fc26bfd22beae71d944efd481880ac55bc74", func := "loop.example/quantifiers/laws.FnExactRelationOk", spec := "fnExactRelationOk", apart := false }
def FnExactRelationOkSaid : Prop := fnExactRelationOkRow.holds Try.pinned (OpenSpec.ofChange fnExactRelationOkSpec)

/-- ITS FALSE NEIGHBOUR: 'it returns false'. Refute it at one input. -/
def fnExactRelationOkWrong : ChangeSpec := { name := "fnExactRelationOk", fn := fun _ => fun
  | [d1, d2] => { results := [.lit (.bool false)], args := [d1, d2] }
  | _ => none }
def FnExactRelationOkWrongFalsely : Prop := fnExactRelationOkRow.holds Try.pinned (OpenSpec.ofChange fnExactRelationOkWrong)

/-- 'laws.FnExactHoldsOf': WHATEVER THE INPUT: true; the input reads as it did. -/
def fnExactHoldsOfSpec : ChangeSpec := { name := "fnExactHoldsOf", fn := fun _ => fun
  | [d1, d2, d3, d4] => { results := [.lit (.bool true)], args := [d1, d2, d3, d4] }
  | _ => none }
def fnExactHoldsOfRow : OpenClaim := { program := "ythgkkhpndiiabaa", sum := "dcb68a5b2edaeca09e6169a75009fc26bfd22beae71d944efd481880ac55bc74", func := "loop.example/quantifiers/laws.FnExactHoldsOf", spec := "fnExactHoldsOf", apart := false }
def FnExactHoldsOfSaid : Prop := fnExactHoldsOfRow.holds Try.pinned (OpenSpec.ofChange fnExactHoldsOfSpec)

/-- ITS FALSE NEIGHBOUR: 'it returns false'. Refute it at one input. -/
def fnExactHoldsOfWrong : ChangeSpec := { name := "fnExactHoldsOf", fn := fun _ => fun
  | [d1, d2, d3, d4] => { results := [.lit (.bool false)], args := [d1, d2, d3, d4] }
  | _ => none }
def FnExactHoldsOfWrongFalsely : Prop := fnExactHoldsOfRow.holds Try.pinned (OpenSpec.ofChange fnExactHoldsOfWrong)

/-- 'laws.FnExactBothWays': WHATEVER THE INPUT: true; the input reads as it did. -/
def fnExactBothWaysSpec : ChangeSpec := { name := "fnExactBothWays", fn := fun _ => fun
  | [d1, d2] => { results := [.lit (.bool true)], args := [d1, d2] }
  | _ => none }
def fnExactBothWaysRow : OpenClaim := { program := "ythgkkhpndiiabaa", sum := "dcb68a5b2edaeca09e6169a75009fc26bfd22beae71d944efd481880ac55bc74", func := "loop.example/quantifiers/laws.FnExactBothWays", spec := "fnExactBothWays", unfollowed := true, recurses := true, apart := false }
def FnExactBothWaysSaid : Prop := fnExactBothWaysRow.holds Try.pinned (OpenSpec.ofChange fnExactBothWaysSpec)

/-- ITS FALSE NEIGHBOUR: 'it returns false'. Refute it at one input. -/
def fnExactBothWaysWrong : ChangeSpec := { name := "fnExactBothWays", fn := fun _ => fun
  | [d1, d2] => { results := [.lit (.bool false)], args := [d1, d2] }
  | _ => none }
def FnExactBothWaysWrongFalsely : Prop := fnExactBothWaysRow.holds Try.pinned (OpenSpec.ofChange fnExactBothWaysWrong)

/-- 'laws.FnExactLooksInside': WHATEVER THE INPUT: true; the input reads as it did. -/
def fnExactLooksInsideSpec : ChangeSpec := { name := "fnExactLooksInside", fn := fun _ => fun
  | [d1, d2] => { results := [.lit (.bool true)], args := [d1, d2] }
  | _ => none }
def fnExactLooksInsideRow : OpenClaim := { program := "ythgkkhpndiiabaa", sum := "dcb68a5b2edaeca09e6169a75009fc26bfd22beae71d944efd481880ac55bc74", func := "loop.example/quantifiers/laws.FnExactLooksInside", spec := "fnExactLooksInside", unfollowed := true, recurses := true, apart := false }
def FnExactLooksInsideSaid : Prop := fnExactLooksInsideRow.holds Try.pinned (OpenSpec.ofChange fnExactLooksInsideSpec)

/-- ITS FALSE NEIGHBOUR: 'it returns false'. Refute it at one input. -/
def fnExactLooksInsideWrong : ChangeSpec := { name := "fnExactLooksInside", fn := fun _ => fun
  | [d1, d2] => { results := [.lit (.bool false)], args := [d1, d2] }
  | _ => none }
def FnExactLooksInsideWrongFalsely : Prop := fnExactLooksInsideRow.holds Try.pinned (OpenSpec.ofChange fnExactLooksInsideWrong)

/-- 'laws.FnExactFewerDo': WHATEVER THE INPUT: true; the input reads as it did. -/
def fnExactFewerDoSpec : ChangeSpec := { name := "fnExactFewerDo", fn := fun _ => fun
  | [d] => { results := [.lit (.bool true)], args := [d] }
  | _ => none }
def fnExactFewerDoRow : OpenClaim := { program := "ythgkkhpndiiabaa", sum := "dcb68a5b2edaeca09e6169a75009fc26bfd22beae71d944efd481880ac55bc74", func := "loop.example/quantifiers/laws.FnExactFewerDo", spec := "fnExactFewerDo", unfollowed := true, recurses := true, apart := false }
def FnExactFewerDoSaid : Prop := fnExactFewerDoRow.holds Try.pinned (OpenSpec.ofChange fnExactFewerDoSpec)

/-- ITS FALSE NEIGHBOUR: 'it returns false'. Refute it at one input. -/
def fnExactFewerDoWrong : ChangeSpec := { name := "fnExactFewerDo", fn := fun _ => fun
  | [d] => { results := [.lit (.bool false)], args := [d] }
  | _ => none }
def FnExactFewerDoWrongFalsely : Prop := fnExactFewerDoRow.holds Try.pinned (OpenSpec.ofChange fnExactFewerDoWrong)

/-- 'laws.FnExactMoreDo': WHATEVER THE INPUT: true; the input reads as it did. -/
def fnExactMoreDoSpec : ChangeSpec := { name := "fnExactMoreDo", fn := fun _ => fun
  | [d] => { results := [.lit (.bool true)], args := [d] }
  | _ => none }
def fnExactMoreDoRow : OpenClaim := { program := "ythgkkhpndiiabaa", sum := "dcb68a5b2edaeca09e6169a75009fc26bfd22beae71d944efd481880ac55bc74", func := "loop.example/quantifiers/laws.FnExactMoreDo", spec := "fnExactMoreDo", unfollowed := true, recurses := true, apart := false }
def FnExactMoreDoSaid : Prop := fnExactMoreDoRow.holds Try.pinned (OpenSpec.ofChange fnExactMoreDoSpec)

/-- ITS FALSE NEIGHBOUR: 'it returns false'. Refute it at one input. -/
def fnExactMoreDoWrong : ChangeSpec := { name := "fnExactMoreDo", fn := fun _ => fun
  | [d] => { results := [.lit (.bool false)], args := [d] }
  | _ => none }
def FnExactMoreDoWrongFalsely : Prop := fnExactMoreDoRow.holds Try.pinned (OpenSpec.ofChange fnExactMoreDoWrong)

/-- 'laws.FnExactWithoutLast': WHATEVER THE INPUT: true; the input reads as it did. -/
def fnExactWithoutLastSpec : ChangeSpec := { name := "fnExactWithoutLast", fn := fun _ => fun
  | [d1, d2] => { results := [.lit (.bool true)], args := [d1, d2] }
  | _ => none }
def fnExactWithoutLastRow : OpenClaim := { program := "ythgkkhpndiiabaa", sum := "dcb68a5b2edaeca09e6169a75009fc26bfd22beae71d944efd481880ac55bc74", func := "loop.example/quantifiers/laws.FnExactWithoutLast", spec := "fnExactWithoutLast", apart := false }
def FnExactWithoutLastSaid : Prop := fnExactWithoutLastRow.holds Try.pinned (OpenSpec.ofChange fnExactWithoutLastSpec)

/-- ITS FALSE NEIGHBOUR: 'it returns false'. Refute it at one input. -/
def fnExactWithoutLastWrong : ChangeSpec := { name := "fnExactWithoutLast", fn := fun _ => fun
  | [d1, d2] => { results := [.lit (.bool false)], args := [d1, d2] }
  | _ => none }
def FnExactWithoutLastWrongFalsely : Prop := fnExactWithoutLastRow.holds Try.pinned (OpenSpec.ofChange fnExactWithoutLastWrong)

/-- 'laws.FnExactFewerAre': WHATEVER THE INPUT: true; the input reads as it did. -/
def fnExactFewerAreSpec : ChangeSpec := { name := "fnExactFewerAre", fn := fun _ => fun
  | [d] => { results := [.lit (.bool true)], args := [d] }
  | _ => none }
def fnExactFewerAreRow : OpenClaim := { program := "ythgkkhpndiiabaa", sum := "dcb68a5b2edaeca09e6169a75009fc26bfd22beae71d944efd481880ac55bc74", func := "loop.example/quantifiers/laws.FnExactFewerAre", spec := "fnExactFewerAre", unfollowed := true, recurses := true, apart := false }
def FnExactFewerAreSaid : Prop := fnExactFewerAreRow.holds Try.pinned (OpenSpec.ofChange fnExactFewerAreSpec)

/-- ITS FALSE NEIGHBOUR: 'it returns false'. Refute it at one input. -/
def fnExactFewerAreWrong : ChangeSpec := { name := "fnExactFewerAre", fn := fun _ => fun
  | [d] => { results := [.lit (.bool false)], args := [d] }
  | _ => none }
def FnExactFewerAreWrongFalsely : Prop := fnExactFewerAreRow.holds Try.pinned (OpenSpec.ofChange fnExactFewerAreWrong)

/-- 'laws.FnExactMoreAre': WHATEVER THE INPUT: true; the input reads as it did. -/
def fnExactMoreAreSpec : ChangeSpec := { name := "fnExactMoreAre", fn := fun _ => fun
  | [d] => { results := [.lit (.bool true)], args := [d] }
  | _ => none }
def fnExactMoreAreRow : OpenClaim := { program := "ythgkkhpndiiabaa", sum := "dcb68a5b2edaeca09e6169a75009fc26bfd22beae71d944efd481880ac55bc74", func := "loop.example/quantifiers/laws.FnExactMoreAre", spec := "fnExactMoreAre", unfollowed := true, recurses := true, apart := false }
def FnExactMoreAreSaid : Prop := fnExactMoreAreRow.holds Try.pinned (OpenSpec.ofChange fnExactMoreAreSpec)

/-- ITS FALSE NEIGHBOUR: 'it returns false'. Refute it at one input. -/
def fnExactMoreAreWrong : ChangeSpec := { name := "fnExactMoreAre", fn := fun _ => fun
  | [d] => { results := [.lit (.bool false)], args := [d] }
  | _ => none }
def FnExactMoreAreWrongFalsely : Prop := fnExactMoreAreRow.holds Try.pinned (OpenSpec.ofChange fnExactMoreAreWrong)

/-- 'laws.FnExactKnowsNoThing': WHATEVER THE INPUT: true; the input reads as it did. -/
def fnExactKnowsNoThingSpec : ChangeSpec := { name := "fnExactKnowsNoThing", fn := fun _ => fun
  | [d1, d2] => { results := [.lit (.bool true)], args := [d1, d2] }
  | _ => none }
def fnExactKnowsNoThingRow : OpenClaim := { program := "ythgkkhpndiiabaa", sum := "dcb68a5b2edaeca09e6169a75009fc26bfd22beae71d944efd481880ac55bc74", func := "loop.example/quantifiers/laws.FnExactKnowsNoThing", spec := "fnExactKnowsNoThing", unfollowed := true, recurses := true, apart := false }
def FnExactKnowsNoThingSaid : Prop := fnExactKnowsNoThingRow.holds Try.pinned (OpenSpec.ofChange fnExactKnowsNoThingSpec)

/-- ITS FALSE NEIGHBOUR: 'it returns false'. Refute it at one input. -/
def fnExactKnowsNoThingWrong : ChangeSpec := { name := "fnExactKnowsNoThing", fn := fun _ => fun
  | [d1, d2] => { results := [.lit (.bool false)], args := [d1, d2] }
  | _ => none }
def FnExactKnowsNoThingWrongFalsely : Prop := fnExactKnowsNoThingRow.holds Try.pinned (OpenSpec.ofChange fnExactKnowsNoThingWrong)

/-- 'laws.FnExactRelationFrom': WHATEVER THE INPUT: true; the input reads as it did. -/
def fnExactRelationFromSpec : ChangeSpec := { name := "fnExactRelationFrom", fn := fun _ => fun
  | [d1, d2] => { results := [.lit (.bool true)], args := [d1, d2] }
  | _ => none }
def fnExactRelationFromRow : OpenClaim := { program := "ythgkkhpndiiabaa", sum := "dcb68a5b2edaeca09e6169a75009fc26bfd22beae71d944efd481880ac55bc74", func := "loop.example/quantifiers/laws.FnExactRelationFrom", spec := "fnExactRelationFrom", apart := false }
def FnExactRelationFromSaid : Prop := fnExactRelationFromRow.holds Try.pinned (OpenSpec.ofChange fnExactRelationFromSpec)

/-- ITS FALSE NEIGHBOUR: 'it returns false'. Refute it at one input. -/
def fnExactRelationFromWrong : ChangeSpec := { name := "fnExactRelationFrom", fn := fun _ => fun
  | [d1, d2] => { results := [.lit (.bool false)], args := [d1, d2] }
  | _ => none }
def FnExactRelationFromWrongFalsely : Prop := fnExactRelationFromRow.holds Try.pinned (OpenSpec.ofChange fnExactRelationFromWrong)

/-- 'laws.FnExactRowsFrom': WHATEVER THE INPUT: true; the input reads as it did. -/
def fnExactRowsFromSpec : ChangeSpec := { name := "fnExactRowsFrom", fn := fun _ => fun
  | [d1, d2] => { results := [.lit (.bool true)], args := [d1, d2] }
  | _ => none }
def fnExactRowsFromRow : OpenClaim := { program := "ythgkkhpndiiabaa", sum := "dcb68a5b2edaeca09e6169a75009fc26bfd22beae71d944efd481880ac55bc74", func := "loop.example/quantifiers/laws.FnExactRowsFrom", spec := "fnExactRowsFrom", unfollowed := true, recurses := true, apart := false }
def FnExactRowsFromSaid : Prop := fnExactRowsFromRow.holds Try.pinned (OpenSpec.ofChange fnExactRowsFromSpec)

/-- ITS FALSE NEIGHBOUR: 'it returns false'. Refute it at one input. -/
def fnExactRowsFromWrong : ChangeSpec := { name := "fnExactRowsFrom", fn := fun _ => fun
  | [d1, d2] => { results := [.lit (.bool false)], args := [d1, d2] }
  | _ => none }
def FnExactRowsFromWrongFalsely : Prop := fnExactRowsFromRow.holds Try.pinned (OpenSpec.ofChange fnExactRowsFromWrong)

/- THE SECOND FORM. 'bulk': how many values and letters a reading holds, each counted each time it is reached (what is shared counts as often as it is met; a slice's spare places count too). A statement '..UptoSaid' is the law's where the arguments, and the package variables that the reading takes, are together of bulk at most 1048576: NARROWER than '..Said'. Prove '..Said' where nothing that the law and all that it calls make is longer than what came in: it says more and counts as full. Else prove '..UptoSaid'. A law counts once. -/
mutual
def uptoBulk {H : Type} : DataW H → Nat
  | .lit (.string bytes) => bytes.length + 1
  | .lit _ => 1
  | .nil => 1
  | .ptr d => uptoBulk d + 1
  | .slice elems spare => uptoBulkAll elems + uptoBulkAll spare + 1
  | .agg parts => uptoBulkAll parts + 1
  | .iface _ d => uptoBulk d + 1
  | .map entries => uptoBulkEntries entries + 1
  | .held _ => 1
def uptoBulkAll {H : Type} : List (DataW H) → Nat
  | [] => 0
  | d :: r => uptoBulk d + uptoBulkAll r
def uptoBulkEntries {H : Type} : List (Lit × DataW H) → Nat
  | [] => 0
  | x :: r => uptoBulkEntry x + uptoBulkEntries r
def uptoBulkEntry {H : Type} : Lit × DataW H → Nat
  | (.string bytes, d) => bytes.length + uptoBulk d + 1
  | (_, d) => uptoBulk d + 1
 end
def uptoSmall : (H : Type) → List (DataW H) → Bool := fun _ ds => decide (uptoBulkAll ds ≤ 1048576)
def OpenSpec.upto (s : _root_.Go.ChangeSpec) : _root_.Go.OpenSpec := { _root_.Go.OpenSpec.ofChange s with cond := some uptoSmall }

/-- 'laws.FnExactRelationOk', WHERE WHAT IT READS IS OF BULK AT MOST 1048576: true; the input reads as it did. -/
def fnExactRelationOkUptoRow : OpenClaim := { program := "ythgkkhpndiiabaa", sum := "dcb68a5b2edaeca09e6169a75009fc26bfd22beae71d944efd481880ac55bc74", func := "loop.example/quantifiers/laws.FnExactRelationOk", spec := "fnExactRelationOk", apart := false, narrowed := true }
def FnExactRelationOkUptoSaid : Prop := fnExactRelationOkUptoRow.holds Try.pinned (OpenSpec.upto fnExactRelationOkSpec)

/-- 'laws.FnExactHoldsOf', WHERE WHAT IT READS IS OF BULK AT MOST 1048576: true; the input reads as it did. -/
def fnExactHoldsOfUptoRow : OpenClaim := { program := "ythgkkhpndiiabaa", sum := "dcb68a5b2edaeca09e6169a75009fc26bfd22beae71d944efd481880ac55bc74", func := "loop.example/quantifiers/laws.FnExactHoldsOf", spec := "fnExactHoldsOf", apart := false, narrowed := true }
def FnExactHoldsOfUptoSaid : Prop := fnExactHoldsOfUptoRow.holds Try.pinned (OpenSpec.upto fnExactHoldsOfSpec)

/-- 'laws.FnExactBothWays', WHERE WHAT IT READS IS OF BULK AT MOST 1048576: true; the input reads as it did. -/
def fnExactBothWaysUptoRow : OpenClaim := { program := "ythgkkhpndiiabaa", sum := "dcb68a5b2edaeca09e6169a75009fc26bfd22beae71d944efd481880ac55bc74", func := "loop.example/quantifiers/laws.FnExactBothWays", spec := "fnExactBothWays", unfollowed := true, recurses := true, apart := false, narrowed := true }
def FnExactBothWaysUptoSaid : Prop := fnExactBothWaysUptoRow.holds Try.pinned (OpenSpec.upto fnExactBothWaysSpec)

/-- 'laws.FnExactLooksInside', WHERE WHAT IT READS IS OF BULK AT MOST 1048576: true; the input reads as it did. -/
def fnExactLooksInsideUptoRow : OpenClaim := { program := "ythgkkhpndiiabaa", sum := "dcb68a5b2edaeca09e6169a75009fc26bfd22beae71d944efd481880ac55bc74", func := "loop.example/quantifiers/laws.FnExactLooksInside", spec := "fnExactLooksInside", unfollowed := true, recurses := true, apart := false, narrowed := true }
def FnExactLooksInsideUptoSaid : Prop := fnExactLooksInsideUptoRow.holds Try.pinned (OpenSpec.upto fnExactLooksInsideSpec)

/-- 'laws.FnExactFewerDo', WHERE WHAT IT READS IS OF BULK AT MOST 1048576: true; the input reads as it did. -/
def fnExactFewerDoUptoRow : OpenClaim := { program := "ythgkkhpndiiabaa", sum := "dcb68a5b2edaeca09e6169a75009fc26bfd22beae71d944efd481880ac55bc74", func := "loop.example/quantifiers/laws.FnExactFewerDo", spec := "fnExactFewerDo", unfollowed := true, recurses := true, apart := false, narrowed := true }
def FnExactFewerDoUptoSaid : Prop := fnExactFewerDoUptoRow.holds Try.pinned (OpenSpec.upto fnExactFewerDoSpec)

/-- 'laws.FnExactMoreDo', WHERE WHAT IT READS IS OF BULK AT MOST 1048576: true; the input reads as it did. -/
def fnExactMoreDoUptoRow : OpenClaim := { program := "ythgkkhpndiiabaa", sum := "dcb68a5b2edaeca09e6169a75009fc26bfd22beae71d944efd481880ac55bc74", func := "loop.example/quantifiers/laws.FnExactMoreDo", spec := "fnExactMoreDo", unfollowed := true, recurses := true, apart := false, narrowed := true }
def FnExactMoreDoUptoSaid : Prop := fnExactMoreDoUptoRow.holds Try.pinned (OpenSpec.upto fnExactMoreDoSpec)

/-- 'laws.FnExactWithoutLast', WHERE WHAT IT READS IS OF BULK AT MOST 1048576: true; the input reads as it did. -/
def fnExactWithoutLastUptoRow : OpenClaim := { program := "ythgkkhpndiiabaa", sum := "dcb68a5b2edaeca09e6169a75009fc26bfd22beae71d944efd481880ac55bc74", func := "loop.example/quantifiers/laws.FnExactWithoutLast", spec := "fnExactWithoutLast", apart := false, narrowed := true }
def FnExactWithoutLastUptoSaid : Prop := fnExactWithoutLastUptoRow.holds Try.pinned (OpenSpec.upto fnExactWithoutLastSpec)

/-- 'laws.FnExactFewerAre', WHERE WHAT IT READS IS OF BULK AT MOST 1048576: true; the input reads as it did. -/
def fnExactFewerAreUptoRow : OpenClaim := { program := "ythgkkhpndiiabaa", sum := "dcb68a5b2edaeca09e6169a75009fc26bfd22beae71d944efd481880ac55bc74", func := "loop.example/quantifiers/laws.FnExactFewerAre", spec := "fnExactFewerAre", unfollowed := true, recurses := true, apart := false, narrowed := true }
def FnExactFewerAreUptoSaid : Prop := fnExactFewerAreUptoRow.holds Try.pinned (OpenSpec.upto fnExactFewerAreSpec)

/-- 'laws.FnExactMoreAre', WHERE WHAT IT READS IS OF BULK AT MOST 1048576: true; the input reads as it did. -/
def fnExactMoreAreUptoRow : OpenClaim := { program := "ythgkkhpndiiabaa", sum := "dcb68a5b2edaeca09e6169a75009fc26bfd22beae71d944efd481880ac55bc74", func := "loop.example/quantifiers/laws.FnExactMoreAre", spec := "fnExactMoreAre", unfollowed := true, recurses := true, apart := false, narrowed := true }
def FnExactMoreAreUptoSaid : Prop := fnExactMoreAreUptoRow.holds Try.pinned (OpenSpec.upto fnExactMoreAreSpec)

/-- 'laws.FnExactKnowsNoThing', WHERE WHAT IT READS IS OF BULK AT MOST 1048576: true; the input reads as it did. -/
def fnExactKnowsNoThingUptoRow : OpenClaim := { program := "ythgkkhpndiiabaa", sum := "dcb68a5b2edaeca09e6169a75009fc26bfd22beae71d944efd481880ac55bc74", func := "loop.example/quantifiers/laws.FnExactKnowsNoThing", spec := "fnExactKnowsNoThing", unfollowed := true, recurses := true, apart := false, narrowed := true }
def FnExactKnowsNoThingUptoSaid : Prop := fnExactKnowsNoThingUptoRow.holds Try.pinned (OpenSpec.upto fnExactKnowsNoThingSpec)

/-- 'laws.FnExactRelationFrom', WHERE WHAT IT READS IS OF BULK AT MOST 1048576: true; the input reads as it did. -/
def fnExactRelationFromUptoRow : OpenClaim := { program := "ythgkkhpndiiabaa", sum := "dcb68a5b2edaeca09e6169a75009fc26bfd22beae71d944efd481880ac55bc74", func := "loop.example/quantifiers/laws.FnExactRelationFrom", spec := "fnExactRelationFrom", apart := false, narrowed := true }
def FnExactRelationFromUptoSaid : Prop := fnExactRelationFromUptoRow.holds Try.pinned (OpenSpec.upto fnExactRelationFromSpec)

/-- 'laws.FnExactRowsFrom', WHERE WHAT IT READS IS OF BULK AT MOST 1048576: true; the input reads as it did. -/
def fnExactRowsFromUptoRow : OpenClaim := { program := "ythgkkhpndiiabaa", sum := "dcb68a5b2edaeca09e6169a75009fc26bfd22beae71d944efd481880ac55bc74", func := "loop.example/quantifiers/laws.FnExactRowsFrom", spec := "fnExactRowsFrom", unfollowed := true, recurses := true, apart := false, narrowed := true }
def FnExactRowsFromUptoSaid : Prop := fnExactRowsFromUptoRow.holds Try.pinned (OpenSpec.upto fnExactRowsFromSpec)

end Rows
end Go.Proofs.Ythgkkhpndiiabaa
