/-
  No cell of these rows narrows 'for every input' (looked for: loops, veiled, ifaces, maps, wideKeys, modest, calm, conditions, laid).
  DERIVED. THE GIVEN ROWS OF THIS SEAT. 8 by the template 'for every input the law returns true; each argument reads behind the call as it read before'; 0 by the template 'total and deterministic' (their statements: YtcongmckkjbhiaaTotals.lean).
  GIVEN WITH THE SEED: the statements are not yours to turn. If you find one false, say at which input.
  Laid BY PROGRAM, IN A SANDBOX (cutbox-rows.mjs): the forced cells as the released guide's own fill.sh prints them over the translation 46c7b20f3cb73bfb… (all of the seat's roots in one cut). By AI agents, Wed Nov 11 2026. No macro, syntax, notation, axiom, sorry.
-/
import Derived.Test.YtcongmckkjbhiaaChecked
import GoSem.Claim
import GoSem.ClaimJoined
import GoSem.ClaimMapViews
import Derived.JoinedTies
import Derived.KernelRfl
namespace Go.Proofs.Ytcongmckkjbhiaa
/- THE CELL 'sum', in the pinned program and in every row, IS THE sha256 OF THE DUMP (.gsa) THAT YtcongmckkjbhiaaProg.lean LOADS. Nothing in Lean hashes anything: it is a label: what it is worth is what the hold of that sum in a sandbox is worth. -/
noncomputable def Try.pinned : Pinned := { name := "ytcongmckkjbhiaa", sum := "46c7b20f3cb73bfb69fb5d4dc6a3016d12db5c563de0197cf324afc7356b3c37", checked := Try.checked }
namespace Rows
def none {H : Type} : Left H := { results := [], args := [] }

/-- 'laws.FnRowsFrom': WHATEVER THE INPUT: true; the input reads as it did. -/
def fnRowsFromSpec : ChangeSpec := { name := "fnRowsFrom", fn := fun _ => fun
  | [d] => { results := [.lit (.bool true)], args := [d] }
  | _ => none }
def fnRowsFromRow : OpenClaim := { program := "ytcongmckkjbhiaa", sum := "46c7b20f3cb73bfb69fb5d4dc6a3016d12db5c563de0197cf324afc7356b3c37", func := "loop.example/quantifiers/laws.FnRowsFrom", spec := "fnRowsFrom", unfollowed := true, recurses := true, apart := false }
def FnRowsFromSaid : Prop := fnRowsFromRow.holds Try.pinned (OpenSpec.ofChange fnRowsFromSpec)

/-- ITS FALSE NEIGHBOUR: 'it returns false'. Refute it at one input. -/
def fnRowsFromWrong : ChangeSpec := { name := "fnRowsFrom", fn := fun _ => fun
  | [d] => { results := [.lit (.bool false)], args := [d] }
  | _ => none }
def FnRowsFromWrongFalsely : Prop := fnRowsFromRow.holds Try.pinned (OpenSpec.ofChange fnRowsFromWrong)

/-- 'laws.FnRelationOk': WHATEVER THE INPUT: true; the input reads as it did. -/
def fnRelationOkSpec : ChangeSpec := { name := "fnRelationOk", fn := fun _ => fun
  | [d] => { results := [.lit (.bool true)], args := [d] }
  | _ => none }
def fnRelationOkRow : OpenClaim := { program := "ytcongmckkjbhiaa", sum := "46c7b20f3cb73bfb69fb5d4dc6a3016d12db5c563de0197cf324afc7356b3c37", func := "loop.example/quantifiers/laws.FnRelationOk", spec := "fnRelationOk", recurses := true, apart := false }
def FnRelationOkSaid : Prop := fnRelationOkRow.holds Try.pinned (OpenSpec.ofChange fnRelationOkSpec)

/-- ITS FALSE NEIGHBOUR: 'it returns false'. Refute it at one input. -/
def fnRelationOkWrong : ChangeSpec := { name := "fnRelationOk", fn := fun _ => fun
  | [d] => { results := [.lit (.bool false)], args := [d] }
  | _ => none }
def FnRelationOkWrongFalsely : Prop := fnRelationOkRow.holds Try.pinned (OpenSpec.ofChange fnRelationOkWrong)

/-- 'laws.FnHoldsOf': WHATEVER THE INPUT: true; the input reads as it did. -/
def fnHoldsOfSpec : ChangeSpec := { name := "fnHoldsOf", fn := fun _ => fun
  | [d] => { results := [.lit (.bool true)], args := [d] }
  | _ => none }
def fnHoldsOfRow : OpenClaim := { program := "ytcongmckkjbhiaa", sum := "46c7b20f3cb73bfb69fb5d4dc6a3016d12db5c563de0197cf324afc7356b3c37", func := "loop.example/quantifiers/laws.FnHoldsOf", spec := "fnHoldsOf", recurses := true, apart := false }
def FnHoldsOfSaid : Prop := fnHoldsOfRow.holds Try.pinned (OpenSpec.ofChange fnHoldsOfSpec)

/-- ITS FALSE NEIGHBOUR: 'it returns false'. Refute it at one input. -/
def fnHoldsOfWrong : ChangeSpec := { name := "fnHoldsOf", fn := fun _ => fun
  | [d] => { results := [.lit (.bool false)], args := [d] }
  | _ => none }
def FnHoldsOfWrongFalsely : Prop := fnHoldsOfRow.holds Try.pinned (OpenSpec.ofChange fnHoldsOfWrong)

/-- 'laws.FnLooksInside': WHATEVER THE INPUT: true; the input reads as it did. -/
def fnLooksInsideSpec : ChangeSpec := { name := "fnLooksInside", fn := fun _ => fun
  | [d] => { results := [.lit (.bool true)], args := [d] }
  | _ => none }
def fnLooksInsideRow : OpenClaim := { program := "ytcongmckkjbhiaa", sum := "46c7b20f3cb73bfb69fb5d4dc6a3016d12db5c563de0197cf324afc7356b3c37", func := "loop.example/quantifiers/laws.FnLooksInside", spec := "fnLooksInside", unfollowed := true, recurses := true, apart := false }
def FnLooksInsideSaid : Prop := fnLooksInsideRow.holds Try.pinned (OpenSpec.ofChange fnLooksInsideSpec)

/-- ITS FALSE NEIGHBOUR: 'it returns false'. Refute it at one input. -/
def fnLooksInsideWrong : ChangeSpec := { name := "fnLooksInside", fn := fun _ => fun
  | [d] => { results := [.lit (.bool false)], args := [d] }
  | _ => none }
def FnLooksInsideWrongFalsely : Prop := fnLooksInsideRow.holds Try.pinned (OpenSpec.ofChange fnLooksInsideWrong)

/-- 'laws.FnBothWays': WHATEVER THE INPUT: true; the input reads as it did. -/
def fnBothWaysSpec : ChangeSpec := { name := "fnBothWays", fn := fun _ => fun
  | [d] => { results := [.lit (.bool true)], args := [d] }
  | _ => none }
def fnBothWaysRow : OpenClaim := { program := "ytcongmckkjbhiaa", sum := "46c7b20f3cb73bfb69fb5d4dc6a3016d12db5c563de0197cf324afc7356b3c37", func := "loop.example/quantifiers/laws.FnBothWays", spec := "fnBothWays", unfollowed := true, recurses := true, apart := false }
def FnBothWaysSaid : Prop := fnBothWaysRow.holds Try.pinned (OpenSpec.ofChange fnBothWaysSpec)

/-- ITS FALSE NEIGHBOUR: 'it returns false'. Refute it at one input. -/
def fnBothWaysWrong : ChangeSpec := { name := "fnBothWays", fn := fun _ => fun
  | [d] => { results := [.lit (.bool false)], args := [d] }
  | _ => none }
def FnBothWaysWrongFalsely : Prop := fnBothWaysRow.holds Try.pinned (OpenSpec.ofChange fnBothWaysWrong)

/-- 'laws.FnKnowsNoThing': WHATEVER THE INPUT: true; the input reads as it did. -/
def fnKnowsNoThingSpec : ChangeSpec := { name := "fnKnowsNoThing", fn := fun _ => fun
  | [d] => { results := [.lit (.bool true)], args := [d] }
  | _ => none }
def fnKnowsNoThingRow : OpenClaim := { program := "ytcongmckkjbhiaa", sum := "46c7b20f3cb73bfb69fb5d4dc6a3016d12db5c563de0197cf324afc7356b3c37", func := "loop.example/quantifiers/laws.FnKnowsNoThing", spec := "fnKnowsNoThing", unfollowed := true, recurses := true, apart := false }
def FnKnowsNoThingSaid : Prop := fnKnowsNoThingRow.holds Try.pinned (OpenSpec.ofChange fnKnowsNoThingSpec)

/-- ITS FALSE NEIGHBOUR: 'it returns false'. Refute it at one input. -/
def fnKnowsNoThingWrong : ChangeSpec := { name := "fnKnowsNoThing", fn := fun _ => fun
  | [d] => { results := [.lit (.bool false)], args := [d] }
  | _ => none }
def FnKnowsNoThingWrongFalsely : Prop := fnKnowsNoThingRow.holds Try.pinned (OpenSpec.ofChange fnKnowsNoThingWrong)

/-- 'laws.FnWithoutLast': WHATEVER THE INPUT: true; the input reads as it did. -/
def fnWithoutLastSpec : ChangeSpec := { name := "fnWithoutLast", fn := fun _ => fun
  | [d] => { results := [.lit (.bool true)], args := [d] }
  | _ => none }
def fnWithoutLastRow : OpenClaim := { program := "ytcongmckkjbhiaa", sum := "46c7b20f3cb73bfb69fb5d4dc6a3016d12db5c563de0197cf324afc7356b3c37", func := "loop.example/quantifiers/laws.FnWithoutLast", spec := "fnWithoutLast", unfollowed := true, recurses := true, apart := false }
def FnWithoutLastSaid : Prop := fnWithoutLastRow.holds Try.pinned (OpenSpec.ofChange fnWithoutLastSpec)

/-- ITS FALSE NEIGHBOUR: 'it returns false'. Refute it at one input. -/
def fnWithoutLastWrong : ChangeSpec := { name := "fnWithoutLast", fn := fun _ => fun
  | [d] => { results := [.lit (.bool false)], args := [d] }
  | _ => none }
def FnWithoutLastWrongFalsely : Prop := fnWithoutLastRow.holds Try.pinned (OpenSpec.ofChange fnWithoutLastWrong)

/-- 'laws.FnRelationFrom': WHATEVER THE INPUT: true; the input reads as it did. -/
def fnRelationFromSpec : ChangeSpec := { name := "fnRelationFrom", fn := fun _ => fun
  | [d] => { results := [.lit (.bool true)], args := [d] }
  | _ => none }
def fnRelationFromRow : OpenClaim := { program := "ytcongmckkjbhiaa", sum := "46c7b20f3cb73bfb69fb5d4dc6a3016d12db5c563de0197cf324afc7356b3c37", func := "loop.example/quantifiers/laws.FnRelationFrom", spec := "fnRelationFrom", unfollowed := true, recurses := true, apart := false }
def FnRelationFromSaid : Prop := fnRelationFromRow.holds Try.pinned (OpenSpec.ofChange fnRelationFromSpec)

/-- ITS FALSE NEIGHBOUR: 'it returns false'. Refute it at one input. -/
def fnRelationFromWrong : ChangeSpec := { name := "fnRelationFrom", fn := fun _ => fun
  | [d] => { results := [.lit (.bool false)], args := [d] }
  | _ => none }
def FnRelationFromWrongFalsely : Prop := fnRelationFromRow.holds Try.pinned (OpenSpec.ofChange fnRelationFromWrong)

/- THE SECOND FORM. 'bulk': how many values and letters a reading holds, each counted each time it is reached (what is shared counts as often as it is met; a slice's spare places count too). A statement '..UptoSaid' is the law's where the arguments, and the package variables that the reading takes, are together of bulk at most 1048576: NARROWER than '..Said'. Prove '..Said' where nothing that the law and all that it calls make is longer than what came in: it says more and counts as full. Else prove '..UptoSaid'. A law counts once. -/
mutual
def uptoBulk {H : Type} : DataW H → Nat
  | .lit (.string bytes) => bytes.length + 1
  | .lit _ => 1
  | .nil => 1
  | .ptr d => uptoBulk d + 1
  | .slice elems spare => uptoBulkAll elems + uptoBulkAll spare + 1
  | .agg parts => uptoBulkAll parts + 1
  | .iface _ d => uptoBulk d + 1
  | .map entries => uptoBulkEntries entries + 1
  | .held _ => 1
def uptoBulkAll {H : Type} : List (DataW H) → Nat
  | [] => 0
  | d :: r => uptoBulk d + uptoBulkAll r
def uptoBulkEntries {H : Type} : List (Lit × DataW H) → Nat
  | [] => 0
  | x :: r => uptoBulkEntry x + uptoBulkEntries r
def uptoBulkEntry {H : Type} : Lit × DataW H → Nat
  | (.string bytes, d) => bytes.length + uptoBulk d + 1
  | (_, d) => uptoBulk d + 1
 end
def uptoSmall : (H : Type) → List (DataW H) → Bool := fun _ ds => decide (uptoBulkAll ds ≤ 1048576)
def OpenSpec.upto (s : _root_.Go.ChangeSpec) : _root_.Go.OpenSpec := { _root_.Go.OpenSpec.ofChange s with cond := some uptoSmall }

/-- 'laws.FnRowsFrom', WHERE WHAT IT READS IS OF BULK AT MOST 1048576: true; the input reads as it did. -/
def fnRowsFromUptoRow : OpenClaim := { program := "ytcongmckkjbhiaa", sum := "46c7b20f3cb73bfb69fb5d4dc6a3016d12db5c563de0197cf324afc7356b3c37", func := "loop.example/quantifiers/laws.FnRowsFrom", spec := "fnRowsFrom", unfollowed := true, recurses := true, apart := false, narrowed := true }
def FnRowsFromUptoSaid : Prop := fnRowsFromUptoRow.holds Try.pinned (OpenSpec.upto fnRowsFromSpec)

/-- 'laws.FnRelationOk', WHERE WHAT IT READS IS OF BULK AT MOST 1048576: true; the input reads as it did. -/
def fnRelationOkUptoRow : OpenClaim := { program := "ytcongmckkjbhiaa", sum := "46c7b20f3cb73bfb69fb5d4dc6a3016d12db5c563de0197cf324afc7356b3c37", func := "loop.example/quantifiers/laws.FnRelationOk", spec := "fnRelationOk", recurses := true, apart := false, narrowed := true }
def FnRelationOkUptoSaid : Prop := fnRelationOkUptoRow.holds Try.pinned (OpenSpec.upto fnRelationOkSpec)

/-- 'laws.FnHoldsOf', WHERE WHAT IT READS IS OF BULK AT MOST 1048576: true; the input reads as it did. -/
def fnHoldsOfUptoRow : OpenClaim := { program := "ytcongmckkjbhiaa", sum := "46c7b20f3cb73bfb69fb5d4dc6a3016d12db5c563de0197cf324afc7356b3c37", func := "loop.example/quantifiers/laws.FnHoldsOf", spec := "fnHoldsOf", recurses := true, apart := false, narrowed := true }
def FnHoldsOfUptoSaid : Prop := fnHoldsOfUptoRow.holds Try.pinned (OpenSpec.upto fnHoldsOfSpec)

/-- 'laws.FnLooksInside', WHERE WHAT IT READS IS OF BULK AT MOST 1048576: true; the input reads as it did. -/
def fnLooksInsideUptoRow : OpenClaim := { program := "ytcongmckkjbhiaa", sum := "46c7b20f3cb73bfb69fb5d4dc6a3016d12db5c563de0197cf324afc7356b3c37", func := "loop.example/quantifiers/laws.FnLooksInside", spec := "fnLooksInside", unfollowed := true, recurses := true, apart := false, narrowed := true }
def FnLooksInsideUptoSaid : Prop := fnLooksInsideUptoRow.holds Try.pinned (OpenSpec.upto fnLooksInsideSpec)

/-- 'laws.FnBothWays', WHERE WHAT IT READS IS OF BULK AT MOST 1048576: true; the input reads as it did. -/
def fnBothWaysUptoRow : OpenClaim := { program := "ytcongmckkjbhiaa", sum := "46c7b20f3cb73bfb69fb5d4dc6a3016d12db5c563de0197cf324afc7356b3c37", func := "loop.example/quantifiers/laws.FnBothWays", spec := "fnBothWays", unfollowed := true, recurses := true, apart := false, narrowed := true }
def FnBothWaysUptoSaid : Prop := fnBothWaysUptoRow.holds Try.pinned (OpenSpec.upto fnBothWaysSpec)

/-- 'laws.FnKnowsNoThing', WHERE WHAT IT READS IS OF BULK AT MOST 1048576: true; the input reads as it did. -/
def fnKnowsNoThingUptoRow : OpenClaim := { program := "ytcongmckkjbhiaa", sum := "46c7b20f3cb73bfb69fb5d4dc6a3016d12db5c563de0197cf324afc7356b3c37", func := "loop.example/quantifiers/laws.FnKnowsNoThing", spec := "fnKnowsNoThing", unfollowed := true, recurses := true, apart := false, narrowed := true }
def FnKnowsNoThingUptoSaid : Prop := fnKnowsNoThingUptoRow.holds Try.pinned (OpenSpec.upto fnKnowsNoThingSpec)

/-- 'laws.FnWithoutLast', WHERE WHAT IT READS IS OF BULK AT MOST 1048576: true; the input reads as it did. -/
def fnWithoutLastUptoRow : OpenClaim := { program := "ytcongmckkjbhiaa", sum := "46c7b20f3cb73bfb69fb5d4dc6a3016d12db5c563de0197cf324afc7356b3c37", func := "loop.example/quantifiers/laws.FnWithoutLast", spec := "fnWithoutLast", unfollowed := true, recurses := true, apart := false, narrowed := true }
def FnWithoutLastUptoSaid : Prop := fnWithoutLastUptoRow.holds Try.pinned (OpenSpec.upto fnWithoutLastSpec)

/-- 'laws.FnRelationFrom', WHERE WHAT IT READS IS OF BULK AT MOST 1048576: true; the input reads as it did. -/
def fnRelationFromUptoRow : OpenClaim := { program := "ytcongmckkjbhiaa", sum := "46c7b20f3cb73bfb69fb5d4dc6a3016d12db5c563de0197cf324afc7356b3c37", func := "loop.example/quantifiers/laws.FnRelationFrom", spec := "fnRelationFrom", unfollowed := true, recurses := true, apart := false, narrowed := true }
def FnRelationFromUptoSaid : Prop := fnRelationFromUptoRow.holds Try.pinned (OpenSpec.upto fnRelationFromSpec)

end Rows
end Go.Proofs.Ytcongmckkjbhiaa
