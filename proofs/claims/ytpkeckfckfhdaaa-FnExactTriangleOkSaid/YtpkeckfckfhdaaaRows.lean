/-
  No cell of these rows narrows 'for every input' (looked for: loops, veiled, ifaces, maps, wideKeys, modest, calm, conditions, laid).
  DERIVED. THE GIVEN ROWS OF THIS SEAT. 9 by the template 'for every input the law returns true; each argument reads behind the call as it read before'; 0 by the template 'total and deterministic' (their statements: YtpkeckfckfhdaaaTotals.lean).
  GIVEN WITH THE SEED: the statements are not yours to turn. If you find one false, say at which input.
  Laid BY PROGRAM, IN A SANDBOX (cutbox-rows.mjs): the forced cells as the released guide's own fill.sh prints them over the translation 5396138d5c690a25… (all of the seat's roots in one cut). By AI agents, Wed Nov 11 2026. No macro, syntax, notation, axiom, sorry.
-/
import Derived.Test.YtpkeckfckfhdaaaChecked
import GoSem.Claim
import GoSem.ClaimJoined
import GoSem.ClaimMapViews
import Derived.JoinedTies
import Derived.KernelRfl
namespace Go.Proofs.Ytpkeckfckfhdaaa
/- THE CELL 'sum', in the pinned program and in every row, IS THE sha256 OF THE DUMP (.gsa) THAT YtpkeckfckfhdaaaProg.lean LOADS. Nothing in Lean hashes anything: it is a label: what it is worth is what the hold of that sum in a sandbox is worth. -/
noncomputable def Try.pinned : Pinned := { name := "ytpkeckfckfhdaaa", sum := "5396138d5c690a25a2b6e4cd5eba9f48537f7f8d6977eb005668e509501f893d", checked := Try.checked }
namespace Rows
def none {H : Type} : Left H := { results := [], args := [] }

/-- 'laws.FnExactConstants': WHATEVER THE INPUT: true; the input reads as it did. -/
def fnExactConstantsSpec : ChangeSpec := { name := "fnExactConstants", fn := fun _ => fun
  | [] => { results := [.lit (.bool true)], args := [] }
  | _ => none }
def fnExactConstantsRow : OpenClaim := { program := "ytpkeckfckfhdaaa", sum := "5396138d5c690a25a2b6e4cd5eba9f48537f7f8d6977eb005668e509501f893d", func := "loop.example/quantifiers/laws.FnExactConstants", spec := "fnExactConstants", apart := false }
def FnExactConstantsSaid : Prop := fnExactConstantsRow.holds Try.pinned (OpenSpec.ofChange fnExactConstantsSpec)

/-- ITS FALSE NEIGHBOUR: 'it returns false'. Refute it at one input. -/
def fnExactConstantsWrong : ChangeSpec := { name := "fnExactConstants", fn := fun _ => fun
  | [] => { results := [.lit (.bool false)], args := [] }
  | _ => none }
def FnExactConstantsWrongFalsely : Prop := fnExactConstantsRow.holds Try.pinned (OpenSpec.ofChange fnExactConstantsWrong)

/-- 'laws.FnExactPlaceOf': WHATEVER THE INPUT: true; the input reads as it did. -/
def fnExactPlaceOfSpec : ChangeSpec := { name := "fnExactPlaceOf", fn := fun _ => fun
  | [d1, d2] => { results := [.lit (.bool true)], args := [d1, d2] }
  | _ => none }
def fnExactPlaceOfRow : OpenClaim := { program := "ytpkeckfckfhdaaa", sum := "5396138d5c690a25a2b6e4cd5eba9f48537f7f8d6977eb005668e509501f893d", func := "loop.example/quantifiers/laws.FnExactPlaceOf", spec := "fnExactPlaceOf", apart := false }
def FnExactPlaceOfSaid : Prop := fnExactPlaceOfRow.holds Try.pinned (OpenSpec.ofChange fnExactPlaceOfSpec)

/-- ITS FALSE NEIGHBOUR: 'it returns false'. Refute it at one input. -/
def fnExactPlaceOfWrong : ChangeSpec := { name := "fnExactPlaceOf", fn := fun _ => fun
  | [d1, d2] => { results := [.lit (.bool false)], args := [d1, d2] }
  | _ => none }
def FnExactPlaceOfWrongFalsely : Prop := fnExactPlaceOfRow.holds Try.pinned (OpenSpec.ofChange fnExactPlaceOfWrong)

/-- 'laws.FnExactTriangleOk': WHATEVER THE INPUT: true; the input reads as it did. -/
def fnExactTriangleOkSpec : ChangeSpec := { name := "fnExactTriangleOk", fn := fun _ => fun
  | [d] => { results := [.lit (.bool true)], args := [d] }
  | _ => none }
def fnExactTriangleOkRow : OpenClaim := { program := "ytpkeckfckfhdaaa", sum := "5396138d5c690a25a2b6e4cd5eba9f48537f7f8d6977eb005668e509501f893d", func := "loop.example/quantifiers/laws.FnExactTriangleOk", spec := "fnExactTriangleOk", apart := false }
def FnExactTriangleOkSaid : Prop := fnExactTriangleOkRow.holds Try.pinned (OpenSpec.ofChange fnExactTriangleOkSpec)

/-- ITS FALSE NEIGHBOUR: 'it returns false'. Refute it at one input. -/
def fnExactTriangleOkWrong : ChangeSpec := { name := "fnExactTriangleOk", fn := fun _ => fun
  | [d] => { results := [.lit (.bool false)], args := [d] }
  | _ => none }
def FnExactTriangleOkWrongFalsely : Prop := fnExactTriangleOkRow.holds Try.pinned (OpenSpec.ofChange fnExactTriangleOkWrong)

/-- 'laws.FnPlaceOf': WHATEVER THE INPUT: true; the input reads as it did. -/
def fnPlaceOfSpec : ChangeSpec := { name := "fnPlaceOf", fn := fun _ => fun
  | [d] => { results := [.lit (.bool true)], args := [d] }
  | _ => none }
def fnPlaceOfRow : OpenClaim := { program := "ytpkeckfckfhdaaa", sum := "5396138d5c690a25a2b6e4cd5eba9f48537f7f8d6977eb005668e509501f893d", func := "loop.example/quantifiers/laws.FnPlaceOf", spec := "fnPlaceOf", apart := false }
def FnPlaceOfSaid : Prop := fnPlaceOfRow.holds Try.pinned (OpenSpec.ofChange fnPlaceOfSpec)

/-- ITS FALSE NEIGHBOUR: 'it returns false'. Refute it at one input. -/
def fnPlaceOfWrong : ChangeSpec := { name := "fnPlaceOf", fn := fun _ => fun
  | [d] => { results := [.lit (.bool false)], args := [d] }
  | _ => none }
def FnPlaceOfWrongFalsely : Prop := fnPlaceOfRow.holds Try.pinned (OpenSpec.ofChange fnPlaceOfWrong)

/-- 'laws.FnExactRelationOk': WHATEVER THE INPUT: true; the input reads as it did. -/
def fnExactRelationOkSpec : ChangeSpec := { name := "fnExactRelationOk", fn := fun _ => fun
  | [d1, d2] => { results := [.lit (.bool true)], args := [d1, d2] }
  | _ => none }
def fnExactRelationOkRow : OpenClaim := { program := "ytpkeckfckfhdaaa", sum := "5396138d5c690a25a2b6e4cd5eba9f48537f7f8d6977eb005668e509501f893d", func := "loop.example/quantifiers/laws.FnExactRelationOk", spec := "fnExactRelationOk", apart := false }
def FnExactRelationOkSaid : Prop := fnExactRelationOkRow.holds Try.pinned (OpenSpec.ofChange fnExactRelationOkSpec)

/-- ITS FALSE NEIGHBOUR: 'it returns false'. Refute it at one input. -/
def fnExactRelationOkWrong : ChangeSpec := { name := "fnExactRelationOk", fn := fun _ => fun
  | [d1, d2] => { results := [.lit (.bool false)], args := [d1, d2] }
  | _ => none }
def FnExactRelationOkWrongFalsely : Prop := fnExactRelationOkRow.holds Try.pinned (OpenSpec.ofChange fnExactRelationOkWrong)

/-- 'laws.FnExactHoldsOf': WHATEVER THE INPUT: true; the input reads as it did. -/
def fnExactHoldsOfSpec : ChangeSpec := { name := "fnExactHoldsOf", fn := fun _ => fun
  | [d1, d2, d3, d4] => { results := [.lit (.bool true)], args := [d1, d2, d3, d4] }
  | _ => none }
def fnExactHoldsOfRow : OpenClaim := { program := "ytpkeckfckfhdaaa", sum := "5396138d5c690a25a2b6e4cd5eba9f48537f7f8d6977eb005668e509501f893d", func := "loop.example/quantifiers/laws.FnExactHoldsOf", spec := "fnExactHoldsOf", apart := false }
def FnExactHoldsOfSaid : Prop := fnExactHoldsOfRow.holds Try.pinned (OpenSpec.ofChange fnExactHoldsOfSpec)

/-- ITS FALSE NEIGHBOUR: 'it returns false'. Refute it at one input. -/
def fnExactHoldsOfWrong : ChangeSpec := { name := "fnExactHoldsOf", fn := fun _ => fun
  | [d1, d2, d3, d4] => { results := [.lit (.bool false)], args := [d1, d2, d3, d4] }
  | _ => none }
def FnExactHoldsOfWrongFalsely : Prop := fnExactHoldsOfRow.holds Try.pinned (OpenSpec.ofChange fnExactHoldsOfWrong)

/-- 'laws.FnExactWithoutLast': WHATEVER THE INPUT: true; the input reads as it did. -/
def fnExactWithoutLastSpec : ChangeSpec := { name := "fnExactWithoutLast", fn := fun _ => fun
  | [d1, d2] => { results := [.lit (.bool true)], args := [d1, d2] }
  | _ => none }
def fnExactWithoutLastRow : OpenClaim := { program := "ytpkeckfckfhdaaa", sum := "5396138d5c690a25a2b6e4cd5eba9f48537f7f8d6977eb005668e509501f893d", func := "loop.example/quantifiers/laws.FnExactWithoutLast", spec := "fnExactWithoutLast", apart := false }
def FnExactWithoutLastSaid : Prop := fnExactWithoutLastRow.holds Try.pinned (OpenSpec.ofChange fnExactWithoutLastSpec)

/-- ITS FALSE NEIGHBOUR: 'it returns false'. Refute it at one input. -/
def fnExactWithoutLastWrong : ChangeSpec := { name := "fnExactWithoutLast", fn := fun _ => fun
  | [d1, d2] => { results := [.lit (.bool false)], args := [d1, d2] }
  | _ => none }
def FnExactWithoutLastWrongFalsely : Prop := fnExactWithoutLastRow.holds Try.pinned (OpenSpec.ofChange fnExactWithoutLastWrong)

/-- 'laws.FnExactNotOf': WHATEVER THE INPUT: true; the input reads as it did. -/
def fnExactNotOfSpec : ChangeSpec := { name := "fnExactNotOf", fn := fun _ => fun
  | [d] => { results := [.lit (.bool true)], args := [d] }
  | _ => none }
def fnExactNotOfRow : OpenClaim := { program := "ytpkeckfckfhdaaa", sum := "5396138d5c690a25a2b6e4cd5eba9f48537f7f8d6977eb005668e509501f893d", func := "loop.example/quantifiers/laws.FnExactNotOf", spec := "fnExactNotOf", unfollowed := true, recurses := true, apart := false }
def FnExactNotOfSaid : Prop := fnExactNotOfRow.holds Try.pinned (OpenSpec.ofChange fnExactNotOfSpec)

/-- ITS FALSE NEIGHBOUR: 'it returns false'. Refute it at one input. -/
def fnExactNotOfWrong : ChangeSpec := { name := "fnExactNotOf", fn := fun _ => fun
  | [d] => { results := [.lit (.bool false)], args := [d] }
  | _ => none }
def FnExactNotOfWrongFalsely : Prop := fnExactNotOfRow.holds Try.pinned (OpenSpec.ofChange fnExactNotOfWrong)

/-- 'laws.FnExactBothOf': WHATEVER THE INPUT: true; the input reads as it did. -/
def fnExactBothOfSpec : ChangeSpec := { name := "fnExactBothOf", fn := fun _ => fun
  | [d1, d2] => { results := [.lit (.bool true)], args := [d1, d2] }
  | _ => none }
def fnExactBothOfRow : OpenClaim := { program := "ytpkeckfckfhdaaa", sum := "5396138d5c690a25a2b6e4cd5eba9f48537f7f8d6977eb005668e509501f893d", func := "loop.example/quantifiers/laws.FnExactBothOf", spec := "fnExactBothOf", unfollowed := true, recurses := true, apart := false }
def FnExactBothOfSaid : Prop := fnExactBothOfRow.holds Try.pinned (OpenSpec.ofChange fnExactBothOfSpec)

/-- ITS FALSE NEIGHBOUR: 'it returns false'. Refute it at one input. -/
def fnExactBothOfWrong : ChangeSpec := { name := "fnExactBothOf", fn := fun _ => fun
  | [d1, d2] => { results := [.lit (.bool false)], args := [d1, d2] }
  | _ => none }
def FnExactBothOfWrongFalsely : Prop := fnExactBothOfRow.holds Try.pinned (OpenSpec.ofChange fnExactBothOfWrong)

/- THE SECOND FORM. 'bulk': how many values and letters a reading holds, each counted each time it is reached (what is shared counts as often as it is met; a slice's spare places count too). A statement '..UptoSaid' is the law's where the arguments, and the package variables that the reading takes, are together of bulk at most 1048576: NARROWER than '..Said'. Prove '..Said' where nothing that the law and all that it calls make is longer than what came in: it says more and counts as full. Else prove '..UptoSaid'. A law counts once. -/
mutual
def uptoBulk {H : Type} : DataW H → Nat
  | .lit (.string bytes) => bytes.length + 1
  | .lit _ => 1
  | .nil => 1
  | .ptr d => uptoBulk d + 1
  | .slice elems spare => uptoBulkAll elems + uptoBulkAll spare + 1
  | .agg parts => uptoBulkAll parts + 1
  | .iface _ d => uptoBulk d + 1
  | .map entries => uptoBulkEntries entries + 1
  | .held _ => 1
def uptoBulkAll {H : Type} : List (DataW H) → Nat
  | [] => 0
  | d :: r => uptoBulk d + uptoBulkAll r
def uptoBulkEntries {H : Type} : List (Lit × DataW H) → Nat
  | [] => 0
  | x :: r => uptoBulkEntry x + uptoBulkEntries r
def uptoBulkEntry {H : Type} : Lit × DataW H → Nat
  | (.string bytes, d) => bytes.length + uptoBulk d + 1
  | (_, d) => uptoBulk d + 1
 end
def uptoSmall : (H : Type) → List (DataW H) → Bool := fun _ ds => decide (uptoBulkAll ds ≤ 1048576)
def OpenSpec.upto (s : _root_.Go.ChangeSpec) : _root_.Go.OpenSpec := { _root_.Go.OpenSpec.ofChange s with cond := some uptoSmall }

/-- 'laws.FnExactConstants', WHERE WHAT IT READS IS OF BULK AT MOST 1048576: true; the input reads as it did. -/
def fnExactConstantsUptoRow : OpenClaim := { program := "ytpkeckfckfhdaaa", sum := "5396138d5c690a25a2b6e4cd5eba9f48537f7f8d6977eb005668e509501f893d", func := "loop.example/quantifiers/laws.FnExactConstants", spec := "fnExactConstants", apart := false, narrowed := true }
def FnExactConstantsUptoSaid : Prop := fnExactConstantsUptoRow.holds Try.pinned (OpenSpec.upto fnExactConstantsSpec)

/-- 'laws.FnExactPlaceOf', WHERE WHAT IT READS IS OF BULK AT MOST 1048576: true; the input reads as it did. -/
def fnExactPlaceOfUptoRow : OpenClaim := { program := "ytpkeckfckfhdaaa", sum := "5396138d5c690a25a2b6e4cd5eba9f48537f7f8d6977eb005668e509501f893d", func := "loop.example/quantifiers/laws.FnExactPlaceOf", spec := "fnExactPlaceOf", apart := false, narrowed := true }
def FnExactPlaceOfUptoSaid : Prop := fnExactPlaceOfUptoRow.holds Try.pinned (OpenSpec.upto fnExactPlaceOfSpec)

/-- 'laws.FnExactTriangleOk', WHERE WHAT IT READS IS OF BULK AT MOST 1048576: true; the input reads as it did. -/
def fnExactTriangleOkUptoRow : OpenClaim := { program := "ytpkeckfckfhdaaa", sum := "5396138d5c690a25a2b6e4cd5eba9f48537f7f8d6977eb005668e509501f893d", func := "loop.example/quantifiers/laws.FnExactTriangleOk", spec := "fnExactTriangleOk", apart := false, narrowed := true }
def FnExactTriangleOkUptoSaid : Prop := fnExactTriangleOkUptoRow.holds Try.pinned (OpenSpec.upto fnExactTriangleOkSpec)

/-- 'laws.FnPlaceOf', WHERE WHAT IT READS IS OF BULK AT MOST 1048576: true; the input reads as it did. -/
def fnPlaceOfUptoRow : OpenClaim := { program := "ytpkeckfckfhdaaa", sum := "5396138d5c690a25a2b6e4cd5eba9f48537f7f8d6977eb005668e509501f893d", func := "loop.example/quantifiers/laws.FnPlaceOf", spec := "fnPlaceOf", apart := false, narrowed := true }
def FnPlaceOfUptoSaid : Prop := fnPlaceOfUptoRow.holds Try.pinned (OpenSpec.upto fnPlaceOfSpec)

/-- 'laws.FnExactRelationOk', WHERE WHAT IT READS IS OF BULK AT MOST 1048576: true; the input reads as it did. -/
def fnExactRelationOkUptoRow : OpenClaim := { program := "ytpkeckfckfhdaaa", sum := "5396138d5c690a25a2b6e4cd5eba9f48537f7f8d6977eb005668e509501f893d", func := "loop.example/quantifiers/laws.FnExactRelationOk", spec := "fnExactRelationOk", apart := false, narrowed := true }
def FnExactRelationOkUptoSaid : Prop := fnExactRelationOkUptoRow.holds Try.pinned (OpenSpec.upto fnExactRelationOkSpec)

/-- 'laws.FnExactHoldsOf', WHERE WHAT IT READS IS OF BULK AT MOST 1048576: true; the input reads as it did. -/
def fnExactHoldsOfUptoRow : OpenClaim := { program := "ytpkeckfckfhdaaa", sum := "5396138d5c690a25a2b6e4cd5eba9f48537f7f8d6977eb005668e509501f893d", func := "loop.example/quantifiers/laws.FnExactHoldsOf", spec := "fnExactHoldsOf", apart := false, narrowed := true }
def FnExactHoldsOfUptoSaid : Prop := fnExactHoldsOfUptoRow.holds Try.pinned (OpenSpec.upto fnExactHoldsOfSpec)

/-- 'laws.FnExactWithoutLast', WHERE WHAT IT READS IS OF BULK AT MOST 1048576: true; the input reads as it did. -/
def fnExactWithoutLastUptoRow : OpenClaim := { program := "ytpkeckfckfhdaaa", sum := "5396138d5c690a25a2b6e4cd5eba9f48537f7f8d6977eb005668e509501f893d", func := "loop.example/quantifiers/laws.FnExactWithoutLast", spec := "fnExactWithoutLast", apart := false, narrowed := true }
def FnExactWithoutLastUptoSaid : Prop := fnExactWithoutLastUptoRow.holds Try.pinned (OpenSpec.upto fnExactWithoutLastSpec)

/-- 'laws.FnExactNotOf', WHERE WHAT IT READS IS OF BULK AT MOST 1048576: true; the input reads as it did. -/
def fnExactNotOfUptoRow : OpenClaim := { program := "ytpkeckfckfhdaaa", sum := "5396138d5c690a25a2b6e4cd5eba9f48537f7f8d6977eb005668e509501f893d", func := "loop.example/quantifiers/laws.FnExactNotOf", spec := "fnExactNotOf", unfollowed := true, recurses := true, apart := false, narrowed := true }
def FnExactNotOfUptoSaid : Prop := fnExactNotOfUptoRow.holds Try.pinned (OpenSpec.upto fnExactNotOfSpec)

/-- 'laws.FnExactBothOf', WHERE WHAT IT READS IS OF BULK AT MOST 1048576: true; the input reads as it did. -/
def fnExactBothOfUptoRow : OpenClaim := { program := "ytpkeckfckfhdaaa", sum := "5396138d5c690a25a2b6e4cd5eba9f48537f7f8d6977eb005668e509501f893d", func := "loop.example/quantifiers/laws.FnExactBothOf", spec := "fnExactBothOf", unfollowed := true, recurses := true, apart := false, narrowed := true }
def FnExactBothOfUptoSaid : Prop := fnExactBothOfUptoRow.holds Try.pinned (OpenSpec.upto fnExactBothOfSpec)

end Rows
end Go.Proofs.Ytpkeckfckfhdaaa
