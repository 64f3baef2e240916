/-
  DERIVED. GIVEN WITH THE SEED: THE CARDS: each row of YtcdeofiigjgfaaaDoorRows.lean that lists a variable, with what it lists TIED to the program's text (the seventh form; the later family's looks); each row that meets fmt, with fmt's text TOLD by the authors' own Lean function (tested against real Go, not proved from fmt's source: count such statements apart). THE CARD IS WHAT COUNTS. Prove the row's statement (the work); the ties are given (YtcdeofiigjgfaaaDoorTie.lean); close each card by the builder's one call (the guide's Derived/Test/ToyasCard.lean, 'card_holds'). Laid BY PROGRAM, IN A SANDBOX (cutbox-door.mjs). By AI agents, Wed Nov 11 2026. No macro, syntax, notation, axiom, sorry.
-/
import Derived.Test.YtcdeofiigjgfaaaDoorRows
import GoSem.ClaimSeven
namespace Go.Proofs.YtcdeofiigjgfaaaDoor
namespace Rows

/-- THE TIED CARD OF 'laws.FnTriangleText'. -/
def fnTriangleTextCard : Claim7 := { stood := { row := fnTriangleTextRow, standIns := [], harness := (true, "8ccdaa64d9a56ea1035e7d2d4cd23ae89a89c49f774606220a2388ca7fb0ce82"), looks := false }, kinds := [], alts := [], laidByText := true, laidKinds := [.data, .data, .data], laidTests := true, laidLooks := .later }
def FnTriangleTextCardSaid : Prop := Claim7.holds Tryd.pinned (.plain (OpenSpec.ofChange fnTriangleTextSpec)) fnTriangleTextCard

/-- THE TIED CARD OF 'laws.FnReadTriangle'. -/
def fnReadTriangleCard : Claim7 := { stood := { row := fnReadTriangleRow, standIns := [], harness := (true, "8ccdaa64d9a56ea1035e7d2d4cd23ae89a89c49f774606220a2388ca7fb0ce82"), looks := false }, kinds := [], alts := [], laidByText := true, laidKinds := [.data, .data, .data], laidTests := true, laidLooks := .later }
def FnReadTriangleCardSaid : Prop := Claim7.holds Tryd.pinned (.plain (OpenSpec.ofChange fnReadTriangleSpec)) fnReadTriangleCard

/-- THE TIED CARD OF 'laws.FnExactTriangleText'. -/
def fnExactTriangleTextCard : Claim7 := { stood := { row := fnExactTriangleTextRow, standIns := [], harness := (true, "8ccdaa64d9a56ea1035e7d2d4cd23ae89a89c49f774606220a2388ca7fb0ce82"), looks := false }, kinds := [], alts := [], laidByText := true, laidKinds := [.data, .data, .data], laidTests := true, laidLooks := .later }
def FnExactTriangleTextCardSaid : Prop := Claim7.holds Tryd.pinned (.plain (OpenSpec.ofChange fnExactTriangleTextSpec)) fnExactTriangleTextCard

/-- THE TIED CARD OF 'laws.FnExactReadTriangle'. -/
def fnExactReadTriangleCard : Claim7 := { stood := { row := fnExactReadTriangleRow, standIns := [], harness := (true, "8ccdaa64d9a56ea1035e7d2d4cd23ae89a89c49f774606220a2388ca7fb0ce82"), looks := false }, kinds := [], alts := [], laidByText := true, laidKinds := [.data, .data, .data], laidTests := true, laidLooks := .later }
def FnExactReadTriangleCardSaid : Prop := Claim7.holds Tryd.pinned (.plain (OpenSpec.ofChange fnExactReadTriangleSpec)) fnExactReadTriangleCard

/-- THE SECOND FORM's CARD OF 'laws.FnTriangleText'. -/
def fnTriangleTextUptoCard : Claim7 := { stood := { row := fnTriangleTextUptoRow, standIns := [], harness := (true, "8ccdaa64d9a56ea1035e7d2d4cd23ae89a89c49f774606220a2388ca7fb0ce82"), looks := false }, kinds := [], alts := [], laidByText := true, laidKinds := [.data, .data, .data], laidTests := true, laidLooks := .later }
def FnTriangleTextUptoCardSaid : Prop := Claim7.holds Tryd.pinned (.plain (OpenSpec.upto fnTriangleTextSpec)) fnTriangleTextUptoCard

/-- THE SECOND FORM's CARD OF 'laws.FnReadTriangle'. -/
def fnReadTriangleUptoCard : Claim7 := { stood := { row := fnReadTriangleUptoRow, standIns := [], harness := (true, "8ccdaa64d9a56ea1035e7d2d4cd23ae89a89c49f774606220a2388ca7fb0ce82"), looks := false }, kinds := [], alts := [], laidByText := true, laidKinds := [.data, .data, .data], laidTests := true, laidLooks := .later }
def FnReadTriangleUptoCardSaid : Prop := Claim7.holds Tryd.pinned (.plain (OpenSpec.upto fnReadTriangleSpec)) fnReadTriangleUptoCard

/-- THE SECOND FORM's CARD OF 'laws.FnExactTriangleText'. -/
def fnExactTriangleTextUptoCard : Claim7 := { stood := { row := fnExactTriangleTextUptoRow, standIns := [], harness := (true, "8ccdaa64d9a56ea1035e7d2d4cd23ae89a89c49f774606220a2388ca7fb0ce82"), looks := false }, kinds := [], alts := [], laidByText := true, laidKinds := [.data, .data, .data], laidTests := true, laidLooks := .later }
def FnExactTriangleTextUptoCardSaid : Prop := Claim7.holds Tryd.pinned (.plain (OpenSpec.upto fnExactTriangleTextSpec)) fnExactTriangleTextUptoCard

/-- THE SECOND FORM's CARD OF 'laws.FnExactReadTriangle'. -/
def fnExactReadTriangleUptoCard : Claim7 := { stood := { row := fnExactReadTriangleUptoRow, standIns := [], harness := (true, "8ccdaa64d9a56ea1035e7d2d4cd23ae89a89c49f774606220a2388ca7fb0ce82"), looks := false }, kinds := [], alts := [], laidByText := true, laidKinds := [.data, .data, .data], laidTests := true, laidLooks := .later }
def FnExactReadTriangleUptoCardSaid : Prop := Claim7.holds Tryd.pinned (.plain (OpenSpec.upto fnExactReadTriangleSpec)) fnExactReadTriangleUptoCard
end Rows
end Go.Proofs.YtcdeofiigjgfaaaDoor
