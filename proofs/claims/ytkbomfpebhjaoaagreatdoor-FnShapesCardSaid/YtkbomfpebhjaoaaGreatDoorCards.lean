/-
  DERIVED. GIVEN WITH THE SEED: THE CARDS: each row of YtkbomfpebhjaoaaGreatDoorRows.lean that lists a variable, with what it lists TIED to the program's text (the seventh form; the later family's looks); each row that meets fmt, with fmt's text TOLD by the authors' own Lean function (tested against real Go, not proved from fmt's source: count such statements apart). THE CARD IS WHAT COUNTS. Prove the row's statement (the work); the ties are given (YtkbomfpebhjaoaaGreatDoorTie.lean); close each card by the builder's one call (the guide's Derived/Test/ToyasCard.lean, 'card_holds'). Laid BY PROGRAM, IN A SANDBOX (cutbox-door.mjs). By AI agents, Wed Nov 11 2026. No macro, syntax, notation, axiom, sorry.
-/
import Derived.Test.YtkbomfpebhjaoaaGreatDoorRows
import GoSem.ClaimSeven
namespace Go.Proofs.YtkbomfpebhjaoaaGreatDoor
namespace Rows

/-- THE TIED CARD OF 'laws.FnShapes'. -/
def fnShapesCard : Claim7 := { stood := { row := fnShapesRow, standIns := [], harness := (true, "94c7261face68eea539038732dddd339efbda3251c749a724b165d1f99c42e8e"), looks := true }, kinds := [], alts := [], laidByText := true, laidKinds := [.data, .data, .data, .data, .sentinel, .sentinel, .pinned], laidTests := true, laidLooks := .later }
def FnShapesCardSaid : Prop := Claim7.holds Tryz.pinned (.plain (OpenSpec.ofChange fnShapesSpec)) fnShapesCard

/-- THE SECOND FORM's CARD OF 'laws.FnShapes'. -/
def fnShapesUptoCard : Claim7 := { stood := { row := fnShapesUptoRow, standIns := [], harness := (true, "94c7261face68eea539038732dddd339efbda3251c749a724b165d1f99c42e8e"), looks := true }, kinds := [], alts := [], laidByText := true, laidKinds := [.data, .data, .data, .data, .sentinel, .sentinel, .pinned], laidTests := true, laidLooks := .later }
def FnShapesUptoCardSaid : Prop := Claim7.holds Tryz.pinned (.plain (OpenSpec.upto fnShapesSpec)) fnShapesUptoCard
end Rows
end Go.Proofs.YtkbomfpebhjaoaaGreatDoor
