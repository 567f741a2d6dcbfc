/-
  DERIVED. GIVEN WITH THE SEED: THE CARDS: each row of YtcnpdiiecopccaaGreatDoorRows.lean that lists a variable, with what it lists TIED to the program's text (the seventh form; the later family's looks); each row that meets fmt, with fmt's text TOLD by the authors' own Lean function (tested against real Go, not proved from fmt's source: count such statements apart). THE CARD IS WHAT COUNTS. Prove the row's statement (the work); the ties are given (YtcnpdiiecopccaaGreatDoorTie.lean); close each card by the builder's one call (the guide's Derived/Test/ToyasCard.lean, 'card_holds'). Laid BY PROGRAM, IN A SANDBOX (cutbox-door.mjs). By AI agents, Wed Nov 11 2026. No macro, syntax, notation, axiom, sorry.
-/
import Derived.Test.YtcnpdiiecopccaaGreatDoorRows
import GoSem.ClaimSeven
namespace Go.Proofs.YtcnpdiiecopccaaGreatDoor
namespace Rows

/-- THE TIED CARD OF 'laws.FnPartitions'. -/
def fnPartitionsCard : Claim7 := { stood := { row := fnPartitionsRow, standIns := [], harness := (true, "97b325c40ed0da272c0e4a12f72382564218641dbc27cb16698b9c15149bfabf"), looks := true }, kinds := [], alts := [], laidByText := true, laidKinds := [.data, .data, .data, .data, .sentinel, .sentinel, .pinned], laidTests := true, laidLooks := .later }
def FnPartitionsCardSaid : Prop := Claim7.holds Tryz.pinned (.plain (OpenSpec.ofChange fnPartitionsSpec)) fnPartitionsCard

/-- THE SECOND FORM's CARD OF 'laws.FnPartitions'. -/
def fnPartitionsUptoCard : Claim7 := { stood := { row := fnPartitionsUptoRow, standIns := [], harness := (true, "97b325c40ed0da272c0e4a12f72382564218641dbc27cb16698b9c15149bfabf"), looks := true }, kinds := [], alts := [], laidByText := true, laidKinds := [.data, .data, .data, .data, .sentinel, .sentinel, .pinned], laidTests := true, laidLooks := .later }
def FnPartitionsUptoCardSaid : Prop := Claim7.holds Tryz.pinned (.plain (OpenSpec.upto fnPartitionsSpec)) fnPartitionsUptoCard
end Rows
end Go.Proofs.YtcnpdiiecopccaaGreatDoor
