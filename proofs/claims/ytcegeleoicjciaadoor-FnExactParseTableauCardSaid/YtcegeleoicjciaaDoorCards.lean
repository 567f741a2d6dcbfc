/-
  DERIVED. GIVEN WITH THE SEED: THE CARDS: each row of YtcegeleoicjciaaDoorRows.lean that lists a variable, with what it lists TIED to the program's text (the seventh form; the later family's looks); each row that meets fmt, with fmt's text TOLD by the authors' own Lean function (tested against real Go, not proved from fmt's source: count such statements apart). THE CARD IS WHAT COUNTS. Prove the row's statement (the work); the ties are given (YtcegeleoicjciaaDoorTie.lean); close each card by the builder's one call (the guide's Derived/Test/ToyasCard.lean, 'card_holds'). Laid BY PROGRAM, IN A SANDBOX (cutbox-door.mjs). By AI agents, Wed Nov 11 2026. No macro, syntax, notation, axiom, sorry.
-/
import Derived.Test.YtcegeleoicjciaaDoorRows
import GoSem.ClaimSeven
namespace Go.Proofs.YtcegeleoicjciaaDoor
namespace Rows

/-- THE TIED CARD OF 'laws.FnExactFormatInt'. -/
def fnExactFormatIntCard : Claim7 := { stood := { row := fnExactFormatIntRow, standIns := [], harness := (true, "14e8810761a87d23e7fbf2330ec2bf63bc633a62ea01a088f40944c2b0030a5e"), looks := true }, kinds := [], alts := [], laidByText := true, laidKinds := [.data, .data, .data], laidTests := true, laidLooks := .later }
def FnExactFormatIntCardSaid : Prop := Claim7.holds Tryd.pinned (.plain (OpenSpec.ofChange fnExactFormatIntSpec)) fnExactFormatIntCard

/-- THE TIED CARD OF 'laws.FnExactSplitByte'. -/
def fnExactSplitByteCard : Claim7 := { stood := { row := fnExactSplitByteRow, standIns := [], harness := (true, "14e8810761a87d23e7fbf2330ec2bf63bc633a62ea01a088f40944c2b0030a5e"), looks := true }, kinds := [], alts := [], laidByText := true, laidKinds := [.data, .pinned], laidTests := true, laidLooks := .later }
def FnExactSplitByteCardSaid : Prop := Claim7.holds Tryd.pinned (.plain (OpenSpec.ofChange fnExactSplitByteSpec)) fnExactSplitByteCard

/-- THE TIED CARD OF 'laws.FnExactPartitionText'. -/
def fnExactPartitionTextCard : Claim7 := { stood := { row := fnExactPartitionTextRow, standIns := [], harness := (true, "14e8810761a87d23e7fbf2330ec2bf63bc633a62ea01a088f40944c2b0030a5e"), looks := true }, kinds := [], alts := [], laidByText := true, laidKinds := [.data, .data, .data], laidTests := true, laidLooks := .later }
def FnExactPartitionTextCardSaid : Prop := Claim7.holds Tryd.pinned (.plain (OpenSpec.ofChange fnExactPartitionTextSpec)) fnExactPartitionTextCard

/-- THE TIED CARD OF 'laws.FnExactShapeText'. -/
def fnExactShapeTextCard : Claim7 := { stood := { row := fnExactShapeTextRow, standIns := [], harness := (true, "14e8810761a87d23e7fbf2330ec2bf63bc633a62ea01a088f40944c2b0030a5e"), looks := true }, kinds := [], alts := [], laidByText := true, laidKinds := [.data, .data, .data], laidTests := true, laidLooks := .later }
def FnExactShapeTextCardSaid : Prop := Claim7.holds Tryd.pinned (.plain (OpenSpec.ofChange fnExactShapeTextSpec)) fnExactShapeTextCard

/-- THE TIED CARD OF 'laws.FnExactParseInt'. -/
def fnExactParseIntCard : Claim7 := { stood := { row := fnExactParseIntRow, standIns := [], harness := (true, "14e8810761a87d23e7fbf2330ec2bf63bc633a62ea01a088f40944c2b0030a5e"), looks := true }, kinds := [], alts := [], laidByText := true, laidKinds := [.data, .data, .data, .sentinel, .sentinel], laidTests := true, laidLooks := .later }
def FnExactParseIntCardSaid : Prop := Claim7.holds Tryd.pinned (.plain (OpenSpec.ofChange fnExactParseIntSpec)) fnExactParseIntCard

/-- THE TIED CARD OF 'laws.FnExactParseNumber'. -/
def fnExactParseNumberCard : Claim7 := { stood := { row := fnExactParseNumberRow, standIns := [], harness := (true, "14e8810761a87d23e7fbf2330ec2bf63bc633a62ea01a088f40944c2b0030a5e"), looks := true }, kinds := [], alts := [], laidByText := true, laidKinds := [.data, .data, .data, .sentinel, .sentinel], laidTests := true, laidLooks := .later }
def FnExactParseNumberCardSaid : Prop := Claim7.holds Tryd.pinned (.plain (OpenSpec.ofChange fnExactParseNumberSpec)) fnExactParseNumberCard

/-- THE TIED CARD OF 'laws.FnExactTableauText'. -/
def fnExactTableauTextCard : Claim7 := { stood := { row := fnExactTableauTextRow, standIns := [], harness := (true, "14e8810761a87d23e7fbf2330ec2bf63bc633a62ea01a088f40944c2b0030a5e"), looks := true }, kinds := [], alts := [], laidByText := true, laidKinds := [.data, .data, .data], laidTests := true, laidLooks := .later }
def FnExactTableauTextCardSaid : Prop := Claim7.holds Tryd.pinned (.plain (OpenSpec.ofChange fnExactTableauTextSpec)) fnExactTableauTextCard

/-- THE TIED CARD OF 'laws.FnExactParsePartition'. -/
def fnExactParsePartitionCard : Claim7 := { stood := { row := fnExactParsePartitionRow, standIns := [], harness := (true, "14e8810761a87d23e7fbf2330ec2bf63bc633a62ea01a088f40944c2b0030a5e"), looks := true }, kinds := [], alts := [], laidByText := true, laidKinds := [.data, .data, .data, .data, .sentinel, .sentinel, .pinned], laidTests := true, laidLooks := .later }
def FnExactParsePartitionCardSaid : Prop := Claim7.holds Tryd.pinned (.plain (OpenSpec.ofChange fnExactParsePartitionSpec)) fnExactParsePartitionCard

/-- THE TIED CARD OF 'laws.FnExactParseShape'. -/
def fnExactParseShapeCard : Claim7 := { stood := { row := fnExactParseShapeRow, standIns := [], harness := (true, "14e8810761a87d23e7fbf2330ec2bf63bc633a62ea01a088f40944c2b0030a5e"), looks := true }, kinds := [], alts := [], laidByText := true, laidKinds := [.data, .data, .data, .data, .sentinel, .sentinel, .pinned], laidTests := true, laidLooks := .later }
def FnExactParseShapeCardSaid : Prop := Claim7.holds Tryd.pinned (.plain (OpenSpec.ofChange fnExactParseShapeSpec)) fnExactParseShapeCard

/-- THE TIED CARD OF 'laws.FnExactParseTableau'. -/
def fnExactParseTableauCard : Claim7 := { stood := { row := fnExactParseTableauRow, standIns := [], harness := (true, "14e8810761a87d23e7fbf2330ec2bf63bc633a62ea01a088f40944c2b0030a5e"), looks := true }, kinds := [], alts := [], laidByText := true, laidKinds := [.data, .data, .data, .data, .pinned], laidTests := true, laidLooks := .later }
def FnExactParseTableauCardSaid : Prop := Claim7.holds Tryd.pinned (.plain (OpenSpec.ofChange fnExactParseTableauSpec)) fnExactParseTableauCard

/-- THE SECOND FORM's CARD OF 'laws.FnExactFormatInt'. -/
def fnExactFormatIntUptoCard : Claim7 := { stood := { row := fnExactFormatIntUptoRow, standIns := [], harness := (true, "14e8810761a87d23e7fbf2330ec2bf63bc633a62ea01a088f40944c2b0030a5e"), looks := true }, kinds := [], alts := [], laidByText := true, laidKinds := [.data, .data, .data], laidTests := true, laidLooks := .later }
def FnExactFormatIntUptoCardSaid : Prop := Claim7.holds Tryd.pinned (.plain (OpenSpec.upto fnExactFormatIntSpec)) fnExactFormatIntUptoCard

/-- THE SECOND FORM's CARD OF 'laws.FnExactSplitByte'. -/
def fnExactSplitByteUptoCard : Claim7 := { stood := { row := fnExactSplitByteUptoRow, standIns := [], harness := (true, "14e8810761a87d23e7fbf2330ec2bf63bc633a62ea01a088f40944c2b0030a5e"), looks := true }, kinds := [], alts := [], laidByText := true, laidKinds := [.data, .pinned], laidTests := true, laidLooks := .later }
def FnExactSplitByteUptoCardSaid : Prop := Claim7.holds Tryd.pinned (.plain (OpenSpec.upto fnExactSplitByteSpec)) fnExactSplitByteUptoCard

/-- THE SECOND FORM's CARD OF 'laws.FnExactPartitionText'. -/
def fnExactPartitionTextUptoCard : Claim7 := { stood := { row := fnExactPartitionTextUptoRow, standIns := [], harness := (true, "14e8810761a87d23e7fbf2330ec2bf63bc633a62ea01a088f40944c2b0030a5e"), looks := true }, kinds := [], alts := [], laidByText := true, laidKinds := [.data, .data, .data], laidTests := true, laidLooks := .later }
def FnExactPartitionTextUptoCardSaid : Prop := Claim7.holds Tryd.pinned (.plain (OpenSpec.upto fnExactPartitionTextSpec)) fnExactPartitionTextUptoCard

/-- THE SECOND FORM's CARD OF 'laws.FnExactShapeText'. -/
def fnExactShapeTextUptoCard : Claim7 := { stood := { row := fnExactShapeTextUptoRow, standIns := [], harness := (true, "14e8810761a87d23e7fbf2330ec2bf63bc633a62ea01a088f40944c2b0030a5e"), looks := true }, kinds := [], alts := [], laidByText := true, laidKinds := [.data, .data, .data], laidTests := true, laidLooks := .later }
def FnExactShapeTextUptoCardSaid : Prop := Claim7.holds Tryd.pinned (.plain (OpenSpec.upto fnExactShapeTextSpec)) fnExactShapeTextUptoCard

/-- THE SECOND FORM's CARD OF 'laws.FnExactParseInt'. -/
def fnExactParseIntUptoCard : Claim7 := { stood := { row := fnExactParseIntUptoRow, standIns := [], harness := (true, "14e8810761a87d23e7fbf2330ec2bf63bc633a62ea01a088f40944c2b0030a5e"), looks := true }, kinds := [], alts := [], laidByText := true, laidKinds := [.data, .data, .data, .sentinel, .sentinel], laidTests := true, laidLooks := .later }
def FnExactParseIntUptoCardSaid : Prop := Claim7.holds Tryd.pinned (.plain (OpenSpec.upto fnExactParseIntSpec)) fnExactParseIntUptoCard

/-- THE SECOND FORM's CARD OF 'laws.FnExactParseNumber'. -/
def fnExactParseNumberUptoCard : Claim7 := { stood := { row := fnExactParseNumberUptoRow, standIns := [], harness := (true, "14e8810761a87d23e7fbf2330ec2bf63bc633a62ea01a088f40944c2b0030a5e"), looks := true }, kinds := [], alts := [], laidByText := true, laidKinds := [.data, .data, .data, .sentinel, .sentinel], laidTests := true, laidLooks := .later }
def FnExactParseNumberUptoCardSaid : Prop := Claim7.holds Tryd.pinned (.plain (OpenSpec.upto fnExactParseNumberSpec)) fnExactParseNumberUptoCard

/-- THE SECOND FORM's CARD OF 'laws.FnExactTableauText'. -/
def fnExactTableauTextUptoCard : Claim7 := { stood := { row := fnExactTableauTextUptoRow, standIns := [], harness := (true, "14e8810761a87d23e7fbf2330ec2bf63bc633a62ea01a088f40944c2b0030a5e"), looks := true }, kinds := [], alts := [], laidByText := true, laidKinds := [.data, .data, .data], laidTests := true, laidLooks := .later }
def FnExactTableauTextUptoCardSaid : Prop := Claim7.holds Tryd.pinned (.plain (OpenSpec.upto fnExactTableauTextSpec)) fnExactTableauTextUptoCard

/-- THE SECOND FORM's CARD OF 'laws.FnExactParsePartition'. -/
def fnExactParsePartitionUptoCard : Claim7 := { stood := { row := fnExactParsePartitionUptoRow, standIns := [], harness := (true, "14e8810761a87d23e7fbf2330ec2bf63bc633a62ea01a088f40944c2b0030a5e"), looks := true }, kinds := [], alts := [], laidByText := true, laidKinds := [.data, .data, .data, .data, .sentinel, .sentinel, .pinned], laidTests := true, laidLooks := .later }
def FnExactParsePartitionUptoCardSaid : Prop := Claim7.holds Tryd.pinned (.plain (OpenSpec.upto fnExactParsePartitionSpec)) fnExactParsePartitionUptoCard

/-- THE SECOND FORM's CARD OF 'laws.FnExactParseShape'. -/
def fnExactParseShapeUptoCard : Claim7 := { stood := { row := fnExactParseShapeUptoRow, standIns := [], harness := (true, "14e8810761a87d23e7fbf2330ec2bf63bc633a62ea01a088f40944c2b0030a5e"), looks := true }, kinds := [], alts := [], laidByText := true, laidKinds := [.data, .data, .data, .data, .sentinel, .sentinel, .pinned], laidTests := true, laidLooks := .later }
def FnExactParseShapeUptoCardSaid : Prop := Claim7.holds Tryd.pinned (.plain (OpenSpec.upto fnExactParseShapeSpec)) fnExactParseShapeUptoCard

/-- THE SECOND FORM's CARD OF 'laws.FnExactParseTableau'. -/
def fnExactParseTableauUptoCard : Claim7 := { stood := { row := fnExactParseTableauUptoRow, standIns := [], harness := (true, "14e8810761a87d23e7fbf2330ec2bf63bc633a62ea01a088f40944c2b0030a5e"), looks := true }, kinds := [], alts := [], laidByText := true, laidKinds := [.data, .data, .data, .data, .pinned], laidTests := true, laidLooks := .later }
def FnExactParseTableauUptoCardSaid : Prop := Claim7.holds Tryd.pinned (.plain (OpenSpec.upto fnExactParseTableauSpec)) fnExactParseTableauUptoCard
end Rows
end Go.Proofs.YtcegeleoicjciaaDoor
