/-
  DERIVED. GIVEN WITH THE SEED: THE CARDS: each row of YtoohbnmhjfgclaaGreatDoorRows.lean that lists a variable, with what it lists TIED to the program's text (the seventh form; the later family's looks); each row that meets fmt, with fmt's text TOLD by the authors' own Lean function (tested against real Go, not proved from fmt's source: count such statements apart). THE CARD IS WHAT COUNTS. Prove the row's statement (the work); the ties are given (YtoohbnmhjfgclaaGreatDoorTie.lean); close each card by the builder's one call (the guide's Derived/Test/ToyasCard.lean, 'card_holds'). Laid BY PROGRAM, IN A SANDBOX (cutbox-door.mjs). By AI agents, Wed Nov 11 2026. No macro, syntax, notation, axiom, sorry.
-/
import Derived.Test.YtoohbnmhjfgclaaGreatDoorRows
import GoSem.ClaimSeven
namespace Go.Proofs.YtoohbnmhjfgclaaGreatDoor
namespace Rows

/-- THE TIED CARD OF 'tollhouselaw09.MessageReads'. -/
def messageReadsCard : Claim7 := { stood := { row := messageReadsRow, standIns := [], harness := (true, "139d7d863108df53d27a7e9edc0472911a92ba2093e42960260733655d3d965d"), looks := true }, kinds := [], alts := [], laidByText := true, laidKinds := [.data, .data, .data, .data, .sentinel, .sentinel, .pinned], laidTests := true, laidLooks := .later }
def MessageReadsCardSaid : Prop := Claim7.holds Tryz.pinned (.plain (OpenSpec.ofChange messageReadsSpec)) messageReadsCard

/-- THE TIED CARD OF 'tollhouselaw09.MessageStream'. -/
def messageStreamCard : Claim7 := { stood := { row := messageStreamRow, standIns := [], harness := (true, "139d7d863108df53d27a7e9edc0472911a92ba2093e42960260733655d3d965d"), looks := true }, kinds := [], alts := [], laidByText := true, laidKinds := [.data, .data, .data, .data, .sentinel, .sentinel, .pinned], laidTests := true, laidLooks := .later }
def MessageStreamCardSaid : Prop := Claim7.holds Tryz.pinned (.plain (OpenSpec.ofChange messageStreamSpec)) messageStreamCard

/-- THE TIED CARD OF 'tollhouselaw09.MessageSame'. -/
def messageSameCard : Claim7 := { stood := { row := messageSameRow, standIns := [], harness := (true, "139d7d863108df53d27a7e9edc0472911a92ba2093e42960260733655d3d965d"), looks := true }, kinds := [], alts := [], laidByText := true, laidKinds := [.data, .data, .data, .data, .sentinel, .sentinel, .pinned], laidTests := true, laidLooks := .later }
def MessageSameCardSaid : Prop := Claim7.holds Tryz.pinned (.plain (OpenSpec.ofChange messageSameSpec)) messageSameCard

/-- THE TIED CARD OF 'tollhouselaw09.MessageStays'. -/
def messageStaysCard : Claim7 := { stood := { row := messageStaysRow, standIns := [], harness := (true, "139d7d863108df53d27a7e9edc0472911a92ba2093e42960260733655d3d965d"), looks := true }, kinds := [], alts := [], laidByText := true, laidKinds := [.data, .data, .data, .data, .sentinel, .sentinel, .pinned], laidTests := true, laidLooks := .later }
def MessageStaysCardSaid : Prop := Claim7.holds Tryz.pinned (.plain (OpenSpec.ofChange messageStaysSpec)) messageStaysCard

/-- THE TIED CARD OF 'tollhouselaw09.MessageBack'. -/
def messageBackCard : Claim7 := { stood := { row := messageBackRow, standIns := [], harness := (true, "139d7d863108df53d27a7e9edc0472911a92ba2093e42960260733655d3d965d"), looks := true }, kinds := [], alts := [], laidByText := true, laidKinds := [.data, .data, .data, .data, .sentinel, .sentinel, .pinned], laidTests := true, laidLooks := .later }
def MessageBackCardSaid : Prop := Claim7.holds Tryz.pinned (.plain (OpenSpec.ofChange messageBackSpec)) messageBackCard

/-- THE TIED CARD OF 'tollhouselaw09.MessageKnown'. -/
def messageKnownCard : Claim7 := { stood := { row := messageKnownRow, standIns := [], harness := (true, "139d7d863108df53d27a7e9edc0472911a92ba2093e42960260733655d3d965d"), looks := true }, kinds := [], alts := [], laidByText := true, laidKinds := [.data, .data, .data, .data, .sentinel, .sentinel, .pinned], laidTests := true, laidLooks := .later }
def MessageKnownCardSaid : Prop := Claim7.holds Tryz.pinned (.plain (OpenSpec.ofChange messageKnownSpec)) messageKnownCard

/-- THE SECOND FORM's CARD OF 'tollhouselaw09.MessageReads'. -/
def messageReadsUptoCard : Claim7 := { stood := { row := messageReadsUptoRow, standIns := [], harness := (true, "139d7d863108df53d27a7e9edc0472911a92ba2093e42960260733655d3d965d"), looks := true }, kinds := [], alts := [], laidByText := true, laidKinds := [.data, .data, .data, .data, .sentinel, .sentinel, .pinned], laidTests := true, laidLooks := .later }
def MessageReadsUptoCardSaid : Prop := Claim7.holds Tryz.pinned (.plain (OpenSpec.upto messageReadsSpec)) messageReadsUptoCard

/-- THE SECOND FORM's CARD OF 'tollhouselaw09.MessageStream'. -/
def messageStreamUptoCard : Claim7 := { stood := { row := messageStreamUptoRow, standIns := [], harness := (true, "139d7d863108df53d27a7e9edc0472911a92ba2093e42960260733655d3d965d"), looks := true }, kinds := [], alts := [], laidByText := true, laidKinds := [.data, .data, .data, .data, .sentinel, .sentinel, .pinned], laidTests := true, laidLooks := .later }
def MessageStreamUptoCardSaid : Prop := Claim7.holds Tryz.pinned (.plain (OpenSpec.upto messageStreamSpec)) messageStreamUptoCard

/-- THE SECOND FORM's CARD OF 'tollhouselaw09.MessageSame'. -/
def messageSameUptoCard : Claim7 := { stood := { row := messageSameUptoRow, standIns := [], harness := (true, "139d7d863108df53d27a7e9edc0472911a92ba2093e42960260733655d3d965d"), looks := true }, kinds := [], alts := [], laidByText := true, laidKinds := [.data, .data, .data, .data, .sentinel, .sentinel, .pinned], laidTests := true, laidLooks := .later }
def MessageSameUptoCardSaid : Prop := Claim7.holds Tryz.pinned (.plain (OpenSpec.upto messageSameSpec)) messageSameUptoCard

/-- THE SECOND FORM's CARD OF 'tollhouselaw09.MessageStays'. -/
def messageStaysUptoCard : Claim7 := { stood := { row := messageStaysUptoRow, standIns := [], harness := (true, "139d7d863108df53d27a7e9edc0472911a92ba2093e42960260733655d3d965d"), looks := true }, kinds := [], alts := [], laidByText := true, laidKinds := [.data, .data, .data, .data, .sentinel, .sentinel, .pinned], laidTests := true, laidLooks := .later }
def MessageStaysUptoCardSaid : Prop := Claim7.holds Tryz.pinned (.plain (OpenSpec.upto messageStaysSpec)) messageStaysUptoCard

/-- THE SECOND FORM's CARD OF 'tollhouselaw09.MessageBack'. -/
def messageBackUptoCard : Claim7 := { stood := { row := messageBackUptoRow, standIns := [], harness := (true, "139d7d863108df53d27a7e9edc0472911a92ba2093e42960260733655d3d965d"), looks := true }, kinds := [], alts := [], laidByText := true, laidKinds := [.data, .data, .data, .data, .sentinel, .sentinel, .pinned], laidTests := true, laidLooks := .later }
def MessageBackUptoCardSaid : Prop := Claim7.holds Tryz.pinned (.plain (OpenSpec.upto messageBackSpec)) messageBackUptoCard

/-- THE SECOND FORM's CARD OF 'tollhouselaw09.MessageKnown'. -/
def messageKnownUptoCard : Claim7 := { stood := { row := messageKnownUptoRow, standIns := [], harness := (true, "139d7d863108df53d27a7e9edc0472911a92ba2093e42960260733655d3d965d"), looks := true }, kinds := [], alts := [], laidByText := true, laidKinds := [.data, .data, .data, .data, .sentinel, .sentinel, .pinned], laidTests := true, laidLooks := .later }
def MessageKnownUptoCardSaid : Prop := Claim7.holds Tryz.pinned (.plain (OpenSpec.upto messageKnownSpec)) messageKnownUptoCard
end Rows
end Go.Proofs.YtoohbnmhjfgclaaGreatDoor
