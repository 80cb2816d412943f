/-
  DERIVED. GIVEN WITH THE SEED: THE CARDS: each row of YtkiicpehjechlaaGreatDoorRows.lean that lists a variable, with what it lists TIED to the program's text (the seventh form; the later family's looks); each row that meets fmt, with fmt's text TOLD by the authors' own Lean function (tested against real Go, not proved from fmt's source: count such statements apart). THE CARD IS WHAT COUNTS. Prove the row's statement (the work); the ties are given (YtkiicpehjechlaaGreatDoorTie.lean); close each card by the builder's one call (the guide's Derived/Test/ToyasCard.lean, 'card_holds'). Laid BY PROGRAM, IN A SANDBOX (cutbox-door.mjs). By AI agents, Wed Nov 11 2026. No macro, syntax, notation, axiom, sorry.
-/
import Derived.Test.YtkiicpehjechlaaGreatDoorRows
import GoSem.ClaimSeven
namespace Go.Proofs.YtkiicpehjechlaaGreatDoor
namespace Rows

/-- THE TIED CARD OF 'tollhouselaw26.DoorApart'. -/
def doorApartCard : Claim7 := { stood := { row := doorApartRow, standIns := [], harness := (true, "4f71cb03a6b24336af9ea8326372148cd0e282c5a95457ed227d4e7fd59eb3ac"), looks := false }, kinds := [], alts := [], laidByText := true, laidKinds := [.data, .data, .data, .data, .pinned], laidTests := true, laidLooks := .later }
def DoorApartCardSaid : Prop := Claim7.holds Tryz.pinned (.plain (OpenSpec.ofChange doorApartSpec)) doorApartCard

/-- THE TIED CARD OF 'tollhouselaw26.DoorKnown'. -/
def doorKnownCard : Claim7 := { stood := { row := doorKnownRow, standIns := [], harness := (true, "4f71cb03a6b24336af9ea8326372148cd0e282c5a95457ed227d4e7fd59eb3ac"), looks := false }, kinds := [], alts := [], laidByText := true, laidKinds := [.data, .data, .data, .data, .pinned], laidTests := true, laidLooks := .later }
def DoorKnownCardSaid : Prop := Claim7.holds Tryz.pinned (.plain (OpenSpec.ofChange doorKnownSpec)) doorKnownCard

/-- THE TIED CARD OF 'tollhouselaw26.DoorPlays'. -/
def doorPlaysCard : Claim7 := { stood := { row := doorPlaysRow, standIns := [], harness := (true, "4f71cb03a6b24336af9ea8326372148cd0e282c5a95457ed227d4e7fd59eb3ac"), looks := false }, kinds := [], alts := [], laidByText := true, laidKinds := [.data, .data, .data, .data, .pinned], laidTests := true, laidLooks := .later }
def DoorPlaysCardSaid : Prop := Claim7.holds Tryz.pinned (.plain (OpenSpec.ofChange doorPlaysSpec)) doorPlaysCard

/-- THE TIED CARD OF 'tollhouselaw26.DoorStream'. -/
def doorStreamCard : Claim7 := { stood := { row := doorStreamRow, standIns := [], harness := (true, "4f71cb03a6b24336af9ea8326372148cd0e282c5a95457ed227d4e7fd59eb3ac"), looks := false }, kinds := [], alts := [], laidByText := true, laidKinds := [.data, .data, .data, .data, .pinned], laidTests := true, laidLooks := .later }
def DoorStreamCardSaid : Prop := Claim7.holds Tryz.pinned (.plain (OpenSpec.ofChange doorStreamSpec)) doorStreamCard

/-- THE SECOND FORM's CARD OF 'tollhouselaw26.DoorApart'. -/
def doorApartUptoCard : Claim7 := { stood := { row := doorApartUptoRow, standIns := [], harness := (true, "4f71cb03a6b24336af9ea8326372148cd0e282c5a95457ed227d4e7fd59eb3ac"), looks := false }, kinds := [], alts := [], laidByText := true, laidKinds := [.data, .data, .data, .data, .pinned], laidTests := true, laidLooks := .later }
def DoorApartUptoCardSaid : Prop := Claim7.holds Tryz.pinned (.plain (OpenSpec.upto doorApartSpec)) doorApartUptoCard

/-- THE SECOND FORM's CARD OF 'tollhouselaw26.DoorKnown'. -/
def doorKnownUptoCard : Claim7 := { stood := { row := doorKnownUptoRow, standIns := [], harness := (true, "4f71cb03a6b24336af9ea8326372148cd0e282c5a95457ed227d4e7fd59eb3ac"), looks := false }, kinds := [], alts := [], laidByText := true, laidKinds := [.data, .data, .data, .data, .pinned], laidTests := true, laidLooks := .later }
def DoorKnownUptoCardSaid : Prop := Claim7.holds Tryz.pinned (.plain (OpenSpec.upto doorKnownSpec)) doorKnownUptoCard

/-- THE SECOND FORM's CARD OF 'tollhouselaw26.DoorPlays'. -/
def doorPlaysUptoCard : Claim7 := { stood := { row := doorPlaysUptoRow, standIns := [], harness := (true, "4f71cb03a6b24336af9ea8326372148cd0e282c5a95457ed227d4e7fd59eb3ac"), looks := false }, kinds := [], alts := [], laidByText := true, laidKinds := [.data, .data, .data, .data, .pinned], laidTests := true, laidLooks := .later }
def DoorPlaysUptoCardSaid : Prop := Claim7.holds Tryz.pinned (.plain (OpenSpec.upto doorPlaysSpec)) doorPlaysUptoCard

/-- THE SECOND FORM's CARD OF 'tollhouselaw26.DoorStream'. -/
def doorStreamUptoCard : Claim7 := { stood := { row := doorStreamUptoRow, standIns := [], harness := (true, "4f71cb03a6b24336af9ea8326372148cd0e282c5a95457ed227d4e7fd59eb3ac"), looks := false }, kinds := [], alts := [], laidByText := true, laidKinds := [.data, .data, .data, .data, .pinned], laidTests := true, laidLooks := .later }
def DoorStreamUptoCardSaid : Prop := Claim7.holds Tryz.pinned (.plain (OpenSpec.upto doorStreamSpec)) doorStreamUptoCard
end Rows
end Go.Proofs.YtkiicpehjechlaaGreatDoor
