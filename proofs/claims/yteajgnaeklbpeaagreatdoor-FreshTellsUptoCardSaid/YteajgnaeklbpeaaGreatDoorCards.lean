/-
  DERIVED. GIVEN WITH THE SEED: THE CARDS: each row of YteajgnaeklbpeaaGreatDoorRows.lean that lists a variable, with what it lists TIED to the program's text (the seventh form; the later family's looks); each row that meets fmt, with fmt's text TOLD by the authors' own Lean function (tested against real Go, not proved from fmt's source: count such statements apart). THE CARD IS WHAT COUNTS. Prove the row's statement (the work); the ties are given (YteajgnaeklbpeaaGreatDoorTie.lean); close each card by the builder's one call (the guide's Derived/Test/ToyasCard.lean, 'card_holds'). Laid BY PROGRAM, IN A SANDBOX (cutbox-door.mjs). By AI agents, Wed Nov 11 2026. No macro, syntax, notation, axiom, sorry.
-/
import Derived.Test.YteajgnaeklbpeaaGreatDoorRows
import GoSem.ClaimSeven
namespace Go.Proofs.YteajgnaeklbpeaaGreatDoor
namespace Rows

/-- THE TIED CARD OF 'tollhouselaw17.FreshTells'. -/
def freshTellsCard : Claim7 := { stood := { row := freshTellsRow, standIns := [], harness := (true, "4a3559c065bfb2ce56d8d7372f06afad3a57dd2f3f450948be11284b0906e572"), looks := false }, kinds := [], alts := [], laidByText := true, laidKinds := [.data, .pinned], laidTests := true, laidLooks := .later }
def FreshTellsCardSaid : Prop := Claim7.holds Tryz.pinned (.plain (OpenSpec.ofChange freshTellsSpec)) freshTellsCard

/-- THE SECOND FORM's CARD OF 'tollhouselaw17.FreshTells'. -/
def freshTellsUptoCard : Claim7 := { stood := { row := freshTellsUptoRow, standIns := [], harness := (true, "4a3559c065bfb2ce56d8d7372f06afad3a57dd2f3f450948be11284b0906e572"), looks := false }, kinds := [], alts := [], laidByText := true, laidKinds := [.data, .pinned], laidTests := true, laidLooks := .later }
def FreshTellsUptoCardSaid : Prop := Claim7.holds Tryz.pinned (.plain (OpenSpec.upto freshTellsSpec)) freshTellsUptoCard
end Rows
end Go.Proofs.YteajgnaeklbpeaaGreatDoor
