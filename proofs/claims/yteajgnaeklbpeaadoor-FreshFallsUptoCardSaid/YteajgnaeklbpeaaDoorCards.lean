/-
  DERIVED. GIVEN WITH THE SEED: THE CARDS: each row of YteajgnaeklbpeaaDoorRows.lean that lists a variable, with what it lists TIED to the program's text (the seventh form; the later family's looks); each row that meets fmt, with fmt's text TOLD by the authors' own Lean function (tested against real Go, not proved from fmt's source: count such statements apart). THE CARD IS WHAT COUNTS. Prove the row's statement (the work); the ties are given (YteajgnaeklbpeaaDoorTie.lean); close each card by the builder's one call (the guide's Derived/Test/ToyasCard.lean, 'card_holds'). Laid BY PROGRAM, IN A SANDBOX (cutbox-door.mjs). By AI agents, Wed Nov 11 2026. No macro, syntax, notation, axiom, sorry.
-/
import Derived.Test.YteajgnaeklbpeaaDoorRows
import GoSem.ClaimSeven
namespace Go.Proofs.YteajgnaeklbpeaaDoor
namespace Rows

/-- THE TIED CARD OF 'tollhouselaw17.FreshSays'. -/
def freshSaysCard : Claim7 := { stood := { row := freshSaysRow, standIns := [], harness := (true, "10125ceb44909988d1e596ea85d6af164fdb32b80ceb9061368a83b895eacef4"), looks := false }, kinds := [], alts := [], laidByText := true, laidKinds := [.data, .pinned], laidTests := true, laidLooks := .later }
def FreshSaysCardSaid : Prop := Claim7.holds Tryd.pinned (.plain (OpenSpec.ofChange freshSaysSpec)) freshSaysCard

/-- THE TIED CARD OF 'tollhouselaw17.FreshKnown'. -/
def freshKnownCard : Claim7 := { stood := { row := freshKnownRow, standIns := [], harness := (true, "10125ceb44909988d1e596ea85d6af164fdb32b80ceb9061368a83b895eacef4"), looks := false }, kinds := [], alts := [], laidByText := true, laidKinds := [.data, .pinned], laidTests := true, laidLooks := .later }
def FreshKnownCardSaid : Prop := Claim7.holds Tryd.pinned (.plain (OpenSpec.ofChange freshKnownSpec)) freshKnownCard

/-- THE TIED CARD OF 'tollhouselaw17.FreshFalls'. -/
def freshFallsCard : Claim7 := { stood := { row := freshFallsRow, standIns := [], harness := (true, "10125ceb44909988d1e596ea85d6af164fdb32b80ceb9061368a83b895eacef4"), looks := false }, kinds := [], alts := [], laidByText := true, laidKinds := [.data, .pinned], laidTests := true, laidLooks := .later }
def FreshFallsCardSaid : Prop := Claim7.holds Tryd.pinned (.plain (OpenSpec.ofChange freshFallsSpec)) freshFallsCard

/-- THE SECOND FORM's CARD OF 'tollhouselaw17.FreshSays'. -/
def freshSaysUptoCard : Claim7 := { stood := { row := freshSaysUptoRow, standIns := [], harness := (true, "10125ceb44909988d1e596ea85d6af164fdb32b80ceb9061368a83b895eacef4"), looks := false }, kinds := [], alts := [], laidByText := true, laidKinds := [.data, .pinned], laidTests := true, laidLooks := .later }
def FreshSaysUptoCardSaid : Prop := Claim7.holds Tryd.pinned (.plain (OpenSpec.upto freshSaysSpec)) freshSaysUptoCard

/-- THE SECOND FORM's CARD OF 'tollhouselaw17.FreshKnown'. -/
def freshKnownUptoCard : Claim7 := { stood := { row := freshKnownUptoRow, standIns := [], harness := (true, "10125ceb44909988d1e596ea85d6af164fdb32b80ceb9061368a83b895eacef4"), looks := false }, kinds := [], alts := [], laidByText := true, laidKinds := [.data, .pinned], laidTests := true, laidLooks := .later }
def FreshKnownUptoCardSaid : Prop := Claim7.holds Tryd.pinned (.plain (OpenSpec.upto freshKnownSpec)) freshKnownUptoCard

/-- THE SECOND FORM's CARD OF 'tollhouselaw17.FreshFalls'. -/
def freshFallsUptoCard : Claim7 := { stood := { row := freshFallsUptoRow, standIns := [], harness := (true, "10125ceb44909988d1e596ea85d6af164fdb32b80ceb9061368a83b895eacef4"), looks := false }, kinds := [], alts := [], laidByText := true, laidKinds := [.data, .pinned], laidTests := true, laidLooks := .later }
def FreshFallsUptoCardSaid : Prop := Claim7.holds Tryd.pinned (.plain (OpenSpec.upto freshFallsSpec)) freshFallsUptoCard
end Rows
end Go.Proofs.YteajgnaeklbpeaaDoor
