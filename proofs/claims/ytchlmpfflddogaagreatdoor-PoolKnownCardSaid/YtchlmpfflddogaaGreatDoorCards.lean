/-
  DERIVED. GIVEN WITH THE SEED: THE CARDS: each row of YtchlmpfflddogaaGreatDoorRows.lean that lists a variable, with what it lists TIED to the program's text (the seventh form; the later family's looks); each row that meets fmt, with fmt's text TOLD by the authors' own Lean function (tested against real Go, not proved from fmt's source: count such statements apart). THE CARD IS WHAT COUNTS. Prove the row's statement (the work); the ties are given (YtchlmpfflddogaaGreatDoorTie.lean); close each card by the builder's one call (the guide's Derived/Test/ToyasCard.lean, 'card_holds'). Laid BY PROGRAM, IN A SANDBOX (cutbox-door.mjs). By AI agents, Wed Nov 11 2026. No macro, syntax, notation, axiom, sorry.
-/
import Derived.Test.YtchlmpfflddogaaGreatDoorRows
import GoSem.ClaimSeven
namespace Go.Proofs.YtchlmpfflddogaaGreatDoor
namespace Rows

/-- THE TIED CARD OF 'tollhouselaw23.PoolEnds'. -/
def poolEndsCard : Claim7 := { stood := { row := poolEndsRow, standIns := [], harness := (true, "68b9cc715046dcf9d9c1e99eaae32e790e41e7719b3cea3a18946751a200736e"), looks := true }, kinds := [], alts := [], laidByText := true, laidKinds := [.data, .data, .data, .data, .sentinel, .sentinel, .pinned], laidTests := true, laidLooks := .later }
def PoolEndsCardSaid : Prop := Claim7.holds Tryz.pinned (.plain (OpenSpec.ofChange poolEndsSpec)) poolEndsCard

/-- THE TIED CARD OF 'tollhouselaw23.PoolStreams'. -/
def poolStreamsCard : Claim7 := { stood := { row := poolStreamsRow, standIns := [], harness := (true, "68b9cc715046dcf9d9c1e99eaae32e790e41e7719b3cea3a18946751a200736e"), looks := true }, kinds := [], alts := [], laidByText := true, laidKinds := [.data, .data, .data, .data, .sentinel, .sentinel, .pinned], laidTests := true, laidLooks := .later }
def PoolStreamsCardSaid : Prop := Claim7.holds Tryz.pinned (.plain (OpenSpec.ofChange poolStreamsSpec)) poolStreamsCard

/-- THE TIED CARD OF 'tollhouselaw23.PoolPlaces'. -/
def poolPlacesCard : Claim7 := { stood := { row := poolPlacesRow, standIns := [], harness := (true, "68b9cc715046dcf9d9c1e99eaae32e790e41e7719b3cea3a18946751a200736e"), looks := true }, kinds := [], alts := [], laidByText := true, laidKinds := [.data, .data, .data, .data, .sentinel, .sentinel, .pinned], laidTests := true, laidLooks := .later }
def PoolPlacesCardSaid : Prop := Claim7.holds Tryz.pinned (.plain (OpenSpec.ofChange poolPlacesSpec)) poolPlacesCard

/-- THE TIED CARD OF 'tollhouselaw23.PoolNothingOld'. -/
def poolNothingOldCard : Claim7 := { stood := { row := poolNothingOldRow, standIns := [], harness := (true, "68b9cc715046dcf9d9c1e99eaae32e790e41e7719b3cea3a18946751a200736e"), looks := true }, kinds := [], alts := [], laidByText := true, laidKinds := [.data, .data, .data, .data, .sentinel, .sentinel, .pinned], laidTests := true, laidLooks := .later }
def PoolNothingOldCardSaid : Prop := Claim7.holds Tryz.pinned (.plain (OpenSpec.ofChange poolNothingOldSpec)) poolNothingOldCard

/-- THE TIED CARD OF 'tollhouselaw23.PoolKnown'. -/
def poolKnownCard : Claim7 := { stood := { row := poolKnownRow, standIns := [], harness := (true, "68b9cc715046dcf9d9c1e99eaae32e790e41e7719b3cea3a18946751a200736e"), looks := true }, kinds := [], alts := [], laidByText := true, laidKinds := [.data, .data, .data, .data, .sentinel, .sentinel, .pinned], laidTests := true, laidLooks := .later }
def PoolKnownCardSaid : Prop := Claim7.holds Tryz.pinned (.plain (OpenSpec.ofChange poolKnownSpec)) poolKnownCard

/-- THE TIED CARD OF 'tollhouselaw23.PoolPlays'. -/
def poolPlaysCard : Claim7 := { stood := { row := poolPlaysRow, standIns := [], harness := (true, "68b9cc715046dcf9d9c1e99eaae32e790e41e7719b3cea3a18946751a200736e"), looks := true }, kinds := [], alts := [], laidByText := true, laidKinds := [.data, .data, .data, .data, .sentinel, .sentinel, .pinned], laidTests := true, laidLooks := .later }
def PoolPlaysCardSaid : Prop := Claim7.holds Tryz.pinned (.plain (OpenSpec.ofChange poolPlaysSpec)) poolPlaysCard

/-- THE SECOND FORM's CARD OF 'tollhouselaw23.PoolEnds'. -/
def poolEndsUptoCard : Claim7 := { stood := { row := poolEndsUptoRow, standIns := [], harness := (true, "68b9cc715046dcf9d9c1e99eaae32e790e41e7719b3cea3a18946751a200736e"), looks := true }, kinds := [], alts := [], laidByText := true, laidKinds := [.data, .data, .data, .data, .sentinel, .sentinel, .pinned], laidTests := true, laidLooks := .later }
def PoolEndsUptoCardSaid : Prop := Claim7.holds Tryz.pinned (.plain (OpenSpec.upto poolEndsSpec)) poolEndsUptoCard

/-- THE SECOND FORM's CARD OF 'tollhouselaw23.PoolStreams'. -/
def poolStreamsUptoCard : Claim7 := { stood := { row := poolStreamsUptoRow, standIns := [], harness := (true, "68b9cc715046dcf9d9c1e99eaae32e790e41e7719b3cea3a18946751a200736e"), looks := true }, kinds := [], alts := [], laidByText := true, laidKinds := [.data, .data, .data, .data, .sentinel, .sentinel, .pinned], laidTests := true, laidLooks := .later }
def PoolStreamsUptoCardSaid : Prop := Claim7.holds Tryz.pinned (.plain (OpenSpec.upto poolStreamsSpec)) poolStreamsUptoCard

/-- THE SECOND FORM's CARD OF 'tollhouselaw23.PoolPlaces'. -/
def poolPlacesUptoCard : Claim7 := { stood := { row := poolPlacesUptoRow, standIns := [], harness := (true, "68b9cc715046dcf9d9c1e99eaae32e790e41e7719b3cea3a18946751a200736e"), looks := true }, kinds := [], alts := [], laidByText := true, laidKinds := [.data, .data, .data, .data, .sentinel, .sentinel, .pinned], laidTests := true, laidLooks := .later }
def PoolPlacesUptoCardSaid : Prop := Claim7.holds Tryz.pinned (.plain (OpenSpec.upto poolPlacesSpec)) poolPlacesUptoCard

/-- THE SECOND FORM's CARD OF 'tollhouselaw23.PoolNothingOld'. -/
def poolNothingOldUptoCard : Claim7 := { stood := { row := poolNothingOldUptoRow, standIns := [], harness := (true, "68b9cc715046dcf9d9c1e99eaae32e790e41e7719b3cea3a18946751a200736e"), looks := true }, kinds := [], alts := [], laidByText := true, laidKinds := [.data, .data, .data, .data, .sentinel, .sentinel, .pinned], laidTests := true, laidLooks := .later }
def PoolNothingOldUptoCardSaid : Prop := Claim7.holds Tryz.pinned (.plain (OpenSpec.upto poolNothingOldSpec)) poolNothingOldUptoCard

/-- THE SECOND FORM's CARD OF 'tollhouselaw23.PoolKnown'. -/
def poolKnownUptoCard : Claim7 := { stood := { row := poolKnownUptoRow, standIns := [], harness := (true, "68b9cc715046dcf9d9c1e99eaae32e790e41e7719b3cea3a18946751a200736e"), looks := true }, kinds := [], alts := [], laidByText := true, laidKinds := [.data, .data, .data, .data, .sentinel, .sentinel, .pinned], laidTests := true, laidLooks := .later }
def PoolKnownUptoCardSaid : Prop := Claim7.holds Tryz.pinned (.plain (OpenSpec.upto poolKnownSpec)) poolKnownUptoCard

/-- THE SECOND FORM's CARD OF 'tollhouselaw23.PoolPlays'. -/
def poolPlaysUptoCard : Claim7 := { stood := { row := poolPlaysUptoRow, standIns := [], harness := (true, "68b9cc715046dcf9d9c1e99eaae32e790e41e7719b3cea3a18946751a200736e"), looks := true }, kinds := [], alts := [], laidByText := true, laidKinds := [.data, .data, .data, .data, .sentinel, .sentinel, .pinned], laidTests := true, laidLooks := .later }
def PoolPlaysUptoCardSaid : Prop := Claim7.holds Tryz.pinned (.plain (OpenSpec.upto poolPlaysSpec)) poolPlaysUptoCard
end Rows
end Go.Proofs.YtchlmpfflddogaaGreatDoor
