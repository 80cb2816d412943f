/-
  DERIVED. GIVEN WITH THE SEED: THE CARDS: each row of YtaohepmbkepmiaaDoorRows.lean that lists a variable, with what it lists TIED to the program's text (the seventh form; the later family's looks); each row that meets fmt, with fmt's text TOLD by the authors' own Lean function (tested against real Go, not proved from fmt's source: count such statements apart). THE CARD IS WHAT COUNTS. Prove the row's statement (the work); the ties are given (YtaohepmbkepmiaaDoorTie.lean); close each card by the builder's one call (the guide's Derived/Test/ToyasCard.lean, 'card_holds'). Laid BY PROGRAM, IN A SANDBOX (cutbox-door.mjs). By AI agents, Wed Nov 11 2026. No macro, syntax, notation, axiom, sorry.
-/
import Derived.Test.YtaohepmbkepmiaaDoorRows
import GoSem.ClaimSeven
namespace Go.Proofs.YtaohepmbkepmiaaDoor
namespace Rows

/-- THE TIED CARD OF 'tollhouselaw08.ChunkTakes'. -/
def chunkTakesCard : Claim7 := { stood := { row := chunkTakesRow, standIns := [], harness := (true, "0a9f3b0a4175aac7c8016082b41435145d8da3fc955db699c801b3f0425ad596"), looks := false }, kinds := [], alts := [], laidByText := true, laidKinds := [.data, .data, .data, .data, .pinned], laidTests := true, laidLooks := .later }
def ChunkTakesCardSaid : Prop := Claim7.holds Tryd.pinned (.plain (OpenSpec.ofChange chunkTakesSpec)) chunkTakesCard

/-- THE TIED CARD OF 'tollhouselaw08.ChunkPuts'. -/
def chunkPutsCard : Claim7 := { stood := { row := chunkPutsRow, standIns := [], harness := (true, "0a9f3b0a4175aac7c8016082b41435145d8da3fc955db699c801b3f0425ad596"), looks := false }, kinds := [], alts := [], laidByText := true, laidKinds := [.data, .data, .data, .data, .pinned], laidTests := true, laidLooks := .later }
def ChunkPutsCardSaid : Prop := Claim7.holds Tryd.pinned (.plain (OpenSpec.ofChange chunkPutsSpec)) chunkPutsCard

/-- THE TIED CARD OF 'tollhouselaw08.ChunkStays'. -/
def chunkStaysCard : Claim7 := { stood := { row := chunkStaysRow, standIns := [], harness := (true, "0a9f3b0a4175aac7c8016082b41435145d8da3fc955db699c801b3f0425ad596"), looks := false }, kinds := [], alts := [], laidByText := true, laidKinds := [.data, .data, .data, .data, .pinned], laidTests := true, laidLooks := .later }
def ChunkStaysCardSaid : Prop := Claim7.holds Tryd.pinned (.plain (OpenSpec.ofChange chunkStaysSpec)) chunkStaysCard

/-- THE TIED CARD OF 'tollhouselaw08.ChunkBack'. -/
def chunkBackCard : Claim7 := { stood := { row := chunkBackRow, standIns := [], harness := (true, "0a9f3b0a4175aac7c8016082b41435145d8da3fc955db699c801b3f0425ad596"), looks := false }, kinds := [], alts := [], laidByText := true, laidKinds := [.data, .data, .data, .data, .pinned], laidTests := true, laidLooks := .later }
def ChunkBackCardSaid : Prop := Claim7.holds Tryd.pinned (.plain (OpenSpec.ofChange chunkBackSpec)) chunkBackCard

/-- THE TIED CARD OF 'tollhouselaw08.ChunkKnown'. -/
def chunkKnownCard : Claim7 := { stood := { row := chunkKnownRow, standIns := [], harness := (true, "0a9f3b0a4175aac7c8016082b41435145d8da3fc955db699c801b3f0425ad596"), looks := false }, kinds := [], alts := [], laidByText := true, laidKinds := [.data, .data, .data, .data, .pinned], laidTests := true, laidLooks := .later }
def ChunkKnownCardSaid : Prop := Claim7.holds Tryd.pinned (.plain (OpenSpec.ofChange chunkKnownSpec)) chunkKnownCard

/-- THE SECOND FORM's CARD OF 'tollhouselaw08.ChunkTakes'. -/
def chunkTakesUptoCard : Claim7 := { stood := { row := chunkTakesUptoRow, standIns := [], harness := (true, "0a9f3b0a4175aac7c8016082b41435145d8da3fc955db699c801b3f0425ad596"), looks := false }, kinds := [], alts := [], laidByText := true, laidKinds := [.data, .data, .data, .data, .pinned], laidTests := true, laidLooks := .later }
def ChunkTakesUptoCardSaid : Prop := Claim7.holds Tryd.pinned (.plain (OpenSpec.upto chunkTakesSpec)) chunkTakesUptoCard

/-- THE SECOND FORM's CARD OF 'tollhouselaw08.ChunkPuts'. -/
def chunkPutsUptoCard : Claim7 := { stood := { row := chunkPutsUptoRow, standIns := [], harness := (true, "0a9f3b0a4175aac7c8016082b41435145d8da3fc955db699c801b3f0425ad596"), looks := false }, kinds := [], alts := [], laidByText := true, laidKinds := [.data, .data, .data, .data, .pinned], laidTests := true, laidLooks := .later }
def ChunkPutsUptoCardSaid : Prop := Claim7.holds Tryd.pinned (.plain (OpenSpec.upto chunkPutsSpec)) chunkPutsUptoCard

/-- THE SECOND FORM's CARD OF 'tollhouselaw08.ChunkStays'. -/
def chunkStaysUptoCard : Claim7 := { stood := { row := chunkStaysUptoRow, standIns := [], harness := (true, "0a9f3b0a4175aac7c8016082b41435145d8da3fc955db699c801b3f0425ad596"), looks := false }, kinds := [], alts := [], laidByText := true, laidKinds := [.data, .data, .data, .data, .pinned], laidTests := true, laidLooks := .later }
def ChunkStaysUptoCardSaid : Prop := Claim7.holds Tryd.pinned (.plain (OpenSpec.upto chunkStaysSpec)) chunkStaysUptoCard

/-- THE SECOND FORM's CARD OF 'tollhouselaw08.ChunkBack'. -/
def chunkBackUptoCard : Claim7 := { stood := { row := chunkBackUptoRow, standIns := [], harness := (true, "0a9f3b0a4175aac7c8016082b41435145d8da3fc955db699c801b3f0425ad596"), looks := false }, kinds := [], alts := [], laidByText := true, laidKinds := [.data, .data, .data, .data, .pinned], laidTests := true, laidLooks := .later }
def ChunkBackUptoCardSaid : Prop := Claim7.holds Tryd.pinned (.plain (OpenSpec.upto chunkBackSpec)) chunkBackUptoCard

/-- THE SECOND FORM's CARD OF 'tollhouselaw08.ChunkKnown'. -/
def chunkKnownUptoCard : Claim7 := { stood := { row := chunkKnownUptoRow, standIns := [], harness := (true, "0a9f3b0a4175aac7c8016082b41435145d8da3fc955db699c801b3f0425ad596"), looks := false }, kinds := [], alts := [], laidByText := true, laidKinds := [.data, .data, .data, .data, .pinned], laidTests := true, laidLooks := .later }
def ChunkKnownUptoCardSaid : Prop := Claim7.holds Tryd.pinned (.plain (OpenSpec.upto chunkKnownSpec)) chunkKnownUptoCard
end Rows
end Go.Proofs.YtaohepmbkepmiaaDoor
