/-
  DERIVED. GIVEN WITH THE SEED: THE CARDS: each row of YteenmbcmgcnkmaaGreatDoorRows.lean that lists a variable, with what it lists TIED to the program's text (the seventh form; the later family's looks); each row that meets fmt, with fmt's text TOLD by the authors' own Lean function (tested against real Go, not proved from fmt's source: count such statements apart). THE CARD IS WHAT COUNTS. Prove the row's statement (the work); the ties are given (YteenmbcmgcnkmaaGreatDoorTie.lean); close each card by the builder's one call (the guide's Derived/Test/ToyasCard.lean, 'card_holds'). Laid BY PROGRAM, IN A SANDBOX (cutbox-door.mjs). By AI agents, Wed Nov 11 2026. No macro, syntax, notation, axiom, sorry.
-/
import Derived.Test.YteenmbcmgcnkmaaGreatDoorRows
import GoSem.ClaimSeven
namespace Go.Proofs.YteenmbcmgcnkmaaGreatDoor
namespace Rows

/-- THE TIED CARD OF 'tollhouselaw25.ExchangeForwards'. -/
def exchangeForwardsCard : Claim7 := { stood := { row := exchangeForwardsRow, standIns := [], harness := (true, "b23fac80d93725b660131940cd96e4c5e9baa6bc26342d3cfd2272ab11ebf4d0"), looks := true }, kinds := [], alts := [], laidByText := true, laidKinds := [.data, .data, .data, .data, .sentinel, .sentinel, .pinned], laidTests := true, laidLooks := .later }
def ExchangeForwardsCardSaid : Prop := Claim7.holds Tryz.pinned (.plain (OpenSpec.ofChange exchangeForwardsSpec)) exchangeForwardsCard

/-- THE TIED CARD OF 'tollhouselaw25.ExchangeTells'. -/
def exchangeTellsCard : Claim7 := { stood := { row := exchangeTellsRow, standIns := [], harness := (true, "b23fac80d93725b660131940cd96e4c5e9baa6bc26342d3cfd2272ab11ebf4d0"), looks := true }, kinds := [], alts := [], laidByText := true, laidKinds := [.data, .data, .data, .data, .sentinel, .sentinel, .pinned], laidTests := true, laidLooks := .later }
def ExchangeTellsCardSaid : Prop := Claim7.holds Tryz.pinned (.plain (OpenSpec.ofChange exchangeTellsSpec)) exchangeTellsCard

/-- THE TIED CARD OF 'tollhouselaw25.ExchangeEnds'. -/
def exchangeEndsCard : Claim7 := { stood := { row := exchangeEndsRow, standIns := [], harness := (true, "b23fac80d93725b660131940cd96e4c5e9baa6bc26342d3cfd2272ab11ebf4d0"), looks := true }, kinds := [], alts := [], laidByText := true, laidKinds := [.data, .data, .data, .data, .sentinel, .sentinel, .pinned], laidTests := true, laidLooks := .later }
def ExchangeEndsCardSaid : Prop := Claim7.holds Tryz.pinned (.plain (OpenSpec.ofChange exchangeEndsSpec)) exchangeEndsCard

/-- THE TIED CARD OF 'tollhouselaw25.ExchangeKeepsWhat'. -/
def exchangeKeepsWhatCard : Claim7 := { stood := { row := exchangeKeepsWhatRow, standIns := [], harness := (true, "b23fac80d93725b660131940cd96e4c5e9baa6bc26342d3cfd2272ab11ebf4d0"), looks := true }, kinds := [], alts := [], laidByText := true, laidKinds := [.data, .data, .data, .data, .sentinel, .sentinel, .pinned], laidTests := true, laidLooks := .later }
def ExchangeKeepsWhatCardSaid : Prop := Claim7.holds Tryz.pinned (.plain (OpenSpec.ofChange exchangeKeepsWhatSpec)) exchangeKeepsWhatCard

/-- THE TIED CARD OF 'tollhouselaw25.ExchangeKeeps'. -/
def exchangeKeepsCard : Claim7 := { stood := { row := exchangeKeepsRow, standIns := [], harness := (true, "b23fac80d93725b660131940cd96e4c5e9baa6bc26342d3cfd2272ab11ebf4d0"), looks := true }, kinds := [], alts := [], laidByText := true, laidKinds := [.data, .data, .data, .data, .sentinel, .sentinel, .pinned], laidTests := true, laidLooks := .later }
def ExchangeKeepsCardSaid : Prop := Claim7.holds Tryz.pinned (.plain (OpenSpec.ofChange exchangeKeepsSpec)) exchangeKeepsCard

/-- THE TIED CARD OF 'tollhouselaw25.ExchangeKnown'. -/
def exchangeKnownCard : Claim7 := { stood := { row := exchangeKnownRow, standIns := [], harness := (true, "b23fac80d93725b660131940cd96e4c5e9baa6bc26342d3cfd2272ab11ebf4d0"), looks := true }, kinds := [], alts := [], laidByText := true, laidKinds := [.data, .data, .data, .data, .sentinel, .sentinel, .pinned], laidTests := true, laidLooks := .later }
def ExchangeKnownCardSaid : Prop := Claim7.holds Tryz.pinned (.plain (OpenSpec.ofChange exchangeKnownSpec)) exchangeKnownCard

/-- THE TIED CARD OF 'tollhouselaw25.ExchangeServes'. -/
def exchangeServesCard : Claim7 := { stood := { row := exchangeServesRow, standIns := [], harness := (true, "b23fac80d93725b660131940cd96e4c5e9baa6bc26342d3cfd2272ab11ebf4d0"), looks := true }, kinds := [], alts := [], laidByText := true, laidKinds := [.data, .data, .data, .data, .sentinel, .sentinel, .pinned], laidTests := true, laidLooks := .later }
def ExchangeServesCardSaid : Prop := Claim7.holds Tryz.pinned (.plain (OpenSpec.ofChange exchangeServesSpec)) exchangeServesCard

/-- THE SECOND FORM's CARD OF 'tollhouselaw25.ExchangeForwards'. -/
def exchangeForwardsUptoCard : Claim7 := { stood := { row := exchangeForwardsUptoRow, standIns := [], harness := (true, "b23fac80d93725b660131940cd96e4c5e9baa6bc26342d3cfd2272ab11ebf4d0"), looks := true }, kinds := [], alts := [], laidByText := true, laidKinds := [.data, .data, .data, .data, .sentinel, .sentinel, .pinned], laidTests := true, laidLooks := .later }
def ExchangeForwardsUptoCardSaid : Prop := Claim7.holds Tryz.pinned (.plain (OpenSpec.upto exchangeForwardsSpec)) exchangeForwardsUptoCard

/-- THE SECOND FORM's CARD OF 'tollhouselaw25.ExchangeTells'. -/
def exchangeTellsUptoCard : Claim7 := { stood := { row := exchangeTellsUptoRow, standIns := [], harness := (true, "b23fac80d93725b660131940cd96e4c5e9baa6bc26342d3cfd2272ab11ebf4d0"), looks := true }, kinds := [], alts := [], laidByText := true, laidKinds := [.data, .data, .data, .data, .sentinel, .sentinel, .pinned], laidTests := true, laidLooks := .later }
def ExchangeTellsUptoCardSaid : Prop := Claim7.holds Tryz.pinned (.plain (OpenSpec.upto exchangeTellsSpec)) exchangeTellsUptoCard

/-- THE SECOND FORM's CARD OF 'tollhouselaw25.ExchangeEnds'. -/
def exchangeEndsUptoCard : Claim7 := { stood := { row := exchangeEndsUptoRow, standIns := [], harness := (true, "b23fac80d93725b660131940cd96e4c5e9baa6bc26342d3cfd2272ab11ebf4d0"), looks := true }, kinds := [], alts := [], laidByText := true, laidKinds := [.data, .data, .data, .data, .sentinel, .sentinel, .pinned], laidTests := true, laidLooks := .later }
def ExchangeEndsUptoCardSaid : Prop := Claim7.holds Tryz.pinned (.plain (OpenSpec.upto exchangeEndsSpec)) exchangeEndsUptoCard

/-- THE SECOND FORM's CARD OF 'tollhouselaw25.ExchangeKeepsWhat'. -/
def exchangeKeepsWhatUptoCard : Claim7 := { stood := { row := exchangeKeepsWhatUptoRow, standIns := [], harness := (true, "b23fac80d93725b660131940cd96e4c5e9baa6bc26342d3cfd2272ab11ebf4d0"), looks := true }, kinds := [], alts := [], laidByText := true, laidKinds := [.data, .data, .data, .data, .sentinel, .sentinel, .pinned], laidTests := true, laidLooks := .later }
def ExchangeKeepsWhatUptoCardSaid : Prop := Claim7.holds Tryz.pinned (.plain (OpenSpec.upto exchangeKeepsWhatSpec)) exchangeKeepsWhatUptoCard

/-- THE SECOND FORM's CARD OF 'tollhouselaw25.ExchangeKeeps'. -/
def exchangeKeepsUptoCard : Claim7 := { stood := { row := exchangeKeepsUptoRow, standIns := [], harness := (true, "b23fac80d93725b660131940cd96e4c5e9baa6bc26342d3cfd2272ab11ebf4d0"), looks := true }, kinds := [], alts := [], laidByText := true, laidKinds := [.data, .data, .data, .data, .sentinel, .sentinel, .pinned], laidTests := true, laidLooks := .later }
def ExchangeKeepsUptoCardSaid : Prop := Claim7.holds Tryz.pinned (.plain (OpenSpec.upto exchangeKeepsSpec)) exchangeKeepsUptoCard

/-- THE SECOND FORM's CARD OF 'tollhouselaw25.ExchangeKnown'. -/
def exchangeKnownUptoCard : Claim7 := { stood := { row := exchangeKnownUptoRow, standIns := [], harness := (true, "b23fac80d93725b660131940cd96e4c5e9baa6bc26342d3cfd2272ab11ebf4d0"), looks := true }, kinds := [], alts := [], laidByText := true, laidKinds := [.data, .data, .data, .data, .sentinel, .sentinel, .pinned], laidTests := true, laidLooks := .later }
def ExchangeKnownUptoCardSaid : Prop := Claim7.holds Tryz.pinned (.plain (OpenSpec.upto exchangeKnownSpec)) exchangeKnownUptoCard

/-- THE SECOND FORM's CARD OF 'tollhouselaw25.ExchangeServes'. -/
def exchangeServesUptoCard : Claim7 := { stood := { row := exchangeServesUptoRow, standIns := [], harness := (true, "b23fac80d93725b660131940cd96e4c5e9baa6bc26342d3cfd2272ab11ebf4d0"), looks := true }, kinds := [], alts := [], laidByText := true, laidKinds := [.data, .data, .data, .data, .sentinel, .sentinel, .pinned], laidTests := true, laidLooks := .later }
def ExchangeServesUptoCardSaid : Prop := Claim7.holds Tryz.pinned (.plain (OpenSpec.upto exchangeServesSpec)) exchangeServesUptoCard
end Rows
end Go.Proofs.YteenmbcmgcnkmaaGreatDoor
