/-
  DERIVED. GIVEN WITH THE SEED: THE CARDS: each row of YtcjkhdkfdnjhaaaDoorRows.lean that lists a variable, with what it lists TIED to the program's text (the seventh form; the later family's looks); each row that meets fmt, with fmt's text TOLD by the authors' own Lean function (tested against real Go, not proved from fmt's source: count such statements apart). THE CARD IS WHAT COUNTS. Prove the row's statement (the work); the ties are given (YtcjkhdkfdnjhaaaDoorTie.lean); close each card by the builder's one call (the guide's Derived/Test/ToyasCard.lean, 'card_holds'). Laid BY PROGRAM, IN A SANDBOX (cutbox-door.mjs). By AI agents, Wed Nov 11 2026. No macro, syntax, notation, axiom, sorry.
-/
import Derived.Test.YtcjkhdkfdnjhaaaDoorRows
import GoSem.ClaimSeven
namespace Go.Proofs.YtcjkhdkfdnjhaaaDoor
namespace Rows

/-- THE TIED CARD OF 'tollhouselaw02.TextWords'. -/
def textWordsCard : Claim7 := { stood := { row := textWordsRow, standIns := [], harness := (true, "95588e6c2d2cf21414dcf4a4cf22eea408392041def788eda19ec7dc10299db9"), looks := false }, kinds := [], alts := [], laidByText := true, laidKinds := [.data, .pinned], laidTests := true, laidLooks := .later }
def TextWordsCardSaid : Prop := Claim7.holds Tryd.pinned (.plain (OpenSpec.ofChange textWordsSpec)) textWordsCard

/-- THE TIED CARD OF 'tollhouselaw02.TextLists'. -/
def textListsCard : Claim7 := { stood := { row := textListsRow, standIns := [], harness := (true, "95588e6c2d2cf21414dcf4a4cf22eea408392041def788eda19ec7dc10299db9"), looks := false }, kinds := [], alts := [], laidByText := true, laidKinds := [.data, .pinned], laidTests := true, laidLooks := .later }
def TextListsCardSaid : Prop := Claim7.holds Tryd.pinned (.plain (OpenSpec.ofChange textListsSpec)) textListsCard

/-- THE TIED CARD OF 'tollhouselaw02.TextQuotes'. -/
def textQuotesCard : Claim7 := { stood := { row := textQuotesRow, standIns := [], harness := (true, "95588e6c2d2cf21414dcf4a4cf22eea408392041def788eda19ec7dc10299db9"), looks := false }, kinds := [], alts := [], laidByText := true, laidKinds := [.data, .pinned], laidTests := true, laidLooks := .later }
def TextQuotesCardSaid : Prop := Claim7.holds Tryd.pinned (.plain (OpenSpec.ofChange textQuotesSpec)) textQuotesCard

/-- THE TIED CARD OF 'tollhouselaw02.TextBack'. -/
def textBackCard : Claim7 := { stood := { row := textBackRow, standIns := [], harness := (true, "95588e6c2d2cf21414dcf4a4cf22eea408392041def788eda19ec7dc10299db9"), looks := false }, kinds := [], alts := [], laidByText := true, laidKinds := [.data, .pinned], laidTests := true, laidLooks := .later }
def TextBackCardSaid : Prop := Claim7.holds Tryd.pinned (.plain (OpenSpec.ofChange textBackSpec)) textBackCard

/-- THE TIED CARD OF 'tollhouselaw02.TextElements'. -/
def textElementsCard : Claim7 := { stood := { row := textElementsRow, standIns := [], harness := (true, "95588e6c2d2cf21414dcf4a4cf22eea408392041def788eda19ec7dc10299db9"), looks := false }, kinds := [], alts := [], laidByText := true, laidKinds := [.data, .pinned], laidTests := true, laidLooks := .later }
def TextElementsCardSaid : Prop := Claim7.holds Tryd.pinned (.plain (OpenSpec.ofChange textElementsSpec)) textElementsCard

/-- THE TIED CARD OF 'tollhouselaw02.TextForms'. -/
def textFormsCard : Claim7 := { stood := { row := textFormsRow, standIns := [], harness := (true, "95588e6c2d2cf21414dcf4a4cf22eea408392041def788eda19ec7dc10299db9"), looks := false }, kinds := [], alts := [], laidByText := true, laidKinds := [.data, .pinned], laidTests := true, laidLooks := .later }
def TextFormsCardSaid : Prop := Claim7.holds Tryd.pinned (.plain (OpenSpec.ofChange textFormsSpec)) textFormsCard

/-- THE TIED CARD OF 'tollhouselaw02.TextKnown'. -/
def textKnownCard : Claim7 := { stood := { row := textKnownRow, standIns := [], harness := (true, "95588e6c2d2cf21414dcf4a4cf22eea408392041def788eda19ec7dc10299db9"), looks := false }, kinds := [], alts := [], laidByText := true, laidKinds := [.data, .pinned], laidTests := true, laidLooks := .later }
def TextKnownCardSaid : Prop := Claim7.holds Tryd.pinned (.plain (OpenSpec.ofChange textKnownSpec)) textKnownCard

/-- THE SECOND FORM's CARD OF 'tollhouselaw02.TextWords'. -/
def textWordsUptoCard : Claim7 := { stood := { row := textWordsUptoRow, standIns := [], harness := (true, "95588e6c2d2cf21414dcf4a4cf22eea408392041def788eda19ec7dc10299db9"), looks := false }, kinds := [], alts := [], laidByText := true, laidKinds := [.data, .pinned], laidTests := true, laidLooks := .later }
def TextWordsUptoCardSaid : Prop := Claim7.holds Tryd.pinned (.plain (OpenSpec.upto textWordsSpec)) textWordsUptoCard

/-- THE SECOND FORM's CARD OF 'tollhouselaw02.TextLists'. -/
def textListsUptoCard : Claim7 := { stood := { row := textListsUptoRow, standIns := [], harness := (true, "95588e6c2d2cf21414dcf4a4cf22eea408392041def788eda19ec7dc10299db9"), looks := false }, kinds := [], alts := [], laidByText := true, laidKinds := [.data, .pinned], laidTests := true, laidLooks := .later }
def TextListsUptoCardSaid : Prop := Claim7.holds Tryd.pinned (.plain (OpenSpec.upto textListsSpec)) textListsUptoCard

/-- THE SECOND FORM's CARD OF 'tollhouselaw02.TextQuotes'. -/
def textQuotesUptoCard : Claim7 := { stood := { row := textQuotesUptoRow, standIns := [], harness := (true, "95588e6c2d2cf21414dcf4a4cf22eea408392041def788eda19ec7dc10299db9"), looks := false }, kinds := [], alts := [], laidByText := true, laidKinds := [.data, .pinned], laidTests := true, laidLooks := .later }
def TextQuotesUptoCardSaid : Prop := Claim7.holds Tryd.pinned (.plain (OpenSpec.upto textQuotesSpec)) textQuotesUptoCard

/-- THE SECOND FORM's CARD OF 'tollhouselaw02.TextBack'. -/
def textBackUptoCard : Claim7 := { stood := { row := textBackUptoRow, standIns := [], harness := (true, "95588e6c2d2cf21414dcf4a4cf22eea408392041def788eda19ec7dc10299db9"), looks := false }, kinds := [], alts := [], laidByText := true, laidKinds := [.data, .pinned], laidTests := true, laidLooks := .later }
def TextBackUptoCardSaid : Prop := Claim7.holds Tryd.pinned (.plain (OpenSpec.upto textBackSpec)) textBackUptoCard

/-- THE SECOND FORM's CARD OF 'tollhouselaw02.TextElements'. -/
def textElementsUptoCard : Claim7 := { stood := { row := textElementsUptoRow, standIns := [], harness := (true, "95588e6c2d2cf21414dcf4a4cf22eea408392041def788eda19ec7dc10299db9"), looks := false }, kinds := [], alts := [], laidByText := true, laidKinds := [.data, .pinned], laidTests := true, laidLooks := .later }
def TextElementsUptoCardSaid : Prop := Claim7.holds Tryd.pinned (.plain (OpenSpec.upto textElementsSpec)) textElementsUptoCard

/-- THE SECOND FORM's CARD OF 'tollhouselaw02.TextForms'. -/
def textFormsUptoCard : Claim7 := { stood := { row := textFormsUptoRow, standIns := [], harness := (true, "95588e6c2d2cf21414dcf4a4cf22eea408392041def788eda19ec7dc10299db9"), looks := false }, kinds := [], alts := [], laidByText := true, laidKinds := [.data, .pinned], laidTests := true, laidLooks := .later }
def TextFormsUptoCardSaid : Prop := Claim7.holds Tryd.pinned (.plain (OpenSpec.upto textFormsSpec)) textFormsUptoCard

/-- THE SECOND FORM's CARD OF 'tollhouselaw02.TextKnown'. -/
def textKnownUptoCard : Claim7 := { stood := { row := textKnownUptoRow, standIns := [], harness := (true, "95588e6c2d2cf21414dcf4a4cf22eea408392041def788eda19ec7dc10299db9"), looks := false }, kinds := [], alts := [], laidByText := true, laidKinds := [.data, .pinned], laidTests := true, laidLooks := .later }
def TextKnownUptoCardSaid : Prop := Claim7.holds Tryd.pinned (.plain (OpenSpec.upto textKnownSpec)) textKnownUptoCard
end Rows
end Go.Proofs.YtcjkhdkfdnjhaaaDoor
