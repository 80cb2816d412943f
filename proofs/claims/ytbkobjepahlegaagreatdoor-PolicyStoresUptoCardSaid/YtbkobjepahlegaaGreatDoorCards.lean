/-
  DERIVED. GIVEN WITH THE SEED: THE CARDS: each row of YtbkobjepahlegaaGreatDoorRows.lean that lists a variable, with what it lists TIED to the program's text (the seventh form; the later family's looks); each row that meets fmt, with fmt's text TOLD by the authors' own Lean function (tested against real Go, not proved from fmt's source: count such statements apart). THE CARD IS WHAT COUNTS. Prove the row's statement (the work); the ties are given (YtbkobjepahlegaaGreatDoorTie.lean); close each card by the builder's one call (the guide's Derived/Test/ToyasCard.lean, 'card_holds'). Laid BY PROGRAM, IN A SANDBOX (cutbox-door.mjs). By AI agents, Wed Nov 11 2026. No macro, syntax, notation, axiom, sorry.
-/
import Derived.Test.YtbkobjepahlegaaGreatDoorRows
import GoSem.ClaimSeven
namespace Go.Proofs.YtbkobjepahlegaaGreatDoor
namespace Rows

/-- THE TIED CARD OF 'tollhouselaw18.PolicyStores'. -/
def policyStoresCard : Claim7 := { stood := { row := policyStoresRow, standIns := [], harness := (true, "468b2950caa2f923c7ee28d1bcea39018b6a9633dd7ec7ecef7e2a86974b7486"), looks := false }, kinds := [], alts := [], laidByText := true, laidKinds := [.data, .pinned], laidTests := true, laidLooks := .later }
def PolicyStoresCardSaid : Prop := Claim7.holds Tryz.pinned (.plain (OpenSpec.ofChange policyStoresSpec)) policyStoresCard

/-- THE TIED CARD OF 'tollhouselaw18.PolicyReuses'. -/
def policyReusesCard : Claim7 := { stood := { row := policyReusesRow, standIns := [], harness := (true, "468b2950caa2f923c7ee28d1bcea39018b6a9633dd7ec7ecef7e2a86974b7486"), looks := false }, kinds := [], alts := [], laidByText := true, laidKinds := [.data, .pinned], laidTests := true, laidLooks := .later }
def PolicyReusesCardSaid : Prop := Claim7.holds Tryz.pinned (.plain (OpenSpec.ofChange policyReusesSpec)) policyReusesCard

/-- THE TIED CARD OF 'tollhouselaw18.PolicyKeeps'. -/
def policyKeepsCard : Claim7 := { stood := { row := policyKeepsRow, standIns := [], harness := (true, "468b2950caa2f923c7ee28d1bcea39018b6a9633dd7ec7ecef7e2a86974b7486"), looks := false }, kinds := [], alts := [], laidByText := true, laidKinds := [.data, .pinned], laidTests := true, laidLooks := .later }
def PolicyKeepsCardSaid : Prop := Claim7.holds Tryz.pinned (.plain (OpenSpec.ofChange policyKeepsSpec)) policyKeepsCard

/-- THE TIED CARD OF 'tollhouselaw18.PolicyOlder'. -/
def policyOlderCard : Claim7 := { stood := { row := policyOlderRow, standIns := [], harness := (true, "468b2950caa2f923c7ee28d1bcea39018b6a9633dd7ec7ecef7e2a86974b7486"), looks := false }, kinds := [], alts := [], laidByText := true, laidKinds := [.data, .pinned], laidTests := true, laidLooks := .later }
def PolicyOlderCardSaid : Prop := Claim7.holds Tryz.pinned (.plain (OpenSpec.ofChange policyOlderSpec)) policyOlderCard

/-- THE TIED CARD OF 'tollhouselaw18.PolicyAsks'. -/
def policyAsksCard : Claim7 := { stood := { row := policyAsksRow, standIns := [], harness := (true, "468b2950caa2f923c7ee28d1bcea39018b6a9633dd7ec7ecef7e2a86974b7486"), looks := false }, kinds := [], alts := [], laidByText := true, laidKinds := [.data, .pinned], laidTests := true, laidLooks := .later }
def PolicyAsksCardSaid : Prop := Claim7.holds Tryz.pinned (.plain (OpenSpec.ofChange policyAsksSpec)) policyAsksCard

/-- THE TIED CARD OF 'tollhouselaw18.PolicyRequests'. -/
def policyRequestsCard : Claim7 := { stood := { row := policyRequestsRow, standIns := [], harness := (true, "468b2950caa2f923c7ee28d1bcea39018b6a9633dd7ec7ecef7e2a86974b7486"), looks := false }, kinds := [], alts := [], laidByText := true, laidKinds := [.data, .pinned], laidTests := true, laidLooks := .later }
def PolicyRequestsCardSaid : Prop := Claim7.holds Tryz.pinned (.plain (OpenSpec.ofChange policyRequestsSpec)) policyRequestsCard

/-- THE TIED CARD OF 'tollhouselaw18.PolicyLeave'. -/
def policyLeaveCard : Claim7 := { stood := { row := policyLeaveRow, standIns := [], harness := (true, "468b2950caa2f923c7ee28d1bcea39018b6a9633dd7ec7ecef7e2a86974b7486"), looks := false }, kinds := [], alts := [], laidByText := true, laidKinds := [.data, .pinned], laidTests := true, laidLooks := .later }
def PolicyLeaveCardSaid : Prop := Claim7.holds Tryz.pinned (.plain (OpenSpec.ofChange policyLeaveSpec)) policyLeaveCard

/-- THE TIED CARD OF 'tollhouselaw18.PolicyKnown'. -/
def policyKnownCard : Claim7 := { stood := { row := policyKnownRow, standIns := [], harness := (true, "468b2950caa2f923c7ee28d1bcea39018b6a9633dd7ec7ecef7e2a86974b7486"), looks := false }, kinds := [], alts := [], laidByText := true, laidKinds := [.data, .pinned], laidTests := true, laidLooks := .later }
def PolicyKnownCardSaid : Prop := Claim7.holds Tryz.pinned (.plain (OpenSpec.ofChange policyKnownSpec)) policyKnownCard

/-- THE TIED CARD OF 'tollhouselaw18.PolicyMore'. -/
def policyMoreCard : Claim7 := { stood := { row := policyMoreRow, standIns := [], harness := (true, "468b2950caa2f923c7ee28d1bcea39018b6a9633dd7ec7ecef7e2a86974b7486"), looks := false }, kinds := [], alts := [], laidByText := true, laidKinds := [.data, .pinned], laidTests := true, laidLooks := .later }
def PolicyMoreCardSaid : Prop := Claim7.holds Tryz.pinned (.plain (OpenSpec.ofChange policyMoreSpec)) policyMoreCard

/-- THE SECOND FORM's CARD OF 'tollhouselaw18.PolicyStores'. -/
def policyStoresUptoCard : Claim7 := { stood := { row := policyStoresUptoRow, standIns := [], harness := (true, "468b2950caa2f923c7ee28d1bcea39018b6a9633dd7ec7ecef7e2a86974b7486"), looks := false }, kinds := [], alts := [], laidByText := true, laidKinds := [.data, .pinned], laidTests := true, laidLooks := .later }
def PolicyStoresUptoCardSaid : Prop := Claim7.holds Tryz.pinned (.plain (OpenSpec.upto policyStoresSpec)) policyStoresUptoCard

/-- THE SECOND FORM's CARD OF 'tollhouselaw18.PolicyReuses'. -/
def policyReusesUptoCard : Claim7 := { stood := { row := policyReusesUptoRow, standIns := [], harness := (true, "468b2950caa2f923c7ee28d1bcea39018b6a9633dd7ec7ecef7e2a86974b7486"), looks := false }, kinds := [], alts := [], laidByText := true, laidKinds := [.data, .pinned], laidTests := true, laidLooks := .later }
def PolicyReusesUptoCardSaid : Prop := Claim7.holds Tryz.pinned (.plain (OpenSpec.upto policyReusesSpec)) policyReusesUptoCard

/-- THE SECOND FORM's CARD OF 'tollhouselaw18.PolicyKeeps'. -/
def policyKeepsUptoCard : Claim7 := { stood := { row := policyKeepsUptoRow, standIns := [], harness := (true, "468b2950caa2f923c7ee28d1bcea39018b6a9633dd7ec7ecef7e2a86974b7486"), looks := false }, kinds := [], alts := [], laidByText := true, laidKinds := [.data, .pinned], laidTests := true, laidLooks := .later }
def PolicyKeepsUptoCardSaid : Prop := Claim7.holds Tryz.pinned (.plain (OpenSpec.upto policyKeepsSpec)) policyKeepsUptoCard

/-- THE SECOND FORM's CARD OF 'tollhouselaw18.PolicyOlder'. -/
def policyOlderUptoCard : Claim7 := { stood := { row := policyOlderUptoRow, standIns := [], harness := (true, "468b2950caa2f923c7ee28d1bcea39018b6a9633dd7ec7ecef7e2a86974b7486"), looks := false }, kinds := [], alts := [], laidByText := true, laidKinds := [.data, .pinned], laidTests := true, laidLooks := .later }
def PolicyOlderUptoCardSaid : Prop := Claim7.holds Tryz.pinned (.plain (OpenSpec.upto policyOlderSpec)) policyOlderUptoCard

/-- THE SECOND FORM's CARD OF 'tollhouselaw18.PolicyAsks'. -/
def policyAsksUptoCard : Claim7 := { stood := { row := policyAsksUptoRow, standIns := [], harness := (true, "468b2950caa2f923c7ee28d1bcea39018b6a9633dd7ec7ecef7e2a86974b7486"), looks := false }, kinds := [], alts := [], laidByText := true, laidKinds := [.data, .pinned], laidTests := true, laidLooks := .later }
def PolicyAsksUptoCardSaid : Prop := Claim7.holds Tryz.pinned (.plain (OpenSpec.upto policyAsksSpec)) policyAsksUptoCard

/-- THE SECOND FORM's CARD OF 'tollhouselaw18.PolicyRequests'. -/
def policyRequestsUptoCard : Claim7 := { stood := { row := policyRequestsUptoRow, standIns := [], harness := (true, "468b2950caa2f923c7ee28d1bcea39018b6a9633dd7ec7ecef7e2a86974b7486"), looks := false }, kinds := [], alts := [], laidByText := true, laidKinds := [.data, .pinned], laidTests := true, laidLooks := .later }
def PolicyRequestsUptoCardSaid : Prop := Claim7.holds Tryz.pinned (.plain (OpenSpec.upto policyRequestsSpec)) policyRequestsUptoCard

/-- THE SECOND FORM's CARD OF 'tollhouselaw18.PolicyLeave'. -/
def policyLeaveUptoCard : Claim7 := { stood := { row := policyLeaveUptoRow, standIns := [], harness := (true, "468b2950caa2f923c7ee28d1bcea39018b6a9633dd7ec7ecef7e2a86974b7486"), looks := false }, kinds := [], alts := [], laidByText := true, laidKinds := [.data, .pinned], laidTests := true, laidLooks := .later }
def PolicyLeaveUptoCardSaid : Prop := Claim7.holds Tryz.pinned (.plain (OpenSpec.upto policyLeaveSpec)) policyLeaveUptoCard

/-- THE SECOND FORM's CARD OF 'tollhouselaw18.PolicyKnown'. -/
def policyKnownUptoCard : Claim7 := { stood := { row := policyKnownUptoRow, standIns := [], harness := (true, "468b2950caa2f923c7ee28d1bcea39018b6a9633dd7ec7ecef7e2a86974b7486"), looks := false }, kinds := [], alts := [], laidByText := true, laidKinds := [.data, .pinned], laidTests := true, laidLooks := .later }
def PolicyKnownUptoCardSaid : Prop := Claim7.holds Tryz.pinned (.plain (OpenSpec.upto policyKnownSpec)) policyKnownUptoCard

/-- THE SECOND FORM's CARD OF 'tollhouselaw18.PolicyMore'. -/
def policyMoreUptoCard : Claim7 := { stood := { row := policyMoreUptoRow, standIns := [], harness := (true, "468b2950caa2f923c7ee28d1bcea39018b6a9633dd7ec7ecef7e2a86974b7486"), looks := false }, kinds := [], alts := [], laidByText := true, laidKinds := [.data, .pinned], laidTests := true, laidLooks := .later }
def PolicyMoreUptoCardSaid : Prop := Claim7.holds Tryz.pinned (.plain (OpenSpec.upto policyMoreSpec)) policyMoreUptoCard
end Rows
end Go.Proofs.YtbkobjepahlegaaGreatDoor
