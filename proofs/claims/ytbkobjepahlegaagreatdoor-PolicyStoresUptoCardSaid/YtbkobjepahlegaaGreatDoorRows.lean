/-
  NARROWER THAN 'FOR EVERY INPUT', by the rows' own cells (each row's printed sentence says how): PolicyStores: laid · PolicyReuses: laid · PolicyKeeps: laid · PolicyOlder: laid · PolicyAsks: laid · PolicyRequests: laid · PolicyLeave: laid · PolicyKnown: laid · PolicyMore: laid.
  DERIVED. THE GIVEN ROWS OF THIS SEAT. 9 by the template 'for every input the law returns true; each argument reads behind the call as it read before'; 0 by the template 'total and deterministic' (their statements: YtbkobjepahlegaaGreatDoorTotals.lean).
  GIVEN WITH THE SEED: the statements are not yours to turn. If you find one false, say at which input.
  Laid BY PROGRAM, IN A SANDBOX (cutbox-rows.mjs): the forced cells as the released guide's own fill.sh prints them over the translation b6b2120f070dfe77… (all of the seat's roots in one cut). By AI agents, Wed Nov 11 2026. No macro, syntax, notation, axiom, sorry.
-/
import Derived.Test.YtbkobjepahlegaaGreatDoorChecked
import GoSem.PinnedTables
import GoSem.Claim
import GoSem.ClaimJoined
import GoSem.ClaimMapViews
import Derived.JoinedTies
import Derived.KernelRfl
namespace Go.Proofs.YtbkobjepahlegaaGreatDoor
/- THE CELL 'sum', in the pinned program and in every row, IS THE sha256 OF THE DUMP (.gsa) THAT YtbkobjepahlegaaGreatDoorProg.lean LOADS. Nothing in Lean hashes anything: it is a label: what it is worth is what the hold of that sum in a sandbox is worth. -/
noncomputable def Tryz.pinned : Pinned := { name := "ytbkobjepahlegaagreatdoor", sum := "b6b2120f070dfe7799d31ffedbb7331bcef7575c696b2b45ef4e898c591575c3", checked := Tryz.checked }
namespace Rows
def none {H : Type} : Left H := { results := [], args := [] }

/- WHAT THE LISTED PACKAGE-LEVEL VARIABLES READ AS WHEN THE CALL BEGINS. Each datum BY PROGRAM (the guide's laid-datum.mjs) off the statement by which the dump's own 'gosem.cut.vars' lays the variable. In a bare row this is a premise. The card (YtbkobjepahlegaaGreatDoorCards.lean) ties it to the program's text. -/
def laid_unicode_utf8_acceptRanges {H : Type} : DataW H := .agg [.agg [.lit (.int .u8 128), .lit (.int .u8 191)], .agg [.lit (.int .u8 160), .lit (.int .u8 191)], .agg [.lit (.int .u8 128), .lit (.int .u8 159)], .agg [.lit (.int .u8 144), .lit (.int .u8 191)], .agg [.lit (.int .u8 128), .lit (.int .u8 143)], .agg [.lit (.int .u8 0), .lit (.int .u8 0)], .agg [.lit (.int .u8 0), .lit (.int .u8 0)], .agg [.lit (.int .u8 0), .lit (.int .u8 0)], .agg [.lit (.int .u8 0), .lit (.int .u8 0)], .agg [.lit (.int .u8 0), .lit (.int .u8 0)], .agg [.lit (.int .u8 0), .lit (.int .u8 0)], .agg [.lit (.int .u8 0), .lit (.int .u8 0)], .agg [.lit (.int .u8 0), .lit (.int .u8 0)], .agg [.lit (.int .u8 0), .lit (.int .u8 0)], .agg [.lit (.int .u8 0), .lit (.int .u8 0)], .agg [.lit (.int .u8 0), .lit (.int .u8 0)]]
/-- One of Go's own tables, pinned by name: the form's constant. -/
def laid_unicode_utf8_first : DataW Unit := Go.Pinned.utf8First

/-- 'tollhouselaw18.PolicyStores': WHATEVER THE INPUT: true; the input reads as it did. -/
def policyStoresSpec : ChangeSpec := { name := "policyStores", fn := fun _ => fun
  | [d1, d2] => { results := [.lit (.bool true)], args := [d1, d2] }
  | _ => none }
def policyStoresRow : OpenClaim := { program := "ytbkobjepahlegaagreatdoor", sum := "b6b2120f070dfe7799d31ffedbb7331bcef7575c696b2b45ef4e898c591575c3", func := "tollhouse/tollhouselaw18.PolicyStores", spec := "policyStores", inPlace := ["internal/bytealg.IndexByteString", "internal/bytealg.IndexString"], unfollowed := true, recurses := true, named := ["unicode/utf8.first", "unicode/utf8.acceptRanges", "internal/bytealg.MaxLen"], apart := false, laid := [("unicode/utf8.acceptRanges", laid_unicode_utf8_acceptRanges), ("unicode/utf8.first", laid_unicode_utf8_first)] }
def PolicyStoresSaid : Prop := policyStoresRow.holds Tryz.pinned (OpenSpec.ofChange policyStoresSpec)

/-- ITS FALSE NEIGHBOUR: 'it returns false'. Refute it at one input. -/
def policyStoresWrong : ChangeSpec := { name := "policyStores", fn := fun _ => fun
  | [d1, d2] => { results := [.lit (.bool false)], args := [d1, d2] }
  | _ => none }
def PolicyStoresWrongFalsely : Prop := policyStoresRow.holds Tryz.pinned (OpenSpec.ofChange policyStoresWrong)

/-- 'tollhouselaw18.PolicyReuses': WHATEVER THE INPUT: true; the input reads as it did. -/
def policyReusesSpec : ChangeSpec := { name := "policyReuses", fn := fun _ => fun
  | [d1, d2, d3] => { results := [.lit (.bool true)], args := [d1, d2, d3] }
  | _ => none }
def policyReusesRow : OpenClaim := { program := "ytbkobjepahlegaagreatdoor", sum := "b6b2120f070dfe7799d31ffedbb7331bcef7575c696b2b45ef4e898c591575c3", func := "tollhouse/tollhouselaw18.PolicyReuses", spec := "policyReuses", inPlace := ["internal/bytealg.IndexByteString", "internal/bytealg.IndexString"], unfollowed := true, recurses := true, named := ["unicode/utf8.first", "unicode/utf8.acceptRanges", "internal/bytealg.MaxLen"], apart := false, laid := [("unicode/utf8.acceptRanges", laid_unicode_utf8_acceptRanges), ("unicode/utf8.first", laid_unicode_utf8_first)] }
def PolicyReusesSaid : Prop := policyReusesRow.holds Tryz.pinned (OpenSpec.ofChange policyReusesSpec)

/-- ITS FALSE NEIGHBOUR: 'it returns false'. Refute it at one input. -/
def policyReusesWrong : ChangeSpec := { name := "policyReuses", fn := fun _ => fun
  | [d1, d2, d3] => { results := [.lit (.bool false)], args := [d1, d2, d3] }
  | _ => none }
def PolicyReusesWrongFalsely : Prop := policyReusesRow.holds Tryz.pinned (OpenSpec.ofChange policyReusesWrong)

/-- 'tollhouselaw18.PolicyKeeps': WHATEVER THE INPUT: true; the input reads as it did. -/
def policyKeepsSpec : ChangeSpec := { name := "policyKeeps", fn := fun _ => fun
  | [d1, d2, d3] => { results := [.lit (.bool true)], args := [d1, d2, d3] }
  | _ => none }
def policyKeepsRow : OpenClaim := { program := "ytbkobjepahlegaagreatdoor", sum := "b6b2120f070dfe7799d31ffedbb7331bcef7575c696b2b45ef4e898c591575c3", func := "tollhouse/tollhouselaw18.PolicyKeeps", spec := "policyKeeps", inPlace := ["internal/bytealg.IndexByteString", "internal/bytealg.IndexString"], unfollowed := true, recurses := true, named := ["unicode/utf8.first", "unicode/utf8.acceptRanges", "internal/bytealg.MaxLen"], apart := false, laid := [("unicode/utf8.acceptRanges", laid_unicode_utf8_acceptRanges), ("unicode/utf8.first", laid_unicode_utf8_first)] }
def PolicyKeepsSaid : Prop := policyKeepsRow.holds Tryz.pinned (OpenSpec.ofChange policyKeepsSpec)

/-- ITS FALSE NEIGHBOUR: 'it returns false'. Refute it at one input. -/
def policyKeepsWrong : ChangeSpec := { name := "policyKeeps", fn := fun _ => fun
  | [d1, d2, d3] => { results := [.lit (.bool false)], args := [d1, d2, d3] }
  | _ => none }
def PolicyKeepsWrongFalsely : Prop := policyKeepsRow.holds Tryz.pinned (OpenSpec.ofChange policyKeepsWrong)

/-- 'tollhouselaw18.PolicyOlder': WHATEVER THE INPUT: true; the input reads as it did. -/
def policyOlderSpec : ChangeSpec := { name := "policyOlder", fn := fun _ => fun
  | [d1, d2, d3, d4] => { results := [.lit (.bool true)], args := [d1, d2, d3, d4] }
  | _ => none }
def policyOlderRow : OpenClaim := { program := "ytbkobjepahlegaagreatdoor", sum := "b6b2120f070dfe7799d31ffedbb7331bcef7575c696b2b45ef4e898c591575c3", func := "tollhouse/tollhouselaw18.PolicyOlder", spec := "policyOlder", inPlace := ["internal/bytealg.IndexByteString", "internal/bytealg.IndexString"], unfollowed := true, recurses := true, named := ["unicode/utf8.first", "unicode/utf8.acceptRanges", "internal/bytealg.MaxLen"], apart := false, laid := [("unicode/utf8.acceptRanges", laid_unicode_utf8_acceptRanges), ("unicode/utf8.first", laid_unicode_utf8_first)] }
def PolicyOlderSaid : Prop := policyOlderRow.holds Tryz.pinned (OpenSpec.ofChange policyOlderSpec)

/-- ITS FALSE NEIGHBOUR: 'it returns false'. Refute it at one input. -/
def policyOlderWrong : ChangeSpec := { name := "policyOlder", fn := fun _ => fun
  | [d1, d2, d3, d4] => { results := [.lit (.bool false)], args := [d1, d2, d3, d4] }
  | _ => none }
def PolicyOlderWrongFalsely : Prop := policyOlderRow.holds Tryz.pinned (OpenSpec.ofChange policyOlderWrong)

/-- 'tollhouselaw18.PolicyAsks': WHATEVER THE INPUT: true; the input reads as it did. -/
def policyAsksSpec : ChangeSpec := { name := "policyAsks", fn := fun _ => fun
  | [d1, d2] => { results := [.lit (.bool true)], args := [d1, d2] }
  | _ => none }
def policyAsksRow : OpenClaim := { program := "ytbkobjepahlegaagreatdoor", sum := "b6b2120f070dfe7799d31ffedbb7331bcef7575c696b2b45ef4e898c591575c3", func := "tollhouse/tollhouselaw18.PolicyAsks", spec := "policyAsks", inPlace := ["internal/bytealg.IndexByteString", "internal/bytealg.IndexString"], unfollowed := true, recurses := true, named := ["internal/bytealg.MaxLen", "unicode/utf8.first", "unicode/utf8.acceptRanges"], apart := false, laid := [("unicode/utf8.acceptRanges", laid_unicode_utf8_acceptRanges), ("unicode/utf8.first", laid_unicode_utf8_first)] }
def PolicyAsksSaid : Prop := policyAsksRow.holds Tryz.pinned (OpenSpec.ofChange policyAsksSpec)

/-- ITS FALSE NEIGHBOUR: 'it returns false'. Refute it at one input. -/
def policyAsksWrong : ChangeSpec := { name := "policyAsks", fn := fun _ => fun
  | [d1, d2] => { results := [.lit (.bool false)], args := [d1, d2] }
  | _ => none }
def PolicyAsksWrongFalsely : Prop := policyAsksRow.holds Tryz.pinned (OpenSpec.ofChange policyAsksWrong)

/-- 'tollhouselaw18.PolicyRequests': WHATEVER THE INPUT: true; the input reads as it did. -/
def policyRequestsSpec : ChangeSpec := { name := "policyRequests", fn := fun _ => fun
  | [d1, d2, d3] => { results := [.lit (.bool true)], args := [d1, d2, d3] }
  | _ => none }
def policyRequestsRow : OpenClaim := { program := "ytbkobjepahlegaagreatdoor", sum := "b6b2120f070dfe7799d31ffedbb7331bcef7575c696b2b45ef4e898c591575c3", func := "tollhouse/tollhouselaw18.PolicyRequests", spec := "policyRequests", inPlace := ["internal/bytealg.IndexByteString", "internal/bytealg.IndexString"], unfollowed := true, recurses := true, named := ["unicode/utf8.first", "unicode/utf8.acceptRanges", "internal/bytealg.MaxLen"], apart := false, laid := [("unicode/utf8.acceptRanges", laid_unicode_utf8_acceptRanges), ("unicode/utf8.first", laid_unicode_utf8_first)] }
def PolicyRequestsSaid : Prop := policyRequestsRow.holds Tryz.pinned (OpenSpec.ofChange policyRequestsSpec)

/-- ITS FALSE NEIGHBOUR: 'it returns false'. Refute it at one input. -/
def policyRequestsWrong : ChangeSpec := { name := "policyRequests", fn := fun _ => fun
  | [d1, d2, d3] => { results := [.lit (.bool false)], args := [d1, d2, d3] }
  | _ => none }
def PolicyRequestsWrongFalsely : Prop := policyRequestsRow.holds Tryz.pinned (OpenSpec.ofChange policyRequestsWrong)

/-- 'tollhouselaw18.PolicyLeave': WHATEVER THE INPUT: true; the input reads as it did. -/
def policyLeaveSpec : ChangeSpec := { name := "policyLeave", fn := fun _ => fun
  | [d1, d2] => { results := [.lit (.bool true)], args := [d1, d2] }
  | _ => none }
def policyLeaveRow : OpenClaim := { program := "ytbkobjepahlegaagreatdoor", sum := "b6b2120f070dfe7799d31ffedbb7331bcef7575c696b2b45ef4e898c591575c3", func := "tollhouse/tollhouselaw18.PolicyLeave", spec := "policyLeave", inPlace := ["internal/bytealg.IndexByteString", "internal/bytealg.IndexString"], unfollowed := true, recurses := true, named := ["unicode/utf8.first", "unicode/utf8.acceptRanges", "internal/bytealg.MaxLen"], apart := false, laid := [("unicode/utf8.acceptRanges", laid_unicode_utf8_acceptRanges), ("unicode/utf8.first", laid_unicode_utf8_first)] }
def PolicyLeaveSaid : Prop := policyLeaveRow.holds Tryz.pinned (OpenSpec.ofChange policyLeaveSpec)

/-- ITS FALSE NEIGHBOUR: 'it returns false'. Refute it at one input. -/
def policyLeaveWrong : ChangeSpec := { name := "policyLeave", fn := fun _ => fun
  | [d1, d2] => { results := [.lit (.bool false)], args := [d1, d2] }
  | _ => none }
def PolicyLeaveWrongFalsely : Prop := policyLeaveRow.holds Tryz.pinned (OpenSpec.ofChange policyLeaveWrong)

/-- 'tollhouselaw18.PolicyKnown': WHATEVER THE INPUT: true; the input reads as it did. -/
def policyKnownSpec : ChangeSpec := { name := "policyKnown", fn := fun _ => fun
  | [] => { results := [.lit (.bool true)], args := [] }
  | _ => none }
def policyKnownRow : OpenClaim := { program := "ytbkobjepahlegaagreatdoor", sum := "b6b2120f070dfe7799d31ffedbb7331bcef7575c696b2b45ef4e898c591575c3", func := "tollhouse/tollhouselaw18.PolicyKnown", spec := "policyKnown", inPlace := ["internal/bytealg.IndexByteString", "internal/bytealg.IndexString"], unfollowed := true, recurses := true, named := ["unicode/utf8.first", "unicode/utf8.acceptRanges", "internal/bytealg.MaxLen"], apart := false, laid := [("unicode/utf8.acceptRanges", laid_unicode_utf8_acceptRanges), ("unicode/utf8.first", laid_unicode_utf8_first)] }
def PolicyKnownSaid : Prop := policyKnownRow.holds Tryz.pinned (OpenSpec.ofChange policyKnownSpec)

/-- ITS FALSE NEIGHBOUR: 'it returns false'. Refute it at one input. -/
def policyKnownWrong : ChangeSpec := { name := "policyKnown", fn := fun _ => fun
  | [] => { results := [.lit (.bool false)], args := [] }
  | _ => none }
def PolicyKnownWrongFalsely : Prop := policyKnownRow.holds Tryz.pinned (OpenSpec.ofChange policyKnownWrong)

/-- 'tollhouselaw18.PolicyMore': WHATEVER THE INPUT: true; the input reads as it did. -/
def policyMoreSpec : ChangeSpec := { name := "policyMore", fn := fun _ => fun
  | [d1, d2, d3, d4] => { results := [.lit (.bool true)], args := [d1, d2, d3, d4] }
  | _ => none }
def policyMoreRow : OpenClaim := { program := "ytbkobjepahlegaagreatdoor", sum := "b6b2120f070dfe7799d31ffedbb7331bcef7575c696b2b45ef4e898c591575c3", func := "tollhouse/tollhouselaw18.PolicyMore", spec := "policyMore", inPlace := ["internal/bytealg.IndexByteString", "internal/bytealg.IndexString"], unfollowed := true, recurses := true, named := ["unicode/utf8.first", "unicode/utf8.acceptRanges", "internal/bytealg.MaxLen"], apart := false, laid := [("unicode/utf8.acceptRanges", laid_unicode_utf8_acceptRanges), ("unicode/utf8.first", laid_unicode_utf8_first)] }
def PolicyMoreSaid : Prop := policyMoreRow.holds Tryz.pinned (OpenSpec.ofChange policyMoreSpec)

/-- ITS FALSE NEIGHBOUR: 'it returns false'. Refute it at one input. -/
def policyMoreWrong : ChangeSpec := { name := "policyMore", fn := fun _ => fun
  | [d1, d2, d3, d4] => { results := [.lit (.bool false)], args := [d1, d2, d3, d4] }
  | _ => none }
def PolicyMoreWrongFalsely : Prop := policyMoreRow.holds Tryz.pinned (OpenSpec.ofChange policyMoreWrong)

/- THE SECOND FORM. 'bulk': how many values and letters a reading holds, each counted each time it is reached (what is shared counts as often as it is met; a slice's spare places count too). A statement '..UptoSaid' is the law's where the arguments, and the package variables that the reading takes, are together of bulk at most 1048576: NARROWER than '..Said'. Prove '..Said' where nothing that the law and all that it calls make is longer than what came in: it says more and counts as full. Else prove '..UptoSaid'. A law counts once. -/
mutual
def uptoBulk {H : Type} : DataW H → Nat
  | .lit (.string bytes) => bytes.length + 1
  | .lit _ => 1
  | .nil => 1
  | .ptr d => uptoBulk d + 1
  | .slice elems spare => uptoBulkAll elems + uptoBulkAll spare + 1
  | .agg parts => uptoBulkAll parts + 1
  | .iface _ d => uptoBulk d + 1
  | .map entries => uptoBulkEntries entries + 1
  | .held _ => 1
def uptoBulkAll {H : Type} : List (DataW H) → Nat
  | [] => 0
  | d :: r => uptoBulk d + uptoBulkAll r
def uptoBulkEntries {H : Type} : List (Lit × DataW H) → Nat
  | [] => 0
  | x :: r => uptoBulkEntry x + uptoBulkEntries r
def uptoBulkEntry {H : Type} : Lit × DataW H → Nat
  | (.string bytes, d) => bytes.length + uptoBulk d + 1
  | (_, d) => uptoBulk d + 1
 end
def uptoSmall : (H : Type) → List (DataW H) → Bool := fun _ ds => decide (uptoBulkAll ds ≤ 1048576)
def OpenSpec.upto (s : _root_.Go.ChangeSpec) : _root_.Go.OpenSpec := { _root_.Go.OpenSpec.ofChange s with cond := some uptoSmall }

/-- 'tollhouselaw18.PolicyStores', WHERE WHAT IT READS IS OF BULK AT MOST 1048576: true; the input reads as it did. -/
def policyStoresUptoRow : OpenClaim := { program := "ytbkobjepahlegaagreatdoor", sum := "b6b2120f070dfe7799d31ffedbb7331bcef7575c696b2b45ef4e898c591575c3", func := "tollhouse/tollhouselaw18.PolicyStores", spec := "policyStores", inPlace := ["internal/bytealg.IndexByteString", "internal/bytealg.IndexString"], unfollowed := true, recurses := true, named := ["unicode/utf8.first", "unicode/utf8.acceptRanges", "internal/bytealg.MaxLen"], apart := false, laid := [("unicode/utf8.acceptRanges", laid_unicode_utf8_acceptRanges), ("unicode/utf8.first", laid_unicode_utf8_first)], narrowed := true }
def PolicyStoresUptoSaid : Prop := policyStoresUptoRow.holds Tryz.pinned (OpenSpec.upto policyStoresSpec)

/-- 'tollhouselaw18.PolicyReuses', WHERE WHAT IT READS IS OF BULK AT MOST 1048576: true; the input reads as it did. -/
def policyReusesUptoRow : OpenClaim := { program := "ytbkobjepahlegaagreatdoor", sum := "b6b2120f070dfe7799d31ffedbb7331bcef7575c696b2b45ef4e898c591575c3", func := "tollhouse/tollhouselaw18.PolicyReuses", spec := "policyReuses", inPlace := ["internal/bytealg.IndexByteString", "internal/bytealg.IndexString"], unfollowed := true, recurses := true, named := ["unicode/utf8.first", "unicode/utf8.acceptRanges", "internal/bytealg.MaxLen"], apart := false, laid := [("unicode/utf8.acceptRanges", laid_unicode_utf8_acceptRanges), ("unicode/utf8.first", laid_unicode_utf8_first)], narrowed := true }
def PolicyReusesUptoSaid : Prop := policyReusesUptoRow.holds Tryz.pinned (OpenSpec.upto policyReusesSpec)

/-- 'tollhouselaw18.PolicyKeeps', WHERE WHAT IT READS IS OF BULK AT MOST 1048576: true; the input reads as it did. -/
def policyKeepsUptoRow : OpenClaim := { program := "ytbkobjepahlegaagreatdoor", sum := "b6b2120f070dfe7799d31ffedbb7331bcef7575c696b2b45ef4e898c591575c3", func := "tollhouse/tollhouselaw18.PolicyKeeps", spec := "policyKeeps", inPlace := ["internal/bytealg.IndexByteString", "internal/bytealg.IndexString"], unfollowed := true, recurses := true, named := ["unicode/utf8.first", "unicode/utf8.acceptRanges", "internal/bytealg.MaxLen"], apart := false, laid := [("unicode/utf8.acceptRanges", laid_unicode_utf8_acceptRanges), ("unicode/utf8.first", laid_unicode_utf8_first)], narrowed := true }
def PolicyKeepsUptoSaid : Prop := policyKeepsUptoRow.holds Tryz.pinned (OpenSpec.upto policyKeepsSpec)

/-- 'tollhouselaw18.PolicyOlder', WHERE WHAT IT READS IS OF BULK AT MOST 1048576: true; the input reads as it did. -/
def policyOlderUptoRow : OpenClaim := { program := "ytbkobjepahlegaagreatdoor", sum := "b6b2120f070dfe7799d31ffedbb7331bcef7575c696b2b45ef4e898c591575c3", func := "tollhouse/tollhouselaw18.PolicyOlder", spec := "policyOlder", inPlace := ["internal/bytealg.IndexByteString", "internal/bytealg.IndexString"], unfollowed := true, recurses := true, named := ["unicode/utf8.first", "unicode/utf8.acceptRanges", "internal/bytealg.MaxLen"], apart := false, laid := [("unicode/utf8.acceptRanges", laid_unicode_utf8_acceptRanges), ("unicode/utf8.first", laid_unicode_utf8_first)], narrowed := true }
def PolicyOlderUptoSaid : Prop := policyOlderUptoRow.holds Tryz.pinned (OpenSpec.upto policyOlderSpec)

/-- 'tollhouselaw18.PolicyAsks', WHERE WHAT IT READS IS OF BULK AT MOST 1048576: true; the input reads as it did. -/
def policyAsksUptoRow : OpenClaim := { program := "ytbkobjepahlegaagreatdoor", sum := "b6b2120f070dfe7799d31ffedbb7331bcef7575c696b2b45ef4e898c591575c3", func := "tollhouse/tollhouselaw18.PolicyAsks", spec := "policyAsks", inPlace := ["internal/bytealg.IndexByteString", "internal/bytealg.IndexString"], unfollowed := true, recurses := true, named := ["internal/bytealg.MaxLen", "unicode/utf8.first", "unicode/utf8.acceptRanges"], apart := false, laid := [("unicode/utf8.acceptRanges", laid_unicode_utf8_acceptRanges), ("unicode/utf8.first", laid_unicode_utf8_first)], narrowed := true }
def PolicyAsksUptoSaid : Prop := policyAsksUptoRow.holds Tryz.pinned (OpenSpec.upto policyAsksSpec)

/-- 'tollhouselaw18.PolicyRequests', WHERE WHAT IT READS IS OF BULK AT MOST 1048576: true; the input reads as it did. -/
def policyRequestsUptoRow : OpenClaim := { program := "ytbkobjepahlegaagreatdoor", sum := "b6b2120f070dfe7799d31ffedbb7331bcef7575c696b2b45ef4e898c591575c3", func := "tollhouse/tollhouselaw18.PolicyRequests", spec := "policyRequests", inPlace := ["internal/bytealg.IndexByteString", "internal/bytealg.IndexString"], unfollowed := true, recurses := true, named := ["unicode/utf8.first", "unicode/utf8.acceptRanges", "internal/bytealg.MaxLen"], apart := false, laid := [("unicode/utf8.acceptRanges", laid_unicode_utf8_acceptRanges), ("unicode/utf8.first", laid_unicode_utf8_first)], narrowed := true }
def PolicyRequestsUptoSaid : Prop := policyRequestsUptoRow.holds Tryz.pinned (OpenSpec.upto policyRequestsSpec)

/-- 'tollhouselaw18.PolicyLeave', WHERE WHAT IT READS IS OF BULK AT MOST 1048576: true; the input reads as it did. -/
def policyLeaveUptoRow : OpenClaim := { program := "ytbkobjepahlegaagreatdoor", sum := "b6b2120f070dfe7799d31ffedbb7331bcef7575c696b2b45ef4e898c591575c3", func := "tollhouse/tollhouselaw18.PolicyLeave", spec := "policyLeave", inPlace := ["internal/bytealg.IndexByteString", "internal/bytealg.IndexString"], unfollowed := true, recurses := true, named := ["unicode/utf8.first", "unicode/utf8.acceptRanges", "internal/bytealg.MaxLen"], apart := false, laid := [("unicode/utf8.acceptRanges", laid_unicode_utf8_acceptRanges), ("unicode/utf8.first", laid_unicode_utf8_first)], narrowed := true }
def PolicyLeaveUptoSaid : Prop := policyLeaveUptoRow.holds Tryz.pinned (OpenSpec.upto policyLeaveSpec)

/-- 'tollhouselaw18.PolicyKnown', WHERE WHAT IT READS IS OF BULK AT MOST 1048576: true; the input reads as it did. -/
def policyKnownUptoRow : OpenClaim := { program := "ytbkobjepahlegaagreatdoor", sum := "b6b2120f070dfe7799d31ffedbb7331bcef7575c696b2b45ef4e898c591575c3", func := "tollhouse/tollhouselaw18.PolicyKnown", spec := "policyKnown", inPlace := ["internal/bytealg.IndexByteString", "internal/bytealg.IndexString"], unfollowed := true, recurses := true, named := ["unicode/utf8.first", "unicode/utf8.acceptRanges", "internal/bytealg.MaxLen"], apart := false, laid := [("unicode/utf8.acceptRanges", laid_unicode_utf8_acceptRanges), ("unicode/utf8.first", laid_unicode_utf8_first)], narrowed := true }
def PolicyKnownUptoSaid : Prop := policyKnownUptoRow.holds Tryz.pinned (OpenSpec.upto policyKnownSpec)

/-- 'tollhouselaw18.PolicyMore', WHERE WHAT IT READS IS OF BULK AT MOST 1048576: true; the input reads as it did. -/
def policyMoreUptoRow : OpenClaim := { program := "ytbkobjepahlegaagreatdoor", sum := "b6b2120f070dfe7799d31ffedbb7331bcef7575c696b2b45ef4e898c591575c3", func := "tollhouse/tollhouselaw18.PolicyMore", spec := "policyMore", inPlace := ["internal/bytealg.IndexByteString", "internal/bytealg.IndexString"], unfollowed := true, recurses := true, named := ["unicode/utf8.first", "unicode/utf8.acceptRanges", "internal/bytealg.MaxLen"], apart := false, laid := [("unicode/utf8.acceptRanges", laid_unicode_utf8_acceptRanges), ("unicode/utf8.first", laid_unicode_utf8_first)], narrowed := true }
def PolicyMoreUptoSaid : Prop := policyMoreUptoRow.holds Tryz.pinned (OpenSpec.upto policyMoreSpec)

end Rows
end Go.Proofs.YtbkobjepahlegaaGreatDoor
