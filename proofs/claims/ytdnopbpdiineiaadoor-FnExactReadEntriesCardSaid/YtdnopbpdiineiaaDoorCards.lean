/-
  DERIVED. GIVEN WITH THE SEED: THE CARDS: each row of YtdnopbpdiineiaaDoorRows.lean that lists a variable, with what it lists TIED to the program's text (the seventh form; the later family's looks); each row that meets fmt, with fmt's text TOLD by the authors' own Lean function (tested against real Go, not proved from fmt's source: count such statements apart). THE CARD IS WHAT COUNTS. Prove the row's statement (the work); the ties are given (YtdnopbpdiineiaaDoorTie.lean); close each card by the builder's one call (the guide's Derived/Test/ToyasCard.lean, 'card_holds'). Laid BY PROGRAM, IN A SANDBOX (cutbox-door.mjs). By AI agents, Wed Nov 11 2026. No macro, syntax, notation, axiom, sorry.
-/
import Derived.Test.YtdnopbpdiineiaaDoorRows
import GoSem.ClaimSeven
namespace Go.Proofs.YtdnopbpdiineiaaDoor
namespace Rows

/-- THE TIED CARD OF 'laws.FnExactPackEntry'. -/
def fnExactPackEntryCard : Claim7 := { stood := { row := fnExactPackEntryRow, standIns := [], harness := (true, "ed738546d0bf1bacbd7ef1ae10f4db346975bd8c8524d18ba8b9122ea98d0f2a"), looks := false }, kinds := [], alts := [], laidByText := true, laidKinds := [.data, .pinned], laidTests := true, laidLooks := .later }
def FnExactPackEntryCardSaid : Prop := Claim7.holds Tryd.pinned (.plain (OpenSpec.ofChange fnExactPackEntrySpec)) fnExactPackEntryCard

/-- THE TIED CARD OF 'laws.FnExactAppendEntry'. -/
def fnExactAppendEntryCard : Claim7 := { stood := { row := fnExactAppendEntryRow, standIns := [], harness := (true, "ed738546d0bf1bacbd7ef1ae10f4db346975bd8c8524d18ba8b9122ea98d0f2a"), looks := false }, kinds := [], alts := [], laidByText := true, laidKinds := [.data, .pinned], laidTests := true, laidLooks := .later }
def FnExactAppendEntryCardSaid : Prop := Claim7.holds Tryd.pinned (.plain (OpenSpec.ofChange fnExactAppendEntrySpec)) fnExactAppendEntryCard

/-- THE TIED CARD OF 'laws.FnExactSplitAmount'. -/
def fnExactSplitAmountCard : Claim7 := { stood := { row := fnExactSplitAmountRow, standIns := [], harness := (true, "ed738546d0bf1bacbd7ef1ae10f4db346975bd8c8524d18ba8b9122ea98d0f2a"), looks := false }, kinds := [], alts := [], laidByText := true, laidKinds := [.data, .pinned], laidTests := true, laidLooks := .later }
def FnExactSplitAmountCardSaid : Prop := Claim7.holds Tryd.pinned (.plain (OpenSpec.ofChange fnExactSplitAmountSpec)) fnExactSplitAmountCard

/-- THE TIED CARD OF 'laws.FnExactReadEntries'. -/
def fnExactReadEntriesCard : Claim7 := { stood := { row := fnExactReadEntriesRow, standIns := [], harness := (true, "ed738546d0bf1bacbd7ef1ae10f4db346975bd8c8524d18ba8b9122ea98d0f2a"), looks := false }, kinds := [], alts := [], laidByText := true, laidKinds := [.data, .pinned], laidTests := true, laidLooks := .later }
def FnExactReadEntriesCardSaid : Prop := Claim7.holds Tryd.pinned (.plain (OpenSpec.ofChange fnExactReadEntriesSpec)) fnExactReadEntriesCard

/-- THE TIED CARD OF 'laws.FnExactServerFault'. -/
def fnExactServerFaultCard : Claim7 := { stood := { row := fnExactServerFaultRow, standIns := [], harness := (true, "ed738546d0bf1bacbd7ef1ae10f4db346975bd8c8524d18ba8b9122ea98d0f2a"), looks := false }, kinds := [], alts := [], laidByText := true, laidKinds := [.data, .pinned], laidTests := true, laidLooks := .later }
def FnExactServerFaultCardSaid : Prop := Claim7.holds Tryd.pinned (.plain (OpenSpec.ofChange fnExactServerFaultSpec)) fnExactServerFaultCard

/-- THE TIED CARD OF 'laws.FnExactWorkersOf'. -/
def fnExactWorkersOfCard : Claim7 := { stood := { row := fnExactWorkersOfRow, standIns := [], harness := (true, "ed738546d0bf1bacbd7ef1ae10f4db346975bd8c8524d18ba8b9122ea98d0f2a"), looks := false }, kinds := [], alts := [], laidByText := true, laidKinds := [.data, .pinned], laidTests := true, laidLooks := .later }
def FnExactWorkersOfCardSaid : Prop := Claim7.holds Tryd.pinned (.plain (OpenSpec.ofChange fnExactWorkersOfSpec)) fnExactWorkersOfCard

/-- THE TIED CARD OF 'laws.FnExactOpenSession'. -/
def fnExactOpenSessionCard : Claim7 := { stood := { row := fnExactOpenSessionRow, standIns := [], harness := (true, "ed738546d0bf1bacbd7ef1ae10f4db346975bd8c8524d18ba8b9122ea98d0f2a"), looks := false }, kinds := [], alts := [], laidByText := true, laidKinds := [.data, .pinned], laidTests := true, laidLooks := .later }
def FnExactOpenSessionCardSaid : Prop := Claim7.holds Tryd.pinned (.plain (OpenSpec.ofChange fnExactOpenSessionSpec)) fnExactOpenSessionCard

/-- THE TIED CARD OF 'laws.FnExactCloseSession'. -/
def fnExactCloseSessionCard : Claim7 := { stood := { row := fnExactCloseSessionRow, standIns := [], harness := (true, "ed738546d0bf1bacbd7ef1ae10f4db346975bd8c8524d18ba8b9122ea98d0f2a"), looks := false }, kinds := [], alts := [], laidByText := true, laidKinds := [.data, .pinned], laidTests := true, laidLooks := .later }
def FnExactCloseSessionCardSaid : Prop := Claim7.holds Tryd.pinned (.plain (OpenSpec.ofChange fnExactCloseSessionSpec)) fnExactCloseSessionCard

/-- THE SECOND FORM's CARD OF 'laws.FnExactPackEntry'. -/
def fnExactPackEntryUptoCard : Claim7 := { stood := { row := fnExactPackEntryUptoRow, standIns := [], harness := (true, "ed738546d0bf1bacbd7ef1ae10f4db346975bd8c8524d18ba8b9122ea98d0f2a"), looks := false }, kinds := [], alts := [], laidByText := true, laidKinds := [.data, .pinned], laidTests := true, laidLooks := .later }
def FnExactPackEntryUptoCardSaid : Prop := Claim7.holds Tryd.pinned (.plain (OpenSpec.upto fnExactPackEntrySpec)) fnExactPackEntryUptoCard

/-- THE SECOND FORM's CARD OF 'laws.FnExactAppendEntry'. -/
def fnExactAppendEntryUptoCard : Claim7 := { stood := { row := fnExactAppendEntryUptoRow, standIns := [], harness := (true, "ed738546d0bf1bacbd7ef1ae10f4db346975bd8c8524d18ba8b9122ea98d0f2a"), looks := false }, kinds := [], alts := [], laidByText := true, laidKinds := [.data, .pinned], laidTests := true, laidLooks := .later }
def FnExactAppendEntryUptoCardSaid : Prop := Claim7.holds Tryd.pinned (.plain (OpenSpec.upto fnExactAppendEntrySpec)) fnExactAppendEntryUptoCard

/-- THE SECOND FORM's CARD OF 'laws.FnExactSplitAmount'. -/
def fnExactSplitAmountUptoCard : Claim7 := { stood := { row := fnExactSplitAmountUptoRow, standIns := [], harness := (true, "ed738546d0bf1bacbd7ef1ae10f4db346975bd8c8524d18ba8b9122ea98d0f2a"), looks := false }, kinds := [], alts := [], laidByText := true, laidKinds := [.data, .pinned], laidTests := true, laidLooks := .later }
def FnExactSplitAmountUptoCardSaid : Prop := Claim7.holds Tryd.pinned (.plain (OpenSpec.upto fnExactSplitAmountSpec)) fnExactSplitAmountUptoCard

/-- THE SECOND FORM's CARD OF 'laws.FnExactReadEntries'. -/
def fnExactReadEntriesUptoCard : Claim7 := { stood := { row := fnExactReadEntriesUptoRow, standIns := [], harness := (true, "ed738546d0bf1bacbd7ef1ae10f4db346975bd8c8524d18ba8b9122ea98d0f2a"), looks := false }, kinds := [], alts := [], laidByText := true, laidKinds := [.data, .pinned], laidTests := true, laidLooks := .later }
def FnExactReadEntriesUptoCardSaid : Prop := Claim7.holds Tryd.pinned (.plain (OpenSpec.upto fnExactReadEntriesSpec)) fnExactReadEntriesUptoCard

/-- THE SECOND FORM's CARD OF 'laws.FnExactServerFault'. -/
def fnExactServerFaultUptoCard : Claim7 := { stood := { row := fnExactServerFaultUptoRow, standIns := [], harness := (true, "ed738546d0bf1bacbd7ef1ae10f4db346975bd8c8524d18ba8b9122ea98d0f2a"), looks := false }, kinds := [], alts := [], laidByText := true, laidKinds := [.data, .pinned], laidTests := true, laidLooks := .later }
def FnExactServerFaultUptoCardSaid : Prop := Claim7.holds Tryd.pinned (.plain (OpenSpec.upto fnExactServerFaultSpec)) fnExactServerFaultUptoCard

/-- THE SECOND FORM's CARD OF 'laws.FnExactWorkersOf'. -/
def fnExactWorkersOfUptoCard : Claim7 := { stood := { row := fnExactWorkersOfUptoRow, standIns := [], harness := (true, "ed738546d0bf1bacbd7ef1ae10f4db346975bd8c8524d18ba8b9122ea98d0f2a"), looks := false }, kinds := [], alts := [], laidByText := true, laidKinds := [.data, .pinned], laidTests := true, laidLooks := .later }
def FnExactWorkersOfUptoCardSaid : Prop := Claim7.holds Tryd.pinned (.plain (OpenSpec.upto fnExactWorkersOfSpec)) fnExactWorkersOfUptoCard

/-- THE SECOND FORM's CARD OF 'laws.FnExactOpenSession'. -/
def fnExactOpenSessionUptoCard : Claim7 := { stood := { row := fnExactOpenSessionUptoRow, standIns := [], harness := (true, "ed738546d0bf1bacbd7ef1ae10f4db346975bd8c8524d18ba8b9122ea98d0f2a"), looks := false }, kinds := [], alts := [], laidByText := true, laidKinds := [.data, .pinned], laidTests := true, laidLooks := .later }
def FnExactOpenSessionUptoCardSaid : Prop := Claim7.holds Tryd.pinned (.plain (OpenSpec.upto fnExactOpenSessionSpec)) fnExactOpenSessionUptoCard

/-- THE SECOND FORM's CARD OF 'laws.FnExactCloseSession'. -/
def fnExactCloseSessionUptoCard : Claim7 := { stood := { row := fnExactCloseSessionUptoRow, standIns := [], harness := (true, "ed738546d0bf1bacbd7ef1ae10f4db346975bd8c8524d18ba8b9122ea98d0f2a"), looks := false }, kinds := [], alts := [], laidByText := true, laidKinds := [.data, .pinned], laidTests := true, laidLooks := .later }
def FnExactCloseSessionUptoCardSaid : Prop := Claim7.holds Tryd.pinned (.plain (OpenSpec.upto fnExactCloseSessionSpec)) fnExactCloseSessionUptoCard
end Rows
end Go.Proofs.YtdnopbpdiineiaaDoor
