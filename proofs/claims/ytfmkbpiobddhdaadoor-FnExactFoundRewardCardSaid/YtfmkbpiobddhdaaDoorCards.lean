/-
  DERIVED. GIVEN WITH THE SEED: THE CARDS: each row of YtfmkbpiobddhdaaDoorRows.lean that lists a variable, with what it lists TIED to the program's text (the seventh form; the later family's looks); each row that meets fmt, with fmt's text TOLD by the authors' own Lean function (tested against real Go, not proved from fmt's source: count such statements apart). THE CARD IS WHAT COUNTS. Prove the row's statement (the work); the ties are given (YtfmkbpiobddhdaaDoorTie.lean); close each card by the builder's one call (the guide's Derived/Test/ToyasCard.lean, 'card_holds'). Laid BY PROGRAM, IN A SANDBOX (cutbox-door.mjs). By AI agents, Wed Nov 11 2026. No macro, syntax, notation, axiom, sorry.
-/
import Derived.Test.YtfmkbpiobddhdaaDoorRows
import GoSem.ClaimSeven
namespace Go.Proofs.YtfmkbpiobddhdaaDoor
namespace Rows

/-- THE TIED CARD OF 'laws.FnExactLedgerFault'. -/
def fnExactLedgerFaultCard : Claim7 := { stood := { row := fnExactLedgerFaultRow, standIns := [], harness := (true, "e09cc9cd7db7dbc7a8f9a8b5b8fe80cecf151d62ebdabb07e0ee608327c5c157"), looks := false }, kinds := [], alts := [], laidByText := true, laidKinds := [.data, .pinned], laidTests := true, laidLooks := .later }
def FnExactLedgerFaultCardSaid : Prop := Claim7.holds Tryd.pinned (.plain (OpenSpec.ofChange fnExactLedgerFaultSpec)) fnExactLedgerFaultCard

/-- THE TIED CARD OF 'laws.FnExactDueOf'. -/
def fnExactDueOfCard : Claim7 := { stood := { row := fnExactDueOfRow, standIns := [], harness := (true, "e09cc9cd7db7dbc7a8f9a8b5b8fe80cecf151d62ebdabb07e0ee608327c5c157"), looks := false }, kinds := [], alts := [], laidByText := true, laidKinds := [.data, .pinned], laidTests := true, laidLooks := .later }
def FnExactDueOfCardSaid : Prop := Claim7.holds Tryd.pinned (.plain (OpenSpec.ofChange fnExactDueOfSpec)) fnExactDueOfCard

/-- THE TIED CARD OF 'laws.FnExactCreditShare'. -/
def fnExactCreditShareCard : Claim7 := { stood := { row := fnExactCreditShareRow, standIns := [], harness := (true, "e09cc9cd7db7dbc7a8f9a8b5b8fe80cecf151d62ebdabb07e0ee608327c5c157"), looks := false }, kinds := [], alts := [], laidByText := true, laidKinds := [.data, .pinned], laidTests := true, laidLooks := .later }
def FnExactCreditShareCardSaid : Prop := Claim7.holds Tryd.pinned (.plain (OpenSpec.ofChange fnExactCreditShareSpec)) fnExactCreditShareCard

/-- THE TIED CARD OF 'laws.FnExactLoseReward'. -/
def fnExactLoseRewardCard : Claim7 := { stood := { row := fnExactLoseRewardRow, standIns := [], harness := (true, "e09cc9cd7db7dbc7a8f9a8b5b8fe80cecf151d62ebdabb07e0ee608327c5c157"), looks := false }, kinds := [], alts := [], laidByText := true, laidKinds := [.data, .pinned], laidTests := true, laidLooks := .later }
def FnExactLoseRewardCardSaid : Prop := Claim7.holds Tryd.pinned (.plain (OpenSpec.ofChange fnExactLoseRewardSpec)) fnExactLoseRewardCard

/-- THE TIED CARD OF 'laws.FnExactPayWorker'. -/
def fnExactPayWorkerCard : Claim7 := { stood := { row := fnExactPayWorkerRow, standIns := [], harness := (true, "e09cc9cd7db7dbc7a8f9a8b5b8fe80cecf151d62ebdabb07e0ee608327c5c157"), looks := false }, kinds := [], alts := [], laidByText := true, laidKinds := [.data, .pinned], laidTests := true, laidLooks := .later }
def FnExactPayWorkerCardSaid : Prop := Claim7.holds Tryd.pinned (.plain (OpenSpec.ofChange fnExactPayWorkerSpec)) fnExactPayWorkerCard

/-- THE TIED CARD OF 'laws.FnExactRipenReward'. -/
def fnExactRipenRewardCard : Claim7 := { stood := { row := fnExactRipenRewardRow, standIns := [], harness := (true, "e09cc9cd7db7dbc7a8f9a8b5b8fe80cecf151d62ebdabb07e0ee608327c5c157"), looks := false }, kinds := [], alts := [], laidByText := true, laidKinds := [.data, .pinned], laidTests := true, laidLooks := .later }
def FnExactRipenRewardCardSaid : Prop := Claim7.holds Tryd.pinned (.plain (OpenSpec.ofChange fnExactRipenRewardSpec)) fnExactRipenRewardCard

/-- THE TIED CARD OF 'laws.FnExactFoundReward'. -/
def fnExactFoundRewardCard : Claim7 := { stood := { row := fnExactFoundRewardRow, standIns := [], harness := (true, "e09cc9cd7db7dbc7a8f9a8b5b8fe80cecf151d62ebdabb07e0ee608327c5c157"), looks := false }, kinds := [], alts := [], laidByText := true, laidKinds := [.data, .pinned], laidTests := true, laidLooks := .later }
def FnExactFoundRewardCardSaid : Prop := Claim7.holds Tryd.pinned (.plain (OpenSpec.ofChange fnExactFoundRewardSpec)) fnExactFoundRewardCard

/-- THE TIED CARD OF 'laws.FnWindows'. -/
def fnWindowsCard : Claim7 := { stood := { row := fnWindowsRow, standIns := [], harness := (true, "e09cc9cd7db7dbc7a8f9a8b5b8fe80cecf151d62ebdabb07e0ee608327c5c157"), looks := false }, kinds := [], alts := [], laidByText := true, laidKinds := [.data, .pinned], laidTests := true, laidLooks := .later }
def FnWindowsCardSaid : Prop := Claim7.holds Tryd.pinned (.plain (OpenSpec.ofChange fnWindowsSpec)) fnWindowsCard

/-- THE TIED CARD OF 'laws.FnSplits'. -/
def fnSplitsCard : Claim7 := { stood := { row := fnSplitsRow, standIns := [], harness := (true, "e09cc9cd7db7dbc7a8f9a8b5b8fe80cecf151d62ebdabb07e0ee608327c5c157"), looks := false }, kinds := [], alts := [], laidByText := true, laidKinds := [.data, .pinned], laidTests := true, laidLooks := .later }
def FnSplitsCardSaid : Prop := Claim7.holds Tryd.pinned (.plain (OpenSpec.ofChange fnSplitsSpec)) fnSplitsCard

/-- THE TIED CARD OF 'laws.FnPays'. -/
def fnPaysCard : Claim7 := { stood := { row := fnPaysRow, standIns := [], harness := (true, "e09cc9cd7db7dbc7a8f9a8b5b8fe80cecf151d62ebdabb07e0ee608327c5c157"), looks := false }, kinds := [], alts := [], laidByText := true, laidKinds := [.data, .pinned], laidTests := true, laidLooks := .later }
def FnPaysCardSaid : Prop := Claim7.holds Tryd.pinned (.plain (OpenSpec.ofChange fnPaysSpec)) fnPaysCard

/-- THE TIED CARD OF 'laws.FnJournals'. -/
def fnJournalsCard : Claim7 := { stood := { row := fnJournalsRow, standIns := [], harness := (true, "e09cc9cd7db7dbc7a8f9a8b5b8fe80cecf151d62ebdabb07e0ee608327c5c157"), looks := false }, kinds := [], alts := [], laidByText := true, laidKinds := [.data, .pinned], laidTests := true, laidLooks := .later }
def FnJournalsCardSaid : Prop := Claim7.holds Tryd.pinned (.plain (OpenSpec.ofChange fnJournalsSpec)) fnJournalsCard

/-- THE SECOND FORM's CARD OF 'laws.FnExactLedgerFault'. -/
def fnExactLedgerFaultUptoCard : Claim7 := { stood := { row := fnExactLedgerFaultUptoRow, standIns := [], harness := (true, "e09cc9cd7db7dbc7a8f9a8b5b8fe80cecf151d62ebdabb07e0ee608327c5c157"), looks := false }, kinds := [], alts := [], laidByText := true, laidKinds := [.data, .pinned], laidTests := true, laidLooks := .later }
def FnExactLedgerFaultUptoCardSaid : Prop := Claim7.holds Tryd.pinned (.plain (OpenSpec.upto fnExactLedgerFaultSpec)) fnExactLedgerFaultUptoCard

/-- THE SECOND FORM's CARD OF 'laws.FnExactDueOf'. -/
def fnExactDueOfUptoCard : Claim7 := { stood := { row := fnExactDueOfUptoRow, standIns := [], harness := (true, "e09cc9cd7db7dbc7a8f9a8b5b8fe80cecf151d62ebdabb07e0ee608327c5c157"), looks := false }, kinds := [], alts := [], laidByText := true, laidKinds := [.data, .pinned], laidTests := true, laidLooks := .later }
def FnExactDueOfUptoCardSaid : Prop := Claim7.holds Tryd.pinned (.plain (OpenSpec.upto fnExactDueOfSpec)) fnExactDueOfUptoCard

/-- THE SECOND FORM's CARD OF 'laws.FnExactCreditShare'. -/
def fnExactCreditShareUptoCard : Claim7 := { stood := { row := fnExactCreditShareUptoRow, standIns := [], harness := (true, "e09cc9cd7db7dbc7a8f9a8b5b8fe80cecf151d62ebdabb07e0ee608327c5c157"), looks := false }, kinds := [], alts := [], laidByText := true, laidKinds := [.data, .pinned], laidTests := true, laidLooks := .later }
def FnExactCreditShareUptoCardSaid : Prop := Claim7.holds Tryd.pinned (.plain (OpenSpec.upto fnExactCreditShareSpec)) fnExactCreditShareUptoCard

/-- THE SECOND FORM's CARD OF 'laws.FnExactLoseReward'. -/
def fnExactLoseRewardUptoCard : Claim7 := { stood := { row := fnExactLoseRewardUptoRow, standIns := [], harness := (true, "e09cc9cd7db7dbc7a8f9a8b5b8fe80cecf151d62ebdabb07e0ee608327c5c157"), looks := false }, kinds := [], alts := [], laidByText := true, laidKinds := [.data, .pinned], laidTests := true, laidLooks := .later }
def FnExactLoseRewardUptoCardSaid : Prop := Claim7.holds Tryd.pinned (.plain (OpenSpec.upto fnExactLoseRewardSpec)) fnExactLoseRewardUptoCard

/-- THE SECOND FORM's CARD OF 'laws.FnExactPayWorker'. -/
def fnExactPayWorkerUptoCard : Claim7 := { stood := { row := fnExactPayWorkerUptoRow, standIns := [], harness := (true, "e09cc9cd7db7dbc7a8f9a8b5b8fe80cecf151d62ebdabb07e0ee608327c5c157"), looks := false }, kinds := [], alts := [], laidByText := true, laidKinds := [.data, .pinned], laidTests := true, laidLooks := .later }
def FnExactPayWorkerUptoCardSaid : Prop := Claim7.holds Tryd.pinned (.plain (OpenSpec.upto fnExactPayWorkerSpec)) fnExactPayWorkerUptoCard

/-- THE SECOND FORM's CARD OF 'laws.FnExactRipenReward'. -/
def fnExactRipenRewardUptoCard : Claim7 := { stood := { row := fnExactRipenRewardUptoRow, standIns := [], harness := (true, "e09cc9cd7db7dbc7a8f9a8b5b8fe80cecf151d62ebdabb07e0ee608327c5c157"), looks := false }, kinds := [], alts := [], laidByText := true, laidKinds := [.data, .pinned], laidTests := true, laidLooks := .later }
def FnExactRipenRewardUptoCardSaid : Prop := Claim7.holds Tryd.pinned (.plain (OpenSpec.upto fnExactRipenRewardSpec)) fnExactRipenRewardUptoCard

/-- THE SECOND FORM's CARD OF 'laws.FnExactFoundReward'. -/
def fnExactFoundRewardUptoCard : Claim7 := { stood := { row := fnExactFoundRewardUptoRow, standIns := [], harness := (true, "e09cc9cd7db7dbc7a8f9a8b5b8fe80cecf151d62ebdabb07e0ee608327c5c157"), looks := false }, kinds := [], alts := [], laidByText := true, laidKinds := [.data, .pinned], laidTests := true, laidLooks := .later }
def FnExactFoundRewardUptoCardSaid : Prop := Claim7.holds Tryd.pinned (.plain (OpenSpec.upto fnExactFoundRewardSpec)) fnExactFoundRewardUptoCard

/-- THE SECOND FORM's CARD OF 'laws.FnWindows'. -/
def fnWindowsUptoCard : Claim7 := { stood := { row := fnWindowsUptoRow, standIns := [], harness := (true, "e09cc9cd7db7dbc7a8f9a8b5b8fe80cecf151d62ebdabb07e0ee608327c5c157"), looks := false }, kinds := [], alts := [], laidByText := true, laidKinds := [.data, .pinned], laidTests := true, laidLooks := .later }
def FnWindowsUptoCardSaid : Prop := Claim7.holds Tryd.pinned (.plain (OpenSpec.upto fnWindowsSpec)) fnWindowsUptoCard

/-- THE SECOND FORM's CARD OF 'laws.FnSplits'. -/
def fnSplitsUptoCard : Claim7 := { stood := { row := fnSplitsUptoRow, standIns := [], harness := (true, "e09cc9cd7db7dbc7a8f9a8b5b8fe80cecf151d62ebdabb07e0ee608327c5c157"), looks := false }, kinds := [], alts := [], laidByText := true, laidKinds := [.data, .pinned], laidTests := true, laidLooks := .later }
def FnSplitsUptoCardSaid : Prop := Claim7.holds Tryd.pinned (.plain (OpenSpec.upto fnSplitsSpec)) fnSplitsUptoCard

/-- THE SECOND FORM's CARD OF 'laws.FnPays'. -/
def fnPaysUptoCard : Claim7 := { stood := { row := fnPaysUptoRow, standIns := [], harness := (true, "e09cc9cd7db7dbc7a8f9a8b5b8fe80cecf151d62ebdabb07e0ee608327c5c157"), looks := false }, kinds := [], alts := [], laidByText := true, laidKinds := [.data, .pinned], laidTests := true, laidLooks := .later }
def FnPaysUptoCardSaid : Prop := Claim7.holds Tryd.pinned (.plain (OpenSpec.upto fnPaysSpec)) fnPaysUptoCard

/-- THE SECOND FORM's CARD OF 'laws.FnJournals'. -/
def fnJournalsUptoCard : Claim7 := { stood := { row := fnJournalsUptoRow, standIns := [], harness := (true, "e09cc9cd7db7dbc7a8f9a8b5b8fe80cecf151d62ebdabb07e0ee608327c5c157"), looks := false }, kinds := [], alts := [], laidByText := true, laidKinds := [.data, .pinned], laidTests := true, laidLooks := .later }
def FnJournalsUptoCardSaid : Prop := Claim7.holds Tryd.pinned (.plain (OpenSpec.upto fnJournalsSpec)) fnJournalsUptoCard
end Rows
end Go.Proofs.YtfmkbpiobddhdaaDoor
