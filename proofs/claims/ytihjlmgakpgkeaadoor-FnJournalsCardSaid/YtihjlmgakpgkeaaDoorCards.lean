/-
  DERIVED. GIVEN WITH THE SEED: THE CARDS: each row of YtihjlmgakpgkeaaDoorRows.lean that lists a variable, with what it lists TIED to the program's text (the seventh form; the later family's looks); each row that meets fmt, with fmt's text TOLD by the authors' own Lean function (tested against real Go, not proved from fmt's source: count such statements apart). THE CARD IS WHAT COUNTS. Prove the row's statement (the work); the ties are given (YtihjlmgakpgkeaaDoorTie.lean); close each card by the builder's one call (the guide's Derived/Test/ToyasCard.lean, 'card_holds'). Laid BY PROGRAM, IN A SANDBOX (cutbox-door.mjs). By AI agents, Wed Nov 11 2026. No macro, syntax, notation, axiom, sorry.
-/
import Derived.Test.YtihjlmgakpgkeaaDoorRows
import GoSem.ClaimSeven
namespace Go.Proofs.YtihjlmgakpgkeaaDoor
namespace Rows

/-- THE TIED CARD OF 'laws.FnPays'. -/
def fnPaysCard : Claim7 := { stood := { row := fnPaysRow, standIns := [], harness := (true, "1da354bcbd546ab4b70653f2a194a8a5925674ddb264fc8497bb85352c029c3a"), looks := false }, kinds := [], alts := [], laidByText := true, laidKinds := [.data, .pinned], laidTests := true, laidLooks := .later }
def FnPaysCardSaid : Prop := Claim7.holds Tryd.pinned (.plain (OpenSpec.ofChange fnPaysSpec)) fnPaysCard

/-- THE TIED CARD OF 'laws.FnJournals'. -/
def fnJournalsCard : Claim7 := { stood := { row := fnJournalsRow, standIns := [], harness := (true, "1da354bcbd546ab4b70653f2a194a8a5925674ddb264fc8497bb85352c029c3a"), looks := false }, kinds := [], alts := [], laidByText := true, laidKinds := [.data, .pinned], laidTests := true, laidLooks := .later }
def FnJournalsCardSaid : Prop := Claim7.holds Tryd.pinned (.plain (OpenSpec.ofChange fnJournalsSpec)) fnJournalsCard

/-- THE TIED CARD OF 'laws.FnExactRipenReward'. -/
def fnExactRipenRewardCard : Claim7 := { stood := { row := fnExactRipenRewardRow, standIns := [], harness := (true, "1da354bcbd546ab4b70653f2a194a8a5925674ddb264fc8497bb85352c029c3a"), looks := false }, kinds := [], alts := [], laidByText := true, laidKinds := [.data, .pinned], laidTests := true, laidLooks := .later }
def FnExactRipenRewardCardSaid : Prop := Claim7.holds Tryd.pinned (.plain (OpenSpec.ofChange fnExactRipenRewardSpec)) fnExactRipenRewardCard

/-- THE SECOND FORM's CARD OF 'laws.FnPays'. -/
def fnPaysUptoCard : Claim7 := { stood := { row := fnPaysUptoRow, standIns := [], harness := (true, "1da354bcbd546ab4b70653f2a194a8a5925674ddb264fc8497bb85352c029c3a"), looks := false }, kinds := [], alts := [], laidByText := true, laidKinds := [.data, .pinned], laidTests := true, laidLooks := .later }
def FnPaysUptoCardSaid : Prop := Claim7.holds Tryd.pinned (.plain (OpenSpec.upto fnPaysSpec)) fnPaysUptoCard

/-- THE SECOND FORM's CARD OF 'laws.FnJournals'. -/
def fnJournalsUptoCard : Claim7 := { stood := { row := fnJournalsUptoRow, standIns := [], harness := (true, "1da354bcbd546ab4b70653f2a194a8a5925674ddb264fc8497bb85352c029c3a"), looks := false }, kinds := [], alts := [], laidByText := true, laidKinds := [.data, .pinned], laidTests := true, laidLooks := .later }
def FnJournalsUptoCardSaid : Prop := Claim7.holds Tryd.pinned (.plain (OpenSpec.upto fnJournalsSpec)) fnJournalsUptoCard

/-- THE SECOND FORM's CARD OF 'laws.FnExactRipenReward'. -/
def fnExactRipenRewardUptoCard : Claim7 := { stood := { row := fnExactRipenRewardUptoRow, standIns := [], harness := (true, "1da354bcbd546ab4b70653f2a194a8a5925674ddb264fc8497bb85352c029c3a"), looks := false }, kinds := [], alts := [], laidByText := true, laidKinds := [.data, .pinned], laidTests := true, laidLooks := .later }
def FnExactRipenRewardUptoCardSaid : Prop := Claim7.holds Tryd.pinned (.plain (OpenSpec.upto fnExactRipenRewardSpec)) fnExactRipenRewardUptoCard
end Rows
end Go.Proofs.YtihjlmgakpgkeaaDoor
