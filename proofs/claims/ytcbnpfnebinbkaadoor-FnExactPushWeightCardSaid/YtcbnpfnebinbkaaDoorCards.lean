/-
  DERIVED. GIVEN WITH THE SEED: THE CARDS: each row of YtcbnpfnebinbkaaDoorRows.lean that lists a variable, with what it lists TIED to the program's text (the seventh form; the later family's looks); each row that meets fmt, with fmt's text TOLD by the authors' own Lean function (tested against real Go, not proved from fmt's source: count such statements apart). THE CARD IS WHAT COUNTS. Prove the row's statement (the work); the ties are given (YtcbnpfnebinbkaaDoorTie.lean); close each card by the builder's one call (the guide's Derived/Test/ToyasCard.lean, 'card_holds'). Laid BY PROGRAM, IN A SANDBOX (cutbox-door.mjs). By AI agents, Wed Nov 11 2026. No macro, syntax, notation, axiom, sorry.
-/
import Derived.Test.YtcbnpfnebinbkaaDoorRows
import GoSem.ClaimSeven
namespace Go.Proofs.YtcbnpfnebinbkaaDoor
namespace Rows

/-- THE TIED CARD OF 'laws.FnExactEntryFault'. -/
def fnExactEntryFaultCard : Claim7 := { stood := { row := fnExactEntryFaultRow, standIns := [], harness := (true, "162a0a63b03fa7748eb9c16f23ce7281707b932e3e92f26358c4355ea9c959d1"), looks := false }, kinds := [], alts := [], laidByText := true, laidKinds := [.data, .pinned], laidTests := true, laidLooks := .later }
def FnExactEntryFaultCardSaid : Prop := Claim7.holds Tryd.pinned (.plain (OpenSpec.ofChange fnExactEntryFaultSpec)) fnExactEntryFaultCard

/-- THE TIED CARD OF 'laws.FnExactWindowFault'. -/
def fnExactWindowFaultCard : Claim7 := { stood := { row := fnExactWindowFaultRow, standIns := [], harness := (true, "162a0a63b03fa7748eb9c16f23ce7281707b932e3e92f26358c4355ea9c959d1"), looks := false }, kinds := [], alts := [], laidByText := true, laidKinds := [.data, .pinned], laidTests := true, laidLooks := .later }
def FnExactWindowFaultCardSaid : Prop := Claim7.holds Tryd.pinned (.plain (OpenSpec.ofChange fnExactWindowFaultSpec)) fnExactWindowFaultCard

/-- THE TIED CARD OF 'laws.FnExactAmountOf'. -/
def fnExactAmountOfCard : Claim7 := { stood := { row := fnExactAmountOfRow, standIns := [], harness := (true, "162a0a63b03fa7748eb9c16f23ce7281707b932e3e92f26358c4355ea9c959d1"), looks := false }, kinds := [], alts := [], laidByText := true, laidKinds := [.data, .pinned], laidTests := true, laidLooks := .later }
def FnExactAmountOfCardSaid : Prop := Claim7.holds Tryd.pinned (.plain (OpenSpec.ofChange fnExactAmountOfSpec)) fnExactAmountOfCard

/-- THE TIED CARD OF 'laws.FnExactPackEntry'. -/
def fnExactPackEntryCard : Claim7 := { stood := { row := fnExactPackEntryRow, standIns := [], harness := (true, "162a0a63b03fa7748eb9c16f23ce7281707b932e3e92f26358c4355ea9c959d1"), looks := false }, kinds := [], alts := [], laidByText := true, laidKinds := [.data, .pinned], laidTests := true, laidLooks := .later }
def FnExactPackEntryCardSaid : Prop := Claim7.holds Tryd.pinned (.plain (OpenSpec.ofChange fnExactPackEntrySpec)) fnExactPackEntryCard

/-- THE TIED CARD OF 'laws.FnExactPushWeight'. -/
def fnExactPushWeightCard : Claim7 := { stood := { row := fnExactPushWeightRow, standIns := [], harness := (true, "162a0a63b03fa7748eb9c16f23ce7281707b932e3e92f26358c4355ea9c959d1"), looks := false }, kinds := [], alts := [], laidByText := true, laidKinds := [.data, .pinned], laidTests := true, laidLooks := .later }
def FnExactPushWeightCardSaid : Prop := Claim7.holds Tryd.pinned (.plain (OpenSpec.ofChange fnExactPushWeightSpec)) fnExactPushWeightCard

/-- THE TIED CARD OF 'laws.FnExactMergeWeights'. -/
def fnExactMergeWeightsCard : Claim7 := { stood := { row := fnExactMergeWeightsRow, standIns := [], harness := (true, "162a0a63b03fa7748eb9c16f23ce7281707b932e3e92f26358c4355ea9c959d1"), looks := false }, kinds := [], alts := [], laidByText := true, laidKinds := [.data, .pinned], laidTests := true, laidLooks := .later }
def FnExactMergeWeightsCardSaid : Prop := Claim7.holds Tryd.pinned (.plain (OpenSpec.ofChange fnExactMergeWeightsSpec)) fnExactMergeWeightsCard

/-- THE TIED CARD OF 'laws.FnExactAppendEntry'. -/
def fnExactAppendEntryCard : Claim7 := { stood := { row := fnExactAppendEntryRow, standIns := [], harness := (true, "162a0a63b03fa7748eb9c16f23ce7281707b932e3e92f26358c4355ea9c959d1"), looks := false }, kinds := [], alts := [], laidByText := true, laidKinds := [.data, .pinned], laidTests := true, laidLooks := .later }
def FnExactAppendEntryCardSaid : Prop := Claim7.holds Tryd.pinned (.plain (OpenSpec.ofChange fnExactAppendEntrySpec)) fnExactAppendEntryCard

/-- THE TIED CARD OF 'laws.FnExactSplitAmount'. -/
def fnExactSplitAmountCard : Claim7 := { stood := { row := fnExactSplitAmountRow, standIns := [], harness := (true, "162a0a63b03fa7748eb9c16f23ce7281707b932e3e92f26358c4355ea9c959d1"), looks := false }, kinds := [], alts := [], laidByText := true, laidKinds := [.data, .pinned], laidTests := true, laidLooks := .later }
def FnExactSplitAmountCardSaid : Prop := Claim7.holds Tryd.pinned (.plain (OpenSpec.ofChange fnExactSplitAmountSpec)) fnExactSplitAmountCard

/-- THE TIED CARD OF 'laws.FnExactReadEntries'. -/
def fnExactReadEntriesCard : Claim7 := { stood := { row := fnExactReadEntriesRow, standIns := [], harness := (true, "162a0a63b03fa7748eb9c16f23ce7281707b932e3e92f26358c4355ea9c959d1"), looks := false }, kinds := [], alts := [], laidByText := true, laidKinds := [.data, .pinned], laidTests := true, laidLooks := .later }
def FnExactReadEntriesCardSaid : Prop := Claim7.holds Tryd.pinned (.plain (OpenSpec.ofChange fnExactReadEntriesSpec)) fnExactReadEntriesCard

/-- THE SECOND FORM's CARD OF 'laws.FnExactEntryFault'. -/
def fnExactEntryFaultUptoCard : Claim7 := { stood := { row := fnExactEntryFaultUptoRow, standIns := [], harness := (true, "162a0a63b03fa7748eb9c16f23ce7281707b932e3e92f26358c4355ea9c959d1"), looks := false }, kinds := [], alts := [], laidByText := true, laidKinds := [.data, .pinned], laidTests := true, laidLooks := .later }
def FnExactEntryFaultUptoCardSaid : Prop := Claim7.holds Tryd.pinned (.plain (OpenSpec.upto fnExactEntryFaultSpec)) fnExactEntryFaultUptoCard

/-- THE SECOND FORM's CARD OF 'laws.FnExactWindowFault'. -/
def fnExactWindowFaultUptoCard : Claim7 := { stood := { row := fnExactWindowFaultUptoRow, standIns := [], harness := (true, "162a0a63b03fa7748eb9c16f23ce7281707b932e3e92f26358c4355ea9c959d1"), looks := false }, kinds := [], alts := [], laidByText := true, laidKinds := [.data, .pinned], laidTests := true, laidLooks := .later }
def FnExactWindowFaultUptoCardSaid : Prop := Claim7.holds Tryd.pinned (.plain (OpenSpec.upto fnExactWindowFaultSpec)) fnExactWindowFaultUptoCard

/-- THE SECOND FORM's CARD OF 'laws.FnExactAmountOf'. -/
def fnExactAmountOfUptoCard : Claim7 := { stood := { row := fnExactAmountOfUptoRow, standIns := [], harness := (true, "162a0a63b03fa7748eb9c16f23ce7281707b932e3e92f26358c4355ea9c959d1"), looks := false }, kinds := [], alts := [], laidByText := true, laidKinds := [.data, .pinned], laidTests := true, laidLooks := .later }
def FnExactAmountOfUptoCardSaid : Prop := Claim7.holds Tryd.pinned (.plain (OpenSpec.upto fnExactAmountOfSpec)) fnExactAmountOfUptoCard

/-- THE SECOND FORM's CARD OF 'laws.FnExactPackEntry'. -/
def fnExactPackEntryUptoCard : Claim7 := { stood := { row := fnExactPackEntryUptoRow, standIns := [], harness := (true, "162a0a63b03fa7748eb9c16f23ce7281707b932e3e92f26358c4355ea9c959d1"), looks := false }, kinds := [], alts := [], laidByText := true, laidKinds := [.data, .pinned], laidTests := true, laidLooks := .later }
def FnExactPackEntryUptoCardSaid : Prop := Claim7.holds Tryd.pinned (.plain (OpenSpec.upto fnExactPackEntrySpec)) fnExactPackEntryUptoCard

/-- THE SECOND FORM's CARD OF 'laws.FnExactPushWeight'. -/
def fnExactPushWeightUptoCard : Claim7 := { stood := { row := fnExactPushWeightUptoRow, standIns := [], harness := (true, "162a0a63b03fa7748eb9c16f23ce7281707b932e3e92f26358c4355ea9c959d1"), looks := false }, kinds := [], alts := [], laidByText := true, laidKinds := [.data, .pinned], laidTests := true, laidLooks := .later }
def FnExactPushWeightUptoCardSaid : Prop := Claim7.holds Tryd.pinned (.plain (OpenSpec.upto fnExactPushWeightSpec)) fnExactPushWeightUptoCard

/-- THE SECOND FORM's CARD OF 'laws.FnExactMergeWeights'. -/
def fnExactMergeWeightsUptoCard : Claim7 := { stood := { row := fnExactMergeWeightsUptoRow, standIns := [], harness := (true, "162a0a63b03fa7748eb9c16f23ce7281707b932e3e92f26358c4355ea9c959d1"), looks := false }, kinds := [], alts := [], laidByText := true, laidKinds := [.data, .pinned], laidTests := true, laidLooks := .later }
def FnExactMergeWeightsUptoCardSaid : Prop := Claim7.holds Tryd.pinned (.plain (OpenSpec.upto fnExactMergeWeightsSpec)) fnExactMergeWeightsUptoCard

/-- THE SECOND FORM's CARD OF 'laws.FnExactAppendEntry'. -/
def fnExactAppendEntryUptoCard : Claim7 := { stood := { row := fnExactAppendEntryUptoRow, standIns := [], harness := (true, "162a0a63b03fa7748eb9c16f23ce7281707b932e3e92f26358c4355ea9c959d1"), looks := false }, kinds := [], alts := [], laidByText := true, laidKinds := [.data, .pinned], laidTests := true, laidLooks := .later }
def FnExactAppendEntryUptoCardSaid : Prop := Claim7.holds Tryd.pinned (.plain (OpenSpec.upto fnExactAppendEntrySpec)) fnExactAppendEntryUptoCard

/-- THE SECOND FORM's CARD OF 'laws.FnExactSplitAmount'. -/
def fnExactSplitAmountUptoCard : Claim7 := { stood := { row := fnExactSplitAmountUptoRow, standIns := [], harness := (true, "162a0a63b03fa7748eb9c16f23ce7281707b932e3e92f26358c4355ea9c959d1"), looks := false }, kinds := [], alts := [], laidByText := true, laidKinds := [.data, .pinned], laidTests := true, laidLooks := .later }
def FnExactSplitAmountUptoCardSaid : Prop := Claim7.holds Tryd.pinned (.plain (OpenSpec.upto fnExactSplitAmountSpec)) fnExactSplitAmountUptoCard

/-- THE SECOND FORM's CARD OF 'laws.FnExactReadEntries'. -/
def fnExactReadEntriesUptoCard : Claim7 := { stood := { row := fnExactReadEntriesUptoRow, standIns := [], harness := (true, "162a0a63b03fa7748eb9c16f23ce7281707b932e3e92f26358c4355ea9c959d1"), looks := false }, kinds := [], alts := [], laidByText := true, laidKinds := [.data, .pinned], laidTests := true, laidLooks := .later }
def FnExactReadEntriesUptoCardSaid : Prop := Claim7.holds Tryd.pinned (.plain (OpenSpec.upto fnExactReadEntriesSpec)) fnExactReadEntriesUptoCard
end Rows
end Go.Proofs.YtcbnpfnebinbkaaDoor
