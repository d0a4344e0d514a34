/-
  DERIVED. GIVEN WITH THE SEED: THE CARDS: each row of YtihjlmgakpgkeaaGreatDoorRows.lean that lists a variable, with what it lists TIED to the program's text (the seventh form; the later family's looks); each row that meets fmt, with fmt's text TOLD by the authors' own Lean function (tested against real Go, not proved from fmt's source: count such statements apart). THE CARD IS WHAT COUNTS. Prove the row's statement (the work); the ties are given (YtihjlmgakpgkeaaGreatDoorTie.lean); close each card by the builder's one call (the guide's Derived/Test/ToyasCard.lean, 'card_holds'). Laid BY PROGRAM, IN A SANDBOX (cutbox-door.mjs). By AI agents, Wed Nov 11 2026. No macro, syntax, notation, axiom, sorry.
-/
import Derived.Test.YtihjlmgakpgkeaaGreatDoorRows
import GoSem.ClaimSeven
namespace Go.Proofs.YtihjlmgakpgkeaaGreatDoor
namespace Rows

/-- THE TIED CARD OF 'laws.FnLedgers'. -/
def fnLedgersCard : Claim7 := { stood := { row := fnLedgersRow, standIns := [], harness := (true, "6573704b67fff3450d2072fa22299adfa39398161c0fed07018848cf70d5b31e"), looks := false }, kinds := [], alts := [], laidByText := true, laidKinds := [.data, .pinned], laidTests := true, laidLooks := .later }
def FnLedgersCardSaid : Prop := Claim7.holds Tryz.pinned (.plain (OpenSpec.ofChange fnLedgersSpec)) fnLedgersCard

/-- THE SECOND FORM's CARD OF 'laws.FnLedgers'. -/
def fnLedgersUptoCard : Claim7 := { stood := { row := fnLedgersUptoRow, standIns := [], harness := (true, "6573704b67fff3450d2072fa22299adfa39398161c0fed07018848cf70d5b31e"), looks := false }, kinds := [], alts := [], laidByText := true, laidKinds := [.data, .pinned], laidTests := true, laidLooks := .later }
def FnLedgersUptoCardSaid : Prop := Claim7.holds Tryz.pinned (.plain (OpenSpec.upto fnLedgersSpec)) fnLedgersUptoCard
end Rows
end Go.Proofs.YtihjlmgakpgkeaaGreatDoor
