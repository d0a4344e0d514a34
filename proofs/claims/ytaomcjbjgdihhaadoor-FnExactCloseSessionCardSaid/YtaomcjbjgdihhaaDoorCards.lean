/-
  DERIVED. GIVEN WITH THE SEED: THE CARDS: each row of YtaomcjbjgdihhaaDoorRows.lean that lists a variable, with what it lists TIED to the program's text (the seventh form; the later family's looks); each row that meets fmt, with fmt's text TOLD by the authors' own Lean function (tested against real Go, not proved from fmt's source: count such statements apart). THE CARD IS WHAT COUNTS. Prove the row's statement (the work); the ties are given (YtaomcjbjgdihhaaDoorTie.lean); close each card by the builder's one call (the guide's Derived/Test/ToyasCard.lean, 'card_holds'). Laid BY PROGRAM, IN A SANDBOX (cutbox-door.mjs). By AI agents, Wed Nov 11 2026. No macro, syntax, notation, axiom, sorry.
-/
import Derived.Test.YtaomcjbjgdihhaaDoorRows
import GoSem.ClaimSeven
namespace Go.Proofs.YtaomcjbjgdihhaaDoor
namespace Rows

/-- THE TIED CARD OF 'laws.FnExactCloseSession'. -/
def fnExactCloseSessionCard : Claim7 := { stood := { row := fnExactCloseSessionRow, standIns := [], harness := (true, "53a1cd8766641653b2ac54dba7406c001fba1abd58b5044502c7a504dc920a0f"), looks := false }, kinds := [], alts := [], laidByText := true, laidKinds := [.data, .pinned], laidTests := true, laidLooks := .later }
def FnExactCloseSessionCardSaid : Prop := Claim7.holds Tryd.pinned (.plain (OpenSpec.ofChange fnExactCloseSessionSpec)) fnExactCloseSessionCard

/-- THE SECOND FORM's CARD OF 'laws.FnExactCloseSession'. -/
def fnExactCloseSessionUptoCard : Claim7 := { stood := { row := fnExactCloseSessionUptoRow, standIns := [], harness := (true, "53a1cd8766641653b2ac54dba7406c001fba1abd58b5044502c7a504dc920a0f"), looks := false }, kinds := [], alts := [], laidByText := true, laidKinds := [.data, .pinned], laidTests := true, laidLooks := .later }
def FnExactCloseSessionUptoCardSaid : Prop := Claim7.holds Tryd.pinned (.plain (OpenSpec.upto fnExactCloseSessionSpec)) fnExactCloseSessionUptoCard
end Rows
end Go.Proofs.YtaomcjbjgdihhaaDoor
