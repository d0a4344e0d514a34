/-
  No cell of these rows narrows 'for every input' (looked for: loops, veiled, ifaces, maps, wideKeys, modest, calm, conditions, laid).
  DERIVED. THE GIVEN ROWS OF THIS SEAT. 3 by the template 'for every input the law returns true; each argument reads behind the call as it read before'; 0 by the template 'total and deterministic' (their statements: YtcbnpfnebinbkaaTotals.lean).
  GIVEN WITH THE SEED: the statements are not yours to turn. If you find one false, say at which input.
  Laid BY PROGRAM, IN A SANDBOX (cutbox-rows.mjs): the forced cells as the released guide's own fill.sh prints them over the translation 79f1aa3478a64cd4… (all of the seat's roots in one cut). By AI agents, Wed Nov 11 2026. No macro, syntax, notation, axiom, sorry.
-/
import Derived.Test.YtcbnpfnebinbkaaChecked
import GoSem.Claim
import GoSem.ClaimJoined
import GoSem.ClaimMapViews
import Derived.JoinedTies
import Derived.KernelRfl
namespace Go.Proofs.Ytcbnpfnebinbkaa
/- THE CELL 'sum', in the pinned program and in every row, IS THE sha256 OF THE DUMP (.gsa) THAT YtcbnpfnebinbkaaProg.lean LOADS. Nothing in Lean hashes anything: it is a label: what it is worth is what the hold of that sum in a sandbox is worth. -/
noncomputable def Try.pinned : Pinned := { name := "ytcbnpfnebinbkaa", sum := "79f1aa3478a64cd4a2f567885d7461f13b6e4b530a9c9e2147f7e42cfa9c4c77", checked := Try.checked }
namespace Rows
def none {H : Type} : Left H := { results := [], args := [] }

/-- 'laws.FnExactSameServers': WHATEVER THE INPUT: true; the input reads as it did. -/
def fnExactSameServersSpec : ChangeSpec := { name := "fnExactSameServers", fn := fun _ => fun
  | [d1, d2] => { results := [.lit (.bool true)], args := [d1, d2] }
  | _ => none }
def fnExactSameServersRow : OpenClaim := { program := "ytcbnpfnebinbkaa", sum := "79f1aa3478a64cd4a2f567885d7461f13b6e4b530a9c9e2147f7e42cfa9c4c77", func := "loop.example/g00539/laws.FnExactSameServers", spec := "fnExactSameServers", apart := false }
def FnExactSameServersSaid : Prop := fnExactSameServersRow.holds Try.pinned (OpenSpec.ofChange fnExactSameServersSpec)

/-- ITS FALSE NEIGHBOUR: 'it returns false'. Refute it at one input. -/
def fnExactSameServersWrong : ChangeSpec := { name := "fnExactSameServers", fn := fun _ => fun
  | [d1, d2] => { results := [.lit (.bool false)], args := [d1, d2] }
  | _ => none }
def FnExactSameServersWrongFalsely : Prop := fnExactSameServersRow.holds Try.pinned (OpenSpec.ofChange fnExactSameServersWrong)

/-- 'laws.FnExactNewLedger': WHATEVER THE INPUT: true; the input reads as it did. -/
def fnExactNewLedgerSpec : ChangeSpec := { name := "fnExactNewLedger", fn := fun _ => fun
  | [d1, d2] => { results := [.lit (.bool true)], args := [d1, d2] }
  | _ => none }
def fnExactNewLedgerRow : OpenClaim := { program := "ytcbnpfnebinbkaa", sum := "79f1aa3478a64cd4a2f567885d7461f13b6e4b530a9c9e2147f7e42cfa9c4c77", func := "loop.example/g00539/laws.FnExactNewLedger", spec := "fnExactNewLedger", apart := false }
def FnExactNewLedgerSaid : Prop := fnExactNewLedgerRow.holds Try.pinned (OpenSpec.ofChange fnExactNewLedgerSpec)

/-- ITS FALSE NEIGHBOUR: 'it returns false'. Refute it at one input. -/
def fnExactNewLedgerWrong : ChangeSpec := { name := "fnExactNewLedger", fn := fun _ => fun
  | [d1, d2] => { results := [.lit (.bool false)], args := [d1, d2] }
  | _ => none }
def FnExactNewLedgerWrongFalsely : Prop := fnExactNewLedgerRow.holds Try.pinned (OpenSpec.ofChange fnExactNewLedgerWrong)

/-- 'laws.FnExactSameLedgers': WHATEVER THE INPUT: true; the input reads as it did. -/
def fnExactSameLedgersSpec : ChangeSpec := { name := "fnExactSameLedgers", fn := fun _ => fun
  | [d1, d2] => { results := [.lit (.bool true)], args := [d1, d2] }
  | _ => none }
def fnExactSameLedgersRow : OpenClaim := { program := "ytcbnpfnebinbkaa", sum := "79f1aa3478a64cd4a2f567885d7461f13b6e4b530a9c9e2147f7e42cfa9c4c77", func := "loop.example/g00539/laws.FnExactSameLedgers", spec := "fnExactSameLedgers", unfollowed := true, recurses := true, apart := false }
def FnExactSameLedgersSaid : Prop := fnExactSameLedgersRow.holds Try.pinned (OpenSpec.ofChange fnExactSameLedgersSpec)

/-- ITS FALSE NEIGHBOUR: 'it returns false'. Refute it at one input. -/
def fnExactSameLedgersWrong : ChangeSpec := { name := "fnExactSameLedgers", fn := fun _ => fun
  | [d1, d2] => { results := [.lit (.bool false)], args := [d1, d2] }
  | _ => none }
def FnExactSameLedgersWrongFalsely : Prop := fnExactSameLedgersRow.holds Try.pinned (OpenSpec.ofChange fnExactSameLedgersWrong)

/- THE SECOND FORM. 'bulk': how many values and letters a reading holds, each counted each time it is reached (what is shared counts as often as it is met; a slice's spare places count too). A statement '..UptoSaid' is the law's where the arguments, and the package variables that the reading takes, are together of bulk at most 1048576: NARROWER than '..Said'. Prove '..Said' where nothing that the law and all that it calls make is longer than what came in: it says more and counts as full. Else prove '..UptoSaid'. A law counts once. -/
mutual
def uptoBulk {H : Type} : DataW H → Nat
  | .lit (.string bytes) => bytes.length + 1
  | .lit _ => 1
  | .nil => 1
  | .ptr d => uptoBulk d + 1
  | .slice elems spare => uptoBulkAll elems + uptoBulkAll spare + 1
  | .agg parts => uptoBulkAll parts + 1
  | .iface _ d => uptoBulk d + 1
  | .map entries => uptoBulkEntries entries + 1
  | .held _ => 1
def uptoBulkAll {H : Type} : List (DataW H) → Nat
  | [] => 0
  | d :: r => uptoBulk d + uptoBulkAll r
def uptoBulkEntries {H : Type} : List (Lit × DataW H) → Nat
  | [] => 0
  | x :: r => uptoBulkEntry x + uptoBulkEntries r
def uptoBulkEntry {H : Type} : Lit × DataW H → Nat
  | (.string bytes, d) => bytes.length + uptoBulk d + 1
  | (_, d) => uptoBulk d + 1
 end
def uptoSmall : (H : Type) → List (DataW H) → Bool := fun _ ds => decide (uptoBulkAll ds ≤ 1048576)
def OpenSpec.upto (s : _root_.Go.ChangeSpec) : _root_.Go.OpenSpec := { _root_.Go.OpenSpec.ofChange s with cond := some uptoSmall }

/-- 'laws.FnExactSameServers', WHERE WHAT IT READS IS OF BULK AT MOST 1048576: true; the input reads as it did. -/
def fnExactSameServersUptoRow : OpenClaim := { program := "ytcbnpfnebinbkaa", sum := "79f1aa3478a64cd4a2f567885d7461f13b6e4b530a9c9e2147f7e42cfa9c4c77", func := "loop.example/g00539/laws.FnExactSameServers", spec := "fnExactSameServers", apart := false, narrowed := true }
def FnExactSameServersUptoSaid : Prop := fnExactSameServersUptoRow.holds Try.pinned (OpenSpec.upto fnExactSameServersSpec)

/-- 'laws.FnExactNewLedger', WHERE WHAT IT READS IS OF BULK AT MOST 1048576: true; the input reads as it did. -/
def fnExactNewLedgerUptoRow : OpenClaim := { program := "ytcbnpfnebinbkaa", sum := "79f1aa3478a64cd4a2f567885d7461f13b6e4b530a9c9e2147f7e42cfa9c4c77", func := "loop.example/g00539/laws.FnExactNewLedger", spec := "fnExactNewLedger", apart := false, narrowed := true }
def FnExactNewLedgerUptoSaid : Prop := fnExactNewLedgerUptoRow.holds Try.pinned (OpenSpec.upto fnExactNewLedgerSpec)

/-- 'laws.FnExactSameLedgers', WHERE WHAT IT READS IS OF BULK AT MOST 1048576: true; the input reads as it did. -/
def fnExactSameLedgersUptoRow : OpenClaim := { program := "ytcbnpfnebinbkaa", sum := "79f1aa3478a64cd4a2f567885d7461f13b6e4b530a9c9e2147f7e42cfa9c4c77", func := "loop.example/g00539/laws.FnExactSameLedgers", spec := "fnExactSameLedgers", unfollowed := true, recurses := true, apart := false, narrowed := true }
def FnExactSameLedgersUptoSaid : Prop := fnExactSameLedgersUptoRow.holds Try.pinned (OpenSpec.upto fnExactSameLedgersSpec)

end Rows
end Go.Proofs.Ytcbnpfnebinbkaa
