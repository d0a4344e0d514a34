/-
  No cell of these rows narrows 'for every input' (looked for: loops, veiled, ifaces, maps, wideKeys, modest, calm, conditions, laid).
  DERIVED. THE GIVEN ROWS OF THIS SEAT. 5 by the template 'for every input the law returns true; each argument reads behind the call as it read before'; 0 by the template 'total and deterministic' (their statements: YtkbkdndaohdhfaaTotals.lean).
  GIVEN WITH THE SEED: the statements are not yours to turn. If you find one false, say at which input.
  Laid BY PROGRAM, IN A SANDBOX (cutbox-rows.mjs): the forced cells as the released guide's own fill.sh prints them over the translation 80e700e6b9a0e9e3… (all of the seat's roots in one cut). By AI agents, Wed Nov 11 2026. No macro, syntax, notation, axiom, sorry.
-/
import Derived.Test.YtkbkdndaohdhfaaChecked
import GoSem.Claim
import GoSem.ClaimJoined
import GoSem.ClaimMapViews
import Derived.JoinedTies
import Derived.KernelRfl
namespace Go.Proofs.Ytkbkdndaohdhfaa
/- THE CELL 'sum', in the pinned program and in every row, IS THE sha256 OF THE DUMP (.gsa) THAT YtkbkdndaohdhfaaProg.lean LOADS. Nothing in Lean hashes anything: it is a label: what it is worth is what the hold of that sum in a sandbox is worth. -/
noncomputable def Try.pinned : Pinned := { name := "ytkbkdndaohdhfaa", sum := "80e700e6b9a0e9e3407fc4bd35934be4588a39de496a9e8eb71acc0e7b872497", checked := Try.checked }
namespace Rows
def none {H : Type} : Left H := { results := [], args := [] }

/-- 'laws.FnExactShareTarget': WHATEVER THE INPUT: true; the input reads as it did. -/
def fnExactShareTargetSpec : ChangeSpec := { name := "fnExactShareTarget", fn := fun _ => fun
  | [d] => { results := [.lit (.bool true)], args := [d] }
  | _ => none }
def fnExactShareTargetRow : OpenClaim := { program := "ytkbkdndaohdhfaa", sum := "80e700e6b9a0e9e3407fc4bd35934be4588a39de496a9e8eb71acc0e7b872497", func := "loop.example/g00539/laws.FnExactShareTarget", spec := "fnExactShareTarget", apart := false }
def FnExactShareTargetSaid : Prop := fnExactShareTargetRow.holds Try.pinned (OpenSpec.ofChange fnExactShareTargetSpec)

/-- ITS FALSE NEIGHBOUR: 'it returns false'. Refute it at one input. -/
def fnExactShareTargetWrong : ChangeSpec := { name := "fnExactShareTarget", fn := fun _ => fun
  | [d] => { results := [.lit (.bool false)], args := [d] }
  | _ => none }
def FnExactShareTargetWrongFalsely : Prop := fnExactShareTargetRow.holds Try.pinned (OpenSpec.ofChange fnExactShareTargetWrong)

/-- 'laws.FnExactMeterFault': WHATEVER THE INPUT: true; the input reads as it did. -/
def fnExactMeterFaultSpec : ChangeSpec := { name := "fnExactMeterFault", fn := fun _ => fun
  | [d] => { results := [.lit (.bool true)], args := [d] }
  | _ => none }
def fnExactMeterFaultRow : OpenClaim := { program := "ytkbkdndaohdhfaa", sum := "80e700e6b9a0e9e3407fc4bd35934be4588a39de496a9e8eb71acc0e7b872497", func := "loop.example/g00539/laws.FnExactMeterFault", spec := "fnExactMeterFault", apart := false }
def FnExactMeterFaultSaid : Prop := fnExactMeterFaultRow.holds Try.pinned (OpenSpec.ofChange fnExactMeterFaultSpec)

/-- ITS FALSE NEIGHBOUR: 'it returns false'. Refute it at one input. -/
def fnExactMeterFaultWrong : ChangeSpec := { name := "fnExactMeterFault", fn := fun _ => fun
  | [d] => { results := [.lit (.bool false)], args := [d] }
  | _ => none }
def FnExactMeterFaultWrongFalsely : Prop := fnExactMeterFaultRow.holds Try.pinned (OpenSpec.ofChange fnExactMeterFaultWrong)

/-- 'laws.FnExactNewMeter': WHATEVER THE INPUT: true; the input reads as it did. -/
def fnExactNewMeterSpec : ChangeSpec := { name := "fnExactNewMeter", fn := fun _ => fun
  | [d1, d2, d3, d4] => { results := [.lit (.bool true)], args := [d1, d2, d3, d4] }
  | _ => none }
def fnExactNewMeterRow : OpenClaim := { program := "ytkbkdndaohdhfaa", sum := "80e700e6b9a0e9e3407fc4bd35934be4588a39de496a9e8eb71acc0e7b872497", func := "loop.example/g00539/laws.FnExactNewMeter", spec := "fnExactNewMeter", apart := false }
def FnExactNewMeterSaid : Prop := fnExactNewMeterRow.holds Try.pinned (OpenSpec.ofChange fnExactNewMeterSpec)

/-- ITS FALSE NEIGHBOUR: 'it returns false'. Refute it at one input. -/
def fnExactNewMeterWrong : ChangeSpec := { name := "fnExactNewMeter", fn := fun _ => fun
  | [d1, d2, d3, d4] => { results := [.lit (.bool false)], args := [d1, d2, d3, d4] }
  | _ => none }
def FnExactNewMeterWrongFalsely : Prop := fnExactNewMeterRow.holds Try.pinned (OpenSpec.ofChange fnExactNewMeterWrong)

/-- 'laws.FnExactDiskFault': WHATEVER THE INPUT: true; the input reads as it did. -/
def fnExactDiskFaultSpec : ChangeSpec := { name := "fnExactDiskFault", fn := fun _ => fun
  | [d] => { results := [.lit (.bool true)], args := [d] }
  | _ => none }
def fnExactDiskFaultRow : OpenClaim := { program := "ytkbkdndaohdhfaa", sum := "80e700e6b9a0e9e3407fc4bd35934be4588a39de496a9e8eb71acc0e7b872497", func := "loop.example/g00539/laws.FnExactDiskFault", spec := "fnExactDiskFault", apart := false }
def FnExactDiskFaultSaid : Prop := fnExactDiskFaultRow.holds Try.pinned (OpenSpec.ofChange fnExactDiskFaultSpec)

/-- ITS FALSE NEIGHBOUR: 'it returns false'. Refute it at one input. -/
def fnExactDiskFaultWrong : ChangeSpec := { name := "fnExactDiskFault", fn := fun _ => fun
  | [d] => { results := [.lit (.bool false)], args := [d] }
  | _ => none }
def FnExactDiskFaultWrongFalsely : Prop := fnExactDiskFaultRow.holds Try.pinned (OpenSpec.ofChange fnExactDiskFaultWrong)

/-- 'laws.FnExactNextLevel': WHATEVER THE INPUT: true; the input reads as it did. -/
def fnExactNextLevelSpec : ChangeSpec := { name := "fnExactNextLevel", fn := fun _ => fun
  | [d1, d2] => { results := [.lit (.bool true)], args := [d1, d2] }
  | _ => none }
def fnExactNextLevelRow : OpenClaim := { program := "ytkbkdndaohdhfaa", sum := "80e700e6b9a0e9e3407fc4bd35934be4588a39de496a9e8eb71acc0e7b872497", func := "loop.example/g00539/laws.FnExactNextLevel", spec := "fnExactNextLevel", apart := false }
def FnExactNextLevelSaid : Prop := fnExactNextLevelRow.holds Try.pinned (OpenSpec.ofChange fnExactNextLevelSpec)

/-- ITS FALSE NEIGHBOUR: 'it returns false'. Refute it at one input. -/
def fnExactNextLevelWrong : ChangeSpec := { name := "fnExactNextLevel", fn := fun _ => fun
  | [d1, d2] => { results := [.lit (.bool false)], args := [d1, d2] }
  | _ => none }
def FnExactNextLevelWrongFalsely : Prop := fnExactNextLevelRow.holds Try.pinned (OpenSpec.ofChange fnExactNextLevelWrong)

/- THE SECOND FORM. 'bulk': how many values and letters a reading holds, each counted each time it is reached (what is shared counts as often as it is met; a slice's spare places count too). A statement '..UptoSaid' is the law's where the arguments, and the package variables that the reading takes, are together of bulk at most 1048576: NARROWER than '..Said'. Prove '..Said' where nothing that the law and all that it calls make is longer than what came in: it says more and counts as full. Else prove '..UptoSaid'. A law counts once. -/
mutual
def uptoBulk {H : Type} : DataW H → Nat
  | .lit (.string bytes) => bytes.length + 1
  | .lit _ => 1
  | .nil => 1
  | .ptr d => uptoBulk d + 1
  | .slice elems spare => uptoBulkAll elems + uptoBulkAll spare + 1
  | .agg parts => uptoBulkAll parts + 1
  | .iface _ d => uptoBulk d + 1
  | .map entries => uptoBulkEntries entries + 1
  | .held _ => 1
def uptoBulkAll {H : Type} : List (DataW H) → Nat
  | [] => 0
  | d :: r => uptoBulk d + uptoBulkAll r
def uptoBulkEntries {H : Type} : List (Lit × DataW H) → Nat
  | [] => 0
  | x :: r => uptoBulkEntry x + uptoBulkEntries r
def uptoBulkEntry {H : Type} : Lit × DataW H → Nat
  | (.string bytes, d) => bytes.length + uptoBulk d + 1
  | (_, d) => uptoBulk d + 1
 end
def uptoSmall : (H : Type) → List (DataW H) → Bool := fun _ ds => decide (uptoBulkAll ds ≤ 1048576)
def OpenSpec.upto (s : _root_.Go.ChangeSpec) : _root_.Go.OpenSpec := { _root_.Go.OpenSpec.ofChange s with cond := some uptoSmall }

/-- 'laws.FnExactShareTarget', WHERE WHAT IT READS IS OF BULK AT MOST 1048576: true; the input reads as it did. -/
def fnExactShareTargetUptoRow : OpenClaim := { program := "ytkbkdndaohdhfaa", sum := "80e700e6b9a0e9e3407fc4bd35934be4588a39de496a9e8eb71acc0e7b872497", func := "loop.example/g00539/laws.FnExactShareTarget", spec := "fnExactShareTarget", apart := false, narrowed := true }
def FnExactShareTargetUptoSaid : Prop := fnExactShareTargetUptoRow.holds Try.pinned (OpenSpec.upto fnExactShareTargetSpec)

/-- 'laws.FnExactMeterFault', WHERE WHAT IT READS IS OF BULK AT MOST 1048576: true; the input reads as it did. -/
def fnExactMeterFaultUptoRow : OpenClaim := { program := "ytkbkdndaohdhfaa", sum := "80e700e6b9a0e9e3407fc4bd35934be4588a39de496a9e8eb71acc0e7b872497", func := "loop.example/g00539/laws.FnExactMeterFault", spec := "fnExactMeterFault", apart := false, narrowed := true }
def FnExactMeterFaultUptoSaid : Prop := fnExactMeterFaultUptoRow.holds Try.pinned (OpenSpec.upto fnExactMeterFaultSpec)

/-- 'laws.FnExactNewMeter', WHERE WHAT IT READS IS OF BULK AT MOST 1048576: true; the input reads as it did. -/
def fnExactNewMeterUptoRow : OpenClaim := { program := "ytkbkdndaohdhfaa", sum := "80e700e6b9a0e9e3407fc4bd35934be4588a39de496a9e8eb71acc0e7b872497", func := "loop.example/g00539/laws.FnExactNewMeter", spec := "fnExactNewMeter", apart := false, narrowed := true }
def FnExactNewMeterUptoSaid : Prop := fnExactNewMeterUptoRow.holds Try.pinned (OpenSpec.upto fnExactNewMeterSpec)

/-- 'laws.FnExactDiskFault', WHERE WHAT IT READS IS OF BULK AT MOST 1048576: true; the input reads as it did. -/
def fnExactDiskFaultUptoRow : OpenClaim := { program := "ytkbkdndaohdhfaa", sum := "80e700e6b9a0e9e3407fc4bd35934be4588a39de496a9e8eb71acc0e7b872497", func := "loop.example/g00539/laws.FnExactDiskFault", spec := "fnExactDiskFault", apart := false, narrowed := true }
def FnExactDiskFaultUptoSaid : Prop := fnExactDiskFaultUptoRow.holds Try.pinned (OpenSpec.upto fnExactDiskFaultSpec)

/-- 'laws.FnExactNextLevel', WHERE WHAT IT READS IS OF BULK AT MOST 1048576: true; the input reads as it did. -/
def fnExactNextLevelUptoRow : OpenClaim := { program := "ytkbkdndaohdhfaa", sum := "80e700e6b9a0e9e3407fc4bd35934be4588a39de496a9e8eb71acc0e7b872497", func := "loop.example/g00539/laws.FnExactNextLevel", spec := "fnExactNextLevel", apart := false, narrowed := true }
def FnExactNextLevelUptoSaid : Prop := fnExactNextLevelUptoRow.holds Try.pinned (OpenSpec.upto fnExactNextLevelSpec)

end Rows
end Go.Proofs.Ytkbkdndaohdhfaa
