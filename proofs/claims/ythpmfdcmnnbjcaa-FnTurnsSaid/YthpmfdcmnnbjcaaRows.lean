/-
  No cell of these rows narrows 'for every input' (looked for: loops, veiled, ifaces, maps, wideKeys, modest, calm, conditions, laid).
  DERIVED. THE GIVEN ROWS OF THIS SEAT. 12 by the template 'for every input the law returns true; each argument reads behind the call as it read before'; 0 by the template 'total and deterministic' (their statements: YthpmfdcmnnbjcaaTotals.lean).
  GIVEN WITH THE SEED: the statements are not yours to turn. If you find one false, say at which input.
  Laid BY PROGRAM, IN A SANDBOX (cutbox-rows.mjs): the forced cells as the released guide's own fill.sh prints them over the translation aa6ece3b88492cf8… (all of the seat's roots in one cut). By AI agents, Wed Nov 11 2026. No macro, syntax, notation, axiom, sorry.
-/
import Derived.Test.YthpmfdcmnnbjcaaChecked
import GoSem.Claim
import GoSem.ClaimJoined
import GoSem.ClaimMapViews
import Derived.JoinedTies
import Derived.KernelRfl
namespace Go.Proofs.Ythpmfdcmnnbjcaa
/- THE CELL 'sum', in the pinned program and in every row, IS THE sha256 OF THE DUMP (.gsa) THAT YthpmfdcmnnbjcaaProg.lean LOADS. Nothing in Lean hashes anything: it is a label: what it is worth is what the hold of that sum in a sandbox is worth. -/
noncomputable def Try.pinned : Pinned := { name := "ythpmfdcmnnbjcaa", sum := "aa6ece3b88492cf869f797dde321087b374102b8de326207b54cd995947cd9fd", checked := Try.checked }
namespace Rows
def none {H : Type} : Left H := { results := [], args := [] }

/-- 'laws.FnExactShareTarget': WHATEVER THE INPUT: true; the input reads as it did. -/
def fnExactShareTargetSpec : ChangeSpec := { name := "fnExactShareTarget", fn := fun _ => fun
  | [d] => { results := [.lit (.bool true)], args := [d] }
  | _ => none }
def fnExactShareTargetRow : OpenClaim := { program := "ythpmfdcmnnbjcaa", sum := "aa6ece3b88492cf869f797dde321087b374102b8de326207b54cd995947cd9fd", func := "loop.example/g00539/laws.FnExactShareTarget", spec := "fnExactShareTarget", apart := false }
def FnExactShareTargetSaid : Prop := fnExactShareTargetRow.holds Try.pinned (OpenSpec.ofChange fnExactShareTargetSpec)

/-- ITS FALSE NEIGHBOUR: 'it returns false'. Refute it at one input. -/
def fnExactShareTargetWrong : ChangeSpec := { name := "fnExactShareTarget", fn := fun _ => fun
  | [d] => { results := [.lit (.bool false)], args := [d] }
  | _ => none }
def FnExactShareTargetWrongFalsely : Prop := fnExactShareTargetRow.holds Try.pinned (OpenSpec.ofChange fnExactShareTargetWrong)

/-- 'laws.FnExactMeterFault': WHATEVER THE INPUT: true; the input reads as it did. -/
def fnExactMeterFaultSpec : ChangeSpec := { name := "fnExactMeterFault", fn := fun _ => fun
  | [d] => { results := [.lit (.bool true)], args := [d] }
  | _ => none }
def fnExactMeterFaultRow : OpenClaim := { program := "ythpmfdcmnnbjcaa", sum := "aa6ece3b88492cf869f797dde321087b374102b8de326207b54cd995947cd9fd", func := "loop.example/g00539/laws.FnExactMeterFault", spec := "fnExactMeterFault", apart := false }
def FnExactMeterFaultSaid : Prop := fnExactMeterFaultRow.holds Try.pinned (OpenSpec.ofChange fnExactMeterFaultSpec)

/-- ITS FALSE NEIGHBOUR: 'it returns false'. Refute it at one input. -/
def fnExactMeterFaultWrong : ChangeSpec := { name := "fnExactMeterFault", fn := fun _ => fun
  | [d] => { results := [.lit (.bool false)], args := [d] }
  | _ => none }
def FnExactMeterFaultWrongFalsely : Prop := fnExactMeterFaultRow.holds Try.pinned (OpenSpec.ofChange fnExactMeterFaultWrong)

/-- 'laws.FnExactNewMeter': WHATEVER THE INPUT: true; the input reads as it did. -/
def fnExactNewMeterSpec : ChangeSpec := { name := "fnExactNewMeter", fn := fun _ => fun
  | [d1, d2, d3, d4] => { results := [.lit (.bool true)], args := [d1, d2, d3, d4] }
  | _ => none }
def fnExactNewMeterRow : OpenClaim := { program := "ythpmfdcmnnbjcaa", sum := "aa6ece3b88492cf869f797dde321087b374102b8de326207b54cd995947cd9fd", func := "loop.example/g00539/laws.FnExactNewMeter", spec := "fnExactNewMeter", apart := false }
def FnExactNewMeterSaid : Prop := fnExactNewMeterRow.holds Try.pinned (OpenSpec.ofChange fnExactNewMeterSpec)

/-- ITS FALSE NEIGHBOUR: 'it returns false'. Refute it at one input. -/
def fnExactNewMeterWrong : ChangeSpec := { name := "fnExactNewMeter", fn := fun _ => fun
  | [d1, d2, d3, d4] => { results := [.lit (.bool false)], args := [d1, d2, d3, d4] }
  | _ => none }
def FnExactNewMeterWrongFalsely : Prop := fnExactNewMeterRow.holds Try.pinned (OpenSpec.ofChange fnExactNewMeterWrong)

/-- 'laws.FnExactDiskFault': WHATEVER THE INPUT: true; the input reads as it did. -/
def fnExactDiskFaultSpec : ChangeSpec := { name := "fnExactDiskFault", fn := fun _ => fun
  | [d] => { results := [.lit (.bool true)], args := [d] }
  | _ => none }
def fnExactDiskFaultRow : OpenClaim := { program := "ythpmfdcmnnbjcaa", sum := "aa6ece3b88492cf869f797dde321087b374102b8de326207b54cd995947cd9fd", func := "loop.example/g00539/laws.FnExactDiskFault", spec := "fnExactDiskFault", apart := false }
def FnExactDiskFaultSaid : Prop := fnExactDiskFaultRow.holds Try.pinned (OpenSpec.ofChange fnExactDiskFaultSpec)

/-- ITS FALSE NEIGHBOUR: 'it returns false'. Refute it at one input. -/
def fnExactDiskFaultWrong : ChangeSpec := { name := "fnExactDiskFault", fn := fun _ => fun
  | [d] => { results := [.lit (.bool false)], args := [d] }
  | _ => none }
def FnExactDiskFaultWrongFalsely : Prop := fnExactDiskFaultRow.holds Try.pinned (OpenSpec.ofChange fnExactDiskFaultWrong)

/-- 'laws.FnExactNextLevel': WHATEVER THE INPUT: true; the input reads as it did. -/
def fnExactNextLevelSpec : ChangeSpec := { name := "fnExactNextLevel", fn := fun _ => fun
  | [d1, d2] => { results := [.lit (.bool true)], args := [d1, d2] }
  | _ => none }
def fnExactNextLevelRow : OpenClaim := { program := "ythpmfdcmnnbjcaa", sum := "aa6ece3b88492cf869f797dde321087b374102b8de326207b54cd995947cd9fd", func := "loop.example/g00539/laws.FnExactNextLevel", spec := "fnExactNextLevel", apart := false }
def FnExactNextLevelSaid : Prop := fnExactNextLevelRow.holds Try.pinned (OpenSpec.ofChange fnExactNextLevelSpec)

/-- ITS FALSE NEIGHBOUR: 'it returns false'. Refute it at one input. -/
def fnExactNextLevelWrong : ChangeSpec := { name := "fnExactNextLevel", fn := fun _ => fun
  | [d1, d2] => { results := [.lit (.bool false)], args := [d1, d2] }
  | _ => none }
def FnExactNextLevelWrongFalsely : Prop := fnExactNextLevelRow.holds Try.pinned (OpenSpec.ofChange fnExactNextLevelWrong)

/-- 'laws.FnExactSeenFault': WHATEVER THE INPUT: true; the input reads as it did. -/
def fnExactSeenFaultSpec : ChangeSpec := { name := "fnExactSeenFault", fn := fun _ => fun
  | [d] => { results := [.lit (.bool true)], args := [d] }
  | _ => none }
def fnExactSeenFaultRow : OpenClaim := { program := "ythpmfdcmnnbjcaa", sum := "aa6ece3b88492cf869f797dde321087b374102b8de326207b54cd995947cd9fd", func := "loop.example/g00539/laws.FnExactSeenFault", spec := "fnExactSeenFault", apart := false }
def FnExactSeenFaultSaid : Prop := fnExactSeenFaultRow.holds Try.pinned (OpenSpec.ofChange fnExactSeenFaultSpec)

/-- ITS FALSE NEIGHBOUR: 'it returns false'. Refute it at one input. -/
def fnExactSeenFaultWrong : ChangeSpec := { name := "fnExactSeenFault", fn := fun _ => fun
  | [d] => { results := [.lit (.bool false)], args := [d] }
  | _ => none }
def FnExactSeenFaultWrongFalsely : Prop := fnExactSeenFaultRow.holds Try.pinned (OpenSpec.ofChange fnExactSeenFaultWrong)

/-- 'laws.FnExactFeedMeter': WHATEVER THE INPUT: true; the input reads as it did. -/
def fnExactFeedMeterSpec : ChangeSpec := { name := "fnExactFeedMeter", fn := fun _ => fun
  | [d1, d2] => { results := [.lit (.bool true)], args := [d1, d2] }
  | _ => none }
def fnExactFeedMeterRow : OpenClaim := { program := "ythpmfdcmnnbjcaa", sum := "aa6ece3b88492cf869f797dde321087b374102b8de326207b54cd995947cd9fd", func := "loop.example/g00539/laws.FnExactFeedMeter", spec := "fnExactFeedMeter", apart := false }
def FnExactFeedMeterSaid : Prop := fnExactFeedMeterRow.holds Try.pinned (OpenSpec.ofChange fnExactFeedMeterSpec)

/-- ITS FALSE NEIGHBOUR: 'it returns false'. Refute it at one input. -/
def fnExactFeedMeterWrong : ChangeSpec := { name := "fnExactFeedMeter", fn := fun _ => fun
  | [d1, d2] => { results := [.lit (.bool false)], args := [d1, d2] }
  | _ => none }
def FnExactFeedMeterWrongFalsely : Prop := fnExactFeedMeterRow.holds Try.pinned (OpenSpec.ofChange fnExactFeedMeterWrong)

/-- 'laws.FnTurns': WHATEVER THE INPUT: true; the input reads as it did. -/
def fnTurnsSpec : ChangeSpec := { name := "fnTurns", fn := fun _ => fun
  | [d] => { results := [.lit (.bool true)], args := [d] }
  | _ => none }
def fnTurnsRow : OpenClaim := { program := "ythpmfdcmnnbjcaa", sum := "aa6ece3b88492cf869f797dde321087b374102b8de326207b54cd995947cd9fd", func := "loop.example/g00539/laws.FnTurns", spec := "fnTurns", apart := false }
def FnTurnsSaid : Prop := fnTurnsRow.holds Try.pinned (OpenSpec.ofChange fnTurnsSpec)

/-- ITS FALSE NEIGHBOUR: 'it returns false'. Refute it at one input. -/
def fnTurnsWrong : ChangeSpec := { name := "fnTurns", fn := fun _ => fun
  | [d] => { results := [.lit (.bool false)], args := [d] }
  | _ => none }
def FnTurnsWrongFalsely : Prop := fnTurnsRow.holds Try.pinned (OpenSpec.ofChange fnTurnsWrong)

/-- 'laws.FnExactTurnsTo': WHATEVER THE INPUT: true; the input reads as it did. -/
def fnExactTurnsToSpec : ChangeSpec := { name := "fnExactTurnsTo", fn := fun _ => fun
  | [d1, d2, d3] => { results := [.lit (.bool true)], args := [d1, d2, d3] }
  | _ => none }
def fnExactTurnsToRow : OpenClaim := { program := "ythpmfdcmnnbjcaa", sum := "aa6ece3b88492cf869f797dde321087b374102b8de326207b54cd995947cd9fd", func := "loop.example/g00539/laws.FnExactTurnsTo", spec := "fnExactTurnsTo", apart := false }
def FnExactTurnsToSaid : Prop := fnExactTurnsToRow.holds Try.pinned (OpenSpec.ofChange fnExactTurnsToSpec)

/-- ITS FALSE NEIGHBOUR: 'it returns false'. Refute it at one input. -/
def fnExactTurnsToWrong : ChangeSpec := { name := "fnExactTurnsTo", fn := fun _ => fun
  | [d1, d2, d3] => { results := [.lit (.bool false)], args := [d1, d2, d3] }
  | _ => none }
def FnExactTurnsToWrongFalsely : Prop := fnExactTurnsToRow.holds Try.pinned (OpenSpec.ofChange fnExactTurnsToWrong)

/-- 'laws.FnExactSyncDisk': WHATEVER THE INPUT: true; the input reads as it did. -/
def fnExactSyncDiskSpec : ChangeSpec := { name := "fnExactSyncDisk", fn := fun _ => fun
  | [d] => { results := [.lit (.bool true)], args := [d] }
  | _ => none }
def fnExactSyncDiskRow : OpenClaim := { program := "ythpmfdcmnnbjcaa", sum := "aa6ece3b88492cf869f797dde321087b374102b8de326207b54cd995947cd9fd", func := "loop.example/g00539/laws.FnExactSyncDisk", spec := "fnExactSyncDisk", apart := false }
def FnExactSyncDiskSaid : Prop := fnExactSyncDiskRow.holds Try.pinned (OpenSpec.ofChange fnExactSyncDiskSpec)

/-- ITS FALSE NEIGHBOUR: 'it returns false'. Refute it at one input. -/
def fnExactSyncDiskWrong : ChangeSpec := { name := "fnExactSyncDisk", fn := fun _ => fun
  | [d] => { results := [.lit (.bool false)], args := [d] }
  | _ => none }
def FnExactSyncDiskWrongFalsely : Prop := fnExactSyncDiskRow.holds Try.pinned (OpenSpec.ofChange fnExactSyncDiskWrong)

/-- 'laws.FnMeters': WHATEVER THE INPUT: true; the input reads as it did. -/
def fnMetersSpec : ChangeSpec := { name := "fnMeters", fn := fun _ => fun
  | [d] => { results := [.lit (.bool true)], args := [d] }
  | _ => none }
def fnMetersRow : OpenClaim := { program := "ythpmfdcmnnbjcaa", sum := "aa6ece3b88492cf869f797dde321087b374102b8de326207b54cd995947cd9fd", func := "loop.example/g00539/laws.FnMeters", spec := "fnMeters", apart := false }
def FnMetersSaid : Prop := fnMetersRow.holds Try.pinned (OpenSpec.ofChange fnMetersSpec)

/-- ITS FALSE NEIGHBOUR: 'it returns false'. Refute it at one input. -/
def fnMetersWrong : ChangeSpec := { name := "fnMeters", fn := fun _ => fun
  | [d] => { results := [.lit (.bool false)], args := [d] }
  | _ => none }
def FnMetersWrongFalsely : Prop := fnMetersRow.holds Try.pinned (OpenSpec.ofChange fnMetersWrong)

/-- 'laws.FnExactCrashDisk': WHATEVER THE INPUT: true; the input reads as it did. -/
def fnExactCrashDiskSpec : ChangeSpec := { name := "fnExactCrashDisk", fn := fun _ => fun
  | [d1, d2] => { results := [.lit (.bool true)], args := [d1, d2] }
  | _ => none }
def fnExactCrashDiskRow : OpenClaim := { program := "ythpmfdcmnnbjcaa", sum := "aa6ece3b88492cf869f797dde321087b374102b8de326207b54cd995947cd9fd", func := "loop.example/g00539/laws.FnExactCrashDisk", spec := "fnExactCrashDisk", apart := false }
def FnExactCrashDiskSaid : Prop := fnExactCrashDiskRow.holds Try.pinned (OpenSpec.ofChange fnExactCrashDiskSpec)

/-- ITS FALSE NEIGHBOUR: 'it returns false'. Refute it at one input. -/
def fnExactCrashDiskWrong : ChangeSpec := { name := "fnExactCrashDisk", fn := fun _ => fun
  | [d1, d2] => { results := [.lit (.bool false)], args := [d1, d2] }
  | _ => none }
def FnExactCrashDiskWrongFalsely : Prop := fnExactCrashDiskRow.holds Try.pinned (OpenSpec.ofChange fnExactCrashDiskWrong)

/- THE SECOND FORM. 'bulk': how many values and letters a reading holds, each counted each time it is reached (what is shared counts as often as it is met; a slice's spare places count too). A statement '..UptoSaid' is the law's where the arguments, and the package variables that the reading takes, are together of bulk at most 1048576: NARROWER than '..Said'. Prove '..Said' where nothing that the law and all that it calls make is longer than what came in: it says more and counts as full. Else prove '..UptoSaid'. A law counts once. -/
mutual
def uptoBulk {H : Type} : DataW H → Nat
  | .lit (.string bytes) => bytes.length + 1
  | .lit _ => 1
  | .nil => 1
  | .ptr d => uptoBulk d + 1
  | .slice elems spare => uptoBulkAll elems + uptoBulkAll spare + 1
  | .agg parts => uptoBulkAll parts + 1
  | .iface _ d => uptoBulk d + 1
  | .map entries => uptoBulkEntries entries + 1
  | .held _ => 1
def uptoBulkAll {H : Type} : List (DataW H) → Nat
  | [] => 0
  | d :: r => uptoBulk d + uptoBulkAll r
def uptoBulkEntries {H : Type} : List (Lit × DataW H) → Nat
  | [] => 0
  | x :: r => uptoBulkEntry x + uptoBulkEntries r
def uptoBulkEntry {H : Type} : Lit × DataW H → Nat
  | (.string bytes, d) => bytes.length + uptoBulk d + 1
  | (_, d) => uptoBulk d + 1
 end
def uptoSmall : (H : Type) → List (DataW H) → Bool := fun _ ds => decide (uptoBulkAll ds ≤ 1048576)
def OpenSpec.upto (s : _root_.Go.ChangeSpec) : _root_.Go.OpenSpec := { _root_.Go.OpenSpec.ofChange s with cond := some uptoSmall }

/-- 'laws.FnExactShareTarget', WHERE WHAT IT READS IS OF BULK AT MOST 1048576: true; the input reads as it did. -/
def fnExactShareTargetUptoRow : OpenClaim := { program := "ythpmfdcmnnbjcaa", sum := "aa6ece3b88492cf869f797dde321087b374102b8de326207b54cd995947cd9fd", func := "loop.example/g00539/laws.FnExactShareTarget", spec := "fnExactShareTarget", apart := false, narrowed := true }
def FnExactShareTargetUptoSaid : Prop := fnExactShareTargetUptoRow.holds Try.pinned (OpenSpec.upto fnExactShareTargetSpec)

/-- 'laws.FnExactMeterFault', WHERE WHAT IT READS IS OF BULK AT MOST 1048576: true; the input reads as it did. -/
def fnExactMeterFaultUptoRow : OpenClaim := { program := "ythpmfdcmnnbjcaa", sum := "aa6ece3b88492cf869f797dde321087b374102b8de326207b54cd995947cd9fd", func := "loop.example/g00539/laws.FnExactMeterFault", spec := "fnExactMeterFault", apart := false, narrowed := true }
def FnExactMeterFaultUptoSaid : Prop := fnExactMeterFaultUptoRow.holds Try.pinned (OpenSpec.upto fnExactMeterFaultSpec)

/-- 'laws.FnExactNewMeter', WHERE WHAT IT READS IS OF BULK AT MOST 1048576: true; the input reads as it did. -/
def fnExactNewMeterUptoRow : OpenClaim := { program := "ythpmfdcmnnbjcaa", sum := "aa6ece3b88492cf869f797dde321087b374102b8de326207b54cd995947cd9fd", func := "loop.example/g00539/laws.FnExactNewMeter", spec := "fnExactNewMeter", apart := false, narrowed := true }
def FnExactNewMeterUptoSaid : Prop := fnExactNewMeterUptoRow.holds Try.pinned (OpenSpec.upto fnExactNewMeterSpec)

/-- 'laws.FnExactDiskFault', WHERE WHAT IT READS IS OF BULK AT MOST 1048576: true; the input reads as it did. -/
def fnExactDiskFaultUptoRow : OpenClaim := { program := "ythpmfdcmnnbjcaa", sum := "aa6ece3b88492cf869f797dde321087b374102b8de326207b54cd995947cd9fd", func := "loop.example/g00539/laws.FnExactDiskFault", spec := "fnExactDiskFault", apart := false, narrowed := true }
def FnExactDiskFaultUptoSaid : Prop := fnExactDiskFaultUptoRow.holds Try.pinned (OpenSpec.upto fnExactDiskFaultSpec)

/-- 'laws.FnExactNextLevel', WHERE WHAT IT READS IS OF BULK AT MOST 1048576: true; the input reads as it did. -/
def fnExactNextLevelUptoRow : OpenClaim := { program := "ythpmfdcmnnbjcaa", sum := "aa6ece3b88492cf869f797dde321087b374102b8de326207b54cd995947cd9fd", func := "loop.example/g00539/laws.FnExactNextLevel", spec := "fnExactNextLevel", apart := false, narrowed := true }
def FnExactNextLevelUptoSaid : Prop := fnExactNextLevelUptoRow.holds Try.pinned (OpenSpec.upto fnExactNextLevelSpec)

/-- 'laws.FnExactSeenFault', WHERE WHAT IT READS IS OF BULK AT MOST 1048576: true; the input reads as it did. -/
def fnExactSeenFaultUptoRow : OpenClaim := { program := "ythpmfdcmnnbjcaa", sum := "aa6ece3b88492cf869f797dde321087b374102b8de326207b54cd995947cd9fd", func := "loop.example/g00539/laws.FnExactSeenFault", spec := "fnExactSeenFault", apart := false, narrowed := true }
def FnExactSeenFaultUptoSaid : Prop := fnExactSeenFaultUptoRow.holds Try.pinned (OpenSpec.upto fnExactSeenFaultSpec)

/-- 'laws.FnExactFeedMeter', WHERE WHAT IT READS IS OF BULK AT MOST 1048576: true; the input reads as it did. -/
def fnExactFeedMeterUptoRow : OpenClaim := { program := "ythpmfdcmnnbjcaa", sum := "aa6ece3b88492cf869f797dde321087b374102b8de326207b54cd995947cd9fd", func := "loop.example/g00539/laws.FnExactFeedMeter", spec := "fnExactFeedMeter", apart := false, narrowed := true }
def FnExactFeedMeterUptoSaid : Prop := fnExactFeedMeterUptoRow.holds Try.pinned (OpenSpec.upto fnExactFeedMeterSpec)

/-- 'laws.FnTurns', WHERE WHAT IT READS IS OF BULK AT MOST 1048576: true; the input reads as it did. -/
def fnTurnsUptoRow : OpenClaim := { program := "ythpmfdcmnnbjcaa", sum := "aa6ece3b88492cf869f797dde321087b374102b8de326207b54cd995947cd9fd", func := "loop.example/g00539/laws.FnTurns", spec := "fnTurns", apart := false, narrowed := true }
def FnTurnsUptoSaid : Prop := fnTurnsUptoRow.holds Try.pinned (OpenSpec.upto fnTurnsSpec)

/-- 'laws.FnExactTurnsTo', WHERE WHAT IT READS IS OF BULK AT MOST 1048576: true; the input reads as it did. -/
def fnExactTurnsToUptoRow : OpenClaim := { program := "ythpmfdcmnnbjcaa", sum := "aa6ece3b88492cf869f797dde321087b374102b8de326207b54cd995947cd9fd", func := "loop.example/g00539/laws.FnExactTurnsTo", spec := "fnExactTurnsTo", apart := false, narrowed := true }
def FnExactTurnsToUptoSaid : Prop := fnExactTurnsToUptoRow.holds Try.pinned (OpenSpec.upto fnExactTurnsToSpec)

/-- 'laws.FnExactSyncDisk', WHERE WHAT IT READS IS OF BULK AT MOST 1048576: true; the input reads as it did. -/
def fnExactSyncDiskUptoRow : OpenClaim := { program := "ythpmfdcmnnbjcaa", sum := "aa6ece3b88492cf869f797dde321087b374102b8de326207b54cd995947cd9fd", func := "loop.example/g00539/laws.FnExactSyncDisk", spec := "fnExactSyncDisk", apart := false, narrowed := true }
def FnExactSyncDiskUptoSaid : Prop := fnExactSyncDiskUptoRow.holds Try.pinned (OpenSpec.upto fnExactSyncDiskSpec)

/-- 'laws.FnMeters', WHERE WHAT IT READS IS OF BULK AT MOST 1048576: true; the input reads as it did. -/
def fnMetersUptoRow : OpenClaim := { program := "ythpmfdcmnnbjcaa", sum := "aa6ece3b88492cf869f797dde321087b374102b8de326207b54cd995947cd9fd", func := "loop.example/g00539/laws.FnMeters", spec := "fnMeters", apart := false, narrowed := true }
def FnMetersUptoSaid : Prop := fnMetersUptoRow.holds Try.pinned (OpenSpec.upto fnMetersSpec)

/-- 'laws.FnExactCrashDisk', WHERE WHAT IT READS IS OF BULK AT MOST 1048576: true; the input reads as it did. -/
def fnExactCrashDiskUptoRow : OpenClaim := { program := "ythpmfdcmnnbjcaa", sum := "aa6ece3b88492cf869f797dde321087b374102b8de326207b54cd995947cd9fd", func := "loop.example/g00539/laws.FnExactCrashDisk", spec := "fnExactCrashDisk", apart := false, narrowed := true }
def FnExactCrashDiskUptoSaid : Prop := fnExactCrashDiskUptoRow.holds Try.pinned (OpenSpec.upto fnExactCrashDiskSpec)

end Rows
end Go.Proofs.Ythpmfdcmnnbjcaa
