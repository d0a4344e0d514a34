/-
  No cell of these rows narrows 'for every input' (looked for: loops, veiled, ifaces, maps, wideKeys, modest, calm, conditions, laid).
  DERIVED. THE GIVEN ROWS OF THIS SEAT. 3 by the template 'for every input the law returns true; each argument reads behind the call as it read before'; 0 by the template 'total and deterministic' (their statements: YtmdocdnidilaiaaGreatTotals.lean).
  GIVEN WITH THE SEED: the statements are not yours to turn. If you find one false, say at which input.
  Laid BY PROGRAM, IN A SANDBOX (cutbox-rows.mjs): the forced cells as the released guide's own fill.sh prints them over the translation 899f742645b1b378… (all of the seat's roots in one cut). By AI agents, Wed Nov 11 2026. No macro, syntax, notation, axiom, sorry.
-/
import Derived.Test.YtmdocdnidilaiaaGreatChecked
import GoSem.Claim
import GoSem.ClaimJoined
import GoSem.ClaimMapViews
import Derived.JoinedTies
import Derived.KernelRfl
namespace Go.Proofs.YtmdocdnidilaiaaGreat
/- THE CELL 'sum', in the pinned program and in every row, IS THE sha256 OF THE DUMP (.gsa) THAT YtmdocdnidilaiaaGreatProg.lean LOADS. Nothing in Lean hashes anything: it is a label: what it is worth is what the hold of that sum in a sandbox is worth. -/
noncomputable def Tryz.pinned : Pinned := { name := "ytmdocdnidilaiaagreat", sum := "899f742645b1b378d9bcdbad8ffb9bf096b68299866ded631c65e237bcde92df", checked := Tryz.checked }
namespace Rows
def none {H : Type} : Left H := { results := [], args := [] }

/-- 'laws.FnExactShareBlock': WHATEVER THE INPUT: true; the input reads as it did. -/
def fnExactShareBlockSpec : ChangeSpec := { name := "fnExactShareBlock", fn := fun _ => fun
  | [d1, d2, d3, d4] => { results := [.lit (.bool true)], args := [d1, d2, d3, d4] }
  | _ => none }
def fnExactShareBlockRow : OpenClaim := { program := "ytmdocdnidilaiaagreat", sum := "899f742645b1b378d9bcdbad8ffb9bf096b68299866ded631c65e237bcde92df", func := "loop.example/g00539/laws.FnExactShareBlock", spec := "fnExactShareBlock", unfollowed := true, recurses := true, apart := false }
def FnExactShareBlockSaid : Prop := fnExactShareBlockRow.holds Tryz.pinned (OpenSpec.ofChange fnExactShareBlockSpec)

/-- ITS FALSE NEIGHBOUR: 'it returns false'. Refute it at one input. -/
def fnExactShareBlockWrong : ChangeSpec := { name := "fnExactShareBlock", fn := fun _ => fun
  | [d1, d2, d3, d4] => { results := [.lit (.bool false)], args := [d1, d2, d3, d4] }
  | _ => none }
def FnExactShareBlockWrongFalsely : Prop := fnExactShareBlockRow.holds Tryz.pinned (OpenSpec.ofChange fnExactShareBlockWrong)

/-- 'laws.FnExactPutJob': WHATEVER THE INPUT: true; the input reads as it did. -/
def fnExactPutJobSpec : ChangeSpec := { name := "fnExactPutJob", fn := fun _ => fun
  | [d1, d2] => { results := [.lit (.bool true)], args := [d1, d2] }
  | _ => none }
def fnExactPutJobRow : OpenClaim := { program := "ytmdocdnidilaiaagreat", sum := "899f742645b1b378d9bcdbad8ffb9bf096b68299866ded631c65e237bcde92df", func := "loop.example/g00539/laws.FnExactPutJob", spec := "fnExactPutJob", unfollowed := true, recurses := true, apart := false }
def FnExactPutJobSaid : Prop := fnExactPutJobRow.holds Tryz.pinned (OpenSpec.ofChange fnExactPutJobSpec)

/-- ITS FALSE NEIGHBOUR: 'it returns false'. Refute it at one input. -/
def fnExactPutJobWrong : ChangeSpec := { name := "fnExactPutJob", fn := fun _ => fun
  | [d1, d2] => { results := [.lit (.bool false)], args := [d1, d2] }
  | _ => none }
def FnExactPutJobWrongFalsely : Prop := fnExactPutJobRow.holds Tryz.pinned (OpenSpec.ofChange fnExactPutJobWrong)

/-- 'laws.FnExactCheckShare': WHATEVER THE INPUT: true; the input reads as it did. -/
def fnExactCheckShareSpec : ChangeSpec := { name := "fnExactCheckShare", fn := fun _ => fun
  | [d1, d2, d3, d4] => { results := [.lit (.bool true)], args := [d1, d2, d3, d4] }
  | _ => none }
def fnExactCheckShareRow : OpenClaim := { program := "ytmdocdnidilaiaagreat", sum := "899f742645b1b378d9bcdbad8ffb9bf096b68299866ded631c65e237bcde92df", func := "loop.example/g00539/laws.FnExactCheckShare", spec := "fnExactCheckShare", unfollowed := true, recurses := true, apart := false }
def FnExactCheckShareSaid : Prop := fnExactCheckShareRow.holds Tryz.pinned (OpenSpec.ofChange fnExactCheckShareSpec)

/-- ITS FALSE NEIGHBOUR: 'it returns false'. Refute it at one input. -/
def fnExactCheckShareWrong : ChangeSpec := { name := "fnExactCheckShare", fn := fun _ => fun
  | [d1, d2, d3, d4] => { results := [.lit (.bool false)], args := [d1, d2, d3, d4] }
  | _ => none }
def FnExactCheckShareWrongFalsely : Prop := fnExactCheckShareRow.holds Tryz.pinned (OpenSpec.ofChange fnExactCheckShareWrong)

/- THE SECOND FORM. 'bulk': how many values and letters a reading holds, each counted each time it is reached (what is shared counts as often as it is met; a slice's spare places count too). A statement '..UptoSaid' is the law's where the arguments, and the package variables that the reading takes, are together of bulk at most 1048576: NARROWER than '..Said'. Prove '..Said' where nothing that the law and all that it calls make is longer than what came in: it says more and counts as full. Else prove '..UptoSaid'. A law counts once. -/
mutual
def uptoBulk {H : Type} : DataW H → Nat
  | .lit (.string bytes) => bytes.length + 1
  | .lit _ => 1
  | .nil => 1
  | .ptr d => uptoBulk d + 1
  | .slice elems spare => uptoBulkAll elems + uptoBulkAll spare + 1
  | .agg parts => uptoBulkAll parts + 1
  | .iface _ d => uptoBulk d + 1
  | .map entries => uptoBulkEntries entries + 1
  | .held _ => 1
def uptoBulkAll {H : Type} : List (DataW H) → Nat
  | [] => 0
  | d :: r => uptoBulk d + uptoBulkAll r
def uptoBulkEntries {H : Type} : List (Lit × DataW H) → Nat
  | [] => 0
  | x :: r => uptoBulkEntry x + uptoBulkEntries r
def uptoBulkEntry {H : Type} : Lit × DataW H → Nat
  | (.string bytes, d) => bytes.length + uptoBulk d + 1
  | (_, d) => uptoBulk d + 1
 end
def uptoSmall : (H : Type) → List (DataW H) → Bool := fun _ ds => decide (uptoBulkAll ds ≤ 1048576)
def OpenSpec.upto (s : _root_.Go.ChangeSpec) : _root_.Go.OpenSpec := { _root_.Go.OpenSpec.ofChange s with cond := some uptoSmall }

/-- 'laws.FnExactShareBlock', WHERE WHAT IT READS IS OF BULK AT MOST 1048576: true; the input reads as it did. -/
def fnExactShareBlockUptoRow : OpenClaim := { program := "ytmdocdnidilaiaagreat", sum := "899f742645b1b378d9bcdbad8ffb9bf096b68299866ded631c65e237bcde92df", func := "loop.example/g00539/laws.FnExactShareBlock", spec := "fnExactShareBlock", unfollowed := true, recurses := true, apart := false, narrowed := true }
def FnExactShareBlockUptoSaid : Prop := fnExactShareBlockUptoRow.holds Tryz.pinned (OpenSpec.upto fnExactShareBlockSpec)

/-- 'laws.FnExactPutJob', WHERE WHAT IT READS IS OF BULK AT MOST 1048576: true; the input reads as it did. -/
def fnExactPutJobUptoRow : OpenClaim := { program := "ytmdocdnidilaiaagreat", sum := "899f742645b1b378d9bcdbad8ffb9bf096b68299866ded631c65e237bcde92df", func := "loop.example/g00539/laws.FnExactPutJob", spec := "fnExactPutJob", unfollowed := true, recurses := true, apart := false, narrowed := true }
def FnExactPutJobUptoSaid : Prop := fnExactPutJobUptoRow.holds Tryz.pinned (OpenSpec.upto fnExactPutJobSpec)

/-- 'laws.FnExactCheckShare', WHERE WHAT IT READS IS OF BULK AT MOST 1048576: true; the input reads as it did. -/
def fnExactCheckShareUptoRow : OpenClaim := { program := "ytmdocdnidilaiaagreat", sum := "899f742645b1b378d9bcdbad8ffb9bf096b68299866ded631c65e237bcde92df", func := "loop.example/g00539/laws.FnExactCheckShare", spec := "fnExactCheckShare", unfollowed := true, recurses := true, apart := false, narrowed := true }
def FnExactCheckShareUptoSaid : Prop := fnExactCheckShareUptoRow.holds Tryz.pinned (OpenSpec.upto fnExactCheckShareSpec)

end Rows
end Go.Proofs.YtmdocdnidilaiaaGreat
