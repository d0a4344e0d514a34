/-
  NARROWER THAN 'FOR EVERY INPUT', by the rows' own cells (each row's printed sentence says how): FnExactPackEntry: laid · FnExactAppendEntry: laid · FnExactSplitAmount: laid · FnExactReadEntries: laid · FnExactServerFault: laid · FnExactWorkersOf: laid · FnExactOpenSession: laid · FnExactCloseSession: laid.
  DERIVED. THE GIVEN ROWS OF THIS SEAT. 8 by the template 'for every input the law returns true; each argument reads behind the call as it read before'; 0 by the template 'total and deterministic' (their statements: YtdnopbpdiineiaaDoorTotals.lean).
  GIVEN WITH THE SEED: the statements are not yours to turn. If you find one false, say at which input.
  Laid BY PROGRAM, IN A SANDBOX (cutbox-rows.mjs): the forced cells as the released guide's own fill.sh prints them over the translation 158c8bfdbb856def… (all of the seat's roots in one cut). By AI agents, Wed Nov 11 2026. No macro, syntax, notation, axiom, sorry.
-/
import Derived.Test.YtdnopbpdiineiaaDoorChecked
import GoSem.PinnedTables
import GoSem.Claim
import GoSem.ClaimJoined
import GoSem.ClaimMapViews
import Derived.JoinedTies
import Derived.KernelRfl
namespace Go.Proofs.YtdnopbpdiineiaaDoor
/- THE CELL 'sum', in the pinned program and in every row, IS THE sha256 OF THE DUMP (.gsa) THAT YtdnopbpdiineiaaDoorProg.lean LOADS. Nothing in Lean hashes anything: it is a label: what it is worth is what the hold of that sum in a sandbox is worth. -/
noncomputable def Tryd.pinned : Pinned := { name := "ytdnopbpdiineiaadoor", sum := "158c8bfdbb856def055567a472564e8ee18fd28d251dfa89bce4dd8da694939b", checked := Tryd.checked }
namespace Rows
def none {H : Type} : Left H := { results := [], args := [] }

/- WHAT THE LISTED PACKAGE-LEVEL VARIABLES READ AS WHEN THE CALL BEGINS. Each datum BY PROGRAM (the guide's laid-datum.mjs) off the statement by which the dump's own 'gosem.cut.vars' lays the variable. In a bare row this is a premise. The card (YtdnopbpdiineiaaDoorCards.lean) ties it to the program's text. -/
def laid_unicode_utf8_acceptRanges {H : Type} : DataW H := .agg [.agg [.lit (.int .u8 128), .lit (.int .u8 191)], .agg [.lit (.int .u8 160), .lit (.int .u8 191)], .agg [.lit (.int .u8 128), .lit (.int .u8 159)], .agg [.lit (.int .u8 144), .lit (.int .u8 191)], .agg [.lit (.int .u8 128), .lit (.int .u8 143)], .agg [.lit (.int .u8 0), .lit (.int .u8 0)], .agg [.lit (.int .u8 0), .lit (.int .u8 0)], .agg [.lit (.int .u8 0), .lit (.int .u8 0)], .agg [.lit (.int .u8 0), .lit (.int .u8 0)], .agg [.lit (.int .u8 0), .lit (.int .u8 0)], .agg [.lit (.int .u8 0), .lit (.int .u8 0)], .agg [.lit (.int .u8 0), .lit (.int .u8 0)], .agg [.lit (.int .u8 0), .lit (.int .u8 0)], .agg [.lit (.int .u8 0), .lit (.int .u8 0)], .agg [.lit (.int .u8 0), .lit (.int .u8 0)], .agg [.lit (.int .u8 0), .lit (.int .u8 0)]]
/-- One of Go's own tables, pinned by name: the form's constant. -/
def laid_unicode_utf8_first : DataW Unit := Go.Pinned.utf8First

/-- 'laws.FnExactPackEntry': WHATEVER THE INPUT: true; the input reads as it did. -/
def fnExactPackEntrySpec : ChangeSpec := { name := "fnExactPackEntry", fn := fun _ => fun
  | [d] => { results := [.lit (.bool true)], args := [d] }
  | _ => none }
def fnExactPackEntryRow : OpenClaim := { program := "ytdnopbpdiineiaadoor", sum := "158c8bfdbb856def055567a472564e8ee18fd28d251dfa89bce4dd8da694939b", func := "loop.example/g00539/laws.FnExactPackEntry", spec := "fnExactPackEntry", inPlace := ["internal/bytealg.IndexByteString", "internal/bytealg.IndexString"], named := ["unicode/utf8.first", "unicode/utf8.acceptRanges", "internal/bytealg.MaxLen"], apart := false, laid := [("unicode/utf8.acceptRanges", laid_unicode_utf8_acceptRanges), ("unicode/utf8.first", laid_unicode_utf8_first)] }
def FnExactPackEntrySaid : Prop := fnExactPackEntryRow.holds Tryd.pinned (OpenSpec.ofChange fnExactPackEntrySpec)

/-- ITS FALSE NEIGHBOUR: 'it returns false'. Refute it at one input. -/
def fnExactPackEntryWrong : ChangeSpec := { name := "fnExactPackEntry", fn := fun _ => fun
  | [d] => { results := [.lit (.bool false)], args := [d] }
  | _ => none }
def FnExactPackEntryWrongFalsely : Prop := fnExactPackEntryRow.holds Tryd.pinned (OpenSpec.ofChange fnExactPackEntryWrong)

/-- 'laws.FnExactAppendEntry': WHATEVER THE INPUT: true; the input reads as it did. -/
def fnExactAppendEntrySpec : ChangeSpec := { name := "fnExactAppendEntry", fn := fun _ => fun
  | [d1, d2] => { results := [.lit (.bool true)], args := [d1, d2] }
  | _ => none }
def fnExactAppendEntryRow : OpenClaim := { program := "ytdnopbpdiineiaadoor", sum := "158c8bfdbb856def055567a472564e8ee18fd28d251dfa89bce4dd8da694939b", func := "loop.example/g00539/laws.FnExactAppendEntry", spec := "fnExactAppendEntry", inPlace := ["internal/bytealg.IndexByteString", "internal/bytealg.IndexString"], named := ["unicode/utf8.first", "unicode/utf8.acceptRanges", "internal/bytealg.MaxLen"], apart := false, laid := [("unicode/utf8.acceptRanges", laid_unicode_utf8_acceptRanges), ("unicode/utf8.first", laid_unicode_utf8_first)] }
def FnExactAppendEntrySaid : Prop := fnExactAppendEntryRow.holds Tryd.pinned (OpenSpec.ofChange fnExactAppendEntrySpec)

/-- ITS FALSE NEIGHBOUR: 'it returns false'. Refute it at one input. -/
def fnExactAppendEntryWrong : ChangeSpec := { name := "fnExactAppendEntry", fn := fun _ => fun
  | [d1, d2] => { results := [.lit (.bool false)], args := [d1, d2] }
  | _ => none }
def FnExactAppendEntryWrongFalsely : Prop := fnExactAppendEntryRow.holds Tryd.pinned (OpenSpec.ofChange fnExactAppendEntryWrong)

/-- 'laws.FnExactSplitAmount': WHATEVER THE INPUT: true; the input reads as it did. -/
def fnExactSplitAmountSpec : ChangeSpec := { name := "fnExactSplitAmount", fn := fun _ => fun
  | [d1, d2] => { results := [.lit (.bool true)], args := [d1, d2] }
  | _ => none }
def fnExactSplitAmountRow : OpenClaim := { program := "ytdnopbpdiineiaadoor", sum := "158c8bfdbb856def055567a472564e8ee18fd28d251dfa89bce4dd8da694939b", func := "loop.example/g00539/laws.FnExactSplitAmount", spec := "fnExactSplitAmount", inPlace := ["internal/bytealg.IndexByteString", "internal/bytealg.IndexString"], unfollowed := true, recurses := true, named := ["unicode/utf8.first", "unicode/utf8.acceptRanges", "internal/bytealg.MaxLen"], apart := false, laid := [("unicode/utf8.acceptRanges", laid_unicode_utf8_acceptRanges), ("unicode/utf8.first", laid_unicode_utf8_first)] }
def FnExactSplitAmountSaid : Prop := fnExactSplitAmountRow.holds Tryd.pinned (OpenSpec.ofChange fnExactSplitAmountSpec)

/-- ITS FALSE NEIGHBOUR: 'it returns false'. Refute it at one input. -/
def fnExactSplitAmountWrong : ChangeSpec := { name := "fnExactSplitAmount", fn := fun _ => fun
  | [d1, d2] => { results := [.lit (.bool false)], args := [d1, d2] }
  | _ => none }
def FnExactSplitAmountWrongFalsely : Prop := fnExactSplitAmountRow.holds Tryd.pinned (OpenSpec.ofChange fnExactSplitAmountWrong)

/-- 'laws.FnExactReadEntries': WHATEVER THE INPUT: true; the input reads as it did. -/
def fnExactReadEntriesSpec : ChangeSpec := { name := "fnExactReadEntries", fn := fun _ => fun
  | [d] => { results := [.lit (.bool true)], args := [d] }
  | _ => none }
def fnExactReadEntriesRow : OpenClaim := { program := "ytdnopbpdiineiaadoor", sum := "158c8bfdbb856def055567a472564e8ee18fd28d251dfa89bce4dd8da694939b", func := "loop.example/g00539/laws.FnExactReadEntries", spec := "fnExactReadEntries", inPlace := ["internal/bytealg.IndexByteString", "internal/bytealg.IndexString"], named := ["unicode/utf8.first", "unicode/utf8.acceptRanges", "internal/bytealg.MaxLen"], apart := false, laid := [("unicode/utf8.acceptRanges", laid_unicode_utf8_acceptRanges), ("unicode/utf8.first", laid_unicode_utf8_first)] }
def FnExactReadEntriesSaid : Prop := fnExactReadEntriesRow.holds Tryd.pinned (OpenSpec.ofChange fnExactReadEntriesSpec)

/-- ITS FALSE NEIGHBOUR: 'it returns false'. Refute it at one input. -/
def fnExactReadEntriesWrong : ChangeSpec := { name := "fnExactReadEntries", fn := fun _ => fun
  | [d] => { results := [.lit (.bool false)], args := [d] }
  | _ => none }
def FnExactReadEntriesWrongFalsely : Prop := fnExactReadEntriesRow.holds Tryd.pinned (OpenSpec.ofChange fnExactReadEntriesWrong)

/-- 'laws.FnExactServerFault': WHATEVER THE INPUT: true; the input reads as it did. -/
def fnExactServerFaultSpec : ChangeSpec := { name := "fnExactServerFault", fn := fun _ => fun
  | [d] => { results := [.lit (.bool true)], args := [d] }
  | _ => none }
def fnExactServerFaultRow : OpenClaim := { program := "ytdnopbpdiineiaadoor", sum := "158c8bfdbb856def055567a472564e8ee18fd28d251dfa89bce4dd8da694939b", func := "loop.example/g00539/laws.FnExactServerFault", spec := "fnExactServerFault", inPlace := ["internal/bytealg.IndexByteString", "internal/bytealg.IndexString"], unfollowed := true, recurses := true, named := ["unicode/utf8.first", "unicode/utf8.acceptRanges", "internal/bytealg.MaxLen"], apart := false, laid := [("unicode/utf8.acceptRanges", laid_unicode_utf8_acceptRanges), ("unicode/utf8.first", laid_unicode_utf8_first)] }
def FnExactServerFaultSaid : Prop := fnExactServerFaultRow.holds Tryd.pinned (OpenSpec.ofChange fnExactServerFaultSpec)

/-- ITS FALSE NEIGHBOUR: 'it returns false'. Refute it at one input. -/
def fnExactServerFaultWrong : ChangeSpec := { name := "fnExactServerFault", fn := fun _ => fun
  | [d] => { results := [.lit (.bool false)], args := [d] }
  | _ => none }
def FnExactServerFaultWrongFalsely : Prop := fnExactServerFaultRow.holds Tryd.pinned (OpenSpec.ofChange fnExactServerFaultWrong)

/-- 'laws.FnExactWorkersOf': WHATEVER THE INPUT: true; the input reads as it did. -/
def fnExactWorkersOfSpec : ChangeSpec := { name := "fnExactWorkersOf", fn := fun _ => fun
  | [d] => { results := [.lit (.bool true)], args := [d] }
  | _ => none }
def fnExactWorkersOfRow : OpenClaim := { program := "ytdnopbpdiineiaadoor", sum := "158c8bfdbb856def055567a472564e8ee18fd28d251dfa89bce4dd8da694939b", func := "loop.example/g00539/laws.FnExactWorkersOf", spec := "fnExactWorkersOf", inPlace := ["internal/bytealg.IndexByteString", "internal/bytealg.IndexString"], unfollowed := true, recurses := true, named := ["unicode/utf8.first", "unicode/utf8.acceptRanges", "internal/bytealg.MaxLen"], apart := false, laid := [("unicode/utf8.acceptRanges", laid_unicode_utf8_acceptRanges), ("unicode/utf8.first", laid_unicode_utf8_first)] }
def FnExactWorkersOfSaid : Prop := fnExactWorkersOfRow.holds Tryd.pinned (OpenSpec.ofChange fnExactWorkersOfSpec)

/-- ITS FALSE NEIGHBOUR: 'it returns false'. Refute it at one input. -/
def fnExactWorkersOfWrong : ChangeSpec := { name := "fnExactWorkersOf", fn := fun _ => fun
  | [d] => { results := [.lit (.bool false)], args := [d] }
  | _ => none }
def FnExactWorkersOfWrongFalsely : Prop := fnExactWorkersOfRow.holds Tryd.pinned (OpenSpec.ofChange fnExactWorkersOfWrong)

/-- 'laws.FnExactOpenSession': WHATEVER THE INPUT: true; the input reads as it did. -/
def fnExactOpenSessionSpec : ChangeSpec := { name := "fnExactOpenSession", fn := fun _ => fun
  | [d] => { results := [.lit (.bool true)], args := [d] }
  | _ => none }
def fnExactOpenSessionRow : OpenClaim := { program := "ytdnopbpdiineiaadoor", sum := "158c8bfdbb856def055567a472564e8ee18fd28d251dfa89bce4dd8da694939b", func := "loop.example/g00539/laws.FnExactOpenSession", spec := "fnExactOpenSession", inPlace := ["internal/bytealg.IndexByteString", "internal/bytealg.IndexString"], unfollowed := true, recurses := true, named := ["unicode/utf8.first", "unicode/utf8.acceptRanges", "internal/bytealg.MaxLen"], apart := false, laid := [("unicode/utf8.acceptRanges", laid_unicode_utf8_acceptRanges), ("unicode/utf8.first", laid_unicode_utf8_first)] }
def FnExactOpenSessionSaid : Prop := fnExactOpenSessionRow.holds Tryd.pinned (OpenSpec.ofChange fnExactOpenSessionSpec)

/-- ITS FALSE NEIGHBOUR: 'it returns false'. Refute it at one input. -/
def fnExactOpenSessionWrong : ChangeSpec := { name := "fnExactOpenSession", fn := fun _ => fun
  | [d] => { results := [.lit (.bool false)], args := [d] }
  | _ => none }
def FnExactOpenSessionWrongFalsely : Prop := fnExactOpenSessionRow.holds Tryd.pinned (OpenSpec.ofChange fnExactOpenSessionWrong)

/-- 'laws.FnExactCloseSession': WHATEVER THE INPUT: true; the input reads as it did. -/
def fnExactCloseSessionSpec : ChangeSpec := { name := "fnExactCloseSession", fn := fun _ => fun
  | [d1, d2] => { results := [.lit (.bool true)], args := [d1, d2] }
  | _ => none }
def fnExactCloseSessionRow : OpenClaim := { program := "ytdnopbpdiineiaadoor", sum := "158c8bfdbb856def055567a472564e8ee18fd28d251dfa89bce4dd8da694939b", func := "loop.example/g00539/laws.FnExactCloseSession", spec := "fnExactCloseSession", inPlace := ["internal/bytealg.IndexByteString", "internal/bytealg.IndexString"], unfollowed := true, recurses := true, named := ["unicode/utf8.first", "unicode/utf8.acceptRanges", "internal/bytealg.MaxLen"], apart := false, laid := [("unicode/utf8.acceptRanges", laid_unicode_utf8_acceptRanges), ("unicode/utf8.first", laid_unicode_utf8_first)] }
def FnExactCloseSessionSaid : Prop := fnExactCloseSessionRow.holds Tryd.pinned (OpenSpec.ofChange fnExactCloseSessionSpec)

/-- ITS FALSE NEIGHBOUR: 'it returns false'. Refute it at one input. -/
def fnExactCloseSessionWrong : ChangeSpec := { name := "fnExactCloseSession", fn := fun _ => fun
  | [d1, d2] => { results := [.lit (.bool false)], args := [d1, d2] }
  | _ => none }
def FnExactCloseSessionWrongFalsely : Prop := fnExactCloseSessionRow.holds Tryd.pinned (OpenSpec.ofChange fnExactCloseSessionWrong)

/- THE SECOND FORM. 'bulk': how many values and letters a reading holds, each counted each time it is reached (what is shared counts as often as it is met; a slice's spare places count too). A statement '..UptoSaid' is the law's where the arguments, and the package variables that the reading takes, are together of bulk at most 1048576: NARROWER than '..Said'. Prove '..Said' where nothing that the law and all that it calls make is longer than what came in: it says more and counts as full. Else prove '..UptoSaid'. A law counts once. -/
mutual
def uptoBulk {H : Type} : DataW H → Nat
  | .lit (.string bytes) => bytes.length + 1
  | .lit _ => 1
  | .nil => 1
  | .ptr d => uptoBulk d + 1
  | .slice elems spare => uptoBulkAll elems + uptoBulkAll spare + 1
  | .agg parts => uptoBulkAll parts + 1
  | .iface _ d => uptoBulk d + 1
  | .map entries => uptoBulkEntries entries + 1
  | .held _ => 1
def uptoBulkAll {H : Type} : List (DataW H) → Nat
  | [] => 0
  | d :: r => uptoBulk d + uptoBulkAll r
def uptoBulkEntries {H : Type} : List (Lit × DataW H) → Nat
  | [] => 0
  | x :: r => uptoBulkEntry x + uptoBulkEntries r
def uptoBulkEntry {H : Type} : Lit × DataW H → Nat
  | (.string bytes, d) => bytes.length + uptoBulk d + 1
  | (_, d) => uptoBulk d + 1
 end
def uptoSmall : (H : Type) → List (DataW H) → Bool := fun _ ds => decide (uptoBulkAll ds ≤ 1048576)
def OpenSpec.upto (s : _root_.Go.ChangeSpec) : _root_.Go.OpenSpec := { _root_.Go.OpenSpec.ofChange s with cond := some uptoSmall }

/-- 'laws.FnExactPackEntry', WHERE WHAT IT READS IS OF BULK AT MOST 1048576: true; the input reads as it did. -/
def fnExactPackEntryUptoRow : OpenClaim := { program := "ytdnopbpdiineiaadoor", sum := "158c8bfdbb856def055567a472564e8ee18fd28d251dfa89bce4dd8da694939b", func := "loop.example/g00539/laws.FnExactPackEntry", spec := "fnExactPackEntry", inPlace := ["internal/bytealg.IndexByteString", "internal/bytealg.IndexString"], named := ["unicode/utf8.first", "unicode/utf8.acceptRanges", "internal/bytealg.MaxLen"], apart := false, laid := [("unicode/utf8.acceptRanges", laid_unicode_utf8_acceptRanges), ("unicode/utf8.first", laid_unicode_utf8_first)], narrowed := true }
def FnExactPackEntryUptoSaid : Prop := fnExactPackEntryUptoRow.holds Tryd.pinned (OpenSpec.upto fnExactPackEntrySpec)

/-- 'laws.FnExactAppendEntry', WHERE WHAT IT READS IS OF BULK AT MOST 1048576: true; the input reads as it did. -/
def fnExactAppendEntryUptoRow : OpenClaim := { program := "ytdnopbpdiineiaadoor", sum := "158c8bfdbb856def055567a472564e8ee18fd28d251dfa89bce4dd8da694939b", func := "loop.example/g00539/laws.FnExactAppendEntry", spec := "fnExactAppendEntry", inPlace := ["internal/bytealg.IndexByteString", "internal/bytealg.IndexString"], named := ["unicode/utf8.first", "unicode/utf8.acceptRanges", "internal/bytealg.MaxLen"], apart := false, laid := [("unicode/utf8.acceptRanges", laid_unicode_utf8_acceptRanges), ("unicode/utf8.first", laid_unicode_utf8_first)], narrowed := true }
def FnExactAppendEntryUptoSaid : Prop := fnExactAppendEntryUptoRow.holds Tryd.pinned (OpenSpec.upto fnExactAppendEntrySpec)

/-- 'laws.FnExactSplitAmount', WHERE WHAT IT READS IS OF BULK AT MOST 1048576: true; the input reads as it did. -/
def fnExactSplitAmountUptoRow : OpenClaim := { program := "ytdnopbpdiineiaadoor", sum := "158c8bfdbb856def055567a472564e8ee18fd28d251dfa89bce4dd8da694939b", func := "loop.example/g00539/laws.FnExactSplitAmount", spec := "fnExactSplitAmount", inPlace := ["internal/bytealg.IndexByteString", "internal/bytealg.IndexString"], unfollowed := true, recurses := true, named := ["unicode/utf8.first", "unicode/utf8.acceptRanges", "internal/bytealg.MaxLen"], apart := false, laid := [("unicode/utf8.acceptRanges", laid_unicode_utf8_acceptRanges), ("unicode/utf8.first", laid_unicode_utf8_first)], narrowed := true }
def FnExactSplitAmountUptoSaid : Prop := fnExactSplitAmountUptoRow.holds Tryd.pinned (OpenSpec.upto fnExactSplitAmountSpec)

/-- 'laws.FnExactReadEntries', WHERE WHAT IT READS IS OF BULK AT MOST 1048576: true; the input reads as it did. -/
def fnExactReadEntriesUptoRow : OpenClaim := { program := "ytdnopbpdiineiaadoor", sum := "158c8bfdbb856def055567a472564e8ee18fd28d251dfa89bce4dd8da694939b", func := "loop.example/g00539/laws.FnExactReadEntries", spec := "fnExactReadEntries", inPlace := ["internal/bytealg.IndexByteString", "internal/bytealg.IndexString"], named := ["unicode/utf8.first", "unicode/utf8.acceptRanges", "internal/bytealg.MaxLen"], apart := false, laid := [("unicode/utf8.acceptRanges", laid_unicode_utf8_acceptRanges), ("unicode/utf8.first", laid_unicode_utf8_first)], narrowed := true }
def FnExactReadEntriesUptoSaid : Prop := fnExactReadEntriesUptoRow.holds Tryd.pinned (OpenSpec.upto fnExactReadEntriesSpec)

/-- 'laws.FnExactServerFault', WHERE WHAT IT READS IS OF BULK AT MOST 1048576: true; the input reads as it did. -/
def fnExactServerFaultUptoRow : OpenClaim := { program := "ytdnopbpdiineiaadoor", sum := "158c8bfdbb856def055567a472564e8ee18fd28d251dfa89bce4dd8da694939b", func := "loop.example/g00539/laws.FnExactServerFault", spec := "fnExactServerFault", inPlace := ["internal/bytealg.IndexByteString", "internal/bytealg.IndexString"], unfollowed := true, recurses := true, named := ["unicode/utf8.first", "unicode/utf8.acceptRanges", "internal/bytealg.MaxLen"], apart := false, laid := [("unicode/utf8.acceptRanges", laid_unicode_utf8_acceptRanges), ("unicode/utf8.first", laid_unicode_utf8_first)], narrowed := true }
def FnExactServerFaultUptoSaid : Prop := fnExactServerFaultUptoRow.holds Tryd.pinned (OpenSpec.upto fnExactServerFaultSpec)

/-- 'laws.FnExactWorkersOf', WHERE WHAT IT READS IS OF BULK AT MOST 1048576: true; the input reads as it did. -/
def fnExactWorkersOfUptoRow : OpenClaim := { program := "ytdnopbpdiineiaadoor", sum := "158c8bfdbb856def055567a472564e8ee18fd28d251dfa89bce4dd8da694939b", func := "loop.example/g00539/laws.FnExactWorkersOf", spec := "fnExactWorkersOf", inPlace := ["internal/bytealg.IndexByteString", "internal/bytealg.IndexString"], unfollowed := true, recurses := true, named := ["unicode/utf8.first", "unicode/utf8.acceptRanges", "internal/bytealg.MaxLen"], apart := false, laid := [("unicode/utf8.acceptRanges", laid_unicode_utf8_acceptRanges), ("unicode/utf8.first", laid_unicode_utf8_first)], narrowed := true }
def FnExactWorkersOfUptoSaid : Prop := fnExactWorkersOfUptoRow.holds Tryd.pinned (OpenSpec.upto fnExactWorkersOfSpec)

/-- 'laws.FnExactOpenSession', WHERE WHAT IT READS IS OF BULK AT MOST 1048576: true; the input reads as it did. -/
def fnExactOpenSessionUptoRow : OpenClaim := { program := "ytdnopbpdiineiaadoor", sum := "158c8bfdbb856def055567a472564e8ee18fd28d251dfa89bce4dd8da694939b", func := "loop.example/g00539/laws.FnExactOpenSession", spec := "fnExactOpenSession", inPlace := ["internal/bytealg.IndexByteString", "internal/bytealg.IndexString"], unfollowed := true, recurses := true, named := ["unicode/utf8.first", "unicode/utf8.acceptRanges", "internal/bytealg.MaxLen"], apart := false, laid := [("unicode/utf8.acceptRanges", laid_unicode_utf8_acceptRanges), ("unicode/utf8.first", laid_unicode_utf8_first)], narrowed := true }
def FnExactOpenSessionUptoSaid : Prop := fnExactOpenSessionUptoRow.holds Tryd.pinned (OpenSpec.upto fnExactOpenSessionSpec)

/-- 'laws.FnExactCloseSession', WHERE WHAT IT READS IS OF BULK AT MOST 1048576: true; the input reads as it did. -/
def fnExactCloseSessionUptoRow : OpenClaim := { program := "ytdnopbpdiineiaadoor", sum := "158c8bfdbb856def055567a472564e8ee18fd28d251dfa89bce4dd8da694939b", func := "loop.example/g00539/laws.FnExactCloseSession", spec := "fnExactCloseSession", inPlace := ["internal/bytealg.IndexByteString", "internal/bytealg.IndexString"], unfollowed := true, recurses := true, named := ["unicode/utf8.first", "unicode/utf8.acceptRanges", "internal/bytealg.MaxLen"], apart := false, laid := [("unicode/utf8.acceptRanges", laid_unicode_utf8_acceptRanges), ("unicode/utf8.first", laid_unicode_utf8_first)], narrowed := true }
def FnExactCloseSessionUptoSaid : Prop := fnExactCloseSessionUptoRow.holds Tryd.pinned (OpenSpec.upto fnExactCloseSessionSpec)

end Rows
end Go.Proofs.YtdnopbpdiineiaaDoor
