/- V's text of the functions that this law reaches. -/
import Derived.Test.YtcbnpfnebinbkaaVCode
import Derived.Test.YtcbnpfnebinbkaaRows
import Derived.KernelRfl
namespace Go.Proofs.Ytcbnpfnebinbkaa.NewLedger
open Go Go.Proofs.Ytcbnpfnebinbkaa.V

/-- loop.example/g00539/laws.FnExactNewLedger -/
def v4 : VFun := {
  code :=
    (.seq
    (.region false [0, 1] [
      ⟨some 4, .asg (.c (.bool false)), none, []⟩])
    (.seq
    (.region false [0, 1, 5] [
      ⟨some 10, .mov (.t 0), none, []⟩,
      ⟨some 11, .mov (.t 1), none, []⟩,
      ⟨some 12, .call 11 [(.t 10), (.t 11)], none, []⟩,
      ⟨some 5, .alloc 37 [(.val (.int .i64 0)), (.val (.int .i64 0)), (.val (.int .i64 0)), (.val (.int .i64 0)), (.nl 2), (.nl 5), (.nl 2), (.val (.int .i64 0)), (.val (.int .i64 0)), (.val (.int .i64 0))], none, []⟩,
      ⟨none, .store 37 10 (.t 5) (.t 12), none, []⟩])
    (.seq
    (.region false [0, 1, 5, 6] [
      ⟨some 13, .mov (.t 0), none, []⟩,
      ⟨some 14, .mov (.t 1), none, []⟩,
      ⟨some 15, .call 12 [(.t 13), (.t 14)], none, []⟩,
      ⟨some 6, .alloc 37 [(.val (.int .i64 0)), (.val (.int .i64 0)), (.val (.int .i64 0)), (.val (.int .i64 0)), (.nl 2), (.nl 5), (.nl 2), (.val (.int .i64 0)), (.val (.int .i64 0)), (.val (.int .i64 0))], none, []⟩,
      ⟨none, .store 37 10 (.t 6) (.t 15), none, []⟩])
    (.seq
    (.seq
    (.region false [0, 1, 5, 6, 19] [
      ⟨some 16, .load 37 true 10 (.t 6), none, []⟩,
      ⟨some 17, .load 37 true 10 (.t 5), none, []⟩,
      ⟨some 18, .call 13 [(.t 16), (.t 17)], none, []⟩,
      ⟨some 19, .un .not (.t 18), none, []⟩])
    (.cond (.t 19)
      (.seq
      (.region false [4] [
        ⟨some 4, .asg (.c (.bool false)), none, []⟩])
      .ret)
      .skip))
    (.seq
    (.region false [0, 1, 5, 6, 7] [
      ⟨some 7, .asg (.c (.int .i64 1)), none, []⟩])
    (.seq
    (.region false [0, 1, 5, 6, 7] [
      ⟨some 20, .load 37 true 10 (.t 6), none, []⟩,
      ⟨some 21, .mov (.t 7), none, []⟩,
      ⟨some 22, .call 14 [(.t 20), (.t 21)], none, []⟩,
      ⟨some 7, .asg (.t 22), none, []⟩])
    (.seq
    (.region false [0, 1, 5, 6, 7, 8] [
      ⟨some 8, .asg (.c (.int .i64 1)), none, []⟩])
    (.seq
    (.region false [0, 1, 5, 6, 7, 8] [
      ⟨some 23, .load 37 true 10 (.t 6), none, []⟩,
      ⟨some 24, .mov (.t 8), none, []⟩,
      ⟨some 25, .call 15 [(.t 23), (.t 24)], none, []⟩,
      ⟨some 8, .asg (.t 25), none, []⟩])
    (.seq
    (.seq
    (.region false [0, 1, 5, 6, 7, 8, 27] [
      ⟨some 26, .mov (.t 8), none, []⟩,
      ⟨some 27, .bin false .lss 3 (.t 26) (.c (.int .i64 0)), none, []⟩])
    (.cond (.t 27)
      (.seq
      (.region false [4] [
        ⟨some 4, .asg (.c (.bool false)), none, []⟩])
      .ret)
      .skip))
    (.seq
    (.seq
    (.region false [0, 1, 5, 6, 7, 30] [
      ⟨some 28, .mov (.t 8), none, []⟩,
      ⟨some 29, .mov (.t 7), none, []⟩,
      ⟨some 30, .bin false .neq 3 (.t 28) (.t 29), none, []⟩])
    (.cond (.t 30)
      (.seq
      (.region false [4] [
        ⟨some 4, .asg (.c (.bool false)), none, []⟩])
      .ret)
      .skip))
    (.seq
    (.region false [5, 6, 7, 9] [
      ⟨some 31, .mov (.t 0), none, []⟩,
      ⟨some 32, .mov (.t 1), none, []⟩,
      ⟨some 33, .call 12 [(.t 31), (.t 32)], none, []⟩,
      ⟨some 9, .alloc 37 [(.val (.int .i64 0)), (.val (.int .i64 0)), (.val (.int .i64 0)), (.val (.int .i64 0)), (.nl 2), (.nl 5), (.nl 2), (.val (.int .i64 0)), (.val (.int .i64 0)), (.val (.int .i64 0))], none, []⟩,
      ⟨none, .store 37 10 (.t 9) (.t 33), none, []⟩])
    (.seq
    (.seq
    (.region false [6, 7, 37] [
      ⟨some 34, .load 37 true 10 (.t 9), none, []⟩,
      ⟨some 35, .load 37 true 10 (.t 5), none, []⟩,
      ⟨some 36, .call 13 [(.t 34), (.t 35)], none, []⟩,
      ⟨some 37, .un .not (.t 36), none, []⟩])
    (.cond (.t 37)
      (.seq
      (.region false [4] [
        ⟨some 4, .asg (.c (.bool false)), none, []⟩])
      .ret)
      .skip))
    (.seq
    (.region false [6, 7, 8] [
      ⟨some 8, .asg (.c (.int .i64 1)), none, []⟩])
    (.seq
    (.region false [7, 8] [
      ⟨some 38, .load 37 true 10 (.t 6), none, []⟩,
      ⟨some 39, .mov (.t 8), none, []⟩,
      ⟨some 40, .call 15 [(.t 38), (.t 39)], none, []⟩,
      ⟨some 8, .asg (.t 40), none, []⟩])
    (.seq
    (.seq
    (.region false [7, 8, 42] [
      ⟨some 41, .mov (.t 8), none, []⟩,
      ⟨some 42, .bin false .lss 3 (.t 41) (.c (.int .i64 0)), none, []⟩])
    (.cond (.t 42)
      (.seq
      (.region false [4] [
        ⟨some 4, .asg (.c (.bool false)), none, []⟩])
      .ret)
      .skip))
    (.seq
    (.seq
    (.region false [45] [
      ⟨some 43, .mov (.t 8), none, []⟩,
      ⟨some 44, .mov (.t 7), none, []⟩,
      ⟨some 45, .bin false .neq 3 (.t 43) (.t 44), none, []⟩])
    (.cond (.t 45)
      (.seq
      (.region false [4] [
        ⟨some 4, .asg (.c (.bool false)), none, []⟩])
      .ret)
      .skip))
    (.seq
    (.region false [4] [
      ⟨some 4, .asg (.c (.bool true)), none, []⟩])
    .ret)))))))))))))))))
  modes := [.lend, .lend]
  rets := [⟨4, none⟩] }

/-- loop.example/g00539/spec.NewLedger -/
def v11 : VFun := {
  code :=
    (.seq
    (.region false [0, 1, 4] [
      ⟨some 4, .alloc 37 [(.val (.int .i64 0)), (.val (.int .i64 0)), (.val (.int .i64 0)), (.val (.int .i64 0)), (.nl 2), (.nl 5), (.nl 2), (.val (.int .i64 0)), (.val (.int .i64 0)), (.val (.int .i64 0))], none, []⟩])
    (.seq
    (.region false [4, 5] [
      ⟨some 6, .mov (.t 0), none, []⟩,
      ⟨some 7, .mov (.t 1), none, []⟩,
      ⟨some 8, .build 35 [(.val (.int .i64 0)), (.val (.int .i64 0)), (.nl 2), (.nl 5), (.nl 2), (.val (.int .i64 0)), (.val (.int .i64 0)), (.val (.int .i64 0))] [(0, 0, 1, (.t 6)), (1, 1, 1, (.t 7))], none, []⟩,
      ⟨some 5, .alloc 35 [(.val (.int .i64 0)), (.val (.int .i64 0)), (.nl 2), (.nl 5), (.nl 2), (.val (.int .i64 0)), (.val (.int .i64 0)), (.val (.int .i64 0))], none, []⟩,
      ⟨none, .store 35 8 (.t 5) (.t 8), none, []⟩])
    (.seq
    (.seq
    (.region false [4, 5, 10] [
      ⟨some 9, .call 25 [(.t 5)], none, []⟩,
      ⟨some 10, .un .not (.t 9), none, []⟩])
    (.cond (.t 10)
      (.seq
      (.region false [4] [
        ⟨some 11, .build 37 [(.val (.int .i64 0)), (.val (.int .i64 0)), (.val (.int .i64 0)), (.val (.int .i64 0)), (.nl 2), (.nl 5), (.nl 2), (.val (.int .i64 0)), (.val (.int .i64 0)), (.val (.int .i64 0))] [(0, 0, 1, (.c (.int .i64 3)))], none, []⟩,
        ⟨none, .store 37 10 (.t 4) (.t 11), none, []⟩])
      .ret)
      .skip))
    (.seq
    (.region false [4] [
      ⟨some 12, .load 35 true 8 (.t 5), none, []⟩,
      ⟨some 13, .build 37 [(.val (.int .i64 0)), (.val (.int .i64 0)), (.val (.int .i64 0)), (.val (.int .i64 0)), (.nl 2), (.nl 5), (.nl 2), (.val (.int .i64 0)), (.val (.int .i64 0)), (.val (.int .i64 0))] [(2, 2, 8, (.t 12))], none, []⟩,
      ⟨none, .store 37 10 (.t 4) (.t 13), none, []⟩])
    .ret))))
  modes := [.lend, .lend]
  rets := [⟨4, some (true, 10)⟩] }

/-- loop.example/g00539/impl.NewLedger -/
def v12 : VFun := {
  code :=
    (.seq
    (.region false [0, 1, 4] [
      ⟨some 4, .alloc 37 [(.val (.int .i64 0)), (.val (.int .i64 0)), (.val (.int .i64 0)), (.val (.int .i64 0)), (.nl 2), (.nl 5), (.nl 2), (.val (.int .i64 0)), (.val (.int .i64 0)), (.val (.int .i64 0))], none, []⟩])
    (.seq
    (.seq
    (.region false [0, 1, 4, 8] [
      ⟨some 5, .mov (.t 0), none, []⟩,
      ⟨some 6, .mov (.t 1), none, []⟩,
      ⟨some 7, .call 26 [(.t 5), (.t 6)], none, []⟩,
      ⟨some 8, .un .not (.t 7), none, []⟩])
    (.cond (.t 8)
      (.seq
      (.region false [4] [
        ⟨some 9, .build 37 [(.val (.int .i64 0)), (.val (.int .i64 0)), (.val (.int .i64 0)), (.val (.int .i64 0)), (.nl 2), (.nl 5), (.nl 2), (.val (.int .i64 0)), (.val (.int .i64 0)), (.val (.int .i64 0))] [(0, 0, 1, (.c (.int .i64 3)))], none, []⟩,
        ⟨none, .store 37 10 (.t 4) (.t 9), none, []⟩])
      .ret)
      .skip))
    (.seq
    (.region false [4] [
      ⟨some 10, .mov (.t 0), none, []⟩,
      ⟨some 11, .mov (.t 1), none, []⟩,
      ⟨some 12, .build 35 [(.val (.int .i64 0)), (.val (.int .i64 0)), (.nl 2), (.nl 5), (.nl 2), (.val (.int .i64 0)), (.val (.int .i64 0)), (.val (.int .i64 0))] [(0, 0, 1, (.t 10)), (1, 1, 1, (.t 11))], none, []⟩,
      ⟨some 13, .build 37 [(.val (.int .i64 0)), (.val (.int .i64 0)), (.val (.int .i64 0)), (.val (.int .i64 0)), (.nl 2), (.nl 5), (.nl 2), (.val (.int .i64 0)), (.val (.int .i64 0)), (.val (.int .i64 0))] [(2, 2, 8, (.t 12))], none, []⟩,
      ⟨none, .store 37 10 (.t 4) (.t 13), none, []⟩])
    .ret)))
  modes := [.lend, .lend]
  rets := [⟨4, some (true, 10)⟩] }

/-- loop.example/g00539/laws.eqLedgerResult -/
def v13 : VFun := {
  code :=
    (.seq
    (.region false [2, 3] [
      ⟨some 2, .box 37 (.t 0), none, []⟩,
      ⟨some 3, .box 37 (.t 1), none, []⟩,
      ⟨some 4, .asg (.c (.bool false)), none, []⟩])
    (.seq
    (.seq
    (.region false [2, 3, 9] [
      ⟨some 5, .fa 37 0 0 1 (.t 2), none, []⟩,
      ⟨some 6, .load 2 false 1 (.t 5), none, []⟩,
      ⟨some 7, .fa 37 0 0 1 (.t 3), none, []⟩,
      ⟨some 8, .load 2 false 1 (.t 7), none, []⟩,
      ⟨some 9, .bin false .neq 2 (.t 6) (.t 8), none, []⟩])
    (.cond (.t 9)
      (.seq
      (.region false [4] [
        ⟨some 4, .asg (.c (.bool false)), none, []⟩])
      .ret)
      .skip))
    (.seq
    (.seq
    (.region false [2, 3, 14] [
      ⟨some 10, .fa 37 1 1 1 (.t 2), none, []⟩,
      ⟨some 11, .load 2 false 1 (.t 10), none, []⟩,
      ⟨some 12, .fa 37 1 1 1 (.t 3), none, []⟩,
      ⟨some 13, .load 2 false 1 (.t 12), none, []⟩,
      ⟨some 14, .bin false .neq 2 (.t 11) (.t 13), none, []⟩])
    (.cond (.t 14)
      (.seq
      (.region false [4] [
        ⟨some 4, .asg (.c (.bool false)), none, []⟩])
      .ret)
      .skip))
    (.seq
    (.seq
    (.region false [20] [
      ⟨some 15, .fa 37 2 2 8 (.t 2), none, []⟩,
      ⟨some 16, .load 35 true 8 (.t 15), none, []⟩,
      ⟨some 17, .fa 37 2 2 8 (.t 3), none, []⟩,
      ⟨some 18, .load 35 true 8 (.t 17), none, []⟩,
      ⟨some 19, .call 20 [(.t 16), (.t 18)], none, []⟩,
      ⟨some 20, .un .not (.t 19), none, []⟩])
    (.cond (.t 20)
      (.seq
      (.region false [4] [
        ⟨some 4, .asg (.c (.bool false)), none, []⟩])
      .ret)
      .skip))
    (.seq
    (.region false [4] [
      ⟨some 4, .asg (.c (.bool true)), none, []⟩])
    .ret)))))
  modes := [.lend, .lend]
  rets := [⟨4, none⟩] }

/-- loop.example/g00539/laws.markLedgerResult -/
def v14 : VFun := {
  code :=
    (.seq
    (.region false [0, 1, 2] [
      ⟨some 2, .box 37 (.t 0), none, []⟩,
      ⟨some 4, .asg (.c (.int .i64 0)), none, []⟩])
    (.seq
    (.region false [0, 1, 2] [
      ⟨some 5, .fa 37 2 2 8 (.t 2), none, []⟩,
      ⟨some 6, .load 35 true 8 (.t 5), none, []⟩,
      ⟨some 7, .mov (.t 1), none, []⟩,
      ⟨some 8, .call 27 [(.t 6), (.t 7)], none, []⟩,
      ⟨some 1, .asg (.t 8), none, []⟩])
    (.seq
    (.region false [0, 2, 4] [
      ⟨some 9, .mov (.t 1), none, []⟩,
      ⟨some 4, .asg (.t 9), none, []⟩])
    .ret)))
  modes := [.io, .lend]
  rets := [⟨4, none⟩] }

/-- loop.example/g00539/laws.heldLedgerResult -/
def v15 : VFun := {
  code :=
    (.seq
    (.region false [1, 2] [
      ⟨some 2, .box 37 (.t 0), none, []⟩,
      ⟨some 4, .asg (.c (.int .i64 0)), none, []⟩])
    (.seq
    (.region false [1] [
      ⟨some 5, .fa 37 2 2 8 (.t 2), none, []⟩,
      ⟨some 6, .load 35 true 8 (.t 5), none, []⟩,
      ⟨some 7, .mov (.t 1), none, []⟩,
      ⟨some 8, .call 28 [(.t 6), (.t 7)], none, []⟩,
      ⟨some 1, .asg (.t 8), none, []⟩])
    (.seq
    (.seq
    (.region false [1, 10] [
      ⟨some 9, .mov (.t 1), none, []⟩,
      ⟨some 10, .bin false .lss 3 (.t 9) (.c (.int .i64 0)), none, []⟩])
    (.cond (.t 10)
      (.seq
      (.region false [4] [
        ⟨some 4, .asg (.c (.int .i64 (-1))), none, []⟩])
      .ret)
      .skip))
    (.seq
    (.region false [4] [
      ⟨some 11, .mov (.t 1), none, []⟩,
      ⟨some 4, .asg (.t 11), none, []⟩])
    .ret))))
  modes := [.lend, .lend]
  rets := [⟨4, none⟩] }

/-- loop.example/g00539/laws.eqLedger -/
def v20 : VFun := {
  code :=
    (.seq
    (.region false [2, 3] [
      ⟨some 2, .box 35 (.t 0), none, []⟩,
      ⟨some 3, .box 35 (.t 1), none, []⟩,
      ⟨some 4, .asg (.c (.bool false)), none, []⟩])
    (.seq
    (.seq
    (.region false [2, 3, 9] [
      ⟨some 5, .fa 35 0 0 1 (.t 2), none, []⟩,
      ⟨some 6, .load 2 false 1 (.t 5), none, []⟩,
      ⟨some 7, .fa 35 0 0 1 (.t 3), none, []⟩,
      ⟨some 8, .load 2 false 1 (.t 7), none, []⟩,
      ⟨some 9, .bin false .neq 2 (.t 6) (.t 8), none, []⟩])
    (.cond (.t 9)
      (.seq
      (.region false [4] [
        ⟨some 4, .asg (.c (.bool false)), none, []⟩])
      .ret)
      .skip))
    (.seq
    (.seq
    (.region false [2, 3, 14] [
      ⟨some 10, .fa 35 1 1 1 (.t 2), none, []⟩,
      ⟨some 11, .load 2 false 1 (.t 10), none, []⟩,
      ⟨some 12, .fa 35 1 1 1 (.t 3), none, []⟩,
      ⟨some 13, .load 2 false 1 (.t 12), none, []⟩,
      ⟨some 14, .bin false .neq 2 (.t 11) (.t 13), none, []⟩])
    (.cond (.t 14)
      (.seq
      (.region false [4] [
        ⟨some 4, .asg (.c (.bool false)), none, []⟩])
      .ret)
      .skip))
    (.seq
    (.seq
    (.region false [2, 3, 20] [
      ⟨some 15, .fa 35 2 2 1 (.t 2), none, []⟩,
      ⟨some 16, .load 32 false 1 (.t 15), none, []⟩,
      ⟨some 17, .fa 35 2 2 1 (.t 3), none, []⟩,
      ⟨some 18, .load 32 false 1 (.t 17), none, []⟩,
      ⟨some 19, .call 37 [(.t 16), (.t 18)], none, []⟩,
      ⟨some 20, .un .not (.t 19), none, []⟩])
    (.cond (.t 20)
      (.seq
      (.region false [4] [
        ⟨some 4, .asg (.c (.bool false)), none, []⟩])
      .ret)
      .skip))
    (.seq
    (.seq
    (.region false [2, 3, 26] [
      ⟨some 21, .fa 35 3 3 1 (.t 2), none, []⟩,
      ⟨some 22, .load 33 false 1 (.t 21), none, []⟩,
      ⟨some 23, .fa 35 3 3 1 (.t 3), none, []⟩,
      ⟨some 24, .load 33 false 1 (.t 23), none, []⟩,
      ⟨some 25, .call 38 [(.t 22), (.t 24)], none, []⟩,
      ⟨some 26, .un .not (.t 25), none, []⟩])
    (.cond (.t 26)
      (.seq
      (.region false [4] [
        ⟨some 4, .asg (.c (.bool false)), none, []⟩])
      .ret)
      .skip))
    (.seq
    (.seq
    (.region false [2, 3, 32] [
      ⟨some 27, .fa 35 4 4 1 (.t 2), none, []⟩,
      ⟨some 28, .load 32 false 1 (.t 27), none, []⟩,
      ⟨some 29, .fa 35 4 4 1 (.t 3), none, []⟩,
      ⟨some 30, .load 32 false 1 (.t 29), none, []⟩,
      ⟨some 31, .call 37 [(.t 28), (.t 30)], none, []⟩,
      ⟨some 32, .un .not (.t 31), none, []⟩])
    (.cond (.t 32)
      (.seq
      (.region false [4] [
        ⟨some 4, .asg (.c (.bool false)), none, []⟩])
      .ret)
      .skip))
    (.seq
    (.seq
    (.region false [2, 3, 37] [
      ⟨some 33, .fa 35 5 5 1 (.t 2), none, []⟩,
      ⟨some 34, .load 2 false 1 (.t 33), none, []⟩,
      ⟨some 35, .fa 35 5 5 1 (.t 3), none, []⟩,
      ⟨some 36, .load 2 false 1 (.t 35), none, []⟩,
      ⟨some 37, .bin false .neq 2 (.t 34) (.t 36), none, []⟩])
    (.cond (.t 37)
      (.seq
      (.region false [4] [
        ⟨some 4, .asg (.c (.bool false)), none, []⟩])
      .ret)
      .skip))
    (.seq
    (.seq
    (.region false [2, 3, 42] [
      ⟨some 38, .fa 35 6 6 1 (.t 2), none, []⟩,
      ⟨some 39, .load 2 false 1 (.t 38), none, []⟩,
      ⟨some 40, .fa 35 6 6 1 (.t 3), none, []⟩,
      ⟨some 41, .load 2 false 1 (.t 40), none, []⟩,
      ⟨some 42, .bin false .neq 2 (.t 39) (.t 41), none, []⟩])
    (.cond (.t 42)
      (.seq
      (.region false [4] [
        ⟨some 4, .asg (.c (.bool false)), none, []⟩])
      .ret)
      .skip))
    (.seq
    (.seq
    (.region false [47] [
      ⟨some 43, .fa 35 7 7 1 (.t 2), none, []⟩,
      ⟨some 44, .load 2 false 1 (.t 43), none, []⟩,
      ⟨some 45, .fa 35 7 7 1 (.t 3), none, []⟩,
      ⟨some 46, .load 2 false 1 (.t 45), none, []⟩,
      ⟨some 47, .bin false .neq 2 (.t 44) (.t 46), none, []⟩])
    (.cond (.t 47)
      (.seq
      (.region false [4] [
        ⟨some 4, .asg (.c (.bool false)), none, []⟩])
      .ret)
      .skip))
    (.seq
    (.region false [4] [
      ⟨some 4, .asg (.c (.bool true)), none, []⟩])
    .ret))))))))))
  modes := [.lend, .lend]
  rets := [⟨4, none⟩] }

/-- loop.example/g00539/spec.l14Ranges -/
def v25 : VFun := {
  code :=
    (.seq
    (.region false [0] [
      ⟨some 2, .asg (.c (.bool false)), none, []⟩])
    (.seq
    (.region false [2] [
      ⟨some 3, .mov (.t 0), none, []⟩,
      ⟨some 4, .nilc (.t 3), none, []⟩,
      ⟨some 5, .fa 35 0 0 1 (.t 4), none, []⟩,
      ⟨some 6, .load 2 false 1 (.t 5), none, []⟩,
      ⟨some 7, .call 42 [(.t 6), (.c (.int .i64 1)), (.c (.int .i64 12))], none, []⟩,
      ⟨some 8, .mov (.t 7), none, []⟩,
      ⟨some 9, .mov (.t 0), some (8, true), []⟩,
      ⟨some 10, .nilc (.t 9), some (8, true), []⟩,
      ⟨some 11, .fa 35 1 1 1 (.t 10), some (8, true), []⟩,
      ⟨some 12, .load 2 false 1 (.t 11), some (8, true), []⟩,
      ⟨some 13, .call 42 [(.t 12), (.c (.int .i64 0)), (.c (.int .i64 1000))], some (8, true), []⟩,
      ⟨some 14, .pick (.t 8) (.t 13) (.c (.bool false)), none, []⟩,
      ⟨some 15, .mov (.t 14), none, []⟩,
      ⟨some 16, .mov (.t 0), some (15, true), []⟩,
      ⟨some 17, .nilc (.t 16), some (15, true), []⟩,
      ⟨some 18, .fa 35 5 5 1 (.t 17), some (15, true), []⟩,
      ⟨some 19, .load 2 false 1 (.t 18), some (15, true), []⟩,
      ⟨some 20, .call 43 [(.t 19)], some (15, true), []⟩,
      ⟨some 21, .pick (.t 15) (.t 20) (.c (.bool false)), none, []⟩,
      ⟨some 22, .mov (.t 21), none, []⟩,
      ⟨some 23, .mov (.t 0), some (22, true), []⟩,
      ⟨some 24, .nilc (.t 23), some (22, true), []⟩,
      ⟨some 25, .fa 35 6 6 1 (.t 24), some (22, true), []⟩,
      ⟨some 26, .load 2 false 1 (.t 25), some (22, true), []⟩,
      ⟨some 27, .call 43 [(.t 26)], some (22, true), []⟩,
      ⟨some 28, .pick (.t 22) (.t 27) (.c (.bool false)), none, []⟩,
      ⟨some 29, .mov (.t 28), none, []⟩,
      ⟨some 30, .mov (.t 0), some (29, true), []⟩,
      ⟨some 31, .nilc (.t 30), some (29, true), []⟩,
      ⟨some 32, .fa 35 7 7 1 (.t 31), some (29, true), []⟩,
      ⟨some 33, .load 2 false 1 (.t 32), some (29, true), []⟩,
      ⟨some 34, .call 43 [(.t 33)], some (29, true), []⟩,
      ⟨some 35, .pick (.t 29) (.t 34) (.c (.bool false)), none, []⟩,
      ⟨some 2, .asg (.t 35), none, []⟩])
    .ret))
  modes := [.lend]
  rets := [⟨2, none⟩] }

/-- loop.example/g00539/impl.sizesOk -/
def v26 : VFun := {
  code :=
    (.seq
    (.region false [0, 1] [
      ⟨some 4, .asg (.c (.bool false)), none, []⟩])
    (.seq
    (.region false [4] [
      ⟨some 5, .mov (.t 0), none, []⟩,
      ⟨some 6, .call 44 [(.t 5), (.c (.int .i64 1)), (.c (.int .i64 12))], none, []⟩,
      ⟨some 7, .mov (.t 6), none, []⟩,
      ⟨some 8, .mov (.t 1), some (7, true), []⟩,
      ⟨some 9, .call 44 [(.t 8), (.c (.int .i64 0)), (.c (.int .i64 1000))], some (7, true), []⟩,
      ⟨some 10, .pick (.t 7) (.t 9) (.c (.bool false)), none, []⟩,
      ⟨some 4, .asg (.t 10), none, []⟩])
    .ret))
  modes := [.lend, .lend]
  rets := [⟨4, none⟩] }

/-- loop.example/g00539/laws.markLedger -/
def v27 : VFun := {
  code :=
    (.seq
    (.region false [0, 1, 2] [
      ⟨some 2, .box 35 (.t 0), none, []⟩,
      ⟨some 4, .asg (.c (.int .i64 0)), none, []⟩])
    (.seq
    (.region false [0, 1, 2] [
      ⟨some 5, .fa 35 2 2 1 (.t 2), none, []⟩,
      ⟨some 6, .load 32 false 1 (.t 5), none, []⟩,
      ⟨some 7, .mov (.t 1), none, []⟩,
      ⟨some 8, .call 45 [(.t 6), (.t 7)], none, []⟩,
      ⟨some 1, .asg (.t 8), none, []⟩])
    (.seq
    (.region false [0, 1, 2] [
      ⟨some 9, .fa 35 3 3 1 (.t 2), none, []⟩,
      ⟨some 10, .load 33 false 1 (.t 9), none, []⟩,
      ⟨some 11, .mov (.t 1), none, []⟩,
      ⟨some 12, .call 46 [(.t 10), (.t 11)], none, []⟩,
      ⟨some 1, .asg (.t 12), none, []⟩])
    (.seq
    (.region false [0, 1, 2] [
      ⟨some 13, .fa 35 4 4 1 (.t 2), none, []⟩,
      ⟨some 14, .load 32 false 1 (.t 13), none, []⟩,
      ⟨some 15, .mov (.t 1), none, []⟩,
      ⟨some 16, .call 45 [(.t 14), (.t 15)], none, []⟩,
      ⟨some 1, .asg (.t 16), none, []⟩])
    (.seq
    (.region false [0, 2, 4] [
      ⟨some 17, .mov (.t 1), none, []⟩,
      ⟨some 4, .asg (.t 17), none, []⟩])
    .ret)))))
  modes := [.io, .lend]
  rets := [⟨4, none⟩] }

/-- loop.example/g00539/laws.heldLedger -/
def v28 : VFun := {
  code :=
    (.seq
    (.region false [1, 2] [
      ⟨some 2, .box 35 (.t 0), none, []⟩,
      ⟨some 4, .asg (.c (.int .i64 0)), none, []⟩])
    (.seq
    (.region false [1, 2] [
      ⟨some 5, .fa 35 2 2 1 (.t 2), none, []⟩,
      ⟨some 6, .load 32 false 1 (.t 5), none, []⟩,
      ⟨some 7, .mov (.t 1), none, []⟩,
      ⟨some 8, .call 47 [(.t 6), (.t 7)], none, []⟩,
      ⟨some 1, .asg (.t 8), none, []⟩])
    (.seq
    (.seq
    (.region false [1, 2, 10] [
      ⟨some 9, .mov (.t 1), none, []⟩,
      ⟨some 10, .bin false .lss 3 (.t 9) (.c (.int .i64 0)), none, []⟩])
    (.cond (.t 10)
      (.seq
      (.region false [4] [
        ⟨some 4, .asg (.c (.int .i64 (-1))), none, []⟩])
      .ret)
      .skip))
    (.seq
    (.region false [1, 2] [
      ⟨some 11, .fa 35 3 3 1 (.t 2), none, []⟩,
      ⟨some 12, .load 33 false 1 (.t 11), none, []⟩,
      ⟨some 13, .mov (.t 1), none, []⟩,
      ⟨some 14, .call 48 [(.t 12), (.t 13)], none, []⟩,
      ⟨some 1, .asg (.t 14), none, []⟩])
    (.seq
    (.seq
    (.region false [1, 2, 16] [
      ⟨some 15, .mov (.t 1), none, []⟩,
      ⟨some 16, .bin false .lss 3 (.t 15) (.c (.int .i64 0)), none, []⟩])
    (.cond (.t 16)
      (.seq
      (.region false [4] [
        ⟨some 4, .asg (.c (.int .i64 (-1))), none, []⟩])
      .ret)
      .skip))
    (.seq
    (.region false [1] [
      ⟨some 17, .fa 35 4 4 1 (.t 2), none, []⟩,
      ⟨some 18, .load 32 false 1 (.t 17), none, []⟩,
      ⟨some 19, .mov (.t 1), none, []⟩,
      ⟨some 20, .call 47 [(.t 18), (.t 19)], none, []⟩,
      ⟨some 1, .asg (.t 20), none, []⟩])
    (.seq
    (.seq
    (.region false [1, 22] [
      ⟨some 21, .mov (.t 1), none, []⟩,
      ⟨some 22, .bin false .lss 3 (.t 21) (.c (.int .i64 0)), none, []⟩])
    (.cond (.t 22)
      (.seq
      (.region false [4] [
        ⟨some 4, .asg (.c (.int .i64 (-1))), none, []⟩])
      .ret)
      .skip))
    (.seq
    (.region false [4] [
      ⟨some 23, .mov (.t 1), none, []⟩,
      ⟨some 4, .asg (.t 23), none, []⟩])
    .ret))))))))
  modes := [.lend, .lend]
  rets := [⟨4, none⟩] }

def b37_0 : VC :=
  (.seq
  (.seq
  (.region false [0, 1, 5, 14] [
    ⟨some 11, .mov (.t 5), none, []⟩,
    ⟨some 12, .mov (.t 0), none, []⟩,
    ⟨some 13, .len false 32 (.t 12), none, []⟩,
    ⟨some 14, .bin false .lss 3 (.t 11) (.t 13), none, []⟩])
  (.cond (.t 14)
    .skip
    (.exit 0)))
  (.seq
  (.block 1
    (.seq
    (.region true [0, 1, 5, 26] [
      ⟨some 17, .mov (.t 0), none, []⟩,
      ⟨some 18, .mov (.t 5), none, [0]⟩,
      ⟨some 19, .ia 32 67 2 (.t 17) (.t 18), none, []⟩,
      ⟨some 20, .load 67 true 2 (.t 19), none, []⟩,
      ⟨some 21, .mov (.t 1), none, [0, 1, 2, 3]⟩,
      ⟨some 22, .mov (.t 5), none, [0, 1, 2, 3, 4]⟩,
      ⟨some 23, .ia 32 67 2 (.t 21) (.t 22), none, [0, 1, 2, 3]⟩,
      ⟨some 24, .load 67 true 2 (.t 23), none, [0, 1, 2, 3]⟩,
      ⟨some 25, .call 53 [(.t 20), (.t 24)], none, []⟩,
      ⟨some 26, .un .not (.t 25), none, []⟩])
    (.cond (.t 26)
      (.seq
      (.region false [4] [
        ⟨some 4, .asg (.c (.bool false)), none, []⟩])
      .ret)
      .skip)))
  (.region false [0, 1, 5] [
    ⟨some 15, .mov (.t 5), none, []⟩,
    ⟨some 16, .bin false .add 3 (.t 15) (.c (.int .i64 1)), none, []⟩,
    ⟨some 5, .asg (.t 16), none, []⟩])))
def l37_0 : VC := .loop b37_0
/-- loop.example/g00539/laws.eqWeightS -/
def v37 : VFun := {
  code :=
    (.seq
    (.region false [0, 1] [
      ⟨some 4, .asg (.c (.bool false)), none, []⟩])
    (.seq
    (.seq
    (.region false [0, 1, 10] [
      ⟨some 6, .mov (.t 0), none, []⟩,
      ⟨some 7, .len false 32 (.t 6), none, []⟩,
      ⟨some 8, .mov (.t 1), none, []⟩,
      ⟨some 9, .len false 32 (.t 8), none, []⟩,
      ⟨some 10, .bin false .neq 3 (.t 7) (.t 9), none, []⟩])
    (.cond (.t 10)
      (.seq
      (.region false [4] [
        ⟨some 4, .asg (.c (.bool false)), none, []⟩])
      .ret)
      .skip))
    (.seq
    (.seq
    (.region false [0, 1, 5] [
      ⟨some 5, .asg (.c (.int .i64 0)), none, []⟩])
    (.block 0
      l37_0))
    (.seq
    (.region false [4] [
      ⟨some 4, .asg (.c (.bool true)), none, []⟩])
    .ret))))
  modes := [.lend, .lend]
  rets := [⟨4, none⟩] }

def b38_0 : VC :=
  (.seq
  (.seq
  (.region false [0, 1, 5, 14] [
    ⟨some 11, .mov (.t 5), none, []⟩,
    ⟨some 12, .mov (.t 0), none, []⟩,
    ⟨some 13, .len false 33 (.t 12), none, []⟩,
    ⟨some 14, .bin false .lss 3 (.t 11) (.t 13), none, []⟩])
  (.cond (.t 14)
    .skip
    (.exit 0)))
  (.seq
  (.block 1
    (.seq
    (.region true [0, 1, 5, 26] [
      ⟨some 17, .mov (.t 0), none, []⟩,
      ⟨some 18, .mov (.t 5), none, [0]⟩,
      ⟨some 19, .ia 33 62 5 (.t 17) (.t 18), none, []⟩,
      ⟨some 20, .load 62 true 5 (.t 19), none, []⟩,
      ⟨some 21, .mov (.t 1), none, [0, 1, 2, 3]⟩,
      ⟨some 22, .mov (.t 5), none, [0, 1, 2, 3, 4]⟩,
      ⟨some 23, .ia 33 62 5 (.t 21) (.t 22), none, [0, 1, 2, 3]⟩,
      ⟨some 24, .load 62 true 5 (.t 23), none, [0, 1, 2, 3]⟩,
      ⟨some 25, .call 54 [(.t 20), (.t 24)], none, []⟩,
      ⟨some 26, .un .not (.t 25), none, []⟩])
    (.cond (.t 26)
      (.seq
      (.region false [4] [
        ⟨some 4, .asg (.c (.bool false)), none, []⟩])
      .ret)
      .skip)))
  (.region false [0, 1, 5] [
    ⟨some 15, .mov (.t 5), none, []⟩,
    ⟨some 16, .bin false .add 3 (.t 15) (.c (.int .i64 1)), none, []⟩,
    ⟨some 5, .asg (.t 16), none, []⟩])))
def l38_0 : VC := .loop b38_0
/-- loop.example/g00539/laws.eqRewardS -/
def v38 : VFun := {
  code :=
    (.seq
    (.region false [0, 1] [
      ⟨some 4, .asg (.c (.bool false)), none, []⟩])
    (.seq
    (.seq
    (.region false [0, 1, 10] [
      ⟨some 6, .mov (.t 0), none, []⟩,
      ⟨some 7, .len false 33 (.t 6), none, []⟩,
      ⟨some 8, .mov (.t 1), none, []⟩,
      ⟨some 9, .len false 33 (.t 8), none, []⟩,
      ⟨some 10, .bin false .neq 3 (.t 7) (.t 9), none, []⟩])
    (.cond (.t 10)
      (.seq
      (.region false [4] [
        ⟨some 4, .asg (.c (.bool false)), none, []⟩])
      .ret)
      .skip))
    (.seq
    (.seq
    (.region false [0, 1, 5] [
      ⟨some 5, .asg (.c (.int .i64 0)), none, []⟩])
    (.block 0
      l38_0))
    (.seq
    (.region false [4] [
      ⟨some 4, .asg (.c (.bool true)), none, []⟩])
    .ret))))
  modes := [.lend, .lend]
  rets := [⟨4, none⟩] }

/-- loop.example/g00539/spec.l1In -/
def v42 : VFun := {
  code :=
    (.seq
    (.region false [0, 1, 2] [
      ⟨some 6, .asg (.c (.bool false)), none, []⟩])
    (.seq
    (.region false [6] [
      ⟨some 7, .mov (.t 0), none, []⟩,
      ⟨some 8, .mov (.t 1), none, []⟩,
      ⟨some 9, .bin false .geq 2 (.t 7) (.t 8), none, []⟩,
      ⟨some 10, .mov (.t 9), none, []⟩,
      ⟨some 11, .mov (.t 0), some (10, true), []⟩,
      ⟨some 12, .mov (.t 2), some (10, true), []⟩,
      ⟨some 13, .bin false .leq 2 (.t 11) (.t 12), some (10, true), []⟩,
      ⟨some 14, .pick (.t 10) (.t 13) (.c (.bool false)), none, []⟩,
      ⟨some 6, .asg (.t 14), none, []⟩])
    .ret))
  modes := [.lend, .lend, .lend]
  rets := [⟨6, none⟩] }

/-- loop.example/g00539/spec.l1Amount -/
def v43 : VFun := {
  code :=
    (.seq
    (.region false [0] [
      ⟨some 2, .asg (.c (.bool false)), none, []⟩])
    (.seq
    (.region false [2] [
      ⟨some 3, .mov (.t 0), none, []⟩,
      ⟨some 4, .call 42 [(.t 3), (.c (.int .i64 0)), (.c (.int .i64 1000000))], none, []⟩,
      ⟨some 2, .asg (.t 4), none, []⟩])
    .ret))
  modes := [.lend]
  rets := [⟨2, none⟩] }

/-- loop.example/g00539/impl.in -/
def v44 : VFun := {
  code :=
    (.seq
    (.region false [0, 1, 2] [
      ⟨some 6, .asg (.c (.bool false)), none, []⟩])
    (.seq
    (.region false [6] [
      ⟨some 7, .mov (.t 0), none, []⟩,
      ⟨some 8, .mov (.t 1), none, []⟩,
      ⟨some 9, .bin false .geq 2 (.t 7) (.t 8), none, []⟩,
      ⟨some 10, .mov (.t 9), none, []⟩,
      ⟨some 11, .mov (.t 0), some (10, true), []⟩,
      ⟨some 12, .mov (.t 2), some (10, true), []⟩,
      ⟨some 13, .bin false .leq 2 (.t 11) (.t 12), some (10, true), []⟩,
      ⟨some 14, .pick (.t 10) (.t 13) (.c (.bool false)), none, []⟩,
      ⟨some 6, .asg (.t 14), none, []⟩])
    .ret))
  modes := [.lend, .lend, .lend]
  rets := [⟨6, none⟩] }

def b45_0 : VC :=
  (.seq
  (.seq
  (.region false [0, 1, 5, 9] [
    ⟨some 6, .mov (.t 5), none, []⟩,
    ⟨some 7, .mov (.t 0), none, []⟩,
    ⟨some 8, .len false 32 (.t 7), none, []⟩,
    ⟨some 9, .bin false .lss 3 (.t 6) (.t 8), none, []⟩])
  (.cond (.t 9)
    .skip
    (.exit 0)))
  (.seq
  (.block 1
    (.seq
    (.region false [0, 1, 5] [
      ⟨some 12, .mov (.t 0), none, []⟩,
      ⟨some 13, .mov (.t 5), none, []⟩,
      ⟨some 14, .mov (.t 1), none, []⟩,
      ⟨some 15, .call 55 [(.t 14)], none, []⟩,
      ⟨some 16, .ia 32 67 2 (.t 12) (.t 13), none, []⟩,
      ⟨some 17, .fa 67 0 0 1 (.t 16), none, []⟩,
      ⟨none, .store 9 1 (.t 17) (.t 15), none, []⟩])
    (.seq
    (.region false [0, 1, 5] [
      ⟨some 18, .mov (.t 1), none, []⟩,
      ⟨some 19, .bin false .add 3 (.t 18) (.c (.int .i64 1)), none, []⟩,
      ⟨some 1, .asg (.t 19), none, []⟩])
    (.seq
    (.region false [0, 1, 5] [
      ⟨some 20, .mov (.t 0), none, []⟩,
      ⟨some 21, .mov (.t 5), none, []⟩,
      ⟨some 22, .mov (.t 1), none, []⟩,
      ⟨some 23, .ia 32 67 2 (.t 20) (.t 21), none, []⟩,
      ⟨some 24, .fa 67 1 1 1 (.t 23), none, []⟩,
      ⟨none, .store 2 1 (.t 24) (.t 22), none, []⟩])
    (.region false [0, 1, 5] [
      ⟨some 25, .mov (.t 1), none, []⟩,
      ⟨some 26, .bin false .add 3 (.t 25) (.c (.int .i64 1)), none, []⟩,
      ⟨some 1, .asg (.t 26), none, []⟩])))))
  (.region false [0, 1, 5] [
    ⟨some 10, .mov (.t 5), none, []⟩,
    ⟨some 11, .bin false .add 3 (.t 10) (.c (.int .i64 1)), none, []⟩,
    ⟨some 5, .asg (.t 11), none, []⟩])))
def l45_0 : VC := .loop b45_0
/-- loop.example/g00539/laws.markWeightS -/
def v45 : VFun := {
  code :=
    (.seq
    (.region false [0, 1] [
      ⟨some 4, .asg (.c (.int .i64 0)), none, []⟩])
    (.seq
    (.seq
    (.region false [0, 1, 5] [
      ⟨some 5, .asg (.c (.int .i64 0)), none, []⟩])
    (.block 0
      l45_0))
    (.seq
    (.region false [0, 4] [
      ⟨some 27, .mov (.t 1), none, []⟩,
      ⟨some 4, .asg (.t 27), none, []⟩])
    .ret)))
  modes := [.io, .lend]
  rets := [⟨4, none⟩] }

def b46_0 : VC :=
  (.seq
  (.seq
  (.region false [0, 1, 5, 9] [
    ⟨some 6, .mov (.t 5), none, []⟩,
    ⟨some 7, .mov (.t 0), none, []⟩,
    ⟨some 8, .len false 33 (.t 7), none, []⟩,
    ⟨some 9, .bin false .lss 3 (.t 6) (.t 8), none, []⟩])
  (.cond (.t 9)
    .skip
    (.exit 0)))
  (.seq
  (.block 1
    (.seq
    (.region false [0, 1, 5] [
      ⟨some 12, .mov (.t 0), none, []⟩,
      ⟨some 13, .mov (.t 5), none, []⟩,
      ⟨some 14, .mov (.t 1), none, []⟩,
      ⟨some 15, .ia 33 62 5 (.t 12) (.t 13), none, []⟩,
      ⟨some 16, .fa 62 0 0 1 (.t 15), none, []⟩,
      ⟨none, .store 2 1 (.t 16) (.t 14), none, []⟩])
    (.seq
    (.region false [0, 1, 5] [
      ⟨some 17, .mov (.t 1), none, []⟩,
      ⟨some 18, .bin false .add 3 (.t 17) (.c (.int .i64 1)), none, []⟩,
      ⟨some 1, .asg (.t 18), none, []⟩])
    (.seq
    (.region false [0, 1, 5] [
      ⟨some 19, .mov (.t 0), none, []⟩,
      ⟨some 20, .mov (.t 5), none, []⟩,
      ⟨some 21, .mov (.t 1), none, []⟩,
      ⟨some 22, .ia 33 62 5 (.t 19) (.t 20), none, []⟩,
      ⟨some 23, .fa 62 1 1 1 (.t 22), none, []⟩,
      ⟨none, .store 2 1 (.t 23) (.t 21), none, []⟩])
    (.seq
    (.region false [0, 1, 5] [
      ⟨some 24, .mov (.t 1), none, []⟩,
      ⟨some 25, .bin false .add 3 (.t 24) (.c (.int .i64 1)), none, []⟩,
      ⟨some 1, .asg (.t 25), none, []⟩])
    (.seq
    (.region false [0, 1, 5] [
      ⟨some 26, .mov (.t 0), none, []⟩,
      ⟨some 27, .mov (.t 5), none, []⟩,
      ⟨some 28, .mov (.t 1), none, []⟩,
      ⟨some 29, .ia 33 62 5 (.t 26) (.t 27), none, []⟩,
      ⟨some 30, .fa 62 2 2 1 (.t 29), none, []⟩,
      ⟨none, .store 2 1 (.t 30) (.t 28), none, []⟩])
    (.seq
    (.region false [0, 1, 5] [
      ⟨some 31, .mov (.t 1), none, []⟩,
      ⟨some 32, .bin false .add 3 (.t 31) (.c (.int .i64 1)), none, []⟩,
      ⟨some 1, .asg (.t 32), none, []⟩])
    (.seq
    (.region false [0, 1, 5] [
      ⟨some 33, .mov (.t 0), none, []⟩,
      ⟨some 34, .mov (.t 5), none, []⟩,
      ⟨some 35, .ia 33 62 5 (.t 33) (.t 34), none, []⟩,
      ⟨some 36, .fa 62 3 3 1 (.t 35), none, []⟩,
      ⟨some 37, .load 32 false 1 (.t 36), none, []⟩,
      ⟨some 38, .mov (.t 1), none, []⟩,
      ⟨some 39, .call 45 [(.t 37), (.t 38)], none, []⟩,
      ⟨some 1, .asg (.t 39), none, []⟩])
    (.seq
    (.region false [0, 1, 5] [
      ⟨some 40, .mov (.t 0), none, []⟩,
      ⟨some 41, .mov (.t 5), none, []⟩,
      ⟨some 42, .mov (.t 1), none, []⟩,
      ⟨some 43, .ia 33 62 5 (.t 40) (.t 41), none, []⟩,
      ⟨some 44, .fa 62 4 4 1 (.t 43), none, []⟩,
      ⟨none, .store 2 1 (.t 44) (.t 42), none, []⟩])
    (.region false [0, 1, 5] [
      ⟨some 45, .mov (.t 1), none, []⟩,
      ⟨some 46, .bin false .add 3 (.t 45) (.c (.int .i64 1)), none, []⟩,
      ⟨some 1, .asg (.t 46), none, []⟩]))))))))))
  (.region false [0, 1, 5] [
    ⟨some 10, .mov (.t 5), none, []⟩,
    ⟨some 11, .bin false .add 3 (.t 10) (.c (.int .i64 1)), none, []⟩,
    ⟨some 5, .asg (.t 11), none, []⟩])))
def l46_0 : VC := .loop b46_0
/-- loop.example/g00539/laws.markRewardS -/
def v46 : VFun := {
  code :=
    (.seq
    (.region false [0, 1] [
      ⟨some 4, .asg (.c (.int .i64 0)), none, []⟩])
    (.seq
    (.seq
    (.region false [0, 1, 5] [
      ⟨some 5, .asg (.c (.int .i64 0)), none, []⟩])
    (.block 0
      l46_0))
    (.seq
    (.region false [0, 4] [
      ⟨some 47, .mov (.t 1), none, []⟩,
      ⟨some 4, .asg (.t 47), none, []⟩])
    .ret)))
  modes := [.io, .lend]
  rets := [⟨4, none⟩] }

def b47_0 : VC :=
  (.seq
  (.seq
  (.region false [0, 1, 5, 9] [
    ⟨some 6, .mov (.t 5), none, []⟩,
    ⟨some 7, .mov (.t 0), none, []⟩,
    ⟨some 8, .len false 32 (.t 7), none, []⟩,
    ⟨some 9, .bin false .lss 3 (.t 6) (.t 8), none, []⟩])
  (.cond (.t 9)
    .skip
    (.exit 0)))
  (.seq
  (.block 1
    (.seq
    (.seq
    (.region true [0, 1, 5, 19] [
      ⟨some 12, .mov (.t 0), none, []⟩,
      ⟨some 13, .mov (.t 5), none, [0]⟩,
      ⟨some 14, .ia 32 67 2 (.t 12) (.t 13), none, []⟩,
      ⟨some 15, .fa 67 0 0 1 (.t 14), none, []⟩,
      ⟨some 16, .load 9 false 1 (.t 15), none, []⟩,
      ⟨some 17, .mov (.t 1), none, [0, 1, 2, 3, 4]⟩,
      ⟨some 18, .call 55 [(.t 17)], none, [0, 1, 2, 3, 4]⟩,
      ⟨some 19, .bin false .neq 9 (.t 16) (.t 18), none, []⟩])
    (.cond (.t 19)
      (.seq
      (.region false [4] [
        ⟨some 4, .asg (.c (.int .i64 (-1))), none, []⟩])
      .ret)
      .skip))
    (.seq
    (.region false [0, 1, 5] [
      ⟨some 20, .mov (.t 1), none, []⟩,
      ⟨some 21, .bin false .add 3 (.t 20) (.c (.int .i64 1)), none, []⟩,
      ⟨some 1, .asg (.t 21), none, []⟩])
    (.seq
    (.seq
    (.region false [0, 1, 5, 28] [
      ⟨some 22, .mov (.t 0), none, []⟩,
      ⟨some 23, .mov (.t 5), none, []⟩,
      ⟨some 24, .ia 32 67 2 (.t 22) (.t 23), none, []⟩,
      ⟨some 25, .fa 67 1 1 1 (.t 24), none, []⟩,
      ⟨some 26, .load 2 false 1 (.t 25), none, []⟩,
      ⟨some 27, .mov (.t 1), none, []⟩,
      ⟨some 28, .bin false .neq 2 (.t 26) (.t 27), none, []⟩])
    (.cond (.t 28)
      (.seq
      (.region false [4] [
        ⟨some 4, .asg (.c (.int .i64 (-1))), none, []⟩])
      .ret)
      .skip))
    (.region false [0, 1, 5] [
      ⟨some 29, .mov (.t 1), none, []⟩,
      ⟨some 30, .bin false .add 3 (.t 29) (.c (.int .i64 1)), none, []⟩,
      ⟨some 1, .asg (.t 30), none, []⟩])))))
  (.region false [0, 1, 5] [
    ⟨some 10, .mov (.t 5), none, []⟩,
    ⟨some 11, .bin false .add 3 (.t 10) (.c (.int .i64 1)), none, []⟩,
    ⟨some 5, .asg (.t 11), none, []⟩])))
def l47_0 : VC := .loop b47_0
/-- loop.example/g00539/laws.heldWeightS -/
def v47 : VFun := {
  code :=
    (.seq
    (.region false [0, 1] [
      ⟨some 4, .asg (.c (.int .i64 0)), none, []⟩])
    (.seq
    (.seq
    (.region false [0, 1, 5] [
      ⟨some 5, .asg (.c (.int .i64 0)), none, []⟩])
    (.block 0
      l47_0))
    (.seq
    (.region false [4] [
      ⟨some 31, .mov (.t 1), none, []⟩,
      ⟨some 4, .asg (.t 31), none, []⟩])
    .ret)))
  modes := [.lend, .lend]
  rets := [⟨4, none⟩] }

def b48_0 : VC :=
  (.seq
  (.seq
  (.region false [0, 1, 5, 9] [
    ⟨some 6, .mov (.t 5), none, []⟩,
    ⟨some 7, .mov (.t 0), none, []⟩,
    ⟨some 8, .len false 33 (.t 7), none, []⟩,
    ⟨some 9, .bin false .lss 3 (.t 6) (.t 8), none, []⟩])
  (.cond (.t 9)
    .skip
    (.exit 0)))
  (.seq
  (.block 1
    (.seq
    (.seq
    (.region false [0, 1, 5, 18] [
      ⟨some 12, .mov (.t 0), none, []⟩,
      ⟨some 13, .mov (.t 5), none, []⟩,
      ⟨some 14, .ia 33 62 5 (.t 12) (.t 13), none, []⟩,
      ⟨some 15, .fa 62 0 0 1 (.t 14), none, []⟩,
      ⟨some 16, .load 2 false 1 (.t 15), none, []⟩,
      ⟨some 17, .mov (.t 1), none, []⟩,
      ⟨some 18, .bin false .neq 2 (.t 16) (.t 17), none, []⟩])
    (.cond (.t 18)
      (.seq
      (.region false [4] [
        ⟨some 4, .asg (.c (.int .i64 (-1))), none, []⟩])
      .ret)
      .skip))
    (.seq
    (.region false [0, 1, 5] [
      ⟨some 19, .mov (.t 1), none, []⟩,
      ⟨some 20, .bin false .add 3 (.t 19) (.c (.int .i64 1)), none, []⟩,
      ⟨some 1, .asg (.t 20), none, []⟩])
    (.seq
    (.seq
    (.region false [0, 1, 5, 27] [
      ⟨some 21, .mov (.t 0), none, []⟩,
      ⟨some 22, .mov (.t 5), none, []⟩,
      ⟨some 23, .ia 33 62 5 (.t 21) (.t 22), none, []⟩,
      ⟨some 24, .fa 62 1 1 1 (.t 23), none, []⟩,
      ⟨some 25, .load 2 false 1 (.t 24), none, []⟩,
      ⟨some 26, .mov (.t 1), none, []⟩,
      ⟨some 27, .bin false .neq 2 (.t 25) (.t 26), none, []⟩])
    (.cond (.t 27)
      (.seq
      (.region false [4] [
        ⟨some 4, .asg (.c (.int .i64 (-1))), none, []⟩])
      .ret)
      .skip))
    (.seq
    (.region false [0, 1, 5] [
      ⟨some 28, .mov (.t 1), none, []⟩,
      ⟨some 29, .bin false .add 3 (.t 28) (.c (.int .i64 1)), none, []⟩,
      ⟨some 1, .asg (.t 29), none, []⟩])
    (.seq
    (.seq
    (.region false [0, 1, 5, 36] [
      ⟨some 30, .mov (.t 0), none, []⟩,
      ⟨some 31, .mov (.t 5), none, []⟩,
      ⟨some 32, .ia 33 62 5 (.t 30) (.t 31), none, []⟩,
      ⟨some 33, .fa 62 2 2 1 (.t 32), none, []⟩,
      ⟨some 34, .load 2 false 1 (.t 33), none, []⟩,
      ⟨some 35, .mov (.t 1), none, []⟩,
      ⟨some 36, .bin false .neq 2 (.t 34) (.t 35), none, []⟩])
    (.cond (.t 36)
      (.seq
      (.region false [4] [
        ⟨some 4, .asg (.c (.int .i64 (-1))), none, []⟩])
      .ret)
      .skip))
    (.seq
    (.region false [0, 1, 5] [
      ⟨some 37, .mov (.t 1), none, []⟩,
      ⟨some 38, .bin false .add 3 (.t 37) (.c (.int .i64 1)), none, []⟩,
      ⟨some 1, .asg (.t 38), none, []⟩])
    (.seq
    (.region false [0, 1, 5] [
      ⟨some 39, .mov (.t 0), none, []⟩,
      ⟨some 40, .mov (.t 5), none, []⟩,
      ⟨some 41, .ia 33 62 5 (.t 39) (.t 40), none, []⟩,
      ⟨some 42, .fa 62 3 3 1 (.t 41), none, []⟩,
      ⟨some 43, .load 32 false 1 (.t 42), none, []⟩,
      ⟨some 44, .mov (.t 1), none, []⟩,
      ⟨some 45, .call 47 [(.t 43), (.t 44)], none, []⟩,
      ⟨some 1, .asg (.t 45), none, []⟩])
    (.seq
    (.seq
    (.region false [0, 1, 5, 47] [
      ⟨some 46, .mov (.t 1), none, []⟩,
      ⟨some 47, .bin false .lss 3 (.t 46) (.c (.int .i64 0)), none, []⟩])
    (.cond (.t 47)
      (.seq
      (.region false [4] [
        ⟨some 4, .asg (.c (.int .i64 (-1))), none, []⟩])
      .ret)
      .skip))
    (.seq
    (.seq
    (.region false [0, 1, 5, 54] [
      ⟨some 48, .mov (.t 0), none, []⟩,
      ⟨some 49, .mov (.t 5), none, []⟩,
      ⟨some 50, .ia 33 62 5 (.t 48) (.t 49), none, []⟩,
      ⟨some 51, .fa 62 4 4 1 (.t 50), none, []⟩,
      ⟨some 52, .load 2 false 1 (.t 51), none, []⟩,
      ⟨some 53, .mov (.t 1), none, []⟩,
      ⟨some 54, .bin false .neq 2 (.t 52) (.t 53), none, []⟩])
    (.cond (.t 54)
      (.seq
      (.region false [4] [
        ⟨some 4, .asg (.c (.int .i64 (-1))), none, []⟩])
      .ret)
      .skip))
    (.region false [0, 1, 5] [
      ⟨some 55, .mov (.t 1), none, []⟩,
      ⟨some 56, .bin false .add 3 (.t 55) (.c (.int .i64 1)), none, []⟩,
      ⟨some 1, .asg (.t 56), none, []⟩])))))))))))
  (.region false [0, 1, 5] [
    ⟨some 10, .mov (.t 5), none, []⟩,
    ⟨some 11, .bin false .add 3 (.t 10) (.c (.int .i64 1)), none, []⟩,
    ⟨some 5, .asg (.t 11), none, []⟩])))
def l48_0 : VC := .loop b48_0
/-- loop.example/g00539/laws.heldRewardS -/
def v48 : VFun := {
  code :=
    (.seq
    (.region false [0, 1] [
      ⟨some 4, .asg (.c (.int .i64 0)), none, []⟩])
    (.seq
    (.seq
    (.region false [0, 1, 5] [
      ⟨some 5, .asg (.c (.int .i64 0)), none, []⟩])
    (.block 0
      l48_0))
    (.seq
    (.region false [4] [
      ⟨some 57, .mov (.t 1), none, []⟩,
      ⟨some 4, .asg (.t 57), none, []⟩])
    .ret)))
  modes := [.lend, .lend]
  rets := [⟨4, none⟩] }

/-- loop.example/g00539/laws.eqWeight -/
def v53 : VFun := {
  code :=
    (.seq
    (.region false [2, 3] [
      ⟨some 2, .box 67 (.t 0), none, []⟩,
      ⟨some 3, .box 67 (.t 1), none, []⟩,
      ⟨some 4, .asg (.c (.bool false)), none, []⟩])
    (.seq
    (.seq
    (.region false [2, 3, 9] [
      ⟨some 5, .fa 67 0 0 1 (.t 2), none, []⟩,
      ⟨some 6, .load 9 false 1 (.t 5), none, []⟩,
      ⟨some 7, .fa 67 0 0 1 (.t 3), none, []⟩,
      ⟨some 8, .load 9 false 1 (.t 7), none, []⟩,
      ⟨some 9, .bin false .neq 9 (.t 6) (.t 8), none, []⟩])
    (.cond (.t 9)
      (.seq
      (.region false [4] [
        ⟨some 4, .asg (.c (.bool false)), none, []⟩])
      .ret)
      .skip))
    (.seq
    (.seq
    (.region false [14] [
      ⟨some 10, .fa 67 1 1 1 (.t 2), none, []⟩,
      ⟨some 11, .load 2 false 1 (.t 10), none, []⟩,
      ⟨some 12, .fa 67 1 1 1 (.t 3), none, []⟩,
      ⟨some 13, .load 2 false 1 (.t 12), none, []⟩,
      ⟨some 14, .bin false .neq 2 (.t 11) (.t 13), none, []⟩])
    (.cond (.t 14)
      (.seq
      (.region false [4] [
        ⟨some 4, .asg (.c (.bool false)), none, []⟩])
      .ret)
      .skip))
    (.seq
    (.region false [4] [
      ⟨some 4, .asg (.c (.bool true)), none, []⟩])
    .ret))))
  modes := [.lend, .lend]
  rets := [⟨4, none⟩] }

/-- loop.example/g00539/laws.eqReward -/
def v54 : VFun := {
  code :=
    (.seq
    (.region false [2, 3] [
      ⟨some 2, .box 62 (.t 0), none, []⟩,
      ⟨some 3, .box 62 (.t 1), none, []⟩,
      ⟨some 4, .asg (.c (.bool false)), none, []⟩])
    (.seq
    (.seq
    (.region false [2, 3, 9] [
      ⟨some 5, .fa 62 0 0 1 (.t 2), none, []⟩,
      ⟨some 6, .load 2 false 1 (.t 5), none, []⟩,
      ⟨some 7, .fa 62 0 0 1 (.t 3), none, []⟩,
      ⟨some 8, .load 2 false 1 (.t 7), none, []⟩,
      ⟨some 9, .bin false .neq 2 (.t 6) (.t 8), none, []⟩])
    (.cond (.t 9)
      (.seq
      (.region false [4] [
        ⟨some 4, .asg (.c (.bool false)), none, []⟩])
      .ret)
      .skip))
    (.seq
    (.seq
    (.region false [2, 3, 14] [
      ⟨some 10, .fa 62 1 1 1 (.t 2), none, []⟩,
      ⟨some 11, .load 2 false 1 (.t 10), none, []⟩,
      ⟨some 12, .fa 62 1 1 1 (.t 3), none, []⟩,
      ⟨some 13, .load 2 false 1 (.t 12), none, []⟩,
      ⟨some 14, .bin false .neq 2 (.t 11) (.t 13), none, []⟩])
    (.cond (.t 14)
      (.seq
      (.region false [4] [
        ⟨some 4, .asg (.c (.bool false)), none, []⟩])
      .ret)
      .skip))
    (.seq
    (.seq
    (.region false [2, 3, 19] [
      ⟨some 15, .fa 62 2 2 1 (.t 2), none, []⟩,
      ⟨some 16, .load 2 false 1 (.t 15), none, []⟩,
      ⟨some 17, .fa 62 2 2 1 (.t 3), none, []⟩,
      ⟨some 18, .load 2 false 1 (.t 17), none, []⟩,
      ⟨some 19, .bin false .neq 2 (.t 16) (.t 18), none, []⟩])
    (.cond (.t 19)
      (.seq
      (.region false [4] [
        ⟨some 4, .asg (.c (.bool false)), none, []⟩])
      .ret)
      .skip))
    (.seq
    (.seq
    (.region false [2, 3, 25] [
      ⟨some 20, .fa 62 3 3 1 (.t 2), none, []⟩,
      ⟨some 21, .load 32 false 1 (.t 20), none, []⟩,
      ⟨some 22, .fa 62 3 3 1 (.t 3), none, []⟩,
      ⟨some 23, .load 32 false 1 (.t 22), none, []⟩,
      ⟨some 24, .call 37 [(.t 21), (.t 23)], none, []⟩,
      ⟨some 25, .un .not (.t 24), none, []⟩])
    (.cond (.t 25)
      (.seq
      (.region false [4] [
        ⟨some 4, .asg (.c (.bool false)), none, []⟩])
      .ret)
      .skip))
    (.seq
    (.seq
    (.region false [30] [
      ⟨some 26, .fa 62 4 4 1 (.t 2), none, []⟩,
      ⟨some 27, .load 2 false 1 (.t 26), none, []⟩,
      ⟨some 28, .fa 62 4 4 1 (.t 3), none, []⟩,
      ⟨some 29, .load 2 false 1 (.t 28), none, []⟩,
      ⟨some 30, .bin false .neq 2 (.t 27) (.t 29), none, []⟩])
    (.cond (.t 30)
      (.seq
      (.region false [4] [
        ⟨some 4, .asg (.c (.bool false)), none, []⟩])
      .ret)
      .skip))
    (.seq
    (.region false [4] [
      ⟨some 4, .asg (.c (.bool true)), none, []⟩])
    .ret)))))))
  modes := [.lend, .lend]
  rets := [⟨4, none⟩] }

def b55_0 : VC :=
  (.seq
  (.seq
  (.region false [0, 3, 7] [
    ⟨some 6, .mov (.t 0), none, []⟩,
    ⟨some 7, .bin false .gtr 3 (.t 6) (.c (.int .i64 0)), none, []⟩])
  (.cond (.t 7)
    .skip
    (.exit 0)))
  (.block 1
    (.seq
    (.region false [0, 3] [
      ⟨some 8, .mov (.t 0), none, []⟩,
      ⟨some 9, .bin false .rem 3 (.t 8) (.c (.int .i64 10)), none, []⟩,
      ⟨some 10, .bin false .add 3 (.c (.int .i64 48)) (.t 9), none, []⟩,
      ⟨some 11, .conv 3 5 .u8 (.t 10), none, []⟩,
      ⟨some 12, .lit 88 5 1 1 [(.val (.int .u8 0))] [(0, (.t 11))], none, []⟩,
      ⟨some 13, .b2s 88 9 (.t 12), none, []⟩,
      ⟨some 14, .mov (.t 3), none, []⟩,
      ⟨some 15, .bin false .add 9 (.t 13) (.t 14), none, []⟩,
      ⟨some 3, .asg (.t 15), none, []⟩])
    (.region false [0, 3] [
      ⟨some 16, .mov (.t 0), none, []⟩,
      ⟨some 17, .bin false .quo 3 (.t 16) (.c (.int .i64 10)), none, []⟩,
      ⟨some 0, .asg (.t 17), none, []⟩]))))
def l55_0 : VC := .loop b55_0
/-- loop.example/g00539/laws.markText -/
def v55 : VFun := {
  code :=
    (.seq
    (.region false [0] [
      ⟨some 2, .asg (.c (.string (⟨#[]⟩ : ByteArray))), none, []⟩])
    (.seq
    (.seq
    (.region false [0, 5] [
      ⟨some 4, .mov (.t 0), none, []⟩,
      ⟨some 5, .bin false .leq 3 (.t 4) (.c (.int .i64 0)), none, []⟩])
    (.cond (.t 5)
      (.seq
      (.region false [2] [
        ⟨some 2, .asg (.c (.string (⟨#[109, 48]⟩ : ByteArray))), none, []⟩])
      .ret)
      .skip))
    (.seq
    (.region false [0, 3] [
      ⟨some 3, .asg (.c (.string (⟨#[]⟩ : ByteArray))), none, []⟩])
    (.seq
    (.block 0
      l55_0)
    (.seq
    (.region false [2] [
      ⟨some 18, .mov (.t 3), none, []⟩,
      ⟨some 19, .bin false .add 9 (.c (.string (⟨#[109]⟩ : ByteArray))) (.t 18), none, []⟩,
      ⟨some 2, .asg (.t 19), none, []⟩])
    .ret)))))
  modes := [.lend]
  rets := [⟨2, none⟩] }

def tab : List (Nat × VFun) := [(4, v4), (11, v11), (12, v12), (13, v13), (14, v14), (15, v15), (20, v20), (25, v25), (26, v26), (27, v27), (28, v28), (37, v37), (38, v38), (42, v42), (43, v43), (44, v44), (45, v45), (46, v46), (47, v47), (48, v48), (53, v53), (54, v54), (55, v55)]
def F (f : FuncId) : Option VFun := getA none (tab.map fun x => (x.1, some x.2)) f
theorem tab_ok : tab.all (fun x => matchFun Try.prog x.1 x.2) = true := by kernel_rfl
theorem F_mem {f : FuncId} {fn : VFun} : ∀ {l : List (Nat × VFun)}, getA none (l.map fun x => (x.1, some x.2)) f = some fn → (f, fn) ∈ l
  | [], h => by simp [getA] at h
  | (k, v) :: l, h => by
    simp only [List.map_cons, getA] at h
    split at h
    · rename_i e
      injection h with h
      subst e; subst h
      exact List.mem_cons_self ..
    · exact List.mem_cons_of_mem _ (F_mem h)
theorem F_ok (f : FuncId) (fn : VFun) (h : F f = some fn) : matchFun Try.prog f fn = true := List.all_eq_true.1 tab_ok _ (F_mem h)
end Go.Proofs.Ytcbnpfnebinbkaa.NewLedger
