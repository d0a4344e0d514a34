/- V's text of the functions that this law reaches. -/
import Derived.Test.YtaomcjbjgdihhaaDoorVCode
import Derived.Test.YtaomcjbjgdihhaaDoorRows
import Derived.KernelRfl
namespace Go.Proofs.YtaomcjbjgdihhaaDoor.CloseSession
open Go Go.Proofs.YtaomcjbjgdihhaaDoor.V
set_option maxRecDepth 20000

/-- loop.example/g00539/laws.FnExactCloseSession -/
def v3 : VFun := {
  code :=
    (.seq
    (.region false [1, 2] [
      ⟨some 2, .box 24 (.t 0), none, []⟩,
      ⟨some 4, .asg (.c (.bool false)), none, []⟩])
    (.seq
    (.region false [1, 2, 5] [
      ⟨some 5, .asg (.c (.int .i64 1048576)), none, []⟩])
    (.seq
    (.region false [1, 2, 5] [
      ⟨some 13, .load 24 true 2 (.t 2), none, []⟩,
      ⟨some 14, .mov (.t 5), none, []⟩,
      ⟨some 15, .call 4 [(.t 13), (.t 14)], none, []⟩,
      ⟨some 5, .asg (.t 15), none, []⟩])
    (.seq
    (.seq
    (.region false [1, 2, 17] [
      ⟨some 16, .mov (.t 5), none, []⟩,
      ⟨some 17, .bin false .lss 3 (.t 16) (.c (.int .i64 0)), none, []⟩])
    (.cond (.t 17)
      (.seq
      (.region false [4] [
        ⟨some 4, .asg (.c (.bool true)), none, []⟩])
      .ret)
      .skip))
    (.seq
    (.region false [1, 2, 6] [
      ⟨some 18, .load 24 true 2 (.t 2), none, []⟩,
      ⟨some 19, .call 6 [(.t 18)], none, []⟩,
      ⟨some 20, .mov (.t 1), none, []⟩,
      ⟨some 21, .call 5 [(.t 19), (.t 20)], none, []⟩,
      ⟨some 6, .alloc 32 [(.val (.int .i64 0)), (.nl 1), (.nl 7), (.nl 4), (.val (.int .i64 0))], none, []⟩,
      ⟨none, .store 32 5 (.t 6) (.t 21), none, []⟩])
    (.seq
    (.region false [1, 2, 6, 7] [
      ⟨some 22, .load 24 true 2 (.t 2), none, []⟩,
      ⟨some 23, .call 6 [(.t 22)], none, []⟩,
      ⟨some 7, .alloc 30 [(.nl 4), (.val (.int .i64 0))], none, []⟩,
      ⟨none, .store 30 2 (.t 7) (.t 23), none, []⟩])
    (.seq
    (.region false [1, 2, 6, 7, 8] [
      ⟨some 24, .load 30 true 2 (.t 7), none, []⟩,
      ⟨some 25, .mov (.t 1), none, []⟩,
      ⟨some 26, .call 7 [(.t 24), (.t 25)], none, []⟩,
      ⟨some 8, .alloc 32 [(.val (.int .i64 0)), (.nl 1), (.nl 7), (.nl 4), (.val (.int .i64 0))], none, []⟩,
      ⟨none, .store 32 5 (.t 8) (.t 26), none, []⟩])
    (.seq
    (.seq
    (.region false [1, 2, 6, 7, 8, 30] [
      ⟨some 27, .load 32 true 5 (.t 8), none, []⟩,
      ⟨some 28, .load 32 true 5 (.t 6), none, []⟩,
      ⟨some 29, .call 8 [(.t 27), (.t 28)], none, []⟩,
      ⟨some 30, .un .not (.t 29), none, []⟩])
    (.cond (.t 30)
      (.seq
      (.region false [4] [
        ⟨some 4, .asg (.c (.bool false)), none, []⟩])
      .ret)
      .skip))
    (.seq
    (.seq
    (.region true [1, 2, 6, 7, 8, 35] [
      ⟨some 31, .load 30 true 2 (.t 7), none, []⟩,
      ⟨some 32, .load 24 true 2 (.t 2), none, [0]⟩,
      ⟨some 33, .call 6 [(.t 32)], none, [0]⟩,
      ⟨some 34, .call 9 [(.t 31), (.t 33)], none, []⟩,
      ⟨some 35, .un .not (.t 34), none, []⟩])
    (.cond (.t 35)
      (.seq
      (.region false [4] [
        ⟨some 4, .asg (.c (.bool false)), none, []⟩])
      .ret)
      .skip))
    (.seq
    (.region false [1, 2, 6, 7, 8, 9] [
      ⟨some 9, .asg (.c (.int .i64 1)), none, []⟩])
    (.seq
    (.region false [1, 2, 6, 8, 9] [
      ⟨some 36, .load 30 true 2 (.t 7), none, []⟩,
      ⟨some 37, .mov (.t 9), none, []⟩,
      ⟨some 38, .call 10 [(.t 36), (.t 37)], none, []⟩,
      ⟨some 9, .asg (.t 38), none, []⟩])
    (.seq
    (.seq
    (.region false [1, 2, 6, 8, 46] [
      ⟨some 39, .mov (.t 9), none, []⟩,
      ⟨some 40, .bin false .lss 3 (.t 39) (.c (.int .i64 0)), none, []⟩,
      ⟨some 41, .mov (.t 40), none, []⟩,
      ⟨some 42, .load 32 true 5 (.t 8), some (41, false), []⟩,
      ⟨some 43, .load 32 true 5 (.t 6), some (41, false), []⟩,
      ⟨some 44, .call 8 [(.t 42), (.t 43)], some (41, false), []⟩,
      ⟨some 45, .un .not (.t 44), some (41, false), []⟩,
      ⟨some 46, .pick (.t 41) (.c (.bool true)) (.t 45), none, []⟩])
    (.cond (.t 46)
      (.seq
      (.region false [4] [
        ⟨some 4, .asg (.c (.bool false)), none, []⟩])
      .ret)
      .skip))
    (.seq
    (.region false [1, 2, 6, 8, 10] [
      ⟨some 10, .asg (.c (.int .i64 1)), none, []⟩])
    (.seq
    (.region false [1, 2, 6, 8, 10] [
      ⟨some 47, .load 32 true 5 (.t 8), none, []⟩,
      ⟨some 48, .mov (.t 10), none, []⟩,
      ⟨some 49, .call 11 [(.t 47), (.t 48)], none, []⟩,
      ⟨some 10, .asg (.t 49), none, []⟩])
    (.seq
    (.region false [1, 2, 6, 8, 10, 11] [
      ⟨some 11, .asg (.c (.int .i64 1)), none, []⟩])
    (.seq
    (.region false [1, 2, 6, 8, 10, 11] [
      ⟨some 50, .load 32 true 5 (.t 8), none, []⟩,
      ⟨some 51, .mov (.t 11), none, []⟩,
      ⟨some 52, .call 12 [(.t 50), (.t 51)], none, []⟩,
      ⟨some 11, .asg (.t 52), none, []⟩])
    (.seq
    (.seq
    (.region false [1, 2, 6, 8, 10, 11, 54] [
      ⟨some 53, .mov (.t 11), none, []⟩,
      ⟨some 54, .bin false .lss 3 (.t 53) (.c (.int .i64 0)), none, []⟩])
    (.cond (.t 54)
      (.seq
      (.region false [4] [
        ⟨some 4, .asg (.c (.bool false)), none, []⟩])
      .ret)
      .skip))
    (.seq
    (.seq
    (.region false [1, 2, 6, 8, 10, 57] [
      ⟨some 55, .mov (.t 11), none, []⟩,
      ⟨some 56, .mov (.t 10), none, []⟩,
      ⟨some 57, .bin false .neq 3 (.t 55) (.t 56), none, []⟩])
    (.cond (.t 57)
      (.seq
      (.region false [4] [
        ⟨some 4, .asg (.c (.bool false)), none, []⟩])
      .ret)
      .skip))
    (.seq
    (.region false [6, 8, 10, 12] [
      ⟨some 58, .load 24 true 2 (.t 2), none, []⟩,
      ⟨some 59, .call 6 [(.t 58)], none, []⟩,
      ⟨some 60, .mov (.t 1), none, []⟩,
      ⟨some 61, .call 7 [(.t 59), (.t 60)], none, []⟩,
      ⟨some 12, .alloc 32 [(.val (.int .i64 0)), (.nl 1), (.nl 7), (.nl 4), (.val (.int .i64 0))], none, []⟩,
      ⟨none, .store 32 5 (.t 12) (.t 61), none, []⟩])
    (.seq
    (.seq
    (.region false [8, 10, 65] [
      ⟨some 62, .load 32 true 5 (.t 12), none, []⟩,
      ⟨some 63, .load 32 true 5 (.t 6), none, []⟩,
      ⟨some 64, .call 8 [(.t 62), (.t 63)], none, []⟩,
      ⟨some 65, .un .not (.t 64), none, []⟩])
    (.cond (.t 65)
      (.seq
      (.region false [4] [
        ⟨some 4, .asg (.c (.bool false)), none, []⟩])
      .ret)
      .skip))
    (.seq
    (.region false [8, 10, 11] [
      ⟨some 11, .asg (.c (.int .i64 1)), none, []⟩])
    (.seq
    (.region false [10, 11] [
      ⟨some 66, .load 32 true 5 (.t 8), none, []⟩,
      ⟨some 67, .mov (.t 11), none, []⟩,
      ⟨some 68, .call 12 [(.t 66), (.t 67)], none, []⟩,
      ⟨some 11, .asg (.t 68), none, []⟩])
    (.seq
    (.seq
    (.region false [10, 11, 70] [
      ⟨some 69, .mov (.t 11), none, []⟩,
      ⟨some 70, .bin false .lss 3 (.t 69) (.c (.int .i64 0)), none, []⟩])
    (.cond (.t 70)
      (.seq
      (.region false [4] [
        ⟨some 4, .asg (.c (.bool false)), none, []⟩])
      .ret)
      .skip))
    (.seq
    (.seq
    (.region false [73] [
      ⟨some 71, .mov (.t 11), none, []⟩,
      ⟨some 72, .mov (.t 10), none, []⟩,
      ⟨some 73, .bin false .neq 3 (.t 71) (.t 72), none, []⟩])
    (.cond (.t 73)
      (.seq
      (.region false [4] [
        ⟨some 4, .asg (.c (.bool false)), none, []⟩])
      .ret)
      .skip))
    (.seq
    (.region false [4] [
      ⟨some 4, .asg (.c (.bool true)), none, []⟩])
    .ret)))))))))))))))))))))))))
  modes := [.lend, .lend]
  rets := [⟨4, none⟩] }

/-- loop.example/g00539/laws.szServer -/
def v4 : VFun := {
  code :=
    (.seq
    (.region false [1, 2] [
      ⟨some 2, .box 24 (.t 0), none, []⟩,
      ⟨some 4, .asg (.c (.int .i64 0)), none, []⟩])
    (.seq
    (.region false [1] [
      ⟨some 5, .fa 24 0 0 1 (.t 2), none, []⟩,
      ⟨some 6, .load 22 false 1 (.t 5), none, []⟩,
      ⟨some 7, .mov (.t 1), none, []⟩,
      ⟨some 8, .call 13 [(.t 6), (.t 7)], none, []⟩,
      ⟨some 1, .asg (.t 8), none, []⟩])
    (.seq
    (.seq
    (.region false [1, 10] [
      ⟨some 9, .mov (.t 1), none, []⟩,
      ⟨some 10, .bin false .lss 3 (.t 9) (.c (.int .i64 0)), none, []⟩])
    (.cond (.t 10)
      (.seq
      (.region false [4] [
        ⟨some 4, .asg (.c (.int .i64 (-1))), none, []⟩])
      .ret)
      .skip))
    (.seq
    (.region false [4] [
      ⟨some 11, .mov (.t 1), none, []⟩,
      ⟨some 4, .asg (.t 11), none, []⟩])
    .ret))))
  modes := [.lend, .lend]
  rets := [⟨4, none⟩] }

/-- loop.example/g00539/spec.CloseSession -/
def v5 : VFun := {
  code :=
    (.seq
    (.region false [1, 2, 4] [
      ⟨some 2, .box 30 (.t 0), none, []⟩,
      ⟨some 4, .alloc 32 [(.val (.int .i64 0)), (.nl 1), (.nl 7), (.nl 4), (.val (.int .i64 0))], none, []⟩])
    (.seq
    (.seq
    (.region false [1, 2, 4, 5] [
      ⟨some 7, .mov (.t 1), none, []⟩,
      ⟨some 8, .call 14 [(.t 2), (.t 7)], none, []⟩,
      ⟨some 5, .asg (.t 8), none, []⟩])
    (.seq
    (.region false [1, 2, 4, 5, 10] [
      ⟨some 9, .mov (.t 5), none, []⟩,
      ⟨some 10, .bin false .neq 2 (.t 9) (.c (.int .i64 0)), none, []⟩])
    (.cond (.t 10)
      (.seq
      (.region false [4] [
        ⟨some 11, .mov (.t 5), none, []⟩,
        ⟨some 12, .call 15 [(.t 11)], none, []⟩,
        ⟨none, .store 32 5 (.t 4) (.t 12), none, []⟩])
      .ret)
      .skip)))
    (.seq
    (.region false [1, 2, 4, 6, 18] [
      ⟨some 13, .lit 28 49 4 0 [(.val (.string (⟨#[]⟩ : ByteArray))), (.val (.int .i64 0)), (.val (.string (⟨#[]⟩ : ByteArray))), (.val (.int .i64 0))] [], none, []⟩,
      ⟨some 14, .fa 30 0 0 1 (.t 2), none, []⟩,
      ⟨some 15, .load 28 false 1 (.t 14), none, []⟩,
      ⟨some 16, .mov (.t 1), none, []⟩,
      ⟨some 17, .cut 28 (some 49) 4 (.t 15) none (some (.t 16)), none, []⟩,
      ⟨some 18, .app 28 49 4 48 (.t 13) (.t 17), none, []⟩,
      ⟨some 6, .asg (.t 18), none, []⟩])
    (.seq
    (.region true [4] [
      ⟨some 19, .mov (.t 6), none, []⟩,
      ⟨some 20, .fa 30 0 0 1 (.t 2), none, [0]⟩,
      ⟨some 21, .load 28 false 1 (.t 20), none, [0]⟩,
      ⟨some 22, .mov (.t 1), none, [0, 1, 2]⟩,
      ⟨some 23, .bin false .add 2 (.t 22) (.c (.int .i64 1)), none, [0, 1, 2]⟩,
      ⟨some 24, .cut 28 (some 49) 4 (.t 21) (some (.t 23)) none, none, [0]⟩,
      ⟨some 25, .app 28 49 4 48 (.t 19) (.t 24), none, []⟩,
      ⟨some 26, .fa 30 1 1 1 (.t 2), none, [0, 1, 2, 3, 4, 5, 6]⟩,
      ⟨some 27, .load 2 false 1 (.t 26), none, [0, 1, 2, 3, 4, 5, 6]⟩,
      ⟨some 28, .build 30 [(.nl 4), (.val (.int .i64 0))] [(0, 0, 1, (.t 25)), (1, 1, 1, (.t 27))], none, []⟩,
      ⟨some 29, .build 32 [(.val (.int .i64 0)), (.nl 1), (.nl 7), (.nl 4), (.val (.int .i64 0))] [(3, 3, 2, (.t 28))], none, []⟩,
      ⟨none, .store 32 5 (.t 4) (.t 29), none, []⟩])
    .ret))))
  modes := [.lend, .lend]
  rets := [⟨4, some (true, 5)⟩] }

/-- loop.example/g00539/laws.toServer -/
def v6 : VFun := {
  code :=
    (.seq
    (.region false [1, 2] [
      ⟨some 1, .box 24 (.t 0), none, []⟩,
      ⟨some 2, .alloc 30 [(.nl 4), (.val (.int .i64 0))], none, []⟩])
    (.seq
    (.region false [1, 2, 3] [
      ⟨some 3, .alloc 30 [(.nl 4), (.val (.int .i64 0))], none, []⟩])
    (.seq
    (.region false [1, 2, 3] [
      ⟨some 4, .fa 24 0 0 1 (.t 1), none, []⟩,
      ⟨some 5, .load 22 false 1 (.t 4), none, []⟩,
      ⟨some 6, .call 16 [(.t 5)], none, []⟩,
      ⟨some 7, .fa 30 0 0 1 (.t 3), none, []⟩,
      ⟨none, .store 28 1 (.t 7) (.t 6), none, []⟩])
    (.seq
    (.region false [2, 3] [
      ⟨some 8, .fa 24 1 1 1 (.t 1), none, []⟩,
      ⟨some 9, .load 2 false 1 (.t 8), none, []⟩,
      ⟨some 10, .fa 30 1 1 1 (.t 3), none, []⟩,
      ⟨none, .store 2 1 (.t 10) (.t 9), none, []⟩])
    (.seq
    (.region false [2] [
      ⟨some 11, .load 30 true 2 (.t 3), none, []⟩,
      ⟨none, .store 30 2 (.t 2) (.t 11), none, []⟩])
    .ret)))))
  modes := [.lend]
  rets := [⟨2, some (true, 2)⟩] }

/-- loop.example/g00539/impl.CloseSession -/
def v7 : VFun := {
  code :=
    (.seq
    (.region false [1, 2, 4] [
      ⟨some 2, .box 30 (.t 0), none, []⟩,
      ⟨some 4, .alloc 32 [(.val (.int .i64 0)), (.nl 1), (.nl 7), (.nl 4), (.val (.int .i64 0))], none, []⟩])
    (.seq
    (.seq
    (.region false [1, 2, 4, 5] [
      ⟨some 7, .load 30 true 2 (.t 2), none, []⟩,
      ⟨some 8, .mov (.t 1), none, []⟩,
      ⟨some 9, .call 17 [(.t 7), (.t 8)], none, []⟩,
      ⟨some 5, .asg (.t 9), none, []⟩])
    (.seq
    (.region false [1, 2, 4, 5, 11] [
      ⟨some 10, .mov (.t 5), none, []⟩,
      ⟨some 11, .bin false .neq 2 (.t 10) (.c (.int .i64 0)), none, []⟩])
    (.cond (.t 11)
      (.seq
      (.region false [4] [
        ⟨some 12, .mov (.t 5), none, []⟩,
        ⟨some 13, .build 32 [(.val (.int .i64 0)), (.nl 1), (.nl 7), (.nl 4), (.val (.int .i64 0))] [(0, 0, 1, (.t 12))], none, []⟩,
        ⟨none, .store 32 5 (.t 4) (.t 13), none, []⟩])
      .ret)
      .skip)))
    (.seq
    (.region false [1, 4, 6] [
      ⟨some 14, .load 30 true 2 (.t 2), none, []⟩,
      ⟨some 15, .call 18 [(.t 14)], none, []⟩,
      ⟨some 6, .alloc 30 [(.nl 4), (.val (.int .i64 0))], none, []⟩,
      ⟨none, .store 30 2 (.t 6) (.t 15), none, []⟩])
    (.seq
    (.region false [4, 6] [
      ⟨some 16, .fa 30 0 0 1 (.t 6), none, []⟩,
      ⟨some 17, .load 28 false 1 (.t 16), none, []⟩,
      ⟨some 18, .mov (.t 1), none, []⟩,
      ⟨some 19, .mov (.t 1), none, []⟩,
      ⟨some 20, .bin false .add 3 (.t 19) (.c (.int .i64 1)), none, []⟩,
      ⟨some 21, .call 19 [(.t 17), (.t 18), (.t 20)], none, []⟩,
      ⟨some 22, .fa 30 0 0 1 (.t 6), none, []⟩,
      ⟨none, .store 28 1 (.t 22) (.t 21), none, []⟩])
    (.seq
    (.region false [4] [
      ⟨some 23, .load 30 true 2 (.t 6), none, []⟩,
      ⟨some 24, .build 32 [(.val (.int .i64 0)), (.nl 1), (.nl 7), (.nl 4), (.val (.int .i64 0))] [(3, 3, 2, (.t 23))], none, []⟩,
      ⟨none, .store 32 5 (.t 4) (.t 24), none, []⟩])
    .ret)))))
  modes := [.lend, .lend]
  rets := [⟨4, some (true, 5)⟩] }

/-- loop.example/g00539/laws.eqServerResult -/
def v8 : VFun := {
  code :=
    (.seq
    (.region false [2, 3] [
      ⟨some 2, .box 32 (.t 0), none, []⟩,
      ⟨some 3, .box 32 (.t 1), none, []⟩,
      ⟨some 4, .asg (.c (.bool false)), none, []⟩])
    (.seq
    (.seq
    (.region false [2, 3, 9] [
      ⟨some 5, .fa 32 0 0 1 (.t 2), none, []⟩,
      ⟨some 6, .load 2 false 1 (.t 5), none, []⟩,
      ⟨some 7, .fa 32 0 0 1 (.t 3), none, []⟩,
      ⟨some 8, .load 2 false 1 (.t 7), none, []⟩,
      ⟨some 9, .bin false .neq 2 (.t 6) (.t 8), none, []⟩])
    (.cond (.t 9)
      (.seq
      (.region false [4] [
        ⟨some 4, .asg (.c (.bool false)), none, []⟩])
      .ret)
      .skip))
    (.seq
    (.seq
    (.region false [2, 3, 15] [
      ⟨some 10, .fa 32 1 1 1 (.t 2), none, []⟩,
      ⟨some 11, .load 26 false 1 (.t 10), none, []⟩,
      ⟨some 12, .fa 32 1 1 1 (.t 3), none, []⟩,
      ⟨some 13, .load 26 false 1 (.t 12), none, []⟩,
      ⟨some 14, .call 20 [(.t 11), (.t 13)], none, []⟩,
      ⟨some 15, .un .not (.t 14), none, []⟩])
    (.cond (.t 15)
      (.seq
      (.region false [4] [
        ⟨some 4, .asg (.c (.bool false)), none, []⟩])
      .ret)
      .skip))
    (.seq
    (.seq
    (.region false [2, 3, 21] [
      ⟨some 16, .fa 32 2 2 1 (.t 2), none, []⟩,
      ⟨some 17, .load 27 false 1 (.t 16), none, []⟩,
      ⟨some 18, .fa 32 2 2 1 (.t 3), none, []⟩,
      ⟨some 19, .load 27 false 1 (.t 18), none, []⟩,
      ⟨some 20, .call 21 [(.t 17), (.t 19)], none, []⟩,
      ⟨some 21, .un .not (.t 20), none, []⟩])
    (.cond (.t 21)
      (.seq
      (.region false [4] [
        ⟨some 4, .asg (.c (.bool false)), none, []⟩])
      .ret)
      .skip))
    (.seq
    (.seq
    (.region false [27] [
      ⟨some 22, .fa 32 3 3 2 (.t 2), none, []⟩,
      ⟨some 23, .load 30 true 2 (.t 22), none, []⟩,
      ⟨some 24, .fa 32 3 3 2 (.t 3), none, []⟩,
      ⟨some 25, .load 30 true 2 (.t 24), none, []⟩,
      ⟨some 26, .call 9 [(.t 23), (.t 25)], none, []⟩,
      ⟨some 27, .un .not (.t 26), none, []⟩])
    (.cond (.t 27)
      (.seq
      (.region false [4] [
        ⟨some 4, .asg (.c (.bool false)), none, []⟩])
      .ret)
      .skip))
    (.seq
    (.region false [4] [
      ⟨some 4, .asg (.c (.bool true)), none, []⟩])
    .ret))))))
  modes := [.lend, .lend]
  rets := [⟨4, none⟩] }

/-- loop.example/g00539/laws.eqServer -/
def v9 : VFun := {
  code :=
    (.seq
    (.region false [2, 3] [
      ⟨some 2, .box 30 (.t 0), none, []⟩,
      ⟨some 3, .box 30 (.t 1), none, []⟩,
      ⟨some 4, .asg (.c (.bool false)), none, []⟩])
    (.seq
    (.seq
    (.region false [2, 3, 10] [
      ⟨some 5, .fa 30 0 0 1 (.t 2), none, []⟩,
      ⟨some 6, .load 28 false 1 (.t 5), none, []⟩,
      ⟨some 7, .fa 30 0 0 1 (.t 3), none, []⟩,
      ⟨some 8, .load 28 false 1 (.t 7), none, []⟩,
      ⟨some 9, .call 22 [(.t 6), (.t 8)], none, []⟩,
      ⟨some 10, .un .not (.t 9), none, []⟩])
    (.cond (.t 10)
      (.seq
      (.region false [4] [
        ⟨some 4, .asg (.c (.bool false)), none, []⟩])
      .ret)
      .skip))
    (.seq
    (.seq
    (.region false [15] [
      ⟨some 11, .fa 30 1 1 1 (.t 2), none, []⟩,
      ⟨some 12, .load 2 false 1 (.t 11), none, []⟩,
      ⟨some 13, .fa 30 1 1 1 (.t 3), none, []⟩,
      ⟨some 14, .load 2 false 1 (.t 13), none, []⟩,
      ⟨some 15, .bin false .neq 2 (.t 12) (.t 14), none, []⟩])
    (.cond (.t 15)
      (.seq
      (.region false [4] [
        ⟨some 4, .asg (.c (.bool false)), none, []⟩])
      .ret)
      .skip))
    (.seq
    (.region false [4] [
      ⟨some 4, .asg (.c (.bool true)), none, []⟩])
    .ret))))
  modes := [.lend, .lend]
  rets := [⟨4, none⟩] }

/-- loop.example/g00539/laws.markServer -/
def v10 : VFun := {
  code :=
    (.seq
    (.region false [0, 1, 2] [
      ⟨some 2, .box 30 (.t 0), none, []⟩,
      ⟨some 4, .asg (.c (.int .i64 0)), none, []⟩])
    (.seq
    (.region false [0, 1, 2] [
      ⟨some 5, .fa 30 0 0 1 (.t 2), none, []⟩,
      ⟨some 6, .load 28 false 1 (.t 5), none, []⟩,
      ⟨some 7, .mov (.t 1), none, []⟩,
      ⟨some 8, .call 23 [(.t 6), (.t 7)], none, []⟩,
      ⟨some 1, .asg (.t 8), none, []⟩])
    (.seq
    (.region false [0, 2, 4] [
      ⟨some 9, .mov (.t 1), none, []⟩,
      ⟨some 4, .asg (.t 9), none, []⟩])
    .ret)))
  modes := [.io, .lend]
  rets := [⟨4, none⟩] }

/-- loop.example/g00539/laws.markServerResult -/
def v11 : VFun := {
  code :=
    (.seq
    (.region false [0, 1, 2] [
      ⟨some 2, .box 32 (.t 0), none, []⟩,
      ⟨some 4, .asg (.c (.int .i64 0)), none, []⟩])
    (.seq
    (.region false [0, 1, 2] [
      ⟨some 5, .fa 32 1 1 1 (.t 2), none, []⟩,
      ⟨some 6, .load 26 false 1 (.t 5), none, []⟩,
      ⟨some 7, .mov (.t 1), none, []⟩,
      ⟨some 8, .call 24 [(.t 6), (.t 7)], none, []⟩,
      ⟨some 1, .asg (.t 8), none, []⟩])
    (.seq
    (.region false [0, 1, 2] [
      ⟨some 9, .fa 32 2 2 1 (.t 2), none, []⟩,
      ⟨some 10, .load 27 false 1 (.t 9), none, []⟩,
      ⟨some 11, .mov (.t 1), none, []⟩,
      ⟨some 12, .call 25 [(.t 10), (.t 11)], none, []⟩,
      ⟨some 1, .asg (.t 12), none, []⟩])
    (.seq
    (.region false [0, 1, 2] [
      ⟨some 13, .fa 32 3 3 2 (.t 2), none, []⟩,
      ⟨some 14, .load 30 true 2 (.t 13), none, []⟩,
      ⟨some 15, .mov (.t 1), none, []⟩,
      ⟨some 16, .call 10 [(.t 14), (.t 15)], none, []⟩,
      ⟨some 1, .asg (.t 16), none, []⟩])
    (.seq
    (.region false [0, 2, 4] [
      ⟨some 17, .mov (.t 1), none, []⟩,
      ⟨some 4, .asg (.t 17), none, []⟩])
    .ret)))))
  modes := [.io, .lend]
  rets := [⟨4, none⟩] }

/-- loop.example/g00539/laws.heldServerResult -/
def v12 : VFun := {
  code :=
    (.seq
    (.region false [1, 2] [
      ⟨some 2, .box 32 (.t 0), none, []⟩,
      ⟨some 4, .asg (.c (.int .i64 0)), none, []⟩])
    (.seq
    (.region false [1, 2] [
      ⟨some 5, .fa 32 1 1 1 (.t 2), none, []⟩,
      ⟨some 6, .load 26 false 1 (.t 5), none, []⟩,
      ⟨some 7, .mov (.t 1), none, []⟩,
      ⟨some 8, .call 26 [(.t 6), (.t 7)], none, []⟩,
      ⟨some 1, .asg (.t 8), none, []⟩])
    (.seq
    (.seq
    (.region false [1, 2, 10] [
      ⟨some 9, .mov (.t 1), none, []⟩,
      ⟨some 10, .bin false .lss 3 (.t 9) (.c (.int .i64 0)), none, []⟩])
    (.cond (.t 10)
      (.seq
      (.region false [4] [
        ⟨some 4, .asg (.c (.int .i64 (-1))), none, []⟩])
      .ret)
      .skip))
    (.seq
    (.region false [1, 2] [
      ⟨some 11, .fa 32 2 2 1 (.t 2), none, []⟩,
      ⟨some 12, .load 27 false 1 (.t 11), none, []⟩,
      ⟨some 13, .mov (.t 1), none, []⟩,
      ⟨some 14, .call 27 [(.t 12), (.t 13)], none, []⟩,
      ⟨some 1, .asg (.t 14), none, []⟩])
    (.seq
    (.seq
    (.region false [1, 2, 16] [
      ⟨some 15, .mov (.t 1), none, []⟩,
      ⟨some 16, .bin false .lss 3 (.t 15) (.c (.int .i64 0)), none, []⟩])
    (.cond (.t 16)
      (.seq
      (.region false [4] [
        ⟨some 4, .asg (.c (.int .i64 (-1))), none, []⟩])
      .ret)
      .skip))
    (.seq
    (.region false [1] [
      ⟨some 17, .fa 32 3 3 2 (.t 2), none, []⟩,
      ⟨some 18, .load 30 true 2 (.t 17), none, []⟩,
      ⟨some 19, .mov (.t 1), none, []⟩,
      ⟨some 20, .call 28 [(.t 18), (.t 19)], none, []⟩,
      ⟨some 1, .asg (.t 20), none, []⟩])
    (.seq
    (.seq
    (.region false [1, 22] [
      ⟨some 21, .mov (.t 1), none, []⟩,
      ⟨some 22, .bin false .lss 3 (.t 21) (.c (.int .i64 0)), none, []⟩])
    (.cond (.t 22)
      (.seq
      (.region false [4] [
        ⟨some 4, .asg (.c (.int .i64 (-1))), none, []⟩])
      .ret)
      .skip))
    (.seq
    (.region false [4] [
      ⟨some 23, .mov (.t 1), none, []⟩,
      ⟨some 4, .asg (.t 23), none, []⟩])
    .ret))))))))
  modes := [.lend, .lend]
  rets := [⟨4, none⟩] }

def b13_0 : VC :=
  (.seq
  (.seq
  (.region false [0, 1, 5, 15] [
    ⟨some 12, .mov (.t 5), none, []⟩,
    ⟨some 13, .mov (.t 0), none, []⟩,
    ⟨some 14, .len false 22 (.t 13), none, []⟩,
    ⟨some 15, .bin false .lss 3 (.t 12) (.t 14), none, []⟩])
  (.cond (.t 15)
    .skip
    (.exit 0)))
  (.seq
  (.block 1
    (.seq
    (.region false [0, 1, 5] [
      ⟨some 18, .mov (.t 0), none, []⟩,
      ⟨some 19, .mov (.t 5), none, []⟩,
      ⟨some 20, .ia 22 57 4 (.t 18) (.t 19), none, []⟩,
      ⟨some 21, .load 57 true 4 (.t 20), none, []⟩,
      ⟨some 22, .mov (.t 1), none, []⟩,
      ⟨some 23, .call 29 [(.t 21), (.t 22)], none, []⟩,
      ⟨some 1, .asg (.t 23), none, []⟩])
    (.seq
    (.region false [0, 1, 5, 25] [
      ⟨some 24, .mov (.t 1), none, []⟩,
      ⟨some 25, .bin false .lss 3 (.t 24) (.c (.int .i64 0)), none, []⟩])
    (.cond (.t 25)
      (.seq
      (.region false [4] [
        ⟨some 4, .asg (.c (.int .i64 (-1))), none, []⟩])
      .ret)
      .skip))))
  (.region false [0, 1, 5] [
    ⟨some 16, .mov (.t 5), none, []⟩,
    ⟨some 17, .bin false .add 3 (.t 16) (.c (.int .i64 1)), none, []⟩,
    ⟨some 5, .asg (.t 17), none, []⟩])))
def l13_0 : VC := .loop b13_0
/-- loop.example/g00539/laws.szSessionS -/
def v13 : VFun := {
  code :=
    (.seq
    (.region false [0, 1] [
      ⟨some 4, .asg (.c (.int .i64 0)), none, []⟩])
    (.seq
    (.region false [0, 1] [
      ⟨some 6, .mov (.t 1), none, []⟩,
      ⟨some 7, .mov (.t 0), none, []⟩,
      ⟨some 8, .len false 22 (.t 7), none, []⟩,
      ⟨some 9, .bin false .sub 3 (.t 6) (.t 8), none, []⟩,
      ⟨some 1, .asg (.t 9), none, []⟩])
    (.seq
    (.seq
    (.region false [0, 1, 11] [
      ⟨some 10, .mov (.t 1), none, []⟩,
      ⟨some 11, .bin false .lss 3 (.t 10) (.c (.int .i64 0)), none, []⟩])
    (.cond (.t 11)
      (.seq
      (.region false [4] [
        ⟨some 4, .asg (.c (.int .i64 (-1))), none, []⟩])
      .ret)
      .skip))
    (.seq
    (.seq
    (.region false [0, 1, 5] [
      ⟨some 5, .asg (.c (.int .i64 0)), none, []⟩])
    (.block 0
      l13_0))
    (.seq
    (.region false [4] [
      ⟨some 26, .mov (.t 1), none, []⟩,
      ⟨some 4, .asg (.t 26), none, []⟩])
    .ret)))))
  modes := [.lend, .lend]
  rets := [⟨4, none⟩] }

/-- loop.example/g00539/spec.l10Asked -/
def v14 : VFun := {
  code :=
    (.seq
    (.region false [0, 1] [
      ⟨some 4, .asg (.c (.int .i64 0)), none, []⟩])
    (.seq
    (.seq
    (.region false [0, 1, 5] [
      ⟨some 6, .mov (.t 0), none, []⟩,
      ⟨some 7, .call 30 [(.t 6)], none, []⟩,
      ⟨some 5, .asg (.t 7), none, []⟩])
    (.seq
    (.region false [0, 1, 5, 9] [
      ⟨some 8, .mov (.t 5), none, []⟩,
      ⟨some 9, .bin false .neq 2 (.t 8) (.c (.int .i64 0)), none, []⟩])
    (.cond (.t 9)
      (.seq
      (.region false [4] [
        ⟨some 10, .mov (.t 5), none, []⟩,
        ⟨some 4, .asg (.t 10), none, []⟩])
      .ret)
      .skip)))
    (.seq
    (.seq
    (.region false [19] [
      ⟨some 11, .mov (.t 1), none, []⟩,
      ⟨some 12, .mov (.t 0), none, []⟩,
      ⟨some 13, .nilc (.t 12), none, []⟩,
      ⟨some 14, .fa 30 0 0 1 (.t 13), none, []⟩,
      ⟨some 15, .load 28 false 1 (.t 14), none, []⟩,
      ⟨some 16, .len false 28 (.t 15), none, []⟩,
      ⟨some 17, .bin false .sub 2 (.t 16) (.c (.int .i64 1)), none, []⟩,
      ⟨some 18, .call 31 [(.t 11), (.c (.int .i64 0)), (.t 17)], none, []⟩,
      ⟨some 19, .un .not (.t 18), none, []⟩])
    (.cond (.t 19)
      (.seq
      (.region false [4] [
        ⟨some 4, .asg (.c (.int .i64 4)), none, []⟩])
      .ret)
      .skip))
    (.seq
    (.region false [4] [
      ⟨some 4, .asg (.c (.int .i64 0)), none, []⟩])
    .ret))))
  modes := [.lend, .lend]
  rets := [⟨4, none⟩] }

/-- loop.example/g00539/spec.l10Bad -/
def v15 : VFun := {
  code :=
    (.seq
    (.region false [0, 2] [
      ⟨some 2, .alloc 32 [(.val (.int .i64 0)), (.nl 1), (.nl 7), (.nl 4), (.val (.int .i64 0))], none, []⟩])
    (.seq
    (.region false [2] [
      ⟨some 3, .mov (.t 0), none, []⟩,
      ⟨some 4, .build 32 [(.val (.int .i64 0)), (.nl 1), (.nl 7), (.nl 4), (.val (.int .i64 0))] [(0, 0, 1, (.t 3))], none, []⟩,
      ⟨none, .store 32 5 (.t 2) (.t 4), none, []⟩])
    .ret))
  modes := [.lend]
  rets := [⟨2, some (true, 5)⟩] }

def b16_0 : VC :=
  (.seq
  (.seq
  (.region false [0, 3, 4, 7, 11] [
    ⟨some 8, .mov (.t 4), none, []⟩,
    ⟨some 9, .mov (.t 0), none, []⟩,
    ⟨some 10, .len false 22 (.t 9), none, []⟩,
    ⟨some 11, .bin false .lss 3 (.t 8) (.t 10), none, []⟩])
  (.cond (.t 11)
    .skip
    (.exit 0)))
  (.seq
  (.block 1
    (.region false [0, 3, 4, 7] [
      ⟨some 14, .mov (.t 3), none, []⟩,
      ⟨some 15, .mov (.t 4), none, []⟩,
      ⟨some 16, .mov (.t 0), none, []⟩,
      ⟨some 17, .mov (.t 4), none, []⟩,
      ⟨some 18, .ia 22 57 4 (.t 16) (.t 17), none, []⟩,
      ⟨some 19, .load 57 true 4 (.t 18), none, []⟩,
      ⟨some 20, .call 32 [(.t 19)], none, []⟩,
      ⟨some 21, .ia 28 49 4 (.t 14) (.t 15), none, []⟩,
      ⟨none, .store 49 4 (.t 21) (.t 20), none, []⟩]))
  (.region false [0, 3, 4, 7] [
    ⟨some 12, .mov (.t 4), none, []⟩,
    ⟨some 13, .bin false .add 3 (.t 12) (.c (.int .i64 1)), none, []⟩,
    ⟨some 4, .asg (.t 13), none, []⟩])))
def l16_0 : VC := .loop b16_0
/-- loop.example/g00539/laws.toSessionS -/
def v16 : VFun := {
  code :=
    (.seq
    (.region false [0] [
      ⟨some 2, .asg (.n 4), none, []⟩])
    (.seq
    (.region false [0, 3, 7] [
      ⟨some 5, .mov (.t 0), none, []⟩,
      ⟨some 6, .len false 22 (.t 5), none, []⟩,
      ⟨some 7, .mk 28 49 4 48 [(.val (.string (⟨#[]⟩ : ByteArray))), (.val (.int .i64 0)), (.val (.string (⟨#[]⟩ : ByteArray))), (.val (.int .i64 0))] (.t 6) (.t 6), none, []⟩,
      ⟨some 3, .asg (.t 7), none, []⟩])
    (.seq
    (.seq
    (.region false [0, 3, 4, 7] [
      ⟨some 4, .asg (.c (.int .i64 0)), none, []⟩])
    (.block 0
      l16_0))
    (.seq
    (.region false [2, 3, 7] [
      ⟨some 22, .mov (.t 3), none, []⟩,
      ⟨some 2, .asg (.t 22), none, []⟩])
    .ret))))
  modes := [.lend]
  rets := [⟨2, none⟩] }

/-- loop.example/g00539/impl.whoFault -/
def v17 : VFun := {
  code :=
    (.seq
    (.region false [1, 2] [
      ⟨some 2, .box 30 (.t 0), none, []⟩,
      ⟨some 4, .asg (.c (.int .i64 0)), none, []⟩])
    (.seq
    (.seq
    (.region false [1, 2, 5] [
      ⟨some 6, .load 30 true 2 (.t 2), none, []⟩,
      ⟨some 7, .call 33 [(.t 6)], none, []⟩,
      ⟨some 5, .asg (.t 7), none, []⟩])
    (.seq
    (.region false [1, 2, 5, 9] [
      ⟨some 8, .mov (.t 5), none, []⟩,
      ⟨some 9, .bin false .neq 2 (.t 8) (.c (.int .i64 0)), none, []⟩])
    (.cond (.t 9)
      (.seq
      (.region false [4] [
        ⟨some 10, .mov (.t 5), none, []⟩,
        ⟨some 4, .asg (.t 10), none, []⟩])
      .ret)
      .skip)))
    (.seq
    (.seq
    (.region false [17] [
      ⟨some 11, .mov (.t 1), none, []⟩,
      ⟨some 12, .fa 30 0 0 1 (.t 2), none, []⟩,
      ⟨some 13, .load 28 false 1 (.t 12), none, []⟩,
      ⟨some 14, .len false 28 (.t 13), none, []⟩,
      ⟨some 15, .bin false .sub 2 (.t 14) (.c (.int .i64 1)), none, []⟩,
      ⟨some 16, .call 34 [(.t 11), (.c (.int .i64 0)), (.t 15)], none, []⟩,
      ⟨some 17, .un .not (.t 16), none, []⟩])
    (.cond (.t 17)
      (.seq
      (.region false [4] [
        ⟨some 4, .asg (.c (.int .i64 4)), none, []⟩])
      .ret)
      .skip))
    (.seq
    (.region false [4] [
      ⟨some 4, .asg (.c (.int .i64 0)), none, []⟩])
    .ret))))
  modes := [.lend, .lend]
  rets := [⟨4, none⟩] }

/-- loop.example/g00539/impl.cloneServer -/
def v18 : VFun := {
  code :=
    (.seq
    (.region false [1, 2] [
      ⟨some 1, .box 30 (.t 0), none, []⟩,
      ⟨some 2, .alloc 30 [(.nl 4), (.val (.int .i64 0))], none, []⟩])
    (.seq
    (.region true [2] [
      ⟨some 3, .fa 30 0 0 1 (.t 1), none, []⟩,
      ⟨some 4, .load 28 false 1 (.t 3), none, []⟩,
      ⟨some 5, .call 35 [(.t 4)], none, []⟩,
      ⟨some 6, .fa 30 1 1 1 (.t 1), none, [0, 1, 2]⟩,
      ⟨some 7, .load 2 false 1 (.t 6), none, [0, 1, 2]⟩,
      ⟨some 8, .build 30 [(.nl 4), (.val (.int .i64 0))] [(0, 0, 1, (.t 5)), (1, 1, 1, (.t 7))], none, []⟩,
      ⟨none, .store 30 2 (.t 2) (.t 8), none, []⟩])
    .ret))
  modes := [.lend]
  rets := [⟨2, some (true, 2)⟩] }

/-- slices.Delete[[]loop.example/g00539/impl.Session,loop.example/g00539/impl.Session] -/
def v19 : VFun := {
  code :=
    .any
  modes := [.eat, .lend, .lend]
  rets := [⟨6, none⟩] }

def b20_0 : VC :=
  (.seq
  (.seq
  (.region false [0, 1, 5, 14] [
    ⟨some 11, .mov (.t 5), none, []⟩,
    ⟨some 12, .mov (.t 0), none, []⟩,
    ⟨some 13, .len false 26 (.t 12), none, []⟩,
    ⟨some 14, .bin false .lss 3 (.t 11) (.t 13), none, []⟩])
  (.cond (.t 14)
    .skip
    (.exit 0)))
  (.seq
  (.block 1
    (.seq
    (.region true [0, 1, 5, 25] [
      ⟨some 17, .mov (.t 0), none, []⟩,
      ⟨some 18, .mov (.t 5), none, [0]⟩,
      ⟨some 19, .ia 26 9 1 (.t 17) (.t 18), none, []⟩,
      ⟨some 20, .load 9 false 1 (.t 19), none, []⟩,
      ⟨some 21, .mov (.t 1), none, [0, 1, 2, 3]⟩,
      ⟨some 22, .mov (.t 5), none, [0, 1, 2, 3, 4]⟩,
      ⟨some 23, .ia 26 9 1 (.t 21) (.t 22), none, [0, 1, 2, 3]⟩,
      ⟨some 24, .load 9 false 1 (.t 23), none, [0, 1, 2, 3]⟩,
      ⟨some 25, .bin false .neq 9 (.t 20) (.t 24), none, []⟩])
    (.cond (.t 25)
      (.seq
      (.region false [4] [
        ⟨some 4, .asg (.c (.bool false)), none, []⟩])
      .ret)
      .skip)))
  (.region false [0, 1, 5] [
    ⟨some 15, .mov (.t 5), none, []⟩,
    ⟨some 16, .bin false .add 3 (.t 15) (.c (.int .i64 1)), none, []⟩,
    ⟨some 5, .asg (.t 16), none, []⟩])))
def l20_0 : VC := .loop b20_0
/-- loop.example/g00539/laws.eqStringS -/
def v20 : VFun := {
  code :=
    (.seq
    (.region false [0, 1] [
      ⟨some 4, .asg (.c (.bool false)), none, []⟩])
    (.seq
    (.seq
    (.region false [0, 1, 10] [
      ⟨some 6, .mov (.t 0), none, []⟩,
      ⟨some 7, .len false 26 (.t 6), none, []⟩,
      ⟨some 8, .mov (.t 1), none, []⟩,
      ⟨some 9, .len false 26 (.t 8), none, []⟩,
      ⟨some 10, .bin false .neq 3 (.t 7) (.t 9), none, []⟩])
    (.cond (.t 10)
      (.seq
      (.region false [4] [
        ⟨some 4, .asg (.c (.bool false)), none, []⟩])
      .ret)
      .skip))
    (.seq
    (.seq
    (.region false [0, 1, 5] [
      ⟨some 5, .asg (.c (.int .i64 0)), none, []⟩])
    (.block 0
      l20_0))
    (.seq
    (.region false [4] [
      ⟨some 4, .asg (.c (.bool true)), none, []⟩])
    .ret))))
  modes := [.lend, .lend]
  rets := [⟨4, none⟩] }

def b21_0 : VC :=
  (.seq
  (.seq
  (.region false [0, 1, 5, 14] [
    ⟨some 11, .mov (.t 5), none, []⟩,
    ⟨some 12, .mov (.t 0), none, []⟩,
    ⟨some 13, .len false 27 (.t 12), none, []⟩,
    ⟨some 14, .bin false .lss 3 (.t 11) (.t 13), none, []⟩])
  (.cond (.t 14)
    .skip
    (.exit 0)))
  (.seq
  (.block 1
    (.seq
    (.region true [0, 1, 5, 26] [
      ⟨some 17, .mov (.t 0), none, []⟩,
      ⟨some 18, .mov (.t 5), none, [0]⟩,
      ⟨some 19, .ia 27 65 7 (.t 17) (.t 18), none, []⟩,
      ⟨some 20, .load 65 true 7 (.t 19), none, []⟩,
      ⟨some 21, .mov (.t 1), none, [0, 1, 2, 3]⟩,
      ⟨some 22, .mov (.t 5), none, [0, 1, 2, 3, 4]⟩,
      ⟨some 23, .ia 27 65 7 (.t 21) (.t 22), none, [0, 1, 2, 3]⟩,
      ⟨some 24, .load 65 true 7 (.t 23), none, [0, 1, 2, 3]⟩,
      ⟨some 25, .call 36 [(.t 20), (.t 24)], none, []⟩,
      ⟨some 26, .un .not (.t 25), none, []⟩])
    (.cond (.t 26)
      (.seq
      (.region false [4] [
        ⟨some 4, .asg (.c (.bool false)), none, []⟩])
      .ret)
      .skip)))
  (.region false [0, 1, 5] [
    ⟨some 15, .mov (.t 5), none, []⟩,
    ⟨some 16, .bin false .add 3 (.t 15) (.c (.int .i64 1)), none, []⟩,
    ⟨some 5, .asg (.t 16), none, []⟩])))
def l21_0 : VC := .loop b21_0
/-- loop.example/g00539/laws.eqActS -/
def v21 : VFun := {
  code :=
    (.seq
    (.region false [0, 1] [
      ⟨some 4, .asg (.c (.bool false)), none, []⟩])
    (.seq
    (.seq
    (.region false [0, 1, 10] [
      ⟨some 6, .mov (.t 0), none, []⟩,
      ⟨some 7, .len false 27 (.t 6), none, []⟩,
      ⟨some 8, .mov (.t 1), none, []⟩,
      ⟨some 9, .len false 27 (.t 8), none, []⟩,
      ⟨some 10, .bin false .neq 3 (.t 7) (.t 9), none, []⟩])
    (.cond (.t 10)
      (.seq
      (.region false [4] [
        ⟨some 4, .asg (.c (.bool false)), none, []⟩])
      .ret)
      .skip))
    (.seq
    (.seq
    (.region false [0, 1, 5] [
      ⟨some 5, .asg (.c (.int .i64 0)), none, []⟩])
    (.block 0
      l21_0))
    (.seq
    (.region false [4] [
      ⟨some 4, .asg (.c (.bool true)), none, []⟩])
    .ret))))
  modes := [.lend, .lend]
  rets := [⟨4, none⟩] }

def b22_0 : VC :=
  (.seq
  (.seq
  (.region false [0, 1, 5, 14] [
    ⟨some 11, .mov (.t 5), none, []⟩,
    ⟨some 12, .mov (.t 0), none, []⟩,
    ⟨some 13, .len false 28 (.t 12), none, []⟩,
    ⟨some 14, .bin false .lss 3 (.t 11) (.t 13), none, []⟩])
  (.cond (.t 14)
    .skip
    (.exit 0)))
  (.seq
  (.block 1
    (.seq
    (.region true [0, 1, 5, 26] [
      ⟨some 17, .mov (.t 0), none, []⟩,
      ⟨some 18, .mov (.t 5), none, [0]⟩,
      ⟨some 19, .ia 28 49 4 (.t 17) (.t 18), none, []⟩,
      ⟨some 20, .load 49 true 4 (.t 19), none, []⟩,
      ⟨some 21, .mov (.t 1), none, [0, 1, 2, 3]⟩,
      ⟨some 22, .mov (.t 5), none, [0, 1, 2, 3, 4]⟩,
      ⟨some 23, .ia 28 49 4 (.t 21) (.t 22), none, [0, 1, 2, 3]⟩,
      ⟨some 24, .load 49 true 4 (.t 23), none, [0, 1, 2, 3]⟩,
      ⟨some 25, .call 37 [(.t 20), (.t 24)], none, []⟩,
      ⟨some 26, .un .not (.t 25), none, []⟩])
    (.cond (.t 26)
      (.seq
      (.region false [4] [
        ⟨some 4, .asg (.c (.bool false)), none, []⟩])
      .ret)
      .skip)))
  (.region false [0, 1, 5] [
    ⟨some 15, .mov (.t 5), none, []⟩,
    ⟨some 16, .bin false .add 3 (.t 15) (.c (.int .i64 1)), none, []⟩,
    ⟨some 5, .asg (.t 16), none, []⟩])))
def l22_0 : VC := .loop b22_0
/-- loop.example/g00539/laws.eqSessionS -/
def v22 : VFun := {
  code :=
    (.seq
    (.region false [0, 1] [
      ⟨some 4, .asg (.c (.bool false)), none, []⟩])
    (.seq
    (.seq
    (.region false [0, 1, 10] [
      ⟨some 6, .mov (.t 0), none, []⟩,
      ⟨some 7, .len false 28 (.t 6), none, []⟩,
      ⟨some 8, .mov (.t 1), none, []⟩,
      ⟨some 9, .len false 28 (.t 8), none, []⟩,
      ⟨some 10, .bin false .neq 3 (.t 7) (.t 9), none, []⟩])
    (.cond (.t 10)
      (.seq
      (.region false [4] [
        ⟨some 4, .asg (.c (.bool false)), none, []⟩])
      .ret)
      .skip))
    (.seq
    (.seq
    (.region false [0, 1, 5] [
      ⟨some 5, .asg (.c (.int .i64 0)), none, []⟩])
    (.block 0
      l22_0))
    (.seq
    (.region false [4] [
      ⟨some 4, .asg (.c (.bool true)), none, []⟩])
    .ret))))
  modes := [.lend, .lend]
  rets := [⟨4, none⟩] }

def b23_0 : VC :=
  (.seq
  (.seq
  (.region false [0, 1, 5, 9] [
    ⟨some 6, .mov (.t 5), none, []⟩,
    ⟨some 7, .mov (.t 0), none, []⟩,
    ⟨some 8, .len false 28 (.t 7), none, []⟩,
    ⟨some 9, .bin false .lss 3 (.t 6) (.t 8), none, []⟩])
  (.cond (.t 9)
    .skip
    (.exit 0)))
  (.seq
  (.block 1
    (.seq
    (.region false [0, 1, 5] [
      ⟨some 12, .mov (.t 0), none, []⟩,
      ⟨some 13, .mov (.t 5), none, []⟩,
      ⟨some 14, .mov (.t 1), none, []⟩,
      ⟨some 15, .call 38 [(.t 14)], none, []⟩,
      ⟨some 16, .ia 28 49 4 (.t 12) (.t 13), none, []⟩,
      ⟨some 17, .fa 49 0 0 1 (.t 16), none, []⟩,
      ⟨none, .store 9 1 (.t 17) (.t 15), none, []⟩])
    (.seq
    (.region false [0, 1, 5] [
      ⟨some 18, .mov (.t 1), none, []⟩,
      ⟨some 19, .bin false .add 3 (.t 18) (.c (.int .i64 1)), none, []⟩,
      ⟨some 1, .asg (.t 19), none, []⟩])
    (.seq
    (.region false [0, 1, 5] [
      ⟨some 20, .mov (.t 0), none, []⟩,
      ⟨some 21, .mov (.t 5), none, []⟩,
      ⟨some 22, .mov (.t 1), none, []⟩,
      ⟨some 23, .ia 28 49 4 (.t 20) (.t 21), none, []⟩,
      ⟨some 24, .fa 49 1 1 1 (.t 23), none, []⟩,
      ⟨none, .store 2 1 (.t 24) (.t 22), none, []⟩])
    (.seq
    (.region false [0, 1, 5] [
      ⟨some 25, .mov (.t 1), none, []⟩,
      ⟨some 26, .bin false .add 3 (.t 25) (.c (.int .i64 1)), none, []⟩,
      ⟨some 1, .asg (.t 26), none, []⟩])
    (.seq
    (.region false [0, 1, 5] [
      ⟨some 27, .mov (.t 0), none, []⟩,
      ⟨some 28, .mov (.t 5), none, []⟩,
      ⟨some 29, .mov (.t 1), none, []⟩,
      ⟨some 30, .call 38 [(.t 29)], none, []⟩,
      ⟨some 31, .ia 28 49 4 (.t 27) (.t 28), none, []⟩,
      ⟨some 32, .fa 49 2 2 1 (.t 31), none, []⟩,
      ⟨none, .store 9 1 (.t 32) (.t 30), none, []⟩])
    (.seq
    (.region false [0, 1, 5] [
      ⟨some 33, .mov (.t 1), none, []⟩,
      ⟨some 34, .bin false .add 3 (.t 33) (.c (.int .i64 1)), none, []⟩,
      ⟨some 1, .asg (.t 34), none, []⟩])
    (.seq
    (.region false [0, 1, 5] [
      ⟨some 35, .mov (.t 0), none, []⟩,
      ⟨some 36, .mov (.t 5), none, []⟩,
      ⟨some 37, .mov (.t 1), none, []⟩,
      ⟨some 38, .ia 28 49 4 (.t 35) (.t 36), none, []⟩,
      ⟨some 39, .fa 49 3 3 1 (.t 38), none, []⟩,
      ⟨none, .store 2 1 (.t 39) (.t 37), none, []⟩])
    (.region false [0, 1, 5] [
      ⟨some 40, .mov (.t 1), none, []⟩,
      ⟨some 41, .bin false .add 3 (.t 40) (.c (.int .i64 1)), none, []⟩,
      ⟨some 1, .asg (.t 41), none, []⟩])))))))))
  (.region false [0, 1, 5] [
    ⟨some 10, .mov (.t 5), none, []⟩,
    ⟨some 11, .bin false .add 3 (.t 10) (.c (.int .i64 1)), none, []⟩,
    ⟨some 5, .asg (.t 11), none, []⟩])))
def l23_0 : VC := .loop b23_0
/-- loop.example/g00539/laws.markSessionS -/
def v23 : VFun := {
  code :=
    (.seq
    (.region false [0, 1] [
      ⟨some 4, .asg (.c (.int .i64 0)), none, []⟩])
    (.seq
    (.seq
    (.region false [0, 1, 5] [
      ⟨some 5, .asg (.c (.int .i64 0)), none, []⟩])
    (.block 0
      l23_0))
    (.seq
    (.region false [0, 4] [
      ⟨some 42, .mov (.t 1), none, []⟩,
      ⟨some 4, .asg (.t 42), none, []⟩])
    .ret)))
  modes := [.io, .lend]
  rets := [⟨4, none⟩] }

def b24_0 : VC :=
  (.seq
  (.seq
  (.region false [0, 1, 5, 9] [
    ⟨some 6, .mov (.t 5), none, []⟩,
    ⟨some 7, .mov (.t 0), none, []⟩,
    ⟨some 8, .len false 26 (.t 7), none, []⟩,
    ⟨some 9, .bin false .lss 3 (.t 6) (.t 8), none, []⟩])
  (.cond (.t 9)
    .skip
    (.exit 0)))
  (.seq
  (.block 1
    (.seq
    (.region false [0, 1, 5] [
      ⟨some 12, .mov (.t 0), none, []⟩,
      ⟨some 13, .mov (.t 5), none, []⟩,
      ⟨some 14, .mov (.t 1), none, []⟩,
      ⟨some 15, .call 38 [(.t 14)], none, []⟩,
      ⟨some 16, .ia 26 9 1 (.t 12) (.t 13), none, []⟩,
      ⟨none, .store 9 1 (.t 16) (.t 15), none, []⟩])
    (.region false [0, 1, 5] [
      ⟨some 17, .mov (.t 1), none, []⟩,
      ⟨some 18, .bin false .add 3 (.t 17) (.c (.int .i64 1)), none, []⟩,
      ⟨some 1, .asg (.t 18), none, []⟩])))
  (.region false [0, 1, 5] [
    ⟨some 10, .mov (.t 5), none, []⟩,
    ⟨some 11, .bin false .add 3 (.t 10) (.c (.int .i64 1)), none, []⟩,
    ⟨some 5, .asg (.t 11), none, []⟩])))
def l24_0 : VC := .loop b24_0
/-- loop.example/g00539/laws.markStringS -/
def v24 : VFun := {
  code :=
    (.seq
    (.region false [0, 1] [
      ⟨some 4, .asg (.c (.int .i64 0)), none, []⟩])
    (.seq
    (.seq
    (.region false [0, 1, 5] [
      ⟨some 5, .asg (.c (.int .i64 0)), none, []⟩])
    (.block 0
      l24_0))
    (.seq
    (.region false [0, 4] [
      ⟨some 19, .mov (.t 1), none, []⟩,
      ⟨some 4, .asg (.t 19), none, []⟩])
    .ret)))
  modes := [.io, .lend]
  rets := [⟨4, none⟩] }

def b25_0 : VC :=
  (.seq
  (.seq
  (.region false [0, 1, 5, 9] [
    ⟨some 6, .mov (.t 5), none, []⟩,
    ⟨some 7, .mov (.t 0), none, []⟩,
    ⟨some 8, .len false 27 (.t 7), none, []⟩,
    ⟨some 9, .bin false .lss 3 (.t 6) (.t 8), none, []⟩])
  (.cond (.t 9)
    .skip
    (.exit 0)))
  (.seq
  (.block 1
    (.seq
    (.region false [0, 1, 5] [
      ⟨some 12, .mov (.t 0), none, []⟩,
      ⟨some 13, .mov (.t 5), none, []⟩,
      ⟨some 14, .mov (.t 1), none, []⟩,
      ⟨some 15, .ia 27 65 7 (.t 12) (.t 13), none, []⟩,
      ⟨some 16, .fa 65 0 0 1 (.t 15), none, []⟩,
      ⟨none, .store 2 1 (.t 16) (.t 14), none, []⟩])
    (.seq
    (.region false [0, 1, 5] [
      ⟨some 17, .mov (.t 1), none, []⟩,
      ⟨some 18, .bin false .add 3 (.t 17) (.c (.int .i64 1)), none, []⟩,
      ⟨some 1, .asg (.t 18), none, []⟩])
    (.seq
    (.region false [0, 1, 5] [
      ⟨some 19, .mov (.t 0), none, []⟩,
      ⟨some 20, .mov (.t 5), none, []⟩,
      ⟨some 21, .mov (.t 1), none, []⟩,
      ⟨some 22, .ia 27 65 7 (.t 19) (.t 20), none, []⟩,
      ⟨some 23, .fa 65 1 1 1 (.t 22), none, []⟩,
      ⟨none, .store 2 1 (.t 23) (.t 21), none, []⟩])
    (.seq
    (.region false [0, 1, 5] [
      ⟨some 24, .mov (.t 1), none, []⟩,
      ⟨some 25, .bin false .add 3 (.t 24) (.c (.int .i64 1)), none, []⟩,
      ⟨some 1, .asg (.t 25), none, []⟩])
    (.seq
    (.region false [0, 1, 5] [
      ⟨some 26, .mov (.t 0), none, []⟩,
      ⟨some 27, .mov (.t 5), none, []⟩,
      ⟨some 28, .mov (.t 1), none, []⟩,
      ⟨some 29, .call 38 [(.t 28)], none, []⟩,
      ⟨some 30, .ia 27 65 7 (.t 26) (.t 27), none, []⟩,
      ⟨some 31, .fa 65 2 2 1 (.t 30), none, []⟩,
      ⟨none, .store 9 1 (.t 31) (.t 29), none, []⟩])
    (.seq
    (.region false [0, 1, 5] [
      ⟨some 32, .mov (.t 1), none, []⟩,
      ⟨some 33, .bin false .add 3 (.t 32) (.c (.int .i64 1)), none, []⟩,
      ⟨some 1, .asg (.t 33), none, []⟩])
    (.seq
    (.region false [0, 1, 5] [
      ⟨some 34, .mov (.t 0), none, []⟩,
      ⟨some 35, .mov (.t 5), none, []⟩,
      ⟨some 36, .mov (.t 1), none, []⟩,
      ⟨some 37, .ia 27 65 7 (.t 34) (.t 35), none, []⟩,
      ⟨some 38, .fa 65 3 3 1 (.t 37), none, []⟩,
      ⟨none, .store 2 1 (.t 38) (.t 36), none, []⟩])
    (.seq
    (.region false [0, 1, 5] [
      ⟨some 39, .mov (.t 1), none, []⟩,
      ⟨some 40, .bin false .add 3 (.t 39) (.c (.int .i64 1)), none, []⟩,
      ⟨some 1, .asg (.t 40), none, []⟩])
    (.seq
    (.region false [0, 1, 5] [
      ⟨some 41, .mov (.t 0), none, []⟩,
      ⟨some 42, .mov (.t 5), none, []⟩,
      ⟨some 43, .mov (.t 1), none, []⟩,
      ⟨some 44, .ia 27 65 7 (.t 41) (.t 42), none, []⟩,
      ⟨some 45, .fa 65 4 4 1 (.t 44), none, []⟩,
      ⟨none, .store 2 1 (.t 45) (.t 43), none, []⟩])
    (.seq
    (.region false [0, 1, 5] [
      ⟨some 46, .mov (.t 1), none, []⟩,
      ⟨some 47, .bin false .add 3 (.t 46) (.c (.int .i64 1)), none, []⟩,
      ⟨some 1, .asg (.t 47), none, []⟩])
    (.seq
    (.region false [0, 1, 5] [
      ⟨some 48, .mov (.t 0), none, []⟩,
      ⟨some 49, .mov (.t 5), none, []⟩,
      ⟨some 50, .mov (.t 1), none, []⟩,
      ⟨some 51, .ia 27 65 7 (.t 48) (.t 49), none, []⟩,
      ⟨some 52, .fa 65 5 5 1 (.t 51), none, []⟩,
      ⟨none, .store 2 1 (.t 52) (.t 50), none, []⟩])
    (.seq
    (.region false [0, 1, 5] [
      ⟨some 53, .mov (.t 1), none, []⟩,
      ⟨some 54, .bin false .add 3 (.t 53) (.c (.int .i64 1)), none, []⟩,
      ⟨some 1, .asg (.t 54), none, []⟩])
    (.seq
    (.region false [0, 1, 5] [
      ⟨some 55, .mov (.t 0), none, []⟩,
      ⟨some 56, .mov (.t 5), none, []⟩,
      ⟨some 57, .mov (.t 1), none, []⟩,
      ⟨some 58, .ia 27 65 7 (.t 55) (.t 56), none, []⟩,
      ⟨some 59, .fa 65 6 6 1 (.t 58), none, []⟩,
      ⟨none, .store 2 1 (.t 59) (.t 57), none, []⟩])
    (.region false [0, 1, 5] [
      ⟨some 60, .mov (.t 1), none, []⟩,
      ⟨some 61, .bin false .add 3 (.t 60) (.c (.int .i64 1)), none, []⟩,
      ⟨some 1, .asg (.t 61), none, []⟩])))))))))))))))
  (.region false [0, 1, 5] [
    ⟨some 10, .mov (.t 5), none, []⟩,
    ⟨some 11, .bin false .add 3 (.t 10) (.c (.int .i64 1)), none, []⟩,
    ⟨some 5, .asg (.t 11), none, []⟩])))
def l25_0 : VC := .loop b25_0
/-- loop.example/g00539/laws.markActS -/
def v25 : VFun := {
  code :=
    (.seq
    (.region false [0, 1] [
      ⟨some 4, .asg (.c (.int .i64 0)), none, []⟩])
    (.seq
    (.seq
    (.region false [0, 1, 5] [
      ⟨some 5, .asg (.c (.int .i64 0)), none, []⟩])
    (.block 0
      l25_0))
    (.seq
    (.region false [0, 4] [
      ⟨some 62, .mov (.t 1), none, []⟩,
      ⟨some 4, .asg (.t 62), none, []⟩])
    .ret)))
  modes := [.io, .lend]
  rets := [⟨4, none⟩] }

def b26_0 : VC :=
  (.seq
  (.seq
  (.region false [0, 1, 5, 9] [
    ⟨some 6, .mov (.t 5), none, []⟩,
    ⟨some 7, .mov (.t 0), none, []⟩,
    ⟨some 8, .len false 26 (.t 7), none, []⟩,
    ⟨some 9, .bin false .lss 3 (.t 6) (.t 8), none, []⟩])
  (.cond (.t 9)
    .skip
    (.exit 0)))
  (.seq
  (.block 1
    (.seq
    (.seq
    (.region true [0, 1, 5, 18] [
      ⟨some 12, .mov (.t 0), none, []⟩,
      ⟨some 13, .mov (.t 5), none, [0]⟩,
      ⟨some 14, .ia 26 9 1 (.t 12) (.t 13), none, []⟩,
      ⟨some 15, .load 9 false 1 (.t 14), none, []⟩,
      ⟨some 16, .mov (.t 1), none, [0, 1, 2, 3]⟩,
      ⟨some 17, .call 38 [(.t 16)], none, [0, 1, 2, 3]⟩,
      ⟨some 18, .bin false .neq 9 (.t 15) (.t 17), none, []⟩])
    (.cond (.t 18)
      (.seq
      (.region false [4] [
        ⟨some 4, .asg (.c (.int .i64 (-1))), none, []⟩])
      .ret)
      .skip))
    (.region false [0, 1, 5] [
      ⟨some 19, .mov (.t 1), none, []⟩,
      ⟨some 20, .bin false .add 3 (.t 19) (.c (.int .i64 1)), none, []⟩,
      ⟨some 1, .asg (.t 20), none, []⟩])))
  (.region false [0, 1, 5] [
    ⟨some 10, .mov (.t 5), none, []⟩,
    ⟨some 11, .bin false .add 3 (.t 10) (.c (.int .i64 1)), none, []⟩,
    ⟨some 5, .asg (.t 11), none, []⟩])))
def l26_0 : VC := .loop b26_0
/-- loop.example/g00539/laws.heldStringS -/
def v26 : VFun := {
  code :=
    (.seq
    (.region false [0, 1] [
      ⟨some 4, .asg (.c (.int .i64 0)), none, []⟩])
    (.seq
    (.seq
    (.region false [0, 1, 5] [
      ⟨some 5, .asg (.c (.int .i64 0)), none, []⟩])
    (.block 0
      l26_0))
    (.seq
    (.region false [4] [
      ⟨some 21, .mov (.t 1), none, []⟩,
      ⟨some 4, .asg (.t 21), none, []⟩])
    .ret)))
  modes := [.lend, .lend]
  rets := [⟨4, none⟩] }

def b27_0 : VC :=
  (.seq
  (.seq
  (.region false [0, 1, 5, 9] [
    ⟨some 6, .mov (.t 5), none, []⟩,
    ⟨some 7, .mov (.t 0), none, []⟩,
    ⟨some 8, .len false 27 (.t 7), none, []⟩,
    ⟨some 9, .bin false .lss 3 (.t 6) (.t 8), none, []⟩])
  (.cond (.t 9)
    .skip
    (.exit 0)))
  (.seq
  (.block 1
    (.seq
    (.seq
    (.region false [0, 1, 5, 18] [
      ⟨some 12, .mov (.t 0), none, []⟩,
      ⟨some 13, .mov (.t 5), none, []⟩,
      ⟨some 14, .ia 27 65 7 (.t 12) (.t 13), none, []⟩,
      ⟨some 15, .fa 65 0 0 1 (.t 14), none, []⟩,
      ⟨some 16, .load 2 false 1 (.t 15), none, []⟩,
      ⟨some 17, .mov (.t 1), none, []⟩,
      ⟨some 18, .bin false .neq 2 (.t 16) (.t 17), none, []⟩])
    (.cond (.t 18)
      (.seq
      (.region false [4] [
        ⟨some 4, .asg (.c (.int .i64 (-1))), none, []⟩])
      .ret)
      .skip))
    (.seq
    (.region false [0, 1, 5] [
      ⟨some 19, .mov (.t 1), none, []⟩,
      ⟨some 20, .bin false .add 3 (.t 19) (.c (.int .i64 1)), none, []⟩,
      ⟨some 1, .asg (.t 20), none, []⟩])
    (.seq
    (.seq
    (.region false [0, 1, 5, 27] [
      ⟨some 21, .mov (.t 0), none, []⟩,
      ⟨some 22, .mov (.t 5), none, []⟩,
      ⟨some 23, .ia 27 65 7 (.t 21) (.t 22), none, []⟩,
      ⟨some 24, .fa 65 1 1 1 (.t 23), none, []⟩,
      ⟨some 25, .load 2 false 1 (.t 24), none, []⟩,
      ⟨some 26, .mov (.t 1), none, []⟩,
      ⟨some 27, .bin false .neq 2 (.t 25) (.t 26), none, []⟩])
    (.cond (.t 27)
      (.seq
      (.region false [4] [
        ⟨some 4, .asg (.c (.int .i64 (-1))), none, []⟩])
      .ret)
      .skip))
    (.seq
    (.region false [0, 1, 5] [
      ⟨some 28, .mov (.t 1), none, []⟩,
      ⟨some 29, .bin false .add 3 (.t 28) (.c (.int .i64 1)), none, []⟩,
      ⟨some 1, .asg (.t 29), none, []⟩])
    (.seq
    (.seq
    (.region true [0, 1, 5, 37] [
      ⟨some 30, .mov (.t 0), none, []⟩,
      ⟨some 31, .mov (.t 5), none, [0]⟩,
      ⟨some 32, .ia 27 65 7 (.t 30) (.t 31), none, []⟩,
      ⟨some 33, .fa 65 2 2 1 (.t 32), none, []⟩,
      ⟨some 34, .load 9 false 1 (.t 33), none, []⟩,
      ⟨some 35, .mov (.t 1), none, [0, 1, 2, 3, 4]⟩,
      ⟨some 36, .call 38 [(.t 35)], none, [0, 1, 2, 3, 4]⟩,
      ⟨some 37, .bin false .neq 9 (.t 34) (.t 36), none, []⟩])
    (.cond (.t 37)
      (.seq
      (.region false [4] [
        ⟨some 4, .asg (.c (.int .i64 (-1))), none, []⟩])
      .ret)
      .skip))
    (.seq
    (.region false [0, 1, 5] [
      ⟨some 38, .mov (.t 1), none, []⟩,
      ⟨some 39, .bin false .add 3 (.t 38) (.c (.int .i64 1)), none, []⟩,
      ⟨some 1, .asg (.t 39), none, []⟩])
    (.seq
    (.seq
    (.region false [0, 1, 5, 46] [
      ⟨some 40, .mov (.t 0), none, []⟩,
      ⟨some 41, .mov (.t 5), none, []⟩,
      ⟨some 42, .ia 27 65 7 (.t 40) (.t 41), none, []⟩,
      ⟨some 43, .fa 65 3 3 1 (.t 42), none, []⟩,
      ⟨some 44, .load 2 false 1 (.t 43), none, []⟩,
      ⟨some 45, .mov (.t 1), none, []⟩,
      ⟨some 46, .bin false .neq 2 (.t 44) (.t 45), none, []⟩])
    (.cond (.t 46)
      (.seq
      (.region false [4] [
        ⟨some 4, .asg (.c (.int .i64 (-1))), none, []⟩])
      .ret)
      .skip))
    (.seq
    (.region false [0, 1, 5] [
      ⟨some 47, .mov (.t 1), none, []⟩,
      ⟨some 48, .bin false .add 3 (.t 47) (.c (.int .i64 1)), none, []⟩,
      ⟨some 1, .asg (.t 48), none, []⟩])
    (.seq
    (.seq
    (.region false [0, 1, 5, 55] [
      ⟨some 49, .mov (.t 0), none, []⟩,
      ⟨some 50, .mov (.t 5), none, []⟩,
      ⟨some 51, .ia 27 65 7 (.t 49) (.t 50), none, []⟩,
      ⟨some 52, .fa 65 4 4 1 (.t 51), none, []⟩,
      ⟨some 53, .load 2 false 1 (.t 52), none, []⟩,
      ⟨some 54, .mov (.t 1), none, []⟩,
      ⟨some 55, .bin false .neq 2 (.t 53) (.t 54), none, []⟩])
    (.cond (.t 55)
      (.seq
      (.region false [4] [
        ⟨some 4, .asg (.c (.int .i64 (-1))), none, []⟩])
      .ret)
      .skip))
    (.seq
    (.region false [0, 1, 5] [
      ⟨some 56, .mov (.t 1), none, []⟩,
      ⟨some 57, .bin false .add 3 (.t 56) (.c (.int .i64 1)), none, []⟩,
      ⟨some 1, .asg (.t 57), none, []⟩])
    (.seq
    (.seq
    (.region false [0, 1, 5, 64] [
      ⟨some 58, .mov (.t 0), none, []⟩,
      ⟨some 59, .mov (.t 5), none, []⟩,
      ⟨some 60, .ia 27 65 7 (.t 58) (.t 59), none, []⟩,
      ⟨some 61, .fa 65 5 5 1 (.t 60), none, []⟩,
      ⟨some 62, .load 2 false 1 (.t 61), none, []⟩,
      ⟨some 63, .mov (.t 1), none, []⟩,
      ⟨some 64, .bin false .neq 2 (.t 62) (.t 63), none, []⟩])
    (.cond (.t 64)
      (.seq
      (.region false [4] [
        ⟨some 4, .asg (.c (.int .i64 (-1))), none, []⟩])
      .ret)
      .skip))
    (.seq
    (.region false [0, 1, 5] [
      ⟨some 65, .mov (.t 1), none, []⟩,
      ⟨some 66, .bin false .add 3 (.t 65) (.c (.int .i64 1)), none, []⟩,
      ⟨some 1, .asg (.t 66), none, []⟩])
    (.seq
    (.seq
    (.region false [0, 1, 5, 73] [
      ⟨some 67, .mov (.t 0), none, []⟩,
      ⟨some 68, .mov (.t 5), none, []⟩,
      ⟨some 69, .ia 27 65 7 (.t 67) (.t 68), none, []⟩,
      ⟨some 70, .fa 65 6 6 1 (.t 69), none, []⟩,
      ⟨some 71, .load 2 false 1 (.t 70), none, []⟩,
      ⟨some 72, .mov (.t 1), none, []⟩,
      ⟨some 73, .bin false .neq 2 (.t 71) (.t 72), none, []⟩])
    (.cond (.t 73)
      (.seq
      (.region false [4] [
        ⟨some 4, .asg (.c (.int .i64 (-1))), none, []⟩])
      .ret)
      .skip))
    (.region false [0, 1, 5] [
      ⟨some 74, .mov (.t 1), none, []⟩,
      ⟨some 75, .bin false .add 3 (.t 74) (.c (.int .i64 1)), none, []⟩,
      ⟨some 1, .asg (.t 75), none, []⟩])))))))))))))))
  (.region false [0, 1, 5] [
    ⟨some 10, .mov (.t 5), none, []⟩,
    ⟨some 11, .bin false .add 3 (.t 10) (.c (.int .i64 1)), none, []⟩,
    ⟨some 5, .asg (.t 11), none, []⟩])))
def l27_0 : VC := .loop b27_0
/-- loop.example/g00539/laws.heldActS -/
def v27 : VFun := {
  code :=
    (.seq
    (.region false [0, 1] [
      ⟨some 4, .asg (.c (.int .i64 0)), none, []⟩])
    (.seq
    (.seq
    (.region false [0, 1, 5] [
      ⟨some 5, .asg (.c (.int .i64 0)), none, []⟩])
    (.block 0
      l27_0))
    (.seq
    (.region false [4] [
      ⟨some 76, .mov (.t 1), none, []⟩,
      ⟨some 4, .asg (.t 76), none, []⟩])
    .ret)))
  modes := [.lend, .lend]
  rets := [⟨4, none⟩] }

/-- loop.example/g00539/laws.heldServer -/
def v28 : VFun := {
  code :=
    (.seq
    (.region false [1, 2] [
      ⟨some 2, .box 30 (.t 0), none, []⟩,
      ⟨some 4, .asg (.c (.int .i64 0)), none, []⟩])
    (.seq
    (.region false [1] [
      ⟨some 5, .fa 30 0 0 1 (.t 2), none, []⟩,
      ⟨some 6, .load 28 false 1 (.t 5), none, []⟩,
      ⟨some 7, .mov (.t 1), none, []⟩,
      ⟨some 8, .call 39 [(.t 6), (.t 7)], none, []⟩,
      ⟨some 1, .asg (.t 8), none, []⟩])
    (.seq
    (.seq
    (.region false [1, 10] [
      ⟨some 9, .mov (.t 1), none, []⟩,
      ⟨some 10, .bin false .lss 3 (.t 9) (.c (.int .i64 0)), none, []⟩])
    (.cond (.t 10)
      (.seq
      (.region false [4] [
        ⟨some 4, .asg (.c (.int .i64 (-1))), none, []⟩])
      .ret)
      .skip))
    (.seq
    (.region false [4] [
      ⟨some 11, .mov (.t 1), none, []⟩,
      ⟨some 4, .asg (.t 11), none, []⟩])
    .ret))))
  modes := [.lend, .lend]
  rets := [⟨4, none⟩] }

/-- loop.example/g00539/laws.szSession -/
def v29 : VFun := {
  code :=
    (.seq
    (.region false [1, 2] [
      ⟨some 2, .box 57 (.t 0), none, []⟩,
      ⟨some 4, .asg (.c (.int .i64 0)), none, []⟩])
    (.seq
    (.region false [1, 2] [
      ⟨some 5, .mov (.t 1), none, []⟩,
      ⟨some 6, .fa 57 0 0 1 (.t 2), none, []⟩,
      ⟨some 7, .load 9 false 1 (.t 6), none, []⟩,
      ⟨some 8, .len true 9 (.t 7), none, []⟩,
      ⟨some 9, .bin false .sub 3 (.t 5) (.t 8), none, []⟩,
      ⟨some 1, .asg (.t 9), none, []⟩])
    (.seq
    (.seq
    (.region false [1, 2, 11] [
      ⟨some 10, .mov (.t 1), none, []⟩,
      ⟨some 11, .bin false .lss 3 (.t 10) (.c (.int .i64 0)), none, []⟩])
    (.cond (.t 11)
      (.seq
      (.region false [4] [
        ⟨some 4, .asg (.c (.int .i64 (-1))), none, []⟩])
      .ret)
      .skip))
    (.seq
    (.region false [1] [
      ⟨some 12, .mov (.t 1), none, []⟩,
      ⟨some 13, .fa 57 2 2 1 (.t 2), none, []⟩,
      ⟨some 14, .load 9 false 1 (.t 13), none, []⟩,
      ⟨some 15, .len true 9 (.t 14), none, []⟩,
      ⟨some 16, .bin false .sub 3 (.t 12) (.t 15), none, []⟩,
      ⟨some 1, .asg (.t 16), none, []⟩])
    (.seq
    (.seq
    (.region false [1, 18] [
      ⟨some 17, .mov (.t 1), none, []⟩,
      ⟨some 18, .bin false .lss 3 (.t 17) (.c (.int .i64 0)), none, []⟩])
    (.cond (.t 18)
      (.seq
      (.region false [4] [
        ⟨some 4, .asg (.c (.int .i64 (-1))), none, []⟩])
      .ret)
      .skip))
    (.seq
    (.region false [4] [
      ⟨some 19, .mov (.t 1), none, []⟩,
      ⟨some 4, .asg (.t 19), none, []⟩])
    .ret))))))
  modes := [.lend, .lend]
  rets := [⟨4, none⟩] }

def b30_1 : VC :=
  (.seq
  (.seq
  (.region false [0, 5, 39] [
    ⟨some 33, .mov (.t 5), none, []⟩,
    ⟨some 34, .mov (.t 0), none, []⟩,
    ⟨some 35, .nilc (.t 34), none, []⟩,
    ⟨some 36, .fa 30 0 0 1 (.t 35), none, []⟩,
    ⟨some 37, .load 28 false 1 (.t 36), none, []⟩,
    ⟨some 38, .len false 28 (.t 37), none, []⟩,
    ⟨some 39, .bin false .lss 3 (.t 33) (.t 38), none, []⟩])
  (.cond (.t 39)
    .skip
    (.exit 2)))
  (.seq
  (.block 3
    (.seq
    (.region true [0, 5, 54] [
      ⟨some 42, .mov (.t 0), none, []⟩,
      ⟨some 43, .nilc (.t 42), none, []⟩,
      ⟨some 44, .fa 30 0 0 1 (.t 43), none, []⟩,
      ⟨some 45, .load 28 false 1 (.t 44), none, []⟩,
      ⟨some 46, .mov (.t 5), none, [0, 1, 2, 3]⟩,
      ⟨some 47, .ia 28 49 4 (.t 45) (.t 46), none, []⟩,
      ⟨some 48, .fa 49 1 1 1 (.t 47), none, []⟩,
      ⟨some 49, .load 2 false 1 (.t 48), none, []⟩,
      ⟨some 50, .mov (.t 0), none, [0, 1, 2, 3, 4, 5, 6, 7]⟩,
      ⟨some 51, .nilc (.t 50), none, [0, 1, 2, 3, 4, 5, 6, 7]⟩,
      ⟨some 52, .fa 30 1 1 1 (.t 51), none, [0, 1, 2, 3, 4, 5, 6, 7]⟩,
      ⟨some 53, .load 2 false 1 (.t 52), none, [0, 1, 2, 3, 4, 5, 6, 7]⟩,
      ⟨some 54, .bin false .geq 2 (.t 49) (.t 53), none, []⟩])
    (.cond (.t 54)
      (.seq
      (.region false [2] [
        ⟨some 2, .asg (.c (.int .i64 3)), none, []⟩])
      .ret)
      .skip)))
  (.region false [0, 5] [
    ⟨some 40, .mov (.t 5), none, []⟩,
    ⟨some 41, .bin false .add 3 (.t 40) (.c (.int .i64 1)), none, []⟩,
    ⟨some 5, .asg (.t 41), none, []⟩])))
def l30_1 : VC := .loop b30_1
def b30_0 : VC :=
  (.seq
  (.seq
  (.region false [0, 3, 18] [
    ⟨some 12, .mov (.t 3), none, []⟩,
    ⟨some 13, .mov (.t 0), none, []⟩,
    ⟨some 14, .nilc (.t 13), none, []⟩,
    ⟨some 15, .fa 30 0 0 1 (.t 14), none, []⟩,
    ⟨some 16, .load 28 false 1 (.t 15), none, []⟩,
    ⟨some 17, .len false 28 (.t 16), none, []⟩,
    ⟨some 18, .bin false .lss 3 (.t 12) (.t 17), none, []⟩])
  (.cond (.t 18)
    .skip
    (.exit 0)))
  (.seq
  (.block 1
    (.seq
    (.region false [0, 3, 4] [
      ⟨some 21, .mov (.t 0), none, []⟩,
      ⟨some 22, .mov (.t 3), none, []⟩,
      ⟨some 23, .call 40 [(.t 21), (.t 22)], none, []⟩,
      ⟨some 4, .asg (.t 23), none, []⟩])
    (.seq
    (.region false [0, 3, 4, 25] [
      ⟨some 24, .mov (.t 4), none, []⟩,
      ⟨some 25, .bin false .neq 2 (.t 24) (.c (.int .i64 0)), none, []⟩])
    (.cond (.t 25)
      (.seq
      (.region false [2] [
        ⟨some 26, .mov (.t 4), none, []⟩,
        ⟨some 2, .asg (.t 26), none, []⟩])
      .ret)
      .skip))))
  (.region false [0, 3] [
    ⟨some 19, .mov (.t 3), none, []⟩,
    ⟨some 20, .bin false .add 3 (.t 19) (.c (.int .i64 1)), none, []⟩,
    ⟨some 3, .asg (.t 20), none, []⟩])))
def l30_0 : VC := .loop b30_0
/-- loop.example/g00539/spec.l10Fault -/
def v30 : VFun := {
  code :=
    (.seq
    (.region false [0] [
      ⟨some 2, .asg (.c (.int .i64 0)), none, []⟩])
    (.seq
    (.seq
    (.region false [0, 11] [
      ⟨some 6, .mov (.t 0), none, []⟩,
      ⟨some 7, .nilc (.t 6), none, []⟩,
      ⟨some 8, .fa 30 0 0 1 (.t 7), none, []⟩,
      ⟨some 9, .load 28 false 1 (.t 8), none, []⟩,
      ⟨some 10, .len false 28 (.t 9), none, []⟩,
      ⟨some 11, .bin false .gtr 3 (.t 10) (.c (.int .i64 4)), none, []⟩])
    (.cond (.t 11)
      (.seq
      (.region false [2] [
        ⟨some 2, .asg (.c (.int .i64 2)), none, []⟩])
      .ret)
      .skip))
    (.seq
    (.seq
    (.region false [0, 3] [
      ⟨some 3, .asg (.c (.int .i64 0)), none, []⟩])
    (.block 0
      l30_0))
    (.seq
    (.seq
    (.region false [0, 32] [
      ⟨some 27, .mov (.t 0), none, []⟩,
      ⟨some 28, .nilc (.t 27), none, []⟩,
      ⟨some 29, .fa 30 1 1 1 (.t 28), none, []⟩,
      ⟨some 30, .load 2 false 1 (.t 29), none, []⟩,
      ⟨some 31, .call 31 [(.t 30), (.c (.int .i64 0)), (.c (.int .i64 999))], none, []⟩,
      ⟨some 32, .un .not (.t 31), none, []⟩])
    (.cond (.t 32)
      (.seq
      (.region false [2] [
        ⟨some 2, .asg (.c (.int .i64 3)), none, []⟩])
      .ret)
      .skip))
    (.seq
    (.seq
    (.region false [0, 5] [
      ⟨some 5, .asg (.c (.int .i64 0)), none, []⟩])
    (.block 2
      l30_1))
    (.seq
    (.region false [2] [
      ⟨some 2, .asg (.c (.int .i64 0)), none, []⟩])
    .ret))))))
  modes := [.lend]
  rets := [⟨2, none⟩] }

/-- loop.example/g00539/spec.l1In -/
def v31 : VFun := {
  code :=
    (.seq
    (.region false [0, 1, 2] [
      ⟨some 6, .asg (.c (.bool false)), none, []⟩])
    (.seq
    (.region false [6] [
      ⟨some 7, .mov (.t 0), none, []⟩,
      ⟨some 8, .mov (.t 1), none, []⟩,
      ⟨some 9, .bin false .geq 2 (.t 7) (.t 8), none, []⟩,
      ⟨some 10, .mov (.t 9), none, []⟩,
      ⟨some 11, .mov (.t 0), some (10, true), []⟩,
      ⟨some 12, .mov (.t 2), some (10, true), []⟩,
      ⟨some 13, .bin false .leq 2 (.t 11) (.t 12), some (10, true), []⟩,
      ⟨some 14, .pick (.t 10) (.t 13) (.c (.bool false)), none, []⟩,
      ⟨some 6, .asg (.t 14), none, []⟩])
    .ret))
  modes := [.lend, .lend, .lend]
  rets := [⟨6, none⟩] }

/-- loop.example/g00539/laws.toSession -/
def v32 : VFun := {
  code :=
    (.seq
    (.region false [1, 2] [
      ⟨some 1, .box 57 (.t 0), none, []⟩,
      ⟨some 2, .alloc 49 [(.val (.string (⟨#[]⟩ : ByteArray))), (.val (.int .i64 0)), (.val (.string (⟨#[]⟩ : ByteArray))), (.val (.int .i64 0))], none, []⟩])
    (.seq
    (.region false [1, 2, 3] [
      ⟨some 3, .alloc 49 [(.val (.string (⟨#[]⟩ : ByteArray))), (.val (.int .i64 0)), (.val (.string (⟨#[]⟩ : ByteArray))), (.val (.int .i64 0))], none, []⟩])
    (.seq
    (.region false [1, 2, 3] [
      ⟨some 4, .fa 57 0 0 1 (.t 1), none, []⟩,
      ⟨some 5, .load 9 false 1 (.t 4), none, []⟩,
      ⟨some 6, .fa 49 0 0 1 (.t 3), none, []⟩,
      ⟨none, .store 9 1 (.t 6) (.t 5), none, []⟩])
    (.seq
    (.region false [1, 2, 3] [
      ⟨some 7, .fa 57 1 1 1 (.t 1), none, []⟩,
      ⟨some 8, .load 2 false 1 (.t 7), none, []⟩,
      ⟨some 9, .fa 49 1 1 1 (.t 3), none, []⟩,
      ⟨none, .store 2 1 (.t 9) (.t 8), none, []⟩])
    (.seq
    (.region false [1, 2, 3] [
      ⟨some 10, .fa 57 2 2 1 (.t 1), none, []⟩,
      ⟨some 11, .load 9 false 1 (.t 10), none, []⟩,
      ⟨some 12, .fa 49 2 2 1 (.t 3), none, []⟩,
      ⟨none, .store 9 1 (.t 12) (.t 11), none, []⟩])
    (.seq
    (.region false [2, 3] [
      ⟨some 13, .fa 57 3 3 1 (.t 1), none, []⟩,
      ⟨some 14, .load 2 false 1 (.t 13), none, []⟩,
      ⟨some 15, .fa 49 3 3 1 (.t 3), none, []⟩,
      ⟨none, .store 2 1 (.t 15) (.t 14), none, []⟩])
    (.seq
    (.region false [2] [
      ⟨some 16, .load 49 true 4 (.t 3), none, []⟩,
      ⟨none, .store 49 4 (.t 2) (.t 16), none, []⟩])
    .ret)))))))
  modes := [.lend]
  rets := [⟨2, some (true, 4)⟩] }

def b33_0 : VC :=
  (.seq
  (.region false [1, 11, 12, 13, 14] [
    ⟨some 14, .bin false .lss 3 (.t 13) (.t 12), none, []⟩])
  (.seq
  (.cond (.t 14)
    .skip
    (.exit 0))
  (.seq
  (.block 1
    (.seq
    (.region false [1, 3, 4, 11, 12, 13] [
      ⟨some 15, .mov (.t 13), none, []⟩,
      ⟨some 16, .ia 28 49 4 (.t 11) (.t 13), none, []⟩,
      ⟨some 17, .load 49 true 4 (.t 16), none, []⟩,
      ⟨some 4, .alloc 49 [(.val (.string (⟨#[]⟩ : ByteArray))), (.val (.int .i64 0)), (.val (.string (⟨#[]⟩ : ByteArray))), (.val (.int .i64 0))], none, []⟩,
      ⟨some 3, .asg (.t 15), none, []⟩,
      ⟨none, .store 49 4 (.t 4) (.t 17), none, []⟩])
    (.seq
    (.region true [1, 5, 11, 12, 13] [
      ⟨some 18, .load 49 true 4 (.t 4), none, []⟩,
      ⟨some 19, .fa 30 0 0 1 (.t 1), none, [0]⟩,
      ⟨some 20, .load 28 false 1 (.t 19), none, [0]⟩,
      ⟨some 21, .mov (.t 3), none, [0, 1, 2]⟩,
      ⟨some 22, .cut 28 (some 49) 4 (.t 20) none (some (.t 21)), none, [0]⟩,
      ⟨some 23, .call 41 [(.t 18), (.t 22)], none, []⟩,
      ⟨some 5, .asg (.t 23), none, []⟩])
    (.seq
    (.region false [1, 5, 11, 12, 13, 25] [
      ⟨some 24, .mov (.t 5), none, []⟩,
      ⟨some 25, .bin false .neq 2 (.t 24) (.c (.int .i64 0)), none, []⟩])
    (.cond (.t 25)
      (.seq
      (.region false [2] [
        ⟨some 26, .mov (.t 5), none, []⟩,
        ⟨some 2, .asg (.t 26), none, []⟩])
      .ret)
      .skip)))))
  (.region false [1, 11, 12, 13] [
    ⟨some 27, .bin false .add 3 (.t 13) (.c (.int .i64 1)), none, []⟩,
    ⟨some 13, .mov (.t 27), none, []⟩]))))
def l33_0 : VC := .loop b33_0
/-- loop.example/g00539/impl.ServerFault -/
def v33 : VFun := {
  code :=
    (.seq
    (.region false [1] [
      ⟨some 1, .box 30 (.t 0), none, []⟩,
      ⟨some 2, .asg (.c (.int .i64 0)), none, []⟩])
    (.seq
    (.seq
    (.region false [1, 9] [
      ⟨some 6, .fa 30 0 0 1 (.t 1), none, []⟩,
      ⟨some 7, .load 28 false 1 (.t 6), none, []⟩,
      ⟨some 8, .len false 28 (.t 7), none, []⟩,
      ⟨some 9, .bin false .gtr 3 (.t 8) (.c (.int .i64 4)), none, []⟩])
    (.cond (.t 9)
      (.seq
      (.region false [2] [
        ⟨some 2, .asg (.c (.int .i64 2)), none, []⟩])
      .ret)
      .skip))
    (.seq
    (.seq
    (.region false [1, 11, 12, 13] [
      ⟨some 10, .fa 30 0 0 1 (.t 1), none, []⟩,
      ⟨some 11, .load 28 false 1 (.t 10), none, []⟩,
      ⟨some 12, .len false 28 (.t 11), none, []⟩,
      ⟨some 13, .mov (.c (.int .i64 0)), none, []⟩])
    (.block 0
      l33_0))
    (.seq
    (.seq
    (.region false [37] [
      ⟨some 28, .fa 30 1 1 1 (.t 1), none, []⟩,
      ⟨some 29, .load 2 false 1 (.t 28), none, []⟩,
      ⟨some 30, .call 34 [(.t 29), (.c (.int .i64 0)), (.c (.int .i64 999))], none, []⟩,
      ⟨some 31, .un .not (.t 30), none, []⟩,
      ⟨some 32, .mov (.t 31), none, []⟩,
      ⟨some 33, .fa 30 0 0 1 (.t 1), some (32, false), []⟩,
      ⟨some 34, .load 28 false 1 (.t 33), some (32, false), []⟩,
      ⟨some 35, .fn 43 [] [(.t 1)], some (32, false), []⟩,
      ⟨some 36, .call 42 [(.t 34), (.t 35)], some (32, false), []⟩,
      ⟨some 37, .pick (.t 32) (.c (.bool true)) (.t 36), none, []⟩])
    (.cond (.t 37)
      (.seq
      (.region false [2] [
        ⟨some 2, .asg (.c (.int .i64 3)), none, []⟩])
      .ret)
      .skip))
    (.seq
    (.region false [2] [
      ⟨some 2, .asg (.c (.int .i64 0)), none, []⟩])
    .ret)))))
  modes := [.lend]
  rets := [⟨2, none⟩] }

/-- loop.example/g00539/impl.in -/
def v34 : VFun := {
  code :=
    (.seq
    (.region false [0, 1, 2] [
      ⟨some 6, .asg (.c (.bool false)), none, []⟩])
    (.seq
    (.region false [6] [
      ⟨some 7, .mov (.t 0), none, []⟩,
      ⟨some 8, .mov (.t 1), none, []⟩,
      ⟨some 9, .bin false .geq 2 (.t 7) (.t 8), none, []⟩,
      ⟨some 10, .mov (.t 9), none, []⟩,
      ⟨some 11, .mov (.t 0), some (10, true), []⟩,
      ⟨some 12, .mov (.t 2), some (10, true), []⟩,
      ⟨some 13, .bin false .leq 2 (.t 11) (.t 12), some (10, true), []⟩,
      ⟨some 14, .pick (.t 10) (.t 13) (.c (.bool false)), none, []⟩,
      ⟨some 6, .asg (.t 14), none, []⟩])
    .ret))
  modes := [.lend, .lend, .lend]
  rets := [⟨6, none⟩] }

/-- loop.example/g00539/laws.eqAct -/
def v36 : VFun := {
  code :=
    (.seq
    (.region false [2, 3] [
      ⟨some 2, .box 65 (.t 0), none, []⟩,
      ⟨some 3, .box 65 (.t 1), none, []⟩,
      ⟨some 4, .asg (.c (.bool false)), none, []⟩])
    (.seq
    (.seq
    (.region false [2, 3, 9] [
      ⟨some 5, .fa 65 0 0 1 (.t 2), none, []⟩,
      ⟨some 6, .load 2 false 1 (.t 5), none, []⟩,
      ⟨some 7, .fa 65 0 0 1 (.t 3), none, []⟩,
      ⟨some 8, .load 2 false 1 (.t 7), none, []⟩,
      ⟨some 9, .bin false .neq 2 (.t 6) (.t 8), none, []⟩])
    (.cond (.t 9)
      (.seq
      (.region false [4] [
        ⟨some 4, .asg (.c (.bool false)), none, []⟩])
      .ret)
      .skip))
    (.seq
    (.seq
    (.region false [2, 3, 14] [
      ⟨some 10, .fa 65 1 1 1 (.t 2), none, []⟩,
      ⟨some 11, .load 2 false 1 (.t 10), none, []⟩,
      ⟨some 12, .fa 65 1 1 1 (.t 3), none, []⟩,
      ⟨some 13, .load 2 false 1 (.t 12), none, []⟩,
      ⟨some 14, .bin false .neq 2 (.t 11) (.t 13), none, []⟩])
    (.cond (.t 14)
      (.seq
      (.region false [4] [
        ⟨some 4, .asg (.c (.bool false)), none, []⟩])
      .ret)
      .skip))
    (.seq
    (.seq
    (.region false [2, 3, 19] [
      ⟨some 15, .fa 65 2 2 1 (.t 2), none, []⟩,
      ⟨some 16, .load 9 false 1 (.t 15), none, []⟩,
      ⟨some 17, .fa 65 2 2 1 (.t 3), none, []⟩,
      ⟨some 18, .load 9 false 1 (.t 17), none, []⟩,
      ⟨some 19, .bin false .neq 9 (.t 16) (.t 18), none, []⟩])
    (.cond (.t 19)
      (.seq
      (.region false [4] [
        ⟨some 4, .asg (.c (.bool false)), none, []⟩])
      .ret)
      .skip))
    (.seq
    (.seq
    (.region false [2, 3, 24] [
      ⟨some 20, .fa 65 3 3 1 (.t 2), none, []⟩,
      ⟨some 21, .load 2 false 1 (.t 20), none, []⟩,
      ⟨some 22, .fa 65 3 3 1 (.t 3), none, []⟩,
      ⟨some 23, .load 2 false 1 (.t 22), none, []⟩,
      ⟨some 24, .bin false .neq 2 (.t 21) (.t 23), none, []⟩])
    (.cond (.t 24)
      (.seq
      (.region false [4] [
        ⟨some 4, .asg (.c (.bool false)), none, []⟩])
      .ret)
      .skip))
    (.seq
    (.seq
    (.region false [2, 3, 29] [
      ⟨some 25, .fa 65 4 4 1 (.t 2), none, []⟩,
      ⟨some 26, .load 2 false 1 (.t 25), none, []⟩,
      ⟨some 27, .fa 65 4 4 1 (.t 3), none, []⟩,
      ⟨some 28, .load 2 false 1 (.t 27), none, []⟩,
      ⟨some 29, .bin false .neq 2 (.t 26) (.t 28), none, []⟩])
    (.cond (.t 29)
      (.seq
      (.region false [4] [
        ⟨some 4, .asg (.c (.bool false)), none, []⟩])
      .ret)
      .skip))
    (.seq
    (.seq
    (.region false [2, 3, 34] [
      ⟨some 30, .fa 65 5 5 1 (.t 2), none, []⟩,
      ⟨some 31, .load 2 false 1 (.t 30), none, []⟩,
      ⟨some 32, .fa 65 5 5 1 (.t 3), none, []⟩,
      ⟨some 33, .load 2 false 1 (.t 32), none, []⟩,
      ⟨some 34, .bin false .neq 2 (.t 31) (.t 33), none, []⟩])
    (.cond (.t 34)
      (.seq
      (.region false [4] [
        ⟨some 4, .asg (.c (.bool false)), none, []⟩])
      .ret)
      .skip))
    (.seq
    (.seq
    (.region false [39] [
      ⟨some 35, .fa 65 6 6 1 (.t 2), none, []⟩,
      ⟨some 36, .load 2 false 1 (.t 35), none, []⟩,
      ⟨some 37, .fa 65 6 6 1 (.t 3), none, []⟩,
      ⟨some 38, .load 2 false 1 (.t 37), none, []⟩,
      ⟨some 39, .bin false .neq 2 (.t 36) (.t 38), none, []⟩])
    (.cond (.t 39)
      (.seq
      (.region false [4] [
        ⟨some 4, .asg (.c (.bool false)), none, []⟩])
      .ret)
      .skip))
    (.seq
    (.region false [4] [
      ⟨some 4, .asg (.c (.bool true)), none, []⟩])
    .ret)))))))))
  modes := [.lend, .lend]
  rets := [⟨4, none⟩] }

/-- loop.example/g00539/laws.eqSession -/
def v37 : VFun := {
  code :=
    (.seq
    (.region false [2, 3] [
      ⟨some 2, .box 49 (.t 0), none, []⟩,
      ⟨some 3, .box 49 (.t 1), none, []⟩,
      ⟨some 4, .asg (.c (.bool false)), none, []⟩])
    (.seq
    (.seq
    (.region false [2, 3, 9] [
      ⟨some 5, .fa 49 0 0 1 (.t 2), none, []⟩,
      ⟨some 6, .load 9 false 1 (.t 5), none, []⟩,
      ⟨some 7, .fa 49 0 0 1 (.t 3), none, []⟩,
      ⟨some 8, .load 9 false 1 (.t 7), none, []⟩,
      ⟨some 9, .bin false .neq 9 (.t 6) (.t 8), none, []⟩])
    (.cond (.t 9)
      (.seq
      (.region false [4] [
        ⟨some 4, .asg (.c (.bool false)), none, []⟩])
      .ret)
      .skip))
    (.seq
    (.seq
    (.region false [2, 3, 14] [
      ⟨some 10, .fa 49 1 1 1 (.t 2), none, []⟩,
      ⟨some 11, .load 2 false 1 (.t 10), none, []⟩,
      ⟨some 12, .fa 49 1 1 1 (.t 3), none, []⟩,
      ⟨some 13, .load 2 false 1 (.t 12), none, []⟩,
      ⟨some 14, .bin false .neq 2 (.t 11) (.t 13), none, []⟩])
    (.cond (.t 14)
      (.seq
      (.region false [4] [
        ⟨some 4, .asg (.c (.bool false)), none, []⟩])
      .ret)
      .skip))
    (.seq
    (.seq
    (.region false [2, 3, 19] [
      ⟨some 15, .fa 49 2 2 1 (.t 2), none, []⟩,
      ⟨some 16, .load 9 false 1 (.t 15), none, []⟩,
      ⟨some 17, .fa 49 2 2 1 (.t 3), none, []⟩,
      ⟨some 18, .load 9 false 1 (.t 17), none, []⟩,
      ⟨some 19, .bin false .neq 9 (.t 16) (.t 18), none, []⟩])
    (.cond (.t 19)
      (.seq
      (.region false [4] [
        ⟨some 4, .asg (.c (.bool false)), none, []⟩])
      .ret)
      .skip))
    (.seq
    (.seq
    (.region false [24] [
      ⟨some 20, .fa 49 3 3 1 (.t 2), none, []⟩,
      ⟨some 21, .load 2 false 1 (.t 20), none, []⟩,
      ⟨some 22, .fa 49 3 3 1 (.t 3), none, []⟩,
      ⟨some 23, .load 2 false 1 (.t 22), none, []⟩,
      ⟨some 24, .bin false .neq 2 (.t 21) (.t 23), none, []⟩])
    (.cond (.t 24)
      (.seq
      (.region false [4] [
        ⟨some 4, .asg (.c (.bool false)), none, []⟩])
      .ret)
      .skip))
    (.seq
    (.region false [4] [
      ⟨some 4, .asg (.c (.bool true)), none, []⟩])
    .ret))))))
  modes := [.lend, .lend]
  rets := [⟨4, none⟩] }

def b38_0 : VC :=
  (.seq
  (.seq
  (.region false [0, 3, 7] [
    ⟨some 6, .mov (.t 0), none, []⟩,
    ⟨some 7, .bin false .gtr 3 (.t 6) (.c (.int .i64 0)), none, []⟩])
  (.cond (.t 7)
    .skip
    (.exit 0)))
  (.block 1
    (.seq
    (.region false [0, 3] [
      ⟨some 8, .mov (.t 0), none, []⟩,
      ⟨some 9, .bin false .rem 3 (.t 8) (.c (.int .i64 10)), none, []⟩,
      ⟨some 10, .bin false .add 3 (.c (.int .i64 48)) (.t 9), none, []⟩,
      ⟨some 11, .conv 3 5 .u8 (.t 10), none, []⟩,
      ⟨some 12, .lit 72 5 1 1 [(.val (.int .u8 0))] [(0, (.t 11))], none, []⟩,
      ⟨some 13, .b2s 72 9 (.t 12), none, []⟩,
      ⟨some 14, .mov (.t 3), none, []⟩,
      ⟨some 15, .bin false .add 9 (.t 13) (.t 14), none, []⟩,
      ⟨some 3, .asg (.t 15), none, []⟩])
    (.region false [0, 3] [
      ⟨some 16, .mov (.t 0), none, []⟩,
      ⟨some 17, .bin false .quo 3 (.t 16) (.c (.int .i64 10)), none, []⟩,
      ⟨some 0, .asg (.t 17), none, []⟩]))))
def l38_0 : VC := .loop b38_0
/-- loop.example/g00539/laws.markText -/
def v38 : VFun := {
  code :=
    (.seq
    (.region false [0] [
      ⟨some 2, .asg (.c (.string (⟨#[]⟩ : ByteArray))), none, []⟩])
    (.seq
    (.seq
    (.region false [0, 5] [
      ⟨some 4, .mov (.t 0), none, []⟩,
      ⟨some 5, .bin false .leq 3 (.t 4) (.c (.int .i64 0)), none, []⟩])
    (.cond (.t 5)
      (.seq
      (.region false [2] [
        ⟨some 2, .asg (.c (.string (⟨#[109, 48]⟩ : ByteArray))), none, []⟩])
      .ret)
      .skip))
    (.seq
    (.region false [0, 3] [
      ⟨some 3, .asg (.c (.string (⟨#[]⟩ : ByteArray))), none, []⟩])
    (.seq
    (.block 0
      l38_0)
    (.seq
    (.region false [2] [
      ⟨some 18, .mov (.t 3), none, []⟩,
      ⟨some 19, .bin false .add 9 (.c (.string (⟨#[109]⟩ : ByteArray))) (.t 18), none, []⟩,
      ⟨some 2, .asg (.t 19), none, []⟩])
    .ret)))))
  modes := [.lend]
  rets := [⟨2, none⟩] }

def b39_0 : VC :=
  (.seq
  (.seq
  (.region false [0, 1, 5, 9] [
    ⟨some 6, .mov (.t 5), none, []⟩,
    ⟨some 7, .mov (.t 0), none, []⟩,
    ⟨some 8, .len false 28 (.t 7), none, []⟩,
    ⟨some 9, .bin false .lss 3 (.t 6) (.t 8), none, []⟩])
  (.cond (.t 9)
    .skip
    (.exit 0)))
  (.seq
  (.block 1
    (.seq
    (.seq
    (.region true [0, 1, 5, 19] [
      ⟨some 12, .mov (.t 0), none, []⟩,
      ⟨some 13, .mov (.t 5), none, [0]⟩,
      ⟨some 14, .ia 28 49 4 (.t 12) (.t 13), none, []⟩,
      ⟨some 15, .fa 49 0 0 1 (.t 14), none, []⟩,
      ⟨some 16, .load 9 false 1 (.t 15), none, []⟩,
      ⟨some 17, .mov (.t 1), none, [0, 1, 2, 3, 4]⟩,
      ⟨some 18, .call 38 [(.t 17)], none, [0, 1, 2, 3, 4]⟩,
      ⟨some 19, .bin false .neq 9 (.t 16) (.t 18), none, []⟩])
    (.cond (.t 19)
      (.seq
      (.region false [4] [
        ⟨some 4, .asg (.c (.int .i64 (-1))), none, []⟩])
      .ret)
      .skip))
    (.seq
    (.region false [0, 1, 5] [
      ⟨some 20, .mov (.t 1), none, []⟩,
      ⟨some 21, .bin false .add 3 (.t 20) (.c (.int .i64 1)), none, []⟩,
      ⟨some 1, .asg (.t 21), none, []⟩])
    (.seq
    (.seq
    (.region false [0, 1, 5, 28] [
      ⟨some 22, .mov (.t 0), none, []⟩,
      ⟨some 23, .mov (.t 5), none, []⟩,
      ⟨some 24, .ia 28 49 4 (.t 22) (.t 23), none, []⟩,
      ⟨some 25, .fa 49 1 1 1 (.t 24), none, []⟩,
      ⟨some 26, .load 2 false 1 (.t 25), none, []⟩,
      ⟨some 27, .mov (.t 1), none, []⟩,
      ⟨some 28, .bin false .neq 2 (.t 26) (.t 27), none, []⟩])
    (.cond (.t 28)
      (.seq
      (.region false [4] [
        ⟨some 4, .asg (.c (.int .i64 (-1))), none, []⟩])
      .ret)
      .skip))
    (.seq
    (.region false [0, 1, 5] [
      ⟨some 29, .mov (.t 1), none, []⟩,
      ⟨some 30, .bin false .add 3 (.t 29) (.c (.int .i64 1)), none, []⟩,
      ⟨some 1, .asg (.t 30), none, []⟩])
    (.seq
    (.seq
    (.region true [0, 1, 5, 38] [
      ⟨some 31, .mov (.t 0), none, []⟩,
      ⟨some 32, .mov (.t 5), none, [0]⟩,
      ⟨some 33, .ia 28 49 4 (.t 31) (.t 32), none, []⟩,
      ⟨some 34, .fa 49 2 2 1 (.t 33), none, []⟩,
      ⟨some 35, .load 9 false 1 (.t 34), none, []⟩,
      ⟨some 36, .mov (.t 1), none, [0, 1, 2, 3, 4]⟩,
      ⟨some 37, .call 38 [(.t 36)], none, [0, 1, 2, 3, 4]⟩,
      ⟨some 38, .bin false .neq 9 (.t 35) (.t 37), none, []⟩])
    (.cond (.t 38)
      (.seq
      (.region false [4] [
        ⟨some 4, .asg (.c (.int .i64 (-1))), none, []⟩])
      .ret)
      .skip))
    (.seq
    (.region false [0, 1, 5] [
      ⟨some 39, .mov (.t 1), none, []⟩,
      ⟨some 40, .bin false .add 3 (.t 39) (.c (.int .i64 1)), none, []⟩,
      ⟨some 1, .asg (.t 40), none, []⟩])
    (.seq
    (.seq
    (.region false [0, 1, 5, 47] [
      ⟨some 41, .mov (.t 0), none, []⟩,
      ⟨some 42, .mov (.t 5), none, []⟩,
      ⟨some 43, .ia 28 49 4 (.t 41) (.t 42), none, []⟩,
      ⟨some 44, .fa 49 3 3 1 (.t 43), none, []⟩,
      ⟨some 45, .load 2 false 1 (.t 44), none, []⟩,
      ⟨some 46, .mov (.t 1), none, []⟩,
      ⟨some 47, .bin false .neq 2 (.t 45) (.t 46), none, []⟩])
    (.cond (.t 47)
      (.seq
      (.region false [4] [
        ⟨some 4, .asg (.c (.int .i64 (-1))), none, []⟩])
      .ret)
      .skip))
    (.region false [0, 1, 5] [
      ⟨some 48, .mov (.t 1), none, []⟩,
      ⟨some 49, .bin false .add 3 (.t 48) (.c (.int .i64 1)), none, []⟩,
      ⟨some 1, .asg (.t 49), none, []⟩])))))))))
  (.region false [0, 1, 5] [
    ⟨some 10, .mov (.t 5), none, []⟩,
    ⟨some 11, .bin false .add 3 (.t 10) (.c (.int .i64 1)), none, []⟩,
    ⟨some 5, .asg (.t 11), none, []⟩])))
def l39_0 : VC := .loop b39_0
/-- loop.example/g00539/laws.heldSessionS -/
def v39 : VFun := {
  code :=
    (.seq
    (.region false [0, 1] [
      ⟨some 4, .asg (.c (.int .i64 0)), none, []⟩])
    (.seq
    (.seq
    (.region false [0, 1, 5] [
      ⟨some 5, .asg (.c (.int .i64 0)), none, []⟩])
    (.block 0
      l39_0))
    (.seq
    (.region false [4] [
      ⟨some 50, .mov (.t 1), none, []⟩,
      ⟨some 4, .asg (.t 50), none, []⟩])
    .ret)))
  modes := [.lend, .lend]
  rets := [⟨4, none⟩] }

def b40_0 : VC :=
  (.seq
  (.seq
  (.region false [0, 1, 5, 6, 55] [
    ⟨some 53, .mov (.t 6), none, []⟩,
    ⟨some 54, .mov (.t 1), none, []⟩,
    ⟨some 55, .bin false .lss 3 (.t 53) (.t 54), none, []⟩])
  (.cond (.t 55)
    .skip
    (.exit 0)))
  (.seq
  (.block 1
    (.seq
    (.region true [0, 1, 5, 6, 77] [
      ⟨some 58, .mov (.t 5), none, []⟩,
      ⟨some 59, .nilc (.t 58), none, []⟩,
      ⟨some 60, .fa 49 1 1 1 (.t 59), none, []⟩,
      ⟨some 61, .load 2 false 1 (.t 60), none, []⟩,
      ⟨some 62, .bin false .geq 2 (.t 61) (.c (.int .i64 0)), none, []⟩,
      ⟨some 63, .mov (.t 62), none, []⟩,
      ⟨some 64, .mov (.t 0), some (63, true), []⟩,
      ⟨some 65, .nilc (.t 64), some (63, true), []⟩,
      ⟨some 66, .fa 30 0 0 1 (.t 65), some (63, true), []⟩,
      ⟨some 67, .load 28 false 1 (.t 66), some (63, true), []⟩,
      ⟨some 68, .mov (.t 6), some (63, true), [6, 7, 8, 9]⟩,
      ⟨some 69, .ia 28 49 4 (.t 67) (.t 68), some (63, true), []⟩,
      ⟨some 70, .fa 49 1 1 1 (.t 69), some (63, true), []⟩,
      ⟨some 71, .load 2 false 1 (.t 70), some (63, true), []⟩,
      ⟨some 72, .mov (.t 5), some (63, true), [6, 7, 8, 9, 10, 11, 12, 13]⟩,
      ⟨some 73, .nilc (.t 72), some (63, true), [6, 7, 8, 9, 10, 11, 12, 13]⟩,
      ⟨some 74, .fa 49 1 1 1 (.t 73), some (63, true), [6, 7, 8, 9, 10, 11, 12, 13]⟩,
      ⟨some 75, .load 2 false 1 (.t 74), some (63, true), [6, 7, 8, 9, 10, 11, 12, 13]⟩,
      ⟨some 76, .bin false .eql 2 (.t 71) (.t 75), some (63, true), []⟩,
      ⟨some 77, .pick (.t 63) (.t 76) (.c (.bool false)), none, []⟩])
    (.cond (.t 77)
      (.seq
      (.region false [4] [
        ⟨some 4, .asg (.c (.int .i64 6)), none, []⟩])
      .ret)
      .skip)))
  (.region false [0, 1, 5, 6] [
    ⟨some 56, .mov (.t 6), none, []⟩,
    ⟨some 57, .bin false .add 3 (.t 56) (.c (.int .i64 1)), none, []⟩,
    ⟨some 6, .asg (.t 57), none, []⟩])))
def l40_0 : VC := .loop b40_0
/-- loop.example/g00539/spec.l10One -/
def v40 : VFun := {
  code :=
    (.seq
    (.region false [0, 1] [
      ⟨some 4, .asg (.c (.int .i64 0)), none, []⟩])
    (.seq
    (.region false [0, 1, 5] [
      ⟨some 7, .mov (.t 0), none, []⟩,
      ⟨some 8, .nilc (.t 7), none, []⟩,
      ⟨some 9, .fa 30 0 0 1 (.t 8), none, []⟩,
      ⟨some 10, .load 28 false 1 (.t 9), none, []⟩,
      ⟨some 11, .mov (.t 1), none, []⟩,
      ⟨some 12, .ia 28 49 4 (.t 10) (.t 11), none, []⟩,
      ⟨some 5, .asg (.t 12), none, []⟩])
    (.seq
    (.seq
    (.region false [0, 1, 5, 26] [
      ⟨some 13, .mov (.t 5), none, []⟩,
      ⟨some 14, .nilc (.t 13), none, []⟩,
      ⟨some 15, .fa 49 0 0 1 (.t 14), none, []⟩,
      ⟨some 16, .load 9 false 1 (.t 15), none, []⟩,
      ⟨some 17, .call 44 [(.t 16)], none, []⟩,
      ⟨some 18, .un .not (.t 17), none, []⟩,
      ⟨some 19, .mov (.t 18), none, []⟩,
      ⟨some 20, .mov (.t 5), some (19, false), []⟩,
      ⟨some 21, .nilc (.t 20), some (19, false), []⟩,
      ⟨some 22, .fa 49 2 2 1 (.t 21), some (19, false), []⟩,
      ⟨some 23, .load 9 false 1 (.t 22), some (19, false), []⟩,
      ⟨some 24, .call 45 [(.t 23)], some (19, false), []⟩,
      ⟨some 25, .un .not (.t 24), some (19, false), []⟩,
      ⟨some 26, .pick (.t 19) (.c (.bool true)) (.t 25), none, []⟩])
    (.cond (.t 26)
      (.seq
      (.region false [4] [
        ⟨some 4, .asg (.c (.int .i64 5)), none, []⟩])
      .ret)
      .skip))
    (.seq
    (.seq
    (.region false [0, 1, 5, 40] [
      ⟨some 27, .mov (.t 5), none, []⟩,
      ⟨some 28, .nilc (.t 27), none, []⟩,
      ⟨some 29, .fa 49 1 1 1 (.t 28), none, []⟩,
      ⟨some 30, .load 2 false 1 (.t 29), none, []⟩,
      ⟨some 31, .call 31 [(.t 30), (.c (.int .i64 (-1))), (.c (.int .i64 998))], none, []⟩,
      ⟨some 32, .un .not (.t 31), none, []⟩,
      ⟨some 33, .mov (.t 32), none, []⟩,
      ⟨some 34, .mov (.t 5), some (33, false), []⟩,
      ⟨some 35, .nilc (.t 34), some (33, false), []⟩,
      ⟨some 36, .fa 49 3 3 1 (.t 35), some (33, false), []⟩,
      ⟨some 37, .load 2 false 1 (.t 36), some (33, false), []⟩,
      ⟨some 38, .call 31 [(.t 37), (.c (.int .i64 1)), (.c (.int .i64 9999))], some (33, false), []⟩,
      ⟨some 39, .un .not (.t 38), some (33, false), []⟩,
      ⟨some 40, .pick (.t 33) (.c (.bool true)) (.t 39), none, []⟩])
    (.cond (.t 40)
      (.seq
      (.region false [4] [
        ⟨some 4, .asg (.c (.int .i64 3)), none, []⟩])
      .ret)
      .skip))
    (.seq
    (.seq
    (.region false [0, 1, 5, 52] [
      ⟨some 41, .mov (.t 5), none, []⟩,
      ⟨some 42, .nilc (.t 41), none, []⟩,
      ⟨some 43, .fa 49 2 2 1 (.t 42), none, []⟩,
      ⟨some 44, .load 9 false 1 (.t 43), none, []⟩,
      ⟨some 45, .bin false .neq 9 (.t 44) (.c (.string (⟨#[]⟩ : ByteArray))), none, []⟩,
      ⟨some 46, .mov (.t 45), none, []⟩,
      ⟨some 47, .mov (.t 5), some (46, true), []⟩,
      ⟨some 48, .nilc (.t 47), some (46, true), []⟩,
      ⟨some 49, .fa 49 1 1 1 (.t 48), some (46, true), []⟩,
      ⟨some 50, .load 2 false 1 (.t 49), some (46, true), []⟩,
      ⟨some 51, .bin false .lss 2 (.t 50) (.c (.int .i64 0)), some (46, true), []⟩,
      ⟨some 52, .pick (.t 46) (.t 51) (.c (.bool false)), none, []⟩])
    (.cond (.t 52)
      (.seq
      (.region false [4] [
        ⟨some 4, .asg (.c (.int .i64 1)), none, []⟩])
      .ret)
      .skip))
    (.seq
    (.seq
    (.region false [0, 1, 5, 6] [
      ⟨some 6, .asg (.c (.int .i64 0)), none, []⟩])
    (.block 0
      l40_0))
    (.seq
    (.region false [4] [
      ⟨some 4, .asg (.c (.int .i64 0)), none, []⟩])
    .ret)))))))
  modes := [.lend, .lend]
  rets := [⟨4, none⟩] }

/-- loop.example/g00539/impl.sessionFault -/
def v41 : VFun := {
  code :=
    (.seq
    (.region false [1, 2] [
      ⟨some 2, .box 49 (.t 0), none, []⟩,
      ⟨some 4, .asg (.c (.int .i64 0)), none, []⟩])
    (.seq
    (.block 0
      (.seq
      (.region false [1, 2, 5] [
        ⟨some 6, .fa 49 0 0 1 (.t 2), none, []⟩,
        ⟨some 7, .load 9 false 1 (.t 6), none, []⟩,
        ⟨some 8, .len true 9 (.t 7), none, []⟩,
        ⟨some 9, .bin false .gtr 3 (.t 8) (.c (.int .i64 161)), none, []⟩,
        ⟨some 10, .mov (.t 9), none, []⟩,
        ⟨some 11, .fa 49 0 0 1 (.t 2), some (10, false), []⟩,
        ⟨some 12, .load 9 false 1 (.t 11), some (10, false), []⟩,
        ⟨some 13, .call 46 [(.t 12), (.c (.int .u8 10))], some (10, false), []⟩,
        ⟨some 14, .bin false .geq 3 (.t 13) (.c (.int .i64 0)), some (10, false), []⟩,
        ⟨some 15, .pick (.t 10) (.c (.bool true)) (.t 14), none, []⟩,
        ⟨some 16, .mov (.t 15), none, []⟩,
        ⟨some 17, .fa 49 2 2 1 (.t 2), some (16, false), []⟩,
        ⟨some 18, .load 9 false 1 (.t 17), some (16, false), []⟩,
        ⟨some 19, .call 47 [(.t 18)], some (16, false), []⟩,
        ⟨some 20, .pick (.t 16) (.c (.bool true)) (.t 19), none, []⟩,
        ⟨some 5, .asg (.t 20), none, []⟩])
      (.cond (.t 5)
        (.seq
        (.region false [4] [
          ⟨some 4, .asg (.c (.int .i64 5)), none, []⟩])
        .ret)
        (.seq
        (.region false [1, 2, 21] [
          ⟨some 22, .fa 49 1 1 1 (.t 2), none, []⟩,
          ⟨some 23, .load 2 false 1 (.t 22), none, []⟩,
          ⟨some 24, .call 34 [(.t 23), (.c (.int .i64 (-1))), (.c (.int .i64 998))], none, []⟩,
          ⟨some 25, .un .not (.t 24), none, []⟩,
          ⟨some 26, .mov (.t 25), none, []⟩,
          ⟨some 27, .fa 49 3 3 1 (.t 2), some (26, false), []⟩,
          ⟨some 28, .load 2 false 1 (.t 27), some (26, false), []⟩,
          ⟨some 29, .call 48 [(.t 28)], some (26, false), []⟩,
          ⟨some 30, .un .not (.t 29), some (26, false), []⟩,
          ⟨some 31, .pick (.t 26) (.c (.bool true)) (.t 30), none, []⟩,
          ⟨some 21, .asg (.t 31), none, []⟩])
        (.cond (.t 21)
          (.seq
          (.region false [4] [
            ⟨some 4, .asg (.c (.int .i64 3)), none, []⟩])
          .ret)
          (.seq
          (.region false [1, 2, 32] [
            ⟨some 33, .fa 49 2 2 1 (.t 2), none, []⟩,
            ⟨some 34, .load 9 false 1 (.t 33), none, []⟩,
            ⟨some 35, .bin false .neq 9 (.t 34) (.c (.string (⟨#[]⟩ : ByteArray))), none, []⟩,
            ⟨some 36, .mov (.t 35), none, []⟩,
            ⟨some 37, .fa 49 1 1 1 (.t 2), some (36, true), []⟩,
            ⟨some 38, .load 2 false 1 (.t 37), some (36, true), []⟩,
            ⟨some 39, .bin false .eql 2 (.t 38) (.c (.int .i64 (-1))), some (36, true), []⟩,
            ⟨some 40, .pick (.t 36) (.t 39) (.c (.bool false)), none, []⟩,
            ⟨some 32, .asg (.t 40), none, []⟩])
          (.cond (.t 32)
            (.seq
            (.region false [4] [
              ⟨some 4, .asg (.c (.int .i64 1)), none, []⟩])
            .ret)
            (.seq
            (.region false [41] [
              ⟨some 42, .fa 49 1 1 1 (.t 2), none, []⟩,
              ⟨some 43, .load 2 false 1 (.t 42), none, []⟩,
              ⟨some 44, .bin false .neq 2 (.t 43) (.c (.int .i64 (-1))), none, []⟩,
              ⟨some 45, .mov (.t 44), none, []⟩,
              ⟨some 46, .mov (.t 1), some (45, true), []⟩,
              ⟨some 47, .fn 49 [] [(.t 2)], some (45, true), []⟩,
              ⟨some 48, .call 42 [(.t 46), (.t 47)], some (45, true), []⟩,
              ⟨some 49, .pick (.t 45) (.t 48) (.c (.bool false)), none, []⟩,
              ⟨some 41, .asg (.t 49), none, []⟩])
            (.cond (.t 41)
              (.seq
              (.region false [4] [
                ⟨some 4, .asg (.c (.int .i64 6)), none, []⟩])
              .ret)
              .skip)))))))))
    (.seq
    (.region false [4] [
      ⟨some 4, .asg (.c (.int .i64 0)), none, []⟩])
    .ret)))
  modes := [.lend, .lend]
  rets := [⟨4, none⟩] }

/-- slices.ContainsFunc[[]loop.example/g00539/impl.Session,loop.example/g00539/impl.Session] -/
def v42 : VFun := {
  code :=
    (.seq
    (.region false [0, 1] [
      ⟨some 4, .asg (.c (.bool false)), none, []⟩])
    (.seq
    (.region false [4] [
      ⟨some 5, .mov (.t 0), none, []⟩,
      ⟨some 6, .mov (.t 1), none, []⟩,
      ⟨some 7, .call 50 [(.t 5), (.t 6)], none, []⟩,
      ⟨some 8, .bin false .geq 3 (.t 7) (.c (.int .i64 0)), none, []⟩,
      ⟨some 4, .asg (.t 8), none, []⟩])
    .ret))
  modes := [.lend, .lend]
  rets := [⟨4, none⟩] }

/-- loop.example/g00539/impl.ServerFault$1 -/
def v43 : VFun := {
  code :=
    (.seq
    (.region false [1, 2] [
      ⟨some 2, .box 49 (.t 0), none, []⟩,
      ⟨some 3, .asg (.c (.bool false)), none, []⟩])
    (.seq
    (.region false [3] [
      ⟨some 4, .fa 49 1 1 1 (.t 2), none, []⟩,
      ⟨some 5, .load 2 false 1 (.t 4), none, []⟩,
      ⟨some 6, .fa 30 1 1 1 (.t 1), none, []⟩,
      ⟨some 7, .load 2 false 1 (.t 6), none, []⟩,
      ⟨some 8, .bin false .geq 2 (.t 5) (.t 7), none, []⟩,
      ⟨some 3, .asg (.t 8), none, []⟩])
    .ret))
  modes := [.lend, .lend]
  rets := [⟨3, none⟩] }

def b44_0 : VC :=
  (.seq
  (.seq
  (.region false [0, 3, 7] [
    ⟨some 4, .mov (.t 3), none, []⟩,
    ⟨some 5, .mov (.t 0), none, []⟩,
    ⟨some 6, .len true 9 (.t 5), none, []⟩,
    ⟨some 7, .bin false .lss 3 (.t 4) (.t 6), none, []⟩])
  (.cond (.t 7)
    .skip
    (.exit 0)))
  (.seq
  (.block 1
    (.seq
    (.region false [0, 3, 13] [
      ⟨some 10, .mov (.t 0), none, []⟩,
      ⟨some 11, .mov (.t 3), none, []⟩,
      ⟨some 12, .idx 9 (.t 10) (.t 11), none, []⟩,
      ⟨some 13, .bin false .eql 5 (.t 12) (.c (.int .u8 10)), none, []⟩])
    (.cond (.t 13)
      (.seq
      (.region false [2] [
        ⟨some 2, .asg (.c (.bool false)), none, []⟩])
      .ret)
      .skip)))
  (.region false [0, 3] [
    ⟨some 8, .mov (.t 3), none, []⟩,
    ⟨some 9, .bin false .add 3 (.t 8) (.c (.int .i64 1)), none, []⟩,
    ⟨some 3, .asg (.t 9), none, []⟩])))
def l44_0 : VC := .loop b44_0
/-- loop.example/g00539/spec.l10Rest -/
def v44 : VFun := {
  code :=
    (.seq
    (.region false [0] [
      ⟨some 2, .asg (.c (.bool false)), none, []⟩])
    (.seq
    (.seq
    (.region false [0, 3] [
      ⟨some 3, .asg (.c (.int .i64 0)), none, []⟩])
    (.block 0
      l44_0))
    (.seq
    (.region false [2] [
      ⟨some 14, .mov (.t 0), none, []⟩,
      ⟨some 15, .len true 9 (.t 14), none, []⟩,
      ⟨some 16, .bin false .leq 3 (.t 15) (.c (.int .i64 161)), none, []⟩,
      ⟨some 2, .asg (.t 16), none, []⟩])
    .ret)))
  modes := [.lend]
  rets := [⟨2, none⟩] }

def b45_0 : VC :=
  (.seq
  (.seq
  (.region false [0, 3, 7] [
    ⟨some 4, .mov (.t 3), none, []⟩,
    ⟨some 5, .mov (.t 0), none, []⟩,
    ⟨some 6, .len true 9 (.t 5), none, []⟩,
    ⟨some 7, .bin false .lss 3 (.t 4) (.t 6), none, []⟩])
  (.cond (.t 7)
    .skip
    (.exit 0)))
  (.seq
  (.block 1
    (.seq
    (.region false [0, 3, 14] [
      ⟨some 10, .mov (.t 0), none, []⟩,
      ⟨some 11, .mov (.t 3), none, []⟩,
      ⟨some 12, .idx 9 (.t 10) (.t 11), none, []⟩,
      ⟨some 13, .call 51 [(.t 12)], none, []⟩,
      ⟨some 14, .un .not (.t 13), none, []⟩])
    (.cond (.t 14)
      (.seq
      (.region false [2] [
        ⟨some 2, .asg (.c (.bool false)), none, []⟩])
      .ret)
      .skip)))
  (.region false [0, 3] [
    ⟨some 8, .mov (.t 3), none, []⟩,
    ⟨some 9, .bin false .add 3 (.t 8) (.c (.int .i64 1)), none, []⟩,
    ⟨some 3, .asg (.t 9), none, []⟩])))
def l45_0 : VC := .loop b45_0
/-- loop.example/g00539/spec.l9Arg -/
def v45 : VFun := {
  code :=
    (.seq
    (.region false [0] [
      ⟨some 2, .asg (.c (.bool false)), none, []⟩])
    (.seq
    (.seq
    (.region false [0, 3] [
      ⟨some 3, .asg (.c (.int .i64 0)), none, []⟩])
    (.block 0
      l45_0))
    (.seq
    (.region false [2] [
      ⟨some 15, .mov (.t 0), none, []⟩,
      ⟨some 16, .len true 9 (.t 15), none, []⟩,
      ⟨some 17, .bin false .leq 3 (.t 16) (.c (.int .i64 12)), none, []⟩,
      ⟨some 2, .asg (.t 17), none, []⟩])
    .ret)))
  modes := [.lend]
  rets := [⟨2, none⟩] }

/-- loop.example/g00539/impl.badArg -/
def v47 : VFun := {
  code :=
    (.seq
    (.region false [0] [
      ⟨some 2, .asg (.c (.bool false)), none, []⟩])
    (.seq
    (.region false [2] [
      ⟨some 3, .mov (.t 0), none, []⟩,
      ⟨some 4, .call 53 [(.t 3)], none, []⟩,
      ⟨some 5, .un .not (.t 4), none, []⟩,
      ⟨some 2, .asg (.t 5), none, []⟩])
    .ret))
  modes := [.lend]
  rets := [⟨2, none⟩] }

/-- loop.example/g00539/impl.isLevel -/
def v48 : VFun := {
  code :=
    (.seq
    (.region false [0] [
      ⟨some 2, .asg (.c (.bool false)), none, []⟩])
    (.seq
    (.region false [2] [
      ⟨some 3, .mov (.t 0), none, []⟩,
      ⟨some 4, .call 34 [(.t 3), (.c (.int .i64 1)), (.c (.int .i64 9999))], none, []⟩,
      ⟨some 2, .asg (.t 4), none, []⟩])
    .ret))
  modes := [.lend]
  rets := [⟨2, none⟩] }

/-- loop.example/g00539/impl.sessionFault$1 -/
def v49 : VFun := {
  code :=
    (.seq
    (.region false [1, 2] [
      ⟨some 2, .box 49 (.t 0), none, []⟩,
      ⟨some 3, .asg (.c (.bool false)), none, []⟩])
    (.seq
    (.region false [3] [
      ⟨some 4, .fa 49 1 1 1 (.t 1), none, []⟩,
      ⟨some 5, .load 2 false 1 (.t 4), none, []⟩,
      ⟨some 6, .fa 49 1 1 1 (.t 2), none, []⟩,
      ⟨some 7, .load 2 false 1 (.t 6), none, []⟩,
      ⟨some 8, .bin false .eql 2 (.t 5) (.t 7), none, []⟩,
      ⟨some 3, .asg (.t 8), none, []⟩])
    .ret))
  modes := [.lend, .lend]
  rets := [⟨3, none⟩] }

def b50_0 : VC :=
  (.seq
  (.region false [0, 1, 7, 8, 9] [
    ⟨some 9, .bin false .lss 3 (.t 8) (.t 7), none, []⟩])
  (.seq
  (.cond (.t 9)
    .skip
    (.exit 0))
  (.seq
  (.block 1
    (.seq
    (.region false [0, 1, 5, 7, 8] [
      ⟨some 10, .mov (.t 8), none, []⟩,
      ⟨some 5, .asg (.t 10), none, []⟩])
    (.seq
    (.region false [0, 1, 5, 7, 8, 16] [
      ⟨some 11, .mov (.t 1), none, []⟩,
      ⟨some 12, .mov (.t 0), none, []⟩,
      ⟨some 13, .mov (.t 5), none, []⟩,
      ⟨some 14, .ia 28 49 4 (.t 12) (.t 13), none, []⟩,
      ⟨some 15, .load 49 true 4 (.t 14), none, []⟩,
      ⟨some 16, .callv (.t 11) [(.t 15)], none, []⟩])
    (.cond (.t 16)
      (.seq
      (.region false [4] [
        ⟨some 17, .mov (.t 5), none, []⟩,
        ⟨some 4, .asg (.t 17), none, []⟩])
      .ret)
      .skip))))
  (.region false [0, 1, 7, 8] [
    ⟨some 18, .bin false .add 3 (.t 8) (.c (.int .i64 1)), none, []⟩,
    ⟨some 8, .mov (.t 18), none, []⟩]))))
def l50_0 : VC := .loop b50_0
/-- slices.IndexFunc[[]loop.example/g00539/impl.Session,loop.example/g00539/impl.Session] -/
def v50 : VFun := {
  code :=
    (.seq
    (.region false [0, 1] [
      ⟨some 4, .asg (.c (.int .i64 0)), none, []⟩])
    (.seq
    (.seq
    (.region false [0, 1, 7, 8] [
      ⟨some 6, .mov (.t 0), none, []⟩,
      ⟨some 7, .len false 28 (.t 6), none, []⟩,
      ⟨some 8, .mov (.c (.int .i64 0)), none, []⟩])
    (.block 0
      l50_0))
    (.seq
    (.region false [4] [
      ⟨some 4, .asg (.c (.int .i64 (-1))), none, []⟩])
    .ret)))
  modes := [.lend, .lend]
  rets := [⟨4, none⟩] }

/-- loop.example/g00539/spec.l9Letter -/
def v51 : VFun := {
  code :=
    (.seq
    (.region false [0] [
      ⟨some 2, .asg (.c (.bool false)), none, []⟩])
    (.seq
    (.region false [2] [
      ⟨some 3, .mov (.t 0), none, []⟩,
      ⟨some 4, .bin false .geq 5 (.t 3) (.c (.int .u8 97)), none, []⟩,
      ⟨some 5, .mov (.t 4), none, []⟩,
      ⟨some 6, .mov (.t 0), some (5, true), []⟩,
      ⟨some 7, .bin false .leq 5 (.t 6) (.c (.int .u8 122)), some (5, true), []⟩,
      ⟨some 8, .pick (.t 5) (.t 7) (.c (.bool false)), none, []⟩,
      ⟨some 9, .mov (.t 8), none, []⟩,
      ⟨some 10, .mov (.t 0), some (9, false), []⟩,
      ⟨some 11, .bin false .geq 5 (.t 10) (.c (.int .u8 65)), some (9, false), []⟩,
      ⟨some 12, .mov (.t 11), some (9, false), []⟩,
      ⟨some 13, .mov (.t 0), some (12, true), []⟩,
      ⟨some 14, .bin false .leq 5 (.t 13) (.c (.int .u8 90)), some (12, true), []⟩,
      ⟨some 15, .pick (.t 12) (.t 14) (.c (.bool false)), some (9, false), []⟩,
      ⟨some 16, .pick (.t 9) (.c (.bool true)) (.t 15), none, []⟩,
      ⟨some 17, .mov (.t 16), none, []⟩,
      ⟨some 18, .mov (.t 0), some (17, false), []⟩,
      ⟨some 19, .bin false .geq 5 (.t 18) (.c (.int .u8 48)), some (17, false), []⟩,
      ⟨some 20, .mov (.t 19), some (17, false), []⟩,
      ⟨some 21, .mov (.t 0), some (20, true), []⟩,
      ⟨some 22, .bin false .leq 5 (.t 21) (.c (.int .u8 57)), some (20, true), []⟩,
      ⟨some 23, .pick (.t 20) (.t 22) (.c (.bool false)), some (17, false), []⟩,
      ⟨some 24, .pick (.t 17) (.c (.bool true)) (.t 23), none, []⟩,
      ⟨some 2, .asg (.t 24), none, []⟩])
    .ret))
  modes := [.lend]
  rets := [⟨2, none⟩] }

/-- loop.example/g00539/impl.argOk -/
def v53 : VFun := {
  code :=
    (.seq
    (.region false [0] [
      ⟨some 2, .asg (.c (.bool false)), none, []⟩])
    (.seq
    (.region false [2] [
      ⟨some 3, .mov (.t 0), none, []⟩,
      ⟨some 4, .len true 9 (.t 3), none, []⟩,
      ⟨some 5, .bin false .leq 3 (.t 4) (.c (.int .i64 12)), none, []⟩,
      ⟨some 6, .mov (.t 5), none, []⟩,
      ⟨some 7, .mov (.t 0), some (6, true), []⟩,
      ⟨some 8, .call 55 [(.t 7), (.c (.string (⟨#[97, 98, 99, 100, 101, 102, 103, 104, 105, 106, 107, 108, 109, 110, 111, 112, 113, 114, 115, 116, 117, 118, 119, 120, 121, 122, 65, 66, 67, 68, 69, 70, 71, 72, 73, 74, 75, 76, 77, 78, 79, 80, 81, 82, 83, 84, 85, 86, 87, 88, 89, 90, 48, 49, 50, 51, 52, 53, 54, 55, 56, 57]⟩ : ByteArray)))], some (6, true), []⟩,
      ⟨some 9, .bin false .eql 9 (.t 8) (.c (.string (⟨#[]⟩ : ByteArray))), some (6, true), []⟩,
      ⟨some 10, .pick (.t 6) (.t 9) (.c (.bool false)), none, []⟩,
      ⟨some 2, .asg (.t 10), none, []⟩])
    .ret))
  modes := [.lend]
  rets := [⟨2, none⟩] }

def tab : List (Nat × VFun) := [(3, v3), (4, v4), (5, v5), (6, v6), (7, v7), (8, v8), (9, v9), (10, v10), (11, v11), (12, v12), (13, v13), (14, v14), (15, v15), (16, v16), (17, v17), (18, v18), (19, v19), (20, v20), (21, v21), (22, v22), (23, v23), (24, v24), (25, v25), (26, v26), (27, v27), (28, v28), (29, v29), (30, v30), (31, v31), (32, v32), (33, v33), (34, v34), (36, v36), (37, v37), (38, v38), (39, v39), (40, v40), (41, v41), (42, v42), (43, v43), (44, v44), (45, v45), (47, v47), (48, v48), (49, v49), (50, v50), (51, v51), (53, v53)]
def F (f : FuncId) : Option VFun := getA none (tab.map fun x => (x.1, some x.2)) f
theorem tab_ok : tab.all (fun x => matchFun Tryd.prog x.1 x.2) = true := by kernel_rfl
theorem F_mem {f : FuncId} {fn : VFun} : ∀ {l : List (Nat × VFun)}, getA none (l.map fun x => (x.1, some x.2)) f = some fn → (f, fn) ∈ l
  | [], h => by simp [getA] at h
  | (k, v) :: l, h => by
    simp only [List.map_cons, getA] at h
    split at h
    · rename_i e
      injection h with h
      subst e; subst h
      exact List.mem_cons_self ..
    · exact List.mem_cons_of_mem _ (F_mem h)
theorem F_ok (f : FuncId) (fn : VFun) (h : F f = some fn) : matchFun Tryd.prog f fn = true := List.all_eq_true.1 tab_ok _ (F_mem h)
end Go.Proofs.YtaomcjbjgdihhaaDoor.CloseSession
