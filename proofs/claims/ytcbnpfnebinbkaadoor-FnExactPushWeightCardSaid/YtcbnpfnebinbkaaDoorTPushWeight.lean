/- V's text of the functions that this law reaches. -/
import Derived.Test.YtcbnpfnebinbkaaDoorVCode
import Derived.Test.YtcbnpfnebinbkaaDoorRows
import Derived.KernelRfl
namespace Go.Proofs.YtcbnpfnebinbkaaDoor.PushWeight
open Go Go.Proofs.YtcbnpfnebinbkaaDoor.V
set_option maxRecDepth 20000

/-- loop.example/g00539/laws.FnExactPushWeight -/
def v7 : VFun := {
  code :=
    (.seq
    (.region false [0, 2, 4] [
      ⟨some 4, .box 48 (.t 1), none, []⟩,
      ⟨some 6, .asg (.c (.bool false)), none, []⟩])
    (.seq
    (.region false [0, 2, 4, 7] [
      ⟨some 7, .asg (.c (.int .i64 1048576)), none, []⟩])
    (.seq
    (.region false [0, 2, 4, 7] [
      ⟨some 15, .mov (.t 0), none, []⟩,
      ⟨some 16, .mov (.t 7), none, []⟩,
      ⟨some 17, .call 16 [(.t 15), (.t 16)], none, []⟩,
      ⟨some 7, .asg (.t 17), none, []⟩])
    (.seq
    (.seq
    (.region false [0, 2, 4, 7, 19] [
      ⟨some 18, .mov (.t 7), none, []⟩,
      ⟨some 19, .bin false .lss 3 (.t 18) (.c (.int .i64 0)), none, []⟩])
    (.cond (.t 19)
      (.seq
      (.region false [6] [
        ⟨some 6, .asg (.c (.bool true)), none, []⟩])
      .ret)
      .skip))
    (.seq
    (.region false [0, 2, 4, 7] [
      ⟨some 20, .load 48 true 2 (.t 4), none, []⟩,
      ⟨some 21, .mov (.t 7), none, []⟩,
      ⟨some 22, .call 29 [(.t 20), (.t 21)], none, []⟩,
      ⟨some 7, .asg (.t 22), none, []⟩])
    (.seq
    (.seq
    (.region false [0, 2, 4, 24] [
      ⟨some 23, .mov (.t 7), none, []⟩,
      ⟨some 24, .bin false .lss 3 (.t 23) (.c (.int .i64 0)), none, []⟩])
    (.cond (.t 24)
      (.seq
      (.region false [6] [
        ⟨some 6, .asg (.c (.bool true)), none, []⟩])
      .ret)
      .skip))
    (.seq
    (.region true [0, 2, 4, 8] [
      ⟨some 25, .mov (.t 0), none, []⟩,
      ⟨some 26, .call 18 [(.t 25)], none, []⟩,
      ⟨some 27, .load 48 true 2 (.t 4), none, [0, 1]⟩,
      ⟨some 28, .call 31 [(.t 27)], none, []⟩,
      ⟨some 29, .mov (.t 2), none, [0, 1, 2, 3]⟩,
      ⟨some 30, .call 30 [(.t 26), (.t 28), (.t 29)], none, []⟩,
      ⟨some 8, .alloc 51 [(.val (.int .i64 0)), (.nl 2)], none, [0, 1, 2, 3, 4, 5]⟩,
      ⟨none, .store 51 2 (.t 8) (.t 30), none, []⟩])
    (.seq
    (.region false [0, 2, 4, 8, 9, 32] [
      ⟨some 31, .mov (.t 0), none, []⟩,
      ⟨some 32, .call 18 [(.t 31)], none, []⟩,
      ⟨some 9, .asg (.t 32), none, []⟩])
    (.seq
    (.region false [0, 2, 4, 8, 9, 10, 32] [
      ⟨some 33, .mov (.t 9), none, []⟩,
      ⟨some 34, .load 48 true 2 (.t 4), none, []⟩,
      ⟨some 35, .call 31 [(.t 34)], none, []⟩,
      ⟨some 36, .mov (.t 2), none, []⟩,
      ⟨some 37, .call 32 [(.t 33), (.t 35), (.t 36)], none, []⟩,
      ⟨some 10, .alloc 51 [(.val (.int .i64 0)), (.nl 2)], none, []⟩,
      ⟨none, .store 51 2 (.t 10) (.t 37), none, []⟩])
    (.seq
    (.seq
    (.region false [0, 2, 4, 8, 9, 10, 32, 41] [
      ⟨some 38, .load 51 true 2 (.t 10), none, []⟩,
      ⟨some 39, .load 51 true 2 (.t 8), none, []⟩,
      ⟨some 40, .call 33 [(.t 38), (.t 39)], none, []⟩,
      ⟨some 41, .un .not (.t 40), none, []⟩])
    (.cond (.t 41)
      (.seq
      (.region false [6] [
        ⟨some 6, .asg (.c (.bool false)), none, []⟩])
      .ret)
      .skip))
    (.seq
    (.seq
    (.region false [0, 2, 4, 8, 9, 10, 32, 46] [
      ⟨some 42, .mov (.t 9), none, []⟩,
      ⟨some 43, .mov (.t 0), none, []⟩,
      ⟨some 44, .call 18 [(.t 43)], none, []⟩,
      ⟨some 45, .call 20 [(.t 42), (.t 44)], none, []⟩,
      ⟨some 46, .un .not (.t 45), none, []⟩])
    (.cond (.t 46)
      (.seq
      (.region false [6] [
        ⟨some 6, .asg (.c (.bool false)), none, []⟩])
      .ret)
      .skip))
    (.seq
    (.region false [0, 2, 4, 8, 9, 10, 11, 32] [
      ⟨some 11, .asg (.c (.int .i64 1)), none, []⟩])
    (.seq
    (.region false [0, 2, 4, 8, 10, 11] [
      ⟨some 47, .mov (.t 9), none, []⟩,
      ⟨some 48, .mov (.t 11), none, []⟩,
      ⟨some 49, .call 34 [(.t 47), (.t 48)], none, []⟩,
      ⟨some 11, .asg (.t 49), none, []⟩])
    (.seq
    (.seq
    (.region false [0, 2, 4, 8, 10, 57] [
      ⟨some 50, .mov (.t 11), none, []⟩,
      ⟨some 51, .bin false .lss 3 (.t 50) (.c (.int .i64 0)), none, []⟩,
      ⟨some 52, .mov (.t 51), none, []⟩,
      ⟨some 53, .load 51 true 2 (.t 10), some (52, false), []⟩,
      ⟨some 54, .load 51 true 2 (.t 8), some (52, false), []⟩,
      ⟨some 55, .call 33 [(.t 53), (.t 54)], some (52, false), []⟩,
      ⟨some 56, .un .not (.t 55), some (52, false), []⟩,
      ⟨some 57, .pick (.t 52) (.c (.bool true)) (.t 56), none, []⟩])
    (.cond (.t 57)
      (.seq
      (.region false [6] [
        ⟨some 6, .asg (.c (.bool false)), none, []⟩])
      .ret)
      .skip))
    (.seq
    (.region false [0, 2, 4, 8, 10, 12] [
      ⟨some 12, .asg (.c (.int .i64 1)), none, []⟩])
    (.seq
    (.region false [0, 2, 4, 8, 10, 12] [
      ⟨some 58, .load 51 true 2 (.t 10), none, []⟩,
      ⟨some 59, .mov (.t 12), none, []⟩,
      ⟨some 60, .call 35 [(.t 58), (.t 59)], none, []⟩,
      ⟨some 12, .asg (.t 60), none, []⟩])
    (.seq
    (.region false [0, 2, 4, 8, 10, 12, 13] [
      ⟨some 13, .asg (.c (.int .i64 1)), none, []⟩])
    (.seq
    (.region false [0, 2, 4, 8, 10, 12, 13] [
      ⟨some 61, .load 51 true 2 (.t 10), none, []⟩,
      ⟨some 62, .mov (.t 13), none, []⟩,
      ⟨some 63, .call 36 [(.t 61), (.t 62)], none, []⟩,
      ⟨some 13, .asg (.t 63), none, []⟩])
    (.seq
    (.seq
    (.region false [0, 2, 4, 8, 10, 12, 13, 65] [
      ⟨some 64, .mov (.t 13), none, []⟩,
      ⟨some 65, .bin false .lss 3 (.t 64) (.c (.int .i64 0)), none, []⟩])
    (.cond (.t 65)
      (.seq
      (.region false [6] [
        ⟨some 6, .asg (.c (.bool false)), none, []⟩])
      .ret)
      .skip))
    (.seq
    (.seq
    (.region false [0, 2, 4, 8, 10, 12, 68] [
      ⟨some 66, .mov (.t 13), none, []⟩,
      ⟨some 67, .mov (.t 12), none, []⟩,
      ⟨some 68, .bin false .neq 3 (.t 66) (.t 67), none, []⟩])
    (.cond (.t 68)
      (.seq
      (.region false [6] [
        ⟨some 6, .asg (.c (.bool false)), none, []⟩])
      .ret)
      .skip))
    (.seq
    (.region true [8, 10, 12, 14] [
      ⟨some 69, .mov (.t 0), none, []⟩,
      ⟨some 70, .call 18 [(.t 69)], none, []⟩,
      ⟨some 71, .load 48 true 2 (.t 4), none, [0, 1]⟩,
      ⟨some 72, .call 31 [(.t 71)], none, []⟩,
      ⟨some 73, .mov (.t 2), none, [0, 1, 2, 3]⟩,
      ⟨some 74, .call 32 [(.t 70), (.t 72), (.t 73)], none, []⟩,
      ⟨some 14, .alloc 51 [(.val (.int .i64 0)), (.nl 2)], none, [0, 1, 2, 3, 4, 5]⟩,
      ⟨none, .store 51 2 (.t 14) (.t 74), none, []⟩])
    (.seq
    (.seq
    (.region false [10, 12, 78] [
      ⟨some 75, .load 51 true 2 (.t 14), none, []⟩,
      ⟨some 76, .load 51 true 2 (.t 8), none, []⟩,
      ⟨some 77, .call 33 [(.t 75), (.t 76)], none, []⟩,
      ⟨some 78, .un .not (.t 77), none, []⟩])
    (.cond (.t 78)
      (.seq
      (.region false [6] [
        ⟨some 6, .asg (.c (.bool false)), none, []⟩])
      .ret)
      .skip))
    (.seq
    (.region false [10, 12, 13] [
      ⟨some 13, .asg (.c (.int .i64 1)), none, []⟩])
    (.seq
    (.region false [12, 13] [
      ⟨some 79, .load 51 true 2 (.t 10), none, []⟩,
      ⟨some 80, .mov (.t 13), none, []⟩,
      ⟨some 81, .call 36 [(.t 79), (.t 80)], none, []⟩,
      ⟨some 13, .asg (.t 81), none, []⟩])
    (.seq
    (.seq
    (.region false [12, 13, 83] [
      ⟨some 82, .mov (.t 13), none, []⟩,
      ⟨some 83, .bin false .lss 3 (.t 82) (.c (.int .i64 0)), none, []⟩])
    (.cond (.t 83)
      (.seq
      (.region false [6] [
        ⟨some 6, .asg (.c (.bool false)), none, []⟩])
      .ret)
      .skip))
    (.seq
    (.seq
    (.region false [86] [
      ⟨some 84, .mov (.t 13), none, []⟩,
      ⟨some 85, .mov (.t 12), none, []⟩,
      ⟨some 86, .bin false .neq 3 (.t 84) (.t 85), none, []⟩])
    (.cond (.t 86)
      (.seq
      (.region false [6] [
        ⟨some 6, .asg (.c (.bool false)), none, []⟩])
      .ret)
      .skip))
    (.seq
    (.region false [6] [
      ⟨some 6, .asg (.c (.bool true)), none, []⟩])
    .ret)))))))))))))))))))))))))))
  modes := [.lend, .lend, .lend]
  rets := [⟨6, none⟩] }

def b16_0 : VC :=
  (.seq
  (.seq
  (.region false [0, 1, 5, 15] [
    ⟨some 12, .mov (.t 5), none, []⟩,
    ⟨some 13, .mov (.t 0), none, []⟩,
    ⟨some 14, .len false 29 (.t 13), none, []⟩,
    ⟨some 15, .bin false .lss 3 (.t 12) (.t 14), none, []⟩])
  (.cond (.t 15)
    .skip
    (.exit 0)))
  (.seq
  (.block 1
    (.seq
    (.region false [0, 1, 5] [
      ⟨some 18, .mov (.t 0), none, []⟩,
      ⟨some 19, .mov (.t 5), none, []⟩,
      ⟨some 20, .ia 29 48 2 (.t 18) (.t 19), none, []⟩,
      ⟨some 21, .load 48 true 2 (.t 20), none, []⟩,
      ⟨some 22, .mov (.t 1), none, []⟩,
      ⟨some 23, .call 29 [(.t 21), (.t 22)], none, []⟩,
      ⟨some 1, .asg (.t 23), none, []⟩])
    (.seq
    (.region false [0, 1, 5, 25] [
      ⟨some 24, .mov (.t 1), none, []⟩,
      ⟨some 25, .bin false .lss 3 (.t 24) (.c (.int .i64 0)), none, []⟩])
    (.cond (.t 25)
      (.seq
      (.region false [4] [
        ⟨some 4, .asg (.c (.int .i64 (-1))), none, []⟩])
      .ret)
      .skip))))
  (.region false [0, 1, 5] [
    ⟨some 16, .mov (.t 5), none, []⟩,
    ⟨some 17, .bin false .add 3 (.t 16) (.c (.int .i64 1)), none, []⟩,
    ⟨some 5, .asg (.t 17), none, []⟩])))
def l16_0 : VC := .loop b16_0
/-- loop.example/g00539/laws.szWeightS -/
def v16 : VFun := {
  code :=
    (.seq
    (.region false [0, 1] [
      ⟨some 4, .asg (.c (.int .i64 0)), none, []⟩])
    (.seq
    (.region false [0, 1] [
      ⟨some 6, .mov (.t 1), none, []⟩,
      ⟨some 7, .mov (.t 0), none, []⟩,
      ⟨some 8, .len false 29 (.t 7), none, []⟩,
      ⟨some 9, .bin false .sub 3 (.t 6) (.t 8), none, []⟩,
      ⟨some 1, .asg (.t 9), none, []⟩])
    (.seq
    (.seq
    (.region false [0, 1, 11] [
      ⟨some 10, .mov (.t 1), none, []⟩,
      ⟨some 11, .bin false .lss 3 (.t 10) (.c (.int .i64 0)), none, []⟩])
    (.cond (.t 11)
      (.seq
      (.region false [4] [
        ⟨some 4, .asg (.c (.int .i64 (-1))), none, []⟩])
      .ret)
      .skip))
    (.seq
    (.seq
    (.region false [0, 1, 5] [
      ⟨some 5, .asg (.c (.int .i64 0)), none, []⟩])
    (.block 0
      l16_0))
    (.seq
    (.region false [4] [
      ⟨some 26, .mov (.t 1), none, []⟩,
      ⟨some 4, .asg (.t 26), none, []⟩])
    .ret)))))
  modes := [.lend, .lend]
  rets := [⟨4, none⟩] }

def b18_0 : VC :=
  (.seq
  (.seq
  (.region false [0, 3, 4, 7, 11] [
    ⟨some 8, .mov (.t 4), none, []⟩,
    ⟨some 9, .mov (.t 0), none, []⟩,
    ⟨some 10, .len false 29 (.t 9), none, []⟩,
    ⟨some 11, .bin false .lss 3 (.t 8) (.t 10), none, []⟩])
  (.cond (.t 11)
    .skip
    (.exit 0)))
  (.seq
  (.block 1
    (.region false [0, 3, 4, 7] [
      ⟨some 14, .mov (.t 3), none, []⟩,
      ⟨some 15, .mov (.t 4), none, []⟩,
      ⟨some 16, .mov (.t 0), none, []⟩,
      ⟨some 17, .mov (.t 4), none, []⟩,
      ⟨some 18, .ia 29 48 2 (.t 16) (.t 17), none, []⟩,
      ⟨some 19, .load 48 true 2 (.t 18), none, []⟩,
      ⟨some 20, .call 31 [(.t 19)], none, []⟩,
      ⟨some 21, .ia 32 53 2 (.t 14) (.t 15), none, []⟩,
      ⟨none, .store 53 2 (.t 21) (.t 20), none, []⟩]))
  (.region false [0, 3, 4, 7] [
    ⟨some 12, .mov (.t 4), none, []⟩,
    ⟨some 13, .bin false .add 3 (.t 12) (.c (.int .i64 1)), none, []⟩,
    ⟨some 4, .asg (.t 13), none, []⟩])))
def l18_0 : VC := .loop b18_0
/-- loop.example/g00539/laws.toWeightS -/
def v18 : VFun := {
  code :=
    (.seq
    (.region false [0] [
      ⟨some 2, .asg (.n 2), none, []⟩])
    (.seq
    (.region false [0, 3, 7] [
      ⟨some 5, .mov (.t 0), none, []⟩,
      ⟨some 6, .len false 29 (.t 5), none, []⟩,
      ⟨some 7, .mk 32 53 2 24 [(.val (.string (⟨#[]⟩ : ByteArray))), (.val (.int .i64 0))] (.t 6) (.t 6), none, []⟩,
      ⟨some 3, .asg (.t 7), none, []⟩])
    (.seq
    (.seq
    (.region false [0, 3, 4, 7] [
      ⟨some 4, .asg (.c (.int .i64 0)), none, []⟩])
    (.block 0
      l18_0))
    (.seq
    (.region false [2, 3, 7] [
      ⟨some 22, .mov (.t 3), none, []⟩,
      ⟨some 2, .asg (.t 22), none, []⟩])
    .ret))))
  modes := [.lend]
  rets := [⟨2, none⟩] }

def b19_0 : VC :=
  (.seq
  (.region false [8, 9, 10, 11] [
    ⟨some 11, .bin false .lss 3 (.t 10) (.t 9), none, []⟩])
  (.seq
  (.cond (.t 11)
    .skip
    (.exit 0))
  (.seq
  (.block 1
    (.seq
    (.region false [4, 8, 9, 10] [
      ⟨some 12, .ia 32 53 2 (.t 8) (.t 10), none, []⟩,
      ⟨some 13, .load 53 true 2 (.t 12), none, []⟩,
      ⟨some 4, .alloc 53 [(.val (.string (⟨#[]⟩ : ByteArray))), (.val (.int .i64 0))], none, []⟩,
      ⟨none, .store 53 2 (.t 4) (.t 13), none, []⟩])
    (.block 2
      (.seq
      (.region false [4, 8, 9, 10, 14] [
        ⟨some 15, .fa 53 0 0 1 (.t 4), none, []⟩,
        ⟨some 16, .load 9 false 1 (.t 15), none, []⟩,
        ⟨some 17, .call 60 [(.t 16)], none, []⟩,
        ⟨some 18, .un .not (.t 17), none, []⟩,
        ⟨some 14, .asg (.t 18), none, []⟩])
      (.cond (.t 14)
        (.seq
        (.region false [2] [
          ⟨some 2, .asg (.c (.int .i64 5)), none, []⟩])
        .ret)
        (.seq
        (.region false [8, 9, 10, 19] [
          ⟨some 20, .fa 53 1 1 1 (.t 4), none, []⟩,
          ⟨some 21, .load 2 false 1 (.t 20), none, []⟩,
          ⟨some 22, .call 59 [(.t 21), (.c (.int .i64 1)), (.c (.int .i64 9999))], none, []⟩,
          ⟨some 23, .un .not (.t 22), none, []⟩,
          ⟨some 19, .asg (.t 23), none, []⟩])
        (.cond (.t 19)
          (.seq
          (.region false [2] [
            ⟨some 2, .asg (.c (.int .i64 3)), none, []⟩])
          .ret)
          .skip)))))))
  (.region false [8, 9, 10] [
    ⟨some 24, .bin false .add 3 (.t 10) (.c (.int .i64 1)), none, []⟩,
    ⟨some 10, .mov (.t 24), none, []⟩]))))
def l19_0 : VC := .loop b19_0
/-- loop.example/g00539/impl.WindowFault -/
def v19 : VFun := {
  code :=
    (.seq
    (.region false [0] [
      ⟨some 2, .asg (.c (.int .i64 0)), none, []⟩])
    (.seq
    (.seq
    (.region false [0, 7] [
      ⟨some 5, .mov (.t 0), none, []⟩,
      ⟨some 6, .len false 32 (.t 5), none, []⟩,
      ⟨some 7, .bin false .gtr 3 (.t 6) (.c (.int .i64 12)), none, []⟩])
    (.cond (.t 7)
      (.seq
      (.region false [2] [
        ⟨some 2, .asg (.c (.int .i64 2)), none, []⟩])
      .ret)
      .skip))
    (.seq
    (.seq
    (.region false [8, 9, 10] [
      ⟨some 8, .mov (.t 0), none, []⟩,
      ⟨some 9, .len false 32 (.t 8), none, []⟩,
      ⟨some 10, .mov (.c (.int .i64 0)), none, []⟩])
    (.block 0
      l19_0))
    (.seq
    (.region false [2] [
      ⟨some 2, .asg (.c (.int .i64 0)), none, []⟩])
    .ret))))
  modes := [.lend]
  rets := [⟨2, none⟩] }

def b20_0 : VC :=
  (.seq
  (.seq
  (.region false [0, 1, 5, 14] [
    ⟨some 11, .mov (.t 5), none, []⟩,
    ⟨some 12, .mov (.t 0), none, []⟩,
    ⟨some 13, .len false 32 (.t 12), none, []⟩,
    ⟨some 14, .bin false .lss 3 (.t 11) (.t 13), none, []⟩])
  (.cond (.t 14)
    .skip
    (.exit 0)))
  (.seq
  (.block 1
    (.seq
    (.region true [0, 1, 5, 26] [
      ⟨some 17, .mov (.t 0), none, []⟩,
      ⟨some 18, .mov (.t 5), none, [0]⟩,
      ⟨some 19, .ia 32 53 2 (.t 17) (.t 18), none, []⟩,
      ⟨some 20, .load 53 true 2 (.t 19), none, []⟩,
      ⟨some 21, .mov (.t 1), none, [0, 1, 2, 3]⟩,
      ⟨some 22, .mov (.t 5), none, [0, 1, 2, 3, 4]⟩,
      ⟨some 23, .ia 32 53 2 (.t 21) (.t 22), none, [0, 1, 2, 3]⟩,
      ⟨some 24, .load 53 true 2 (.t 23), none, [0, 1, 2, 3]⟩,
      ⟨some 25, .call 64 [(.t 20), (.t 24)], none, []⟩,
      ⟨some 26, .un .not (.t 25), none, []⟩])
    (.cond (.t 26)
      (.seq
      (.region false [4] [
        ⟨some 4, .asg (.c (.bool false)), none, []⟩])
      .ret)
      .skip)))
  (.region false [0, 1, 5] [
    ⟨some 15, .mov (.t 5), none, []⟩,
    ⟨some 16, .bin false .add 3 (.t 15) (.c (.int .i64 1)), none, []⟩,
    ⟨some 5, .asg (.t 16), none, []⟩])))
def l20_0 : VC := .loop b20_0
/-- loop.example/g00539/laws.eqWeightS -/
def v20 : VFun := {
  code :=
    (.seq
    (.region false [0, 1] [
      ⟨some 4, .asg (.c (.bool false)), none, []⟩])
    (.seq
    (.seq
    (.region false [0, 1, 10] [
      ⟨some 6, .mov (.t 0), none, []⟩,
      ⟨some 7, .len false 32 (.t 6), none, []⟩,
      ⟨some 8, .mov (.t 1), none, []⟩,
      ⟨some 9, .len false 32 (.t 8), none, []⟩,
      ⟨some 10, .bin false .neq 3 (.t 7) (.t 9), none, []⟩])
    (.cond (.t 10)
      (.seq
      (.region false [4] [
        ⟨some 4, .asg (.c (.bool false)), none, []⟩])
      .ret)
      .skip))
    (.seq
    (.seq
    (.region false [0, 1, 5] [
      ⟨some 5, .asg (.c (.int .i64 0)), none, []⟩])
    (.block 0
      l20_0))
    (.seq
    (.region false [4] [
      ⟨some 4, .asg (.c (.bool true)), none, []⟩])
    .ret))))
  modes := [.lend, .lend]
  rets := [⟨4, none⟩] }

/-- loop.example/g00539/laws.szWeight -/
def v29 : VFun := {
  code :=
    (.seq
    (.region false [1, 2] [
      ⟨some 2, .box 48 (.t 0), none, []⟩,
      ⟨some 4, .asg (.c (.int .i64 0)), none, []⟩])
    (.seq
    (.region false [1] [
      ⟨some 5, .mov (.t 1), none, []⟩,
      ⟨some 6, .fa 48 0 0 1 (.t 2), none, []⟩,
      ⟨some 7, .load 9 false 1 (.t 6), none, []⟩,
      ⟨some 8, .len true 9 (.t 7), none, []⟩,
      ⟨some 9, .bin false .sub 3 (.t 5) (.t 8), none, []⟩,
      ⟨some 1, .asg (.t 9), none, []⟩])
    (.seq
    (.seq
    (.region false [1, 11] [
      ⟨some 10, .mov (.t 1), none, []⟩,
      ⟨some 11, .bin false .lss 3 (.t 10) (.c (.int .i64 0)), none, []⟩])
    (.cond (.t 11)
      (.seq
      (.region false [4] [
        ⟨some 4, .asg (.c (.int .i64 (-1))), none, []⟩])
      .ret)
      .skip))
    (.seq
    (.region false [4] [
      ⟨some 12, .mov (.t 1), none, []⟩,
      ⟨some 4, .asg (.t 12), none, []⟩])
    .ret))))
  modes := [.lend, .lend]
  rets := [⟨4, none⟩] }

/-- loop.example/g00539/spec.PushWeight -/
def v30 : VFun := {
  code :=
    (.seq
    (.region false [0, 2, 4, 6] [
      ⟨some 4, .box 53 (.t 1), none, []⟩,
      ⟨some 6, .alloc 51 [(.val (.int .i64 0)), (.nl 2)], none, []⟩])
    (.seq
    (.seq
    (.region false [0, 2, 4, 6, 7] [
      ⟨some 9, .mov (.t 0), none, []⟩,
      ⟨some 10, .call 63 [(.t 9)], none, []⟩,
      ⟨some 7, .asg (.t 10), none, []⟩])
    (.seq
    (.region false [0, 2, 4, 6, 7, 12] [
      ⟨some 11, .mov (.t 7), none, []⟩,
      ⟨some 12, .bin false .neq 2 (.t 11) (.c (.int .i64 0)), none, []⟩])
    (.cond (.t 12)
      (.seq
      (.region false [6] [
        ⟨some 13, .mov (.t 7), none, []⟩,
        ⟨some 14, .build 51 [(.val (.int .i64 0)), (.nl 2)] [(0, 0, 1, (.t 13))], none, []⟩,
        ⟨none, .store 51 2 (.t 6) (.t 14), none, []⟩])
      .ret)
      .skip)))
    (.seq
    (.seq
    (.region false [0, 2, 4, 6, 8] [
      ⟨some 15, .call 71 [(.t 4)], none, []⟩,
      ⟨some 8, .asg (.t 15), none, []⟩])
    (.seq
    (.region false [0, 2, 4, 6, 8, 17] [
      ⟨some 16, .mov (.t 8), none, []⟩,
      ⟨some 17, .bin false .neq 2 (.t 16) (.c (.int .i64 0)), none, []⟩])
    (.cond (.t 17)
      (.seq
      (.region false [6] [
        ⟨some 18, .mov (.t 8), none, []⟩,
        ⟨some 19, .build 51 [(.val (.int .i64 0)), (.nl 2)] [(0, 0, 1, (.t 18))], none, []⟩,
        ⟨none, .store 51 2 (.t 6) (.t 19), none, []⟩])
      .ret)
      .skip)))
    (.seq
    (.seq
    (.region false [0, 2, 4, 6, 22] [
      ⟨some 20, .mov (.t 2), none, []⟩,
      ⟨some 21, .call 72 [(.t 20), (.c (.int .i64 1)), (.c (.int .i64 12))], none, []⟩,
      ⟨some 22, .un .not (.t 21), none, []⟩])
    (.cond (.t 22)
      (.seq
      (.region false [6] [
        ⟨some 23, .build 51 [(.val (.int .i64 0)), (.nl 2)] [(0, 0, 1, (.c (.int .i64 3)))], none, []⟩,
        ⟨none, .store 51 2 (.t 6) (.t 23), none, []⟩])
      .ret)
      .skip))
    (.seq
    (.region false [6] [
      ⟨some 24, .mov (.t 0), none, []⟩,
      ⟨some 25, .load 53 true 2 (.t 4), none, []⟩,
      ⟨some 26, .mov (.t 2), none, []⟩,
      ⟨some 27, .call 73 [(.t 24), (.t 25), (.t 26)], none, []⟩,
      ⟨some 28, .build 51 [(.val (.int .i64 0)), (.nl 2)] [(1, 1, 1, (.t 27))], none, []⟩,
      ⟨none, .store 51 2 (.t 6) (.t 28), none, []⟩])
    .ret)))))
  modes := [.lend, .lend, .lend]
  rets := [⟨6, some (true, 2)⟩] }

/-- loop.example/g00539/laws.toWeight -/
def v31 : VFun := {
  code :=
    (.seq
    (.region false [1, 2] [
      ⟨some 1, .box 48 (.t 0), none, []⟩,
      ⟨some 2, .alloc 53 [(.val (.string (⟨#[]⟩ : ByteArray))), (.val (.int .i64 0))], none, []⟩])
    (.seq
    (.region false [1, 2, 3] [
      ⟨some 3, .alloc 53 [(.val (.string (⟨#[]⟩ : ByteArray))), (.val (.int .i64 0))], none, []⟩])
    (.seq
    (.region false [1, 2, 3] [
      ⟨some 4, .fa 48 0 0 1 (.t 1), none, []⟩,
      ⟨some 5, .load 9 false 1 (.t 4), none, []⟩,
      ⟨some 6, .fa 53 0 0 1 (.t 3), none, []⟩,
      ⟨none, .store 9 1 (.t 6) (.t 5), none, []⟩])
    (.seq
    (.region false [2, 3] [
      ⟨some 7, .fa 48 1 1 1 (.t 1), none, []⟩,
      ⟨some 8, .load 2 false 1 (.t 7), none, []⟩,
      ⟨some 9, .fa 53 1 1 1 (.t 3), none, []⟩,
      ⟨none, .store 2 1 (.t 9) (.t 8), none, []⟩])
    (.seq
    (.region false [2] [
      ⟨some 10, .load 53 true 2 (.t 3), none, []⟩,
      ⟨none, .store 53 2 (.t 2) (.t 10), none, []⟩])
    .ret)))))
  modes := [.lend]
  rets := [⟨2, some (true, 2)⟩] }

/-- loop.example/g00539/impl.PushWeight -/
def v32 : VFun := {
  code :=
    (.seq
    (.region false [0, 2, 4, 6] [
      ⟨some 4, .box 53 (.t 1), none, []⟩,
      ⟨some 6, .alloc 51 [(.val (.int .i64 0)), (.nl 2)], none, []⟩])
    (.seq
    (.seq
    (.region false [0, 2, 4, 6, 7] [
      ⟨some 10, .mov (.t 0), none, []⟩,
      ⟨some 11, .call 19 [(.t 10)], none, []⟩,
      ⟨some 7, .asg (.t 11), none, []⟩])
    (.seq
    (.region false [0, 2, 4, 6, 7, 13] [
      ⟨some 12, .mov (.t 7), none, []⟩,
      ⟨some 13, .bin false .neq 2 (.t 12) (.c (.int .i64 0)), none, []⟩])
    (.cond (.t 13)
      (.seq
      (.region false [6] [
        ⟨some 14, .mov (.t 7), none, []⟩,
        ⟨some 15, .build 51 [(.val (.int .i64 0)), (.nl 2)] [(0, 0, 1, (.t 14))], none, []⟩,
        ⟨none, .store 51 2 (.t 6) (.t 15), none, []⟩])
      .ret)
      .skip)))
    (.seq
    (.seq
    (.region false [0, 2, 4, 6, 8] [
      ⟨some 16, .load 53 true 2 (.t 4), none, []⟩,
      ⟨some 17, .lit 32 53 2 1 [(.val (.string (⟨#[]⟩ : ByteArray))), (.val (.int .i64 0))] [(0, (.t 16))], none, []⟩,
      ⟨some 18, .call 19 [(.t 17)], none, []⟩,
      ⟨some 8, .asg (.t 18), none, []⟩])
    (.seq
    (.region false [0, 2, 4, 6, 8, 20] [
      ⟨some 19, .mov (.t 8), none, []⟩,
      ⟨some 20, .bin false .neq 2 (.t 19) (.c (.int .i64 0)), none, []⟩])
    (.cond (.t 20)
      (.seq
      (.region false [6] [
        ⟨some 21, .mov (.t 8), none, []⟩,
        ⟨some 22, .build 51 [(.val (.int .i64 0)), (.nl 2)] [(0, 0, 1, (.t 21))], none, []⟩,
        ⟨none, .store 51 2 (.t 6) (.t 22), none, []⟩])
      .ret)
      .skip)))
    (.seq
    (.seq
    (.region false [0, 2, 4, 6, 25] [
      ⟨some 23, .mov (.t 2), none, []⟩,
      ⟨some 24, .call 59 [(.t 23), (.c (.int .i64 1)), (.c (.int .i64 12))], none, []⟩,
      ⟨some 25, .un .not (.t 24), none, []⟩])
    (.cond (.t 25)
      (.seq
      (.region false [6] [
        ⟨some 26, .build 51 [(.val (.int .i64 0)), (.nl 2)] [(0, 0, 1, (.c (.int .i64 3)))], none, []⟩,
        ⟨none, .store 51 2 (.t 6) (.t 26), none, []⟩])
      .ret)
      .skip))
    (.seq
    (.region true [2, 6, 9, 31] [
      ⟨some 27, .mov (.t 0), none, []⟩,
      ⟨some 28, .call 74 [(.t 27)], none, []⟩,
      ⟨some 29, .load 53 true 2 (.t 4), none, [0, 1]⟩,
      ⟨some 30, .lit 32 53 2 1 [(.val (.string (⟨#[]⟩ : ByteArray))), (.val (.int .i64 0))] [(0, (.t 29))], none, [0, 1]⟩,
      ⟨some 31, .app 32 53 2 24 (.t 28) (.t 30), none, []⟩,
      ⟨some 9, .asg (.t 31), none, []⟩])
    (.seq
    (.region false [6] [
      ⟨some 32, .mov (.t 9), none, []⟩,
      ⟨some 33, .mov (.t 9), none, []⟩,
      ⟨some 34, .len false 32 (.t 33), none, []⟩,
      ⟨some 35, .mov (.t 2), none, []⟩,
      ⟨some 36, .bin false .sub 3 (.t 34) (.t 35), none, []⟩,
      ⟨some 37, .mm true (.t 36) (.c (.int .i64 0)), none, []⟩,
      ⟨some 38, .cut 32 (some 53) 2 (.t 32) (some (.t 37)) none, none, []⟩,
      ⟨some 39, .call 74 [(.t 38)], none, []⟩,
      ⟨some 40, .build 51 [(.val (.int .i64 0)), (.nl 2)] [(0, 0, 1, (.c (.int .i64 0))), (1, 1, 1, (.t 39))], none, []⟩,
      ⟨none, .store 51 2 (.t 6) (.t 40), none, []⟩])
    .ret))))))
  modes := [.lend, .lend, .lend]
  rets := [⟨6, some (true, 2)⟩] }

/-- loop.example/g00539/laws.eqWeightsResult -/
def v33 : VFun := {
  code :=
    (.seq
    (.region false [2, 3] [
      ⟨some 2, .box 51 (.t 0), none, []⟩,
      ⟨some 3, .box 51 (.t 1), none, []⟩,
      ⟨some 4, .asg (.c (.bool false)), none, []⟩])
    (.seq
    (.seq
    (.region false [2, 3, 9] [
      ⟨some 5, .fa 51 0 0 1 (.t 2), none, []⟩,
      ⟨some 6, .load 2 false 1 (.t 5), none, []⟩,
      ⟨some 7, .fa 51 0 0 1 (.t 3), none, []⟩,
      ⟨some 8, .load 2 false 1 (.t 7), none, []⟩,
      ⟨some 9, .bin false .neq 2 (.t 6) (.t 8), none, []⟩])
    (.cond (.t 9)
      (.seq
      (.region false [4] [
        ⟨some 4, .asg (.c (.bool false)), none, []⟩])
      .ret)
      .skip))
    (.seq
    (.seq
    (.region false [15] [
      ⟨some 10, .fa 51 1 1 1 (.t 2), none, []⟩,
      ⟨some 11, .load 32 false 1 (.t 10), none, []⟩,
      ⟨some 12, .fa 51 1 1 1 (.t 3), none, []⟩,
      ⟨some 13, .load 32 false 1 (.t 12), none, []⟩,
      ⟨some 14, .call 20 [(.t 11), (.t 13)], none, []⟩,
      ⟨some 15, .un .not (.t 14), none, []⟩])
    (.cond (.t 15)
      (.seq
      (.region false [4] [
        ⟨some 4, .asg (.c (.bool false)), none, []⟩])
      .ret)
      .skip))
    (.seq
    (.region false [4] [
      ⟨some 4, .asg (.c (.bool true)), none, []⟩])
    .ret))))
  modes := [.lend, .lend]
  rets := [⟨4, none⟩] }

def b34_0 : VC :=
  (.seq
  (.seq
  (.region false [0, 1, 5, 9] [
    ⟨some 6, .mov (.t 5), none, []⟩,
    ⟨some 7, .mov (.t 0), none, []⟩,
    ⟨some 8, .len false 32 (.t 7), none, []⟩,
    ⟨some 9, .bin false .lss 3 (.t 6) (.t 8), none, []⟩])
  (.cond (.t 9)
    .skip
    (.exit 0)))
  (.seq
  (.block 1
    (.seq
    (.region false [0, 1, 5] [
      ⟨some 12, .mov (.t 0), none, []⟩,
      ⟨some 13, .mov (.t 5), none, []⟩,
      ⟨some 14, .mov (.t 1), none, []⟩,
      ⟨some 15, .call 75 [(.t 14)], none, []⟩,
      ⟨some 16, .ia 32 53 2 (.t 12) (.t 13), none, []⟩,
      ⟨some 17, .fa 53 0 0 1 (.t 16), none, []⟩,
      ⟨none, .store 9 1 (.t 17) (.t 15), none, []⟩])
    (.seq
    (.region false [0, 1, 5] [
      ⟨some 18, .mov (.t 1), none, []⟩,
      ⟨some 19, .bin false .add 3 (.t 18) (.c (.int .i64 1)), none, []⟩,
      ⟨some 1, .asg (.t 19), none, []⟩])
    (.seq
    (.region false [0, 1, 5] [
      ⟨some 20, .mov (.t 0), none, []⟩,
      ⟨some 21, .mov (.t 5), none, []⟩,
      ⟨some 22, .mov (.t 1), none, []⟩,
      ⟨some 23, .ia 32 53 2 (.t 20) (.t 21), none, []⟩,
      ⟨some 24, .fa 53 1 1 1 (.t 23), none, []⟩,
      ⟨none, .store 2 1 (.t 24) (.t 22), none, []⟩])
    (.region false [0, 1, 5] [
      ⟨some 25, .mov (.t 1), none, []⟩,
      ⟨some 26, .bin false .add 3 (.t 25) (.c (.int .i64 1)), none, []⟩,
      ⟨some 1, .asg (.t 26), none, []⟩])))))
  (.region false [0, 1, 5] [
    ⟨some 10, .mov (.t 5), none, []⟩,
    ⟨some 11, .bin false .add 3 (.t 10) (.c (.int .i64 1)), none, []⟩,
    ⟨some 5, .asg (.t 11), none, []⟩])))
def l34_0 : VC := .loop b34_0
/-- loop.example/g00539/laws.markWeightS -/
def v34 : VFun := {
  code :=
    (.seq
    (.region false [0, 1] [
      ⟨some 4, .asg (.c (.int .i64 0)), none, []⟩])
    (.seq
    (.seq
    (.region false [0, 1, 5] [
      ⟨some 5, .asg (.c (.int .i64 0)), none, []⟩])
    (.block 0
      l34_0))
    (.seq
    (.region false [0, 4] [
      ⟨some 27, .mov (.t 1), none, []⟩,
      ⟨some 4, .asg (.t 27), none, []⟩])
    .ret)))
  modes := [.io, .lend]
  rets := [⟨4, none⟩] }

/-- loop.example/g00539/laws.markWeightsResult -/
def v35 : VFun := {
  code :=
    (.seq
    (.region false [0, 1, 2] [
      ⟨some 2, .box 51 (.t 0), none, []⟩,
      ⟨some 4, .asg (.c (.int .i64 0)), none, []⟩])
    (.seq
    (.region false [0, 1, 2] [
      ⟨some 5, .fa 51 1 1 1 (.t 2), none, []⟩,
      ⟨some 6, .load 32 false 1 (.t 5), none, []⟩,
      ⟨some 7, .mov (.t 1), none, []⟩,
      ⟨some 8, .call 34 [(.t 6), (.t 7)], none, []⟩,
      ⟨some 1, .asg (.t 8), none, []⟩])
    (.seq
    (.region false [0, 2, 4] [
      ⟨some 9, .mov (.t 1), none, []⟩,
      ⟨some 4, .asg (.t 9), none, []⟩])
    .ret)))
  modes := [.io, .lend]
  rets := [⟨4, none⟩] }

/-- loop.example/g00539/laws.heldWeightsResult -/
def v36 : VFun := {
  code :=
    (.seq
    (.region false [1, 2] [
      ⟨some 2, .box 51 (.t 0), none, []⟩,
      ⟨some 4, .asg (.c (.int .i64 0)), none, []⟩])
    (.seq
    (.region false [1] [
      ⟨some 5, .fa 51 1 1 1 (.t 2), none, []⟩,
      ⟨some 6, .load 32 false 1 (.t 5), none, []⟩,
      ⟨some 7, .mov (.t 1), none, []⟩,
      ⟨some 8, .call 76 [(.t 6), (.t 7)], none, []⟩,
      ⟨some 1, .asg (.t 8), none, []⟩])
    (.seq
    (.seq
    (.region false [1, 10] [
      ⟨some 9, .mov (.t 1), none, []⟩,
      ⟨some 10, .bin false .lss 3 (.t 9) (.c (.int .i64 0)), none, []⟩])
    (.cond (.t 10)
      (.seq
      (.region false [4] [
        ⟨some 4, .asg (.c (.int .i64 (-1))), none, []⟩])
      .ret)
      .skip))
    (.seq
    (.region false [4] [
      ⟨some 11, .mov (.t 1), none, []⟩,
      ⟨some 4, .asg (.t 11), none, []⟩])
    .ret))))
  modes := [.lend, .lend]
  rets := [⟨4, none⟩] }

/-- loop.example/g00539/impl.in -/
def v59 : VFun := {
  code :=
    (.seq
    (.region false [0, 1, 2] [
      ⟨some 6, .asg (.c (.bool false)), none, []⟩])
    (.seq
    (.region false [6] [
      ⟨some 7, .mov (.t 0), none, []⟩,
      ⟨some 8, .mov (.t 1), none, []⟩,
      ⟨some 9, .bin false .geq 2 (.t 7) (.t 8), none, []⟩,
      ⟨some 10, .mov (.t 9), none, []⟩,
      ⟨some 11, .mov (.t 0), some (10, true), []⟩,
      ⟨some 12, .mov (.t 2), some (10, true), []⟩,
      ⟨some 13, .bin false .leq 2 (.t 11) (.t 12), some (10, true), []⟩,
      ⟨some 14, .pick (.t 10) (.t 13) (.c (.bool false)), none, []⟩,
      ⟨some 6, .asg (.t 14), none, []⟩])
    .ret))
  modes := [.lend, .lend, .lend]
  rets := [⟨6, none⟩] }

/-- loop.example/g00539/impl.workerOk -/
def v60 : VFun := {
  code :=
    (.seq
    (.region false [0] [
      ⟨some 2, .asg (.c (.bool false)), none, []⟩])
    (.seq
    (.region false [2] [
      ⟨some 3, .mov (.t 0), none, []⟩,
      ⟨some 4, .bin false .neq 9 (.t 3) (.c (.string (⟨#[]⟩ : ByteArray))), none, []⟩,
      ⟨some 5, .mov (.t 4), none, []⟩,
      ⟨some 6, .mov (.t 0), some (5, true), []⟩,
      ⟨some 7, .call 95 [(.t 6)], some (5, true), []⟩,
      ⟨some 8, .pick (.t 5) (.t 7) (.c (.bool false)), none, []⟩,
      ⟨some 2, .asg (.t 8), none, []⟩])
    .ret))
  modes := [.lend]
  rets := [⟨2, none⟩] }

def b63_0 : VC :=
  (.seq
  (.seq
  (.region false [0, 3, 11] [
    ⟨some 8, .mov (.t 3), none, []⟩,
    ⟨some 9, .mov (.t 0), none, []⟩,
    ⟨some 10, .len false 32 (.t 9), none, []⟩,
    ⟨some 11, .bin false .lss 3 (.t 8) (.t 10), none, []⟩])
  (.cond (.t 11)
    .skip
    (.exit 0)))
  (.seq
  (.block 1
    (.seq
    (.region false [0, 3, 4] [
      ⟨some 14, .mov (.t 0), none, []⟩,
      ⟨some 15, .mov (.t 3), none, []⟩,
      ⟨some 16, .ia 32 53 2 (.t 14) (.t 15), none, []⟩,
      ⟨some 17, .call 71 [(.t 16)], none, []⟩,
      ⟨some 4, .asg (.t 17), none, []⟩])
    (.seq
    (.region false [0, 3, 4, 19] [
      ⟨some 18, .mov (.t 4), none, []⟩,
      ⟨some 19, .bin false .neq 2 (.t 18) (.c (.int .i64 0)), none, []⟩])
    (.cond (.t 19)
      (.seq
      (.region false [2] [
        ⟨some 20, .mov (.t 4), none, []⟩,
        ⟨some 2, .asg (.t 20), none, []⟩])
      .ret)
      .skip))))
  (.region false [0, 3] [
    ⟨some 12, .mov (.t 3), none, []⟩,
    ⟨some 13, .bin false .add 3 (.t 12) (.c (.int .i64 1)), none, []⟩,
    ⟨some 3, .asg (.t 13), none, []⟩])))
def l63_0 : VC := .loop b63_0
/-- loop.example/g00539/spec.l13Fault -/
def v63 : VFun := {
  code :=
    (.seq
    (.region false [0] [
      ⟨some 2, .asg (.c (.int .i64 0)), none, []⟩])
    (.seq
    (.seq
    (.region false [0, 7] [
      ⟨some 5, .mov (.t 0), none, []⟩,
      ⟨some 6, .len false 32 (.t 5), none, []⟩,
      ⟨some 7, .bin false .gtr 3 (.t 6) (.c (.int .i64 12)), none, []⟩])
    (.cond (.t 7)
      (.seq
      (.region false [2] [
        ⟨some 2, .asg (.c (.int .i64 2)), none, []⟩])
      .ret)
      .skip))
    (.seq
    (.seq
    (.region false [0, 3] [
      ⟨some 3, .asg (.c (.int .i64 0)), none, []⟩])
    (.block 0
      l63_0))
    (.seq
    (.region false [2] [
      ⟨some 2, .asg (.c (.int .i64 0)), none, []⟩])
    .ret))))
  modes := [.lend]
  rets := [⟨2, none⟩] }

/-- loop.example/g00539/laws.eqWeight -/
def v64 : VFun := {
  code :=
    (.seq
    (.region false [2, 3] [
      ⟨some 2, .box 53 (.t 0), none, []⟩,
      ⟨some 3, .box 53 (.t 1), none, []⟩,
      ⟨some 4, .asg (.c (.bool false)), none, []⟩])
    (.seq
    (.seq
    (.region false [2, 3, 9] [
      ⟨some 5, .fa 53 0 0 1 (.t 2), none, []⟩,
      ⟨some 6, .load 9 false 1 (.t 5), none, []⟩,
      ⟨some 7, .fa 53 0 0 1 (.t 3), none, []⟩,
      ⟨some 8, .load 9 false 1 (.t 7), none, []⟩,
      ⟨some 9, .bin false .neq 9 (.t 6) (.t 8), none, []⟩])
    (.cond (.t 9)
      (.seq
      (.region false [4] [
        ⟨some 4, .asg (.c (.bool false)), none, []⟩])
      .ret)
      .skip))
    (.seq
    (.seq
    (.region false [14] [
      ⟨some 10, .fa 53 1 1 1 (.t 2), none, []⟩,
      ⟨some 11, .load 2 false 1 (.t 10), none, []⟩,
      ⟨some 12, .fa 53 1 1 1 (.t 3), none, []⟩,
      ⟨some 13, .load 2 false 1 (.t 12), none, []⟩,
      ⟨some 14, .bin false .neq 2 (.t 11) (.t 13), none, []⟩])
    (.cond (.t 14)
      (.seq
      (.region false [4] [
        ⟨some 4, .asg (.c (.bool false)), none, []⟩])
      .ret)
      .skip))
    (.seq
    (.region false [4] [
      ⟨some 4, .asg (.c (.bool true)), none, []⟩])
    .ret))))
  modes := [.lend, .lend]
  rets := [⟨4, none⟩] }

/-- loop.example/g00539/spec.l13One -/
def v71 : VFun := {
  code :=
    (.seq
    (.region false [0] [
      ⟨some 2, .asg (.c (.int .i64 0)), none, []⟩])
    (.seq
    (.seq
    (.region false [0, 15] [
      ⟨some 3, .mov (.t 0), none, []⟩,
      ⟨some 4, .nilc (.t 3), none, []⟩,
      ⟨some 5, .fa 53 0 0 1 (.t 4), none, []⟩,
      ⟨some 6, .load 9 false 1 (.t 5), none, []⟩,
      ⟨some 7, .bin false .eql 9 (.t 6) (.c (.string (⟨#[]⟩ : ByteArray))), none, []⟩,
      ⟨some 8, .mov (.t 7), none, []⟩,
      ⟨some 9, .mov (.t 0), some (8, false), []⟩,
      ⟨some 10, .nilc (.t 9), some (8, false), []⟩,
      ⟨some 11, .fa 53 0 0 1 (.t 10), some (8, false), []⟩,
      ⟨some 12, .load 9 false 1 (.t 11), some (8, false), []⟩,
      ⟨some 13, .call 93 [(.t 12)], some (8, false), []⟩,
      ⟨some 14, .un .not (.t 13), some (8, false), []⟩,
      ⟨some 15, .pick (.t 8) (.c (.bool true)) (.t 14), none, []⟩])
    (.cond (.t 15)
      (.seq
      (.region false [2] [
        ⟨some 2, .asg (.c (.int .i64 5)), none, []⟩])
      .ret)
      .skip))
    (.seq
    (.seq
    (.region false [21] [
      ⟨some 16, .mov (.t 0), none, []⟩,
      ⟨some 17, .nilc (.t 16), none, []⟩,
      ⟨some 18, .fa 53 1 1 1 (.t 17), none, []⟩,
      ⟨some 19, .load 2 false 1 (.t 18), none, []⟩,
      ⟨some 20, .call 72 [(.t 19), (.c (.int .i64 1)), (.c (.int .i64 9999))], none, []⟩,
      ⟨some 21, .un .not (.t 20), none, []⟩])
    (.cond (.t 21)
      (.seq
      (.region false [2] [
        ⟨some 2, .asg (.c (.int .i64 3)), none, []⟩])
      .ret)
      .skip))
    (.seq
    (.region false [2] [
      ⟨some 2, .asg (.c (.int .i64 0)), none, []⟩])
    .ret))))
  modes := [.lend]
  rets := [⟨2, none⟩] }

/-- loop.example/g00539/spec.l1In -/
def v72 : VFun := {
  code :=
    (.seq
    (.region false [0, 1, 2] [
      ⟨some 6, .asg (.c (.bool false)), none, []⟩])
    (.seq
    (.region false [6] [
      ⟨some 7, .mov (.t 0), none, []⟩,
      ⟨some 8, .mov (.t 1), none, []⟩,
      ⟨some 9, .bin false .geq 2 (.t 7) (.t 8), none, []⟩,
      ⟨some 10, .mov (.t 9), none, []⟩,
      ⟨some 11, .mov (.t 0), some (10, true), []⟩,
      ⟨some 12, .mov (.t 2), some (10, true), []⟩,
      ⟨some 13, .bin false .leq 2 (.t 11) (.t 12), some (10, true), []⟩,
      ⟨some 14, .pick (.t 10) (.t 13) (.c (.bool false)), none, []⟩,
      ⟨some 6, .asg (.t 14), none, []⟩])
    .ret))
  modes := [.lend, .lend, .lend]
  rets := [⟨6, none⟩] }

def b73_0 : VC :=
  (.seq
  (.seq
  (.region false [2, 7, 13, 17] [
    ⟨some 14, .mov (.t 7), none, []⟩,
    ⟨some 15, .len false 32 (.t 14), none, []⟩,
    ⟨some 16, .mov (.t 2), none, []⟩,
    ⟨some 17, .bin false .gtr 2 (.t 15) (.t 16), none, []⟩])
  (.cond (.t 17)
    .skip
    (.exit 0)))
  (.block 1
    (.region false [2, 7, 13] [
      ⟨some 18, .mov (.t 7), none, []⟩,
      ⟨some 19, .cut 32 (some 53) 2 (.t 18) (some (.c (.int .i64 1))) none, none, []⟩,
      ⟨some 7, .asg (.t 19), none, []⟩])))
def l73_0 : VC := .loop b73_0
/-- loop.example/g00539/spec.l13Push -/
def v73 : VFun := {
  code :=
    (.seq
    (.region false [0, 2, 4] [
      ⟨some 4, .box 53 (.t 1), none, []⟩,
      ⟨some 6, .asg (.n 2), none, []⟩])
    (.seq
    (.region true [2, 7, 13] [
      ⟨some 8, .lit 32 53 2 0 [(.val (.string (⟨#[]⟩ : ByteArray))), (.val (.int .i64 0))] [], none, []⟩,
      ⟨some 9, .mov (.t 0), none, [0]⟩,
      ⟨some 10, .app 32 53 2 24 (.t 8) (.t 9), none, []⟩,
      ⟨some 11, .load 53 true 2 (.t 4), none, [0, 1, 2]⟩,
      ⟨some 12, .lit 32 53 2 1 [(.val (.string (⟨#[]⟩ : ByteArray))), (.val (.int .i64 0))] [(0, (.t 11))], none, [0, 1, 2]⟩,
      ⟨some 13, .app 32 53 2 24 (.t 10) (.t 12), none, []⟩,
      ⟨some 7, .asg (.t 13), none, []⟩])
    (.seq
    (.block 0
      l73_0)
    (.seq
    (.region false [6, 22] [
      ⟨some 20, .lit 32 53 2 0 [(.val (.string (⟨#[]⟩ : ByteArray))), (.val (.int .i64 0))] [], none, []⟩,
      ⟨some 21, .mov (.t 7), none, []⟩,
      ⟨some 22, .app 32 53 2 24 (.t 20) (.t 21), none, []⟩,
      ⟨some 6, .asg (.t 22), none, []⟩])
    .ret))))
  modes := [.lend, .lend, .lend]
  rets := [⟨6, none⟩] }

def b75_0 : VC :=
  (.seq
  (.seq
  (.region false [0, 3, 7] [
    ⟨some 6, .mov (.t 0), none, []⟩,
    ⟨some 7, .bin false .gtr 3 (.t 6) (.c (.int .i64 0)), none, []⟩])
  (.cond (.t 7)
    .skip
    (.exit 0)))
  (.block 1
    (.seq
    (.region false [0, 3] [
      ⟨some 8, .mov (.t 0), none, []⟩,
      ⟨some 9, .bin false .rem 3 (.t 8) (.c (.int .i64 10)), none, []⟩,
      ⟨some 10, .bin false .add 3 (.c (.int .i64 48)) (.t 9), none, []⟩,
      ⟨some 11, .conv 3 5 .u8 (.t 10), none, []⟩,
      ⟨some 12, .lit 41 5 1 1 [(.val (.int .u8 0))] [(0, (.t 11))], none, []⟩,
      ⟨some 13, .b2s 41 9 (.t 12), none, []⟩,
      ⟨some 14, .mov (.t 3), none, []⟩,
      ⟨some 15, .bin false .add 9 (.t 13) (.t 14), none, []⟩,
      ⟨some 3, .asg (.t 15), none, []⟩])
    (.region false [0, 3] [
      ⟨some 16, .mov (.t 0), none, []⟩,
      ⟨some 17, .bin false .quo 3 (.t 16) (.c (.int .i64 10)), none, []⟩,
      ⟨some 0, .asg (.t 17), none, []⟩]))))
def l75_0 : VC := .loop b75_0
/-- loop.example/g00539/laws.markText -/
def v75 : VFun := {
  code :=
    (.seq
    (.region false [0] [
      ⟨some 2, .asg (.c (.string (⟨#[]⟩ : ByteArray))), none, []⟩])
    (.seq
    (.seq
    (.region false [0, 5] [
      ⟨some 4, .mov (.t 0), none, []⟩,
      ⟨some 5, .bin false .leq 3 (.t 4) (.c (.int .i64 0)), none, []⟩])
    (.cond (.t 5)
      (.seq
      (.region false [2] [
        ⟨some 2, .asg (.c (.string (⟨#[109, 48]⟩ : ByteArray))), none, []⟩])
      .ret)
      .skip))
    (.seq
    (.region false [0, 3] [
      ⟨some 3, .asg (.c (.string (⟨#[]⟩ : ByteArray))), none, []⟩])
    (.seq
    (.block 0
      l75_0)
    (.seq
    (.region false [2] [
      ⟨some 18, .mov (.t 3), none, []⟩,
      ⟨some 19, .bin false .add 9 (.c (.string (⟨#[109]⟩ : ByteArray))) (.t 18), none, []⟩,
      ⟨some 2, .asg (.t 19), none, []⟩])
    .ret)))))
  modes := [.lend]
  rets := [⟨2, none⟩] }

def b76_0 : VC :=
  (.seq
  (.seq
  (.region false [0, 1, 5, 9] [
    ⟨some 6, .mov (.t 5), none, []⟩,
    ⟨some 7, .mov (.t 0), none, []⟩,
    ⟨some 8, .len false 32 (.t 7), none, []⟩,
    ⟨some 9, .bin false .lss 3 (.t 6) (.t 8), none, []⟩])
  (.cond (.t 9)
    .skip
    (.exit 0)))
  (.seq
  (.block 1
    (.seq
    (.seq
    (.region true [0, 1, 5, 19] [
      ⟨some 12, .mov (.t 0), none, []⟩,
      ⟨some 13, .mov (.t 5), none, [0]⟩,
      ⟨some 14, .ia 32 53 2 (.t 12) (.t 13), none, []⟩,
      ⟨some 15, .fa 53 0 0 1 (.t 14), none, []⟩,
      ⟨some 16, .load 9 false 1 (.t 15), none, []⟩,
      ⟨some 17, .mov (.t 1), none, [0, 1, 2, 3, 4]⟩,
      ⟨some 18, .call 75 [(.t 17)], none, [0, 1, 2, 3, 4]⟩,
      ⟨some 19, .bin false .neq 9 (.t 16) (.t 18), none, []⟩])
    (.cond (.t 19)
      (.seq
      (.region false [4] [
        ⟨some 4, .asg (.c (.int .i64 (-1))), none, []⟩])
      .ret)
      .skip))
    (.seq
    (.region false [0, 1, 5] [
      ⟨some 20, .mov (.t 1), none, []⟩,
      ⟨some 21, .bin false .add 3 (.t 20) (.c (.int .i64 1)), none, []⟩,
      ⟨some 1, .asg (.t 21), none, []⟩])
    (.seq
    (.seq
    (.region false [0, 1, 5, 28] [
      ⟨some 22, .mov (.t 0), none, []⟩,
      ⟨some 23, .mov (.t 5), none, []⟩,
      ⟨some 24, .ia 32 53 2 (.t 22) (.t 23), none, []⟩,
      ⟨some 25, .fa 53 1 1 1 (.t 24), none, []⟩,
      ⟨some 26, .load 2 false 1 (.t 25), none, []⟩,
      ⟨some 27, .mov (.t 1), none, []⟩,
      ⟨some 28, .bin false .neq 2 (.t 26) (.t 27), none, []⟩])
    (.cond (.t 28)
      (.seq
      (.region false [4] [
        ⟨some 4, .asg (.c (.int .i64 (-1))), none, []⟩])
      .ret)
      .skip))
    (.region false [0, 1, 5] [
      ⟨some 29, .mov (.t 1), none, []⟩,
      ⟨some 30, .bin false .add 3 (.t 29) (.c (.int .i64 1)), none, []⟩,
      ⟨some 1, .asg (.t 30), none, []⟩])))))
  (.region false [0, 1, 5] [
    ⟨some 10, .mov (.t 5), none, []⟩,
    ⟨some 11, .bin false .add 3 (.t 10) (.c (.int .i64 1)), none, []⟩,
    ⟨some 5, .asg (.t 11), none, []⟩])))
def l76_0 : VC := .loop b76_0
/-- loop.example/g00539/laws.heldWeightS -/
def v76 : VFun := {
  code :=
    (.seq
    (.region false [0, 1] [
      ⟨some 4, .asg (.c (.int .i64 0)), none, []⟩])
    (.seq
    (.seq
    (.region false [0, 1, 5] [
      ⟨some 5, .asg (.c (.int .i64 0)), none, []⟩])
    (.block 0
      l76_0))
    (.seq
    (.region false [4] [
      ⟨some 31, .mov (.t 1), none, []⟩,
      ⟨some 4, .asg (.t 31), none, []⟩])
    .ret)))
  modes := [.lend, .lend]
  rets := [⟨4, none⟩] }

def b93_0 : VC :=
  (.seq
  (.seq
  (.region false [0, 3, 7] [
    ⟨some 4, .mov (.t 3), none, []⟩,
    ⟨some 5, .mov (.t 0), none, []⟩,
    ⟨some 6, .len true 9 (.t 5), none, []⟩,
    ⟨some 7, .bin false .lss 3 (.t 4) (.t 6), none, []⟩])
  (.cond (.t 7)
    .skip
    (.exit 0)))
  (.seq
  (.block 1
    (.seq
    (.region false [0, 3, 14] [
      ⟨some 10, .mov (.t 0), none, []⟩,
      ⟨some 11, .mov (.t 3), none, []⟩,
      ⟨some 12, .idx 9 (.t 10) (.t 11), none, []⟩,
      ⟨some 13, .call 111 [(.t 12)], none, []⟩,
      ⟨some 14, .un .not (.t 13), none, []⟩])
    (.cond (.t 14)
      (.seq
      (.region false [2] [
        ⟨some 2, .asg (.c (.bool false)), none, []⟩])
      .ret)
      .skip)))
  (.region false [0, 3] [
    ⟨some 8, .mov (.t 3), none, []⟩,
    ⟨some 9, .bin false .add 3 (.t 8) (.c (.int .i64 1)), none, []⟩,
    ⟨some 3, .asg (.t 9), none, []⟩])))
def l93_0 : VC := .loop b93_0
/-- loop.example/g00539/spec.l9Arg -/
def v93 : VFun := {
  code :=
    (.seq
    (.region false [0] [
      ⟨some 2, .asg (.c (.bool false)), none, []⟩])
    (.seq
    (.seq
    (.region false [0, 3] [
      ⟨some 3, .asg (.c (.int .i64 0)), none, []⟩])
    (.block 0
      l93_0))
    (.seq
    (.region false [2] [
      ⟨some 15, .mov (.t 0), none, []⟩,
      ⟨some 16, .len true 9 (.t 15), none, []⟩,
      ⟨some 17, .bin false .leq 3 (.t 16) (.c (.int .i64 12)), none, []⟩,
      ⟨some 2, .asg (.t 17), none, []⟩])
    .ret)))
  modes := [.lend]
  rets := [⟨2, none⟩] }

/-- loop.example/g00539/impl.argOk -/
def v95 : VFun := {
  code :=
    (.seq
    (.region false [0] [
      ⟨some 2, .asg (.c (.bool false)), none, []⟩])
    (.seq
    (.region false [2] [
      ⟨some 3, .mov (.t 0), none, []⟩,
      ⟨some 4, .len true 9 (.t 3), none, []⟩,
      ⟨some 5, .bin false .leq 3 (.t 4) (.c (.int .i64 12)), none, []⟩,
      ⟨some 6, .mov (.t 5), none, []⟩,
      ⟨some 7, .mov (.t 0), some (6, true), []⟩,
      ⟨some 8, .call 112 [(.t 7), (.c (.string (⟨#[97, 98, 99, 100, 101, 102, 103, 104, 105, 106, 107, 108, 109, 110, 111, 112, 113, 114, 115, 116, 117, 118, 119, 120, 121, 122, 65, 66, 67, 68, 69, 70, 71, 72, 73, 74, 75, 76, 77, 78, 79, 80, 81, 82, 83, 84, 85, 86, 87, 88, 89, 90, 48, 49, 50, 51, 52, 53, 54, 55, 56, 57]⟩ : ByteArray)))], some (6, true), []⟩,
      ⟨some 9, .bin false .eql 9 (.t 8) (.c (.string (⟨#[]⟩ : ByteArray))), some (6, true), []⟩,
      ⟨some 10, .pick (.t 6) (.t 9) (.c (.bool false)), none, []⟩,
      ⟨some 2, .asg (.t 10), none, []⟩])
    .ret))
  modes := [.lend]
  rets := [⟨2, none⟩] }

/-- loop.example/g00539/spec.l9Letter -/
def v111 : VFun := {
  code :=
    (.seq
    (.region false [0] [
      ⟨some 2, .asg (.c (.bool false)), none, []⟩])
    (.seq
    (.region false [2] [
      ⟨some 3, .mov (.t 0), none, []⟩,
      ⟨some 4, .bin false .geq 5 (.t 3) (.c (.int .u8 97)), none, []⟩,
      ⟨some 5, .mov (.t 4), none, []⟩,
      ⟨some 6, .mov (.t 0), some (5, true), []⟩,
      ⟨some 7, .bin false .leq 5 (.t 6) (.c (.int .u8 122)), some (5, true), []⟩,
      ⟨some 8, .pick (.t 5) (.t 7) (.c (.bool false)), none, []⟩,
      ⟨some 9, .mov (.t 8), none, []⟩,
      ⟨some 10, .mov (.t 0), some (9, false), []⟩,
      ⟨some 11, .bin false .geq 5 (.t 10) (.c (.int .u8 65)), some (9, false), []⟩,
      ⟨some 12, .mov (.t 11), some (9, false), []⟩,
      ⟨some 13, .mov (.t 0), some (12, true), []⟩,
      ⟨some 14, .bin false .leq 5 (.t 13) (.c (.int .u8 90)), some (12, true), []⟩,
      ⟨some 15, .pick (.t 12) (.t 14) (.c (.bool false)), some (9, false), []⟩,
      ⟨some 16, .pick (.t 9) (.c (.bool true)) (.t 15), none, []⟩,
      ⟨some 17, .mov (.t 16), none, []⟩,
      ⟨some 18, .mov (.t 0), some (17, false), []⟩,
      ⟨some 19, .bin false .geq 5 (.t 18) (.c (.int .u8 48)), some (17, false), []⟩,
      ⟨some 20, .mov (.t 19), some (17, false), []⟩,
      ⟨some 21, .mov (.t 0), some (20, true), []⟩,
      ⟨some 22, .bin false .leq 5 (.t 21) (.c (.int .u8 57)), some (20, true), []⟩,
      ⟨some 23, .pick (.t 20) (.t 22) (.c (.bool false)), some (17, false), []⟩,
      ⟨some 24, .pick (.t 17) (.c (.bool true)) (.t 23), none, []⟩,
      ⟨some 2, .asg (.t 24), none, []⟩])
    .ret))
  modes := [.lend]
  rets := [⟨2, none⟩] }

def tab : List (Nat × VFun) := [(7, v7), (16, v16), (18, v18), (19, v19), (20, v20), (29, v29), (30, v30), (31, v31), (32, v32), (33, v33), (34, v34), (35, v35), (36, v36), (59, v59), (60, v60), (63, v63), (64, v64), (71, v71), (72, v72), (73, v73), (75, v75), (76, v76), (93, v93), (95, v95), (111, v111)]
def F (f : FuncId) : Option VFun := getA none (tab.map fun x => (x.1, some x.2)) f
theorem tab_ok : tab.all (fun x => matchFun Tryd.prog x.1 x.2) = true := by kernel_rfl
theorem F_mem {f : FuncId} {fn : VFun} : ∀ {l : List (Nat × VFun)}, getA none (l.map fun x => (x.1, some x.2)) f = some fn → (f, fn) ∈ l
  | [], h => by simp [getA] at h
  | (k, v) :: l, h => by
    simp only [List.map_cons, getA] at h
    split at h
    · rename_i e
      injection h with h
      subst e; subst h
      exact List.mem_cons_self ..
    · exact List.mem_cons_of_mem _ (F_mem h)
theorem F_ok (f : FuncId) (fn : VFun) (h : F f = some fn) : matchFun Tryd.prog f fn = true := List.all_eq_true.1 tab_ok _ (F_mem h)
end Go.Proofs.YtcbnpfnebinbkaaDoor.PushWeight
