/- V's text of the functions that this law reaches. -/
import Derived.Test.YtdnopbpdiineiaaDoorVCode
import Derived.Test.YtdnopbpdiineiaaDoorRows
import Derived.KernelRfl
namespace Go.Proofs.YtdnopbpdiineiaaDoor.SplitAmount
open Go Go.Proofs.YtdnopbpdiineiaaDoor.V
set_option maxRecDepth 20000

/-- loop.example/g00539/laws.FnExactSplitAmount -/
def v5 : VFun := {
  code :=
    (.seq
    (.region false [0, 1] [
      ⟨some 4, .asg (.c (.bool false)), none, []⟩])
    (.seq
    (.region false [0, 1, 5] [
      ⟨some 5, .asg (.c (.int .i64 1048576)), none, []⟩])
    (.seq
    (.region false [0, 1, 5] [
      ⟨some 13, .mov (.t 1), none, []⟩,
      ⟨some 14, .mov (.t 5), none, []⟩,
      ⟨some 15, .call 27 [(.t 13), (.t 14)], none, []⟩,
      ⟨some 5, .asg (.t 15), none, []⟩])
    (.seq
    (.seq
    (.region false [0, 1, 17] [
      ⟨some 16, .mov (.t 5), none, []⟩,
      ⟨some 17, .bin false .lss 3 (.t 16) (.c (.int .i64 0)), none, []⟩])
    (.cond (.t 17)
      (.seq
      (.region false [4] [
        ⟨some 4, .asg (.c (.bool true)), none, []⟩])
      .ret)
      .skip))
    (.seq
    (.region false [0, 1, 6] [
      ⟨some 18, .mov (.t 0), none, []⟩,
      ⟨some 19, .mov (.t 1), none, []⟩,
      ⟨some 20, .call 29 [(.t 19)], none, []⟩,
      ⟨some 21, .call 28 [(.t 18), (.t 20)], none, []⟩,
      ⟨some 6, .alloc 51 [(.val (.int .i64 0)), (.nl 2)], none, []⟩,
      ⟨none, .store 51 2 (.t 6) (.t 21), none, []⟩])
    (.seq
    (.region false [0, 1, 6, 7, 23] [
      ⟨some 22, .mov (.t 1), none, []⟩,
      ⟨some 23, .call 29 [(.t 22)], none, []⟩,
      ⟨some 7, .asg (.t 23), none, []⟩])
    (.seq
    (.region false [0, 1, 6, 7, 8, 23] [
      ⟨some 24, .mov (.t 0), none, []⟩,
      ⟨some 25, .mov (.t 7), none, []⟩,
      ⟨some 26, .call 30 [(.t 24), (.t 25)], none, []⟩,
      ⟨some 8, .alloc 51 [(.val (.int .i64 0)), (.nl 2)], none, []⟩,
      ⟨none, .store 51 2 (.t 8) (.t 26), none, []⟩])
    (.seq
    (.seq
    (.region false [0, 1, 6, 7, 8, 23, 30] [
      ⟨some 27, .load 51 true 2 (.t 8), none, []⟩,
      ⟨some 28, .load 51 true 2 (.t 6), none, []⟩,
      ⟨some 29, .call 31 [(.t 27), (.t 28)], none, []⟩,
      ⟨some 30, .un .not (.t 29), none, []⟩])
    (.cond (.t 30)
      (.seq
      (.region false [4] [
        ⟨some 4, .asg (.c (.bool false)), none, []⟩])
      .ret)
      .skip))
    (.seq
    (.seq
    (.region false [0, 1, 6, 7, 8, 23, 35] [
      ⟨some 31, .mov (.t 7), none, []⟩,
      ⟨some 32, .mov (.t 1), none, []⟩,
      ⟨some 33, .call 29 [(.t 32)], none, []⟩,
      ⟨some 34, .call 32 [(.t 31), (.t 33)], none, []⟩,
      ⟨some 35, .un .not (.t 34), none, []⟩])
    (.cond (.t 35)
      (.seq
      (.region false [4] [
        ⟨some 4, .asg (.c (.bool false)), none, []⟩])
      .ret)
      .skip))
    (.seq
    (.region false [0, 1, 6, 7, 8, 9, 23] [
      ⟨some 9, .asg (.c (.int .i64 1)), none, []⟩])
    (.seq
    (.region false [0, 1, 6, 8, 9] [
      ⟨some 36, .mov (.t 7), none, []⟩,
      ⟨some 37, .mov (.t 9), none, []⟩,
      ⟨some 38, .call 33 [(.t 36), (.t 37)], none, []⟩,
      ⟨some 9, .asg (.t 38), none, []⟩])
    (.seq
    (.seq
    (.region false [0, 1, 6, 8, 46] [
      ⟨some 39, .mov (.t 9), none, []⟩,
      ⟨some 40, .bin false .lss 3 (.t 39) (.c (.int .i64 0)), none, []⟩,
      ⟨some 41, .mov (.t 40), none, []⟩,
      ⟨some 42, .load 51 true 2 (.t 8), some (41, false), []⟩,
      ⟨some 43, .load 51 true 2 (.t 6), some (41, false), []⟩,
      ⟨some 44, .call 31 [(.t 42), (.t 43)], some (41, false), []⟩,
      ⟨some 45, .un .not (.t 44), some (41, false), []⟩,
      ⟨some 46, .pick (.t 41) (.c (.bool true)) (.t 45), none, []⟩])
    (.cond (.t 46)
      (.seq
      (.region false [4] [
        ⟨some 4, .asg (.c (.bool false)), none, []⟩])
      .ret)
      .skip))
    (.seq
    (.region false [0, 1, 6, 8, 10] [
      ⟨some 10, .asg (.c (.int .i64 1)), none, []⟩])
    (.seq
    (.region false [0, 1, 6, 8, 10] [
      ⟨some 47, .load 51 true 2 (.t 8), none, []⟩,
      ⟨some 48, .mov (.t 10), none, []⟩,
      ⟨some 49, .call 34 [(.t 47), (.t 48)], none, []⟩,
      ⟨some 10, .asg (.t 49), none, []⟩])
    (.seq
    (.region false [0, 1, 6, 8, 10, 11] [
      ⟨some 11, .asg (.c (.int .i64 1)), none, []⟩])
    (.seq
    (.region false [0, 1, 6, 8, 10, 11] [
      ⟨some 50, .load 51 true 2 (.t 8), none, []⟩,
      ⟨some 51, .mov (.t 11), none, []⟩,
      ⟨some 52, .call 35 [(.t 50), (.t 51)], none, []⟩,
      ⟨some 11, .asg (.t 52), none, []⟩])
    (.seq
    (.seq
    (.region false [0, 1, 6, 8, 10, 11, 54] [
      ⟨some 53, .mov (.t 11), none, []⟩,
      ⟨some 54, .bin false .lss 3 (.t 53) (.c (.int .i64 0)), none, []⟩])
    (.cond (.t 54)
      (.seq
      (.region false [4] [
        ⟨some 4, .asg (.c (.bool false)), none, []⟩])
      .ret)
      .skip))
    (.seq
    (.seq
    (.region false [0, 1, 6, 8, 10, 57] [
      ⟨some 55, .mov (.t 11), none, []⟩,
      ⟨some 56, .mov (.t 10), none, []⟩,
      ⟨some 57, .bin false .neq 3 (.t 55) (.t 56), none, []⟩])
    (.cond (.t 57)
      (.seq
      (.region false [4] [
        ⟨some 4, .asg (.c (.bool false)), none, []⟩])
      .ret)
      .skip))
    (.seq
    (.region false [6, 8, 10, 12] [
      ⟨some 58, .mov (.t 0), none, []⟩,
      ⟨some 59, .mov (.t 1), none, []⟩,
      ⟨some 60, .call 29 [(.t 59)], none, []⟩,
      ⟨some 61, .call 30 [(.t 58), (.t 60)], none, []⟩,
      ⟨some 12, .alloc 51 [(.val (.int .i64 0)), (.nl 2)], none, []⟩,
      ⟨none, .store 51 2 (.t 12) (.t 61), none, []⟩])
    (.seq
    (.seq
    (.region false [8, 10, 65] [
      ⟨some 62, .load 51 true 2 (.t 12), none, []⟩,
      ⟨some 63, .load 51 true 2 (.t 6), none, []⟩,
      ⟨some 64, .call 31 [(.t 62), (.t 63)], none, []⟩,
      ⟨some 65, .un .not (.t 64), none, []⟩])
    (.cond (.t 65)
      (.seq
      (.region false [4] [
        ⟨some 4, .asg (.c (.bool false)), none, []⟩])
      .ret)
      .skip))
    (.seq
    (.region false [8, 10, 11] [
      ⟨some 11, .asg (.c (.int .i64 1)), none, []⟩])
    (.seq
    (.region false [10, 11] [
      ⟨some 66, .load 51 true 2 (.t 8), none, []⟩,
      ⟨some 67, .mov (.t 11), none, []⟩,
      ⟨some 68, .call 35 [(.t 66), (.t 67)], none, []⟩,
      ⟨some 11, .asg (.t 68), none, []⟩])
    (.seq
    (.seq
    (.region false [10, 11, 70] [
      ⟨some 69, .mov (.t 11), none, []⟩,
      ⟨some 70, .bin false .lss 3 (.t 69) (.c (.int .i64 0)), none, []⟩])
    (.cond (.t 70)
      (.seq
      (.region false [4] [
        ⟨some 4, .asg (.c (.bool false)), none, []⟩])
      .ret)
      .skip))
    (.seq
    (.seq
    (.region false [73] [
      ⟨some 71, .mov (.t 11), none, []⟩,
      ⟨some 72, .mov (.t 10), none, []⟩,
      ⟨some 73, .bin false .neq 3 (.t 71) (.t 72), none, []⟩])
    (.cond (.t 73)
      (.seq
      (.region false [4] [
        ⟨some 4, .asg (.c (.bool false)), none, []⟩])
      .ret)
      .skip))
    (.seq
    (.region false [4] [
      ⟨some 4, .asg (.c (.bool true)), none, []⟩])
    .ret)))))))))))))))))))))))))
  modes := [.lend, .lend]
  rets := [⟨4, none⟩] }

def b27_0 : VC :=
  (.seq
  (.seq
  (.region false [0, 1, 5, 15] [
    ⟨some 12, .mov (.t 5), none, []⟩,
    ⟨some 13, .mov (.t 0), none, []⟩,
    ⟨some 14, .len false 47 (.t 13), none, []⟩,
    ⟨some 15, .bin false .lss 3 (.t 12) (.t 14), none, []⟩])
  (.cond (.t 15)
    .skip
    (.exit 0)))
  (.seq
  (.block 1
    (.seq
    (.region false [0, 1, 5] [
      ⟨some 18, .mov (.t 0), none, []⟩,
      ⟨some 19, .mov (.t 5), none, []⟩,
      ⟨some 20, .ia 47 108 2 (.t 18) (.t 19), none, []⟩,
      ⟨some 21, .load 108 true 2 (.t 20), none, []⟩,
      ⟨some 22, .mov (.t 1), none, []⟩,
      ⟨some 23, .call 73 [(.t 21), (.t 22)], none, []⟩,
      ⟨some 1, .asg (.t 23), none, []⟩])
    (.seq
    (.region false [0, 1, 5, 25] [
      ⟨some 24, .mov (.t 1), none, []⟩,
      ⟨some 25, .bin false .lss 3 (.t 24) (.c (.int .i64 0)), none, []⟩])
    (.cond (.t 25)
      (.seq
      (.region false [4] [
        ⟨some 4, .asg (.c (.int .i64 (-1))), none, []⟩])
      .ret)
      .skip))))
  (.region false [0, 1, 5] [
    ⟨some 16, .mov (.t 5), none, []⟩,
    ⟨some 17, .bin false .add 3 (.t 16) (.c (.int .i64 1)), none, []⟩,
    ⟨some 5, .asg (.t 17), none, []⟩])))
def l27_0 : VC := .loop b27_0
/-- loop.example/g00539/laws.szWeightS -/
def v27 : VFun := {
  code :=
    (.seq
    (.region false [0, 1] [
      ⟨some 4, .asg (.c (.int .i64 0)), none, []⟩])
    (.seq
    (.region false [0, 1] [
      ⟨some 6, .mov (.t 1), none, []⟩,
      ⟨some 7, .mov (.t 0), none, []⟩,
      ⟨some 8, .len false 47 (.t 7), none, []⟩,
      ⟨some 9, .bin false .sub 3 (.t 6) (.t 8), none, []⟩,
      ⟨some 1, .asg (.t 9), none, []⟩])
    (.seq
    (.seq
    (.region false [0, 1, 11] [
      ⟨some 10, .mov (.t 1), none, []⟩,
      ⟨some 11, .bin false .lss 3 (.t 10) (.c (.int .i64 0)), none, []⟩])
    (.cond (.t 11)
      (.seq
      (.region false [4] [
        ⟨some 4, .asg (.c (.int .i64 (-1))), none, []⟩])
      .ret)
      .skip))
    (.seq
    (.seq
    (.region false [0, 1, 5] [
      ⟨some 5, .asg (.c (.int .i64 0)), none, []⟩])
    (.block 0
      l27_0))
    (.seq
    (.region false [4] [
      ⟨some 26, .mov (.t 1), none, []⟩,
      ⟨some 4, .asg (.t 26), none, []⟩])
    .ret)))))
  modes := [.lend, .lend]
  rets := [⟨4, none⟩] }

/-- loop.example/g00539/spec.SplitAmount -/
def v28 : VFun := {
  code :=
    (.seq
    (.region false [0, 1, 4] [
      ⟨some 4, .alloc 51 [(.val (.int .i64 0)), (.nl 2)], none, []⟩])
    (.seq
    (.seq
    (.region false [0, 1, 4, 5] [
      ⟨some 6, .mov (.t 1), none, []⟩,
      ⟨some 7, .call 74 [(.t 6)], none, []⟩,
      ⟨some 5, .asg (.t 7), none, []⟩])
    (.seq
    (.region false [0, 1, 4, 5, 9] [
      ⟨some 8, .mov (.t 5), none, []⟩,
      ⟨some 9, .bin false .neq 2 (.t 8) (.c (.int .i64 0)), none, []⟩])
    (.cond (.t 9)
      (.seq
      (.region false [4] [
        ⟨some 10, .mov (.t 5), none, []⟩,
        ⟨some 11, .build 51 [(.val (.int .i64 0)), (.nl 2)] [(0, 0, 1, (.t 10))], none, []⟩,
        ⟨none, .store 51 2 (.t 4) (.t 11), none, []⟩])
      .ret)
      .skip)))
    (.seq
    (.seq
    (.region false [0, 1, 4, 14] [
      ⟨some 12, .mov (.t 0), none, []⟩,
      ⟨some 13, .call 75 [(.t 12)], none, []⟩,
      ⟨some 14, .un .not (.t 13), none, []⟩])
    (.cond (.t 14)
      (.seq
      (.region false [4] [
        ⟨some 15, .build 51 [(.val (.int .i64 0)), (.nl 2)] [(0, 0, 1, (.c (.int .i64 3)))], none, []⟩,
        ⟨none, .store 51 2 (.t 4) (.t 15), none, []⟩])
      .ret)
      .skip))
    (.seq
    (.seq
    (.region false [0, 1, 4, 18] [
      ⟨some 16, .mov (.t 1), none, []⟩,
      ⟨some 17, .len false 49 (.t 16), none, []⟩,
      ⟨some 18, .bin false .eql 3 (.t 17) (.c (.int .i64 0)), none, []⟩])
    (.cond (.t 18)
      (.seq
      (.region false [4] [
        ⟨some 19, .build 51 [(.val (.int .i64 0)), (.nl 2)] [(0, 0, 1, (.c (.int .i64 4)))], none, []⟩,
        ⟨none, .store 51 2 (.t 4) (.t 19), none, []⟩])
      .ret)
      .skip))
    (.seq
    (.region false [4] [
      ⟨some 20, .mov (.t 0), none, []⟩,
      ⟨some 21, .mov (.t 1), none, []⟩,
      ⟨some 22, .call 76 [(.t 20), (.t 21)], none, []⟩,
      ⟨some 23, .build 51 [(.val (.int .i64 0)), (.nl 2)] [(1, 1, 1, (.t 22))], none, []⟩,
      ⟨none, .store 51 2 (.t 4) (.t 23), none, []⟩])
    .ret)))))
  modes := [.lend, .lend]
  rets := [⟨4, some (true, 2)⟩] }

def b29_0 : VC :=
  (.seq
  (.seq
  (.region false [0, 3, 4, 7, 11] [
    ⟨some 8, .mov (.t 4), none, []⟩,
    ⟨some 9, .mov (.t 0), none, []⟩,
    ⟨some 10, .len false 47 (.t 9), none, []⟩,
    ⟨some 11, .bin false .lss 3 (.t 8) (.t 10), none, []⟩])
  (.cond (.t 11)
    .skip
    (.exit 0)))
  (.seq
  (.block 1
    (.region false [0, 3, 4, 7] [
      ⟨some 14, .mov (.t 3), none, []⟩,
      ⟨some 15, .mov (.t 4), none, []⟩,
      ⟨some 16, .mov (.t 0), none, []⟩,
      ⟨some 17, .mov (.t 4), none, []⟩,
      ⟨some 18, .ia 47 108 2 (.t 16) (.t 17), none, []⟩,
      ⟨some 19, .load 108 true 2 (.t 18), none, []⟩,
      ⟨some 20, .call 77 [(.t 19)], none, []⟩,
      ⟨some 21, .ia 49 112 2 (.t 14) (.t 15), none, []⟩,
      ⟨none, .store 112 2 (.t 21) (.t 20), none, []⟩]))
  (.region false [0, 3, 4, 7] [
    ⟨some 12, .mov (.t 4), none, []⟩,
    ⟨some 13, .bin false .add 3 (.t 12) (.c (.int .i64 1)), none, []⟩,
    ⟨some 4, .asg (.t 13), none, []⟩])))
def l29_0 : VC := .loop b29_0
/-- loop.example/g00539/laws.toWeightS -/
def v29 : VFun := {
  code :=
    (.seq
    (.region false [0] [
      ⟨some 2, .asg (.n 2), none, []⟩])
    (.seq
    (.region false [0, 3, 7] [
      ⟨some 5, .mov (.t 0), none, []⟩,
      ⟨some 6, .len false 47 (.t 5), none, []⟩,
      ⟨some 7, .mk 49 112 2 24 [(.val (.string (⟨#[]⟩ : ByteArray))), (.val (.int .i64 0))] (.t 6) (.t 6), none, []⟩,
      ⟨some 3, .asg (.t 7), none, []⟩])
    (.seq
    (.seq
    (.region false [0, 3, 4, 7] [
      ⟨some 4, .asg (.c (.int .i64 0)), none, []⟩])
    (.block 0
      l29_0))
    (.seq
    (.region false [2, 3, 7] [
      ⟨some 22, .mov (.t 3), none, []⟩,
      ⟨some 2, .asg (.t 22), none, []⟩])
    .ret))))
  modes := [.lend]
  rets := [⟨2, none⟩] }

/-- loop.example/g00539/impl.SplitAmount -/
def v30 : VFun := {
  code :=
    (.seq
    (.region false [0, 1, 4] [
      ⟨some 4, .alloc 51 [(.val (.int .i64 0)), (.nl 2)], none, []⟩])
    (.seq
    (.seq
    (.region false [0, 1, 4, 5] [
      ⟨some 6, .mov (.t 1), none, []⟩,
      ⟨some 7, .call 78 [(.t 6)], none, []⟩,
      ⟨some 5, .asg (.t 7), none, []⟩])
    (.seq
    (.region false [0, 1, 4, 5, 9] [
      ⟨some 8, .mov (.t 5), none, []⟩,
      ⟨some 9, .bin false .neq 2 (.t 8) (.c (.int .i64 0)), none, []⟩])
    (.cond (.t 9)
      (.seq
      (.region false [4] [
        ⟨some 10, .mov (.t 5), none, []⟩,
        ⟨some 11, .build 51 [(.val (.int .i64 0)), (.nl 2)] [(0, 0, 1, (.t 10))], none, []⟩,
        ⟨none, .store 51 2 (.t 4) (.t 11), none, []⟩])
      .ret)
      .skip)))
    (.seq
    (.block 0
      (.seq
      (.region false [0, 1, 4, 12] [
        ⟨some 13, .mov (.t 0), none, []⟩,
        ⟨some 14, .call 79 [(.t 13)], none, []⟩,
        ⟨some 15, .un .not (.t 14), none, []⟩,
        ⟨some 12, .asg (.t 15), none, []⟩])
      (.cond (.t 12)
        (.seq
        (.region false [4] [
          ⟨some 16, .build 51 [(.val (.int .i64 0)), (.nl 2)] [(0, 0, 1, (.c (.int .i64 3)))], none, []⟩,
          ⟨none, .store 51 2 (.t 4) (.t 16), none, []⟩])
        .ret)
        (.seq
        (.region false [0, 1, 4, 17] [
          ⟨some 18, .mov (.t 1), none, []⟩,
          ⟨some 19, .len false 49 (.t 18), none, []⟩,
          ⟨some 20, .bin false .eql 3 (.t 19) (.c (.int .i64 0)), none, []⟩,
          ⟨some 17, .asg (.t 20), none, []⟩])
        (.cond (.t 17)
          (.seq
          (.region false [4] [
            ⟨some 21, .build 51 [(.val (.int .i64 0)), (.nl 2)] [(0, 0, 1, (.c (.int .i64 4)))], none, []⟩,
            ⟨none, .store 51 2 (.t 4) (.t 21), none, []⟩])
          .ret)
          .skip)))))
    (.seq
    (.region false [4] [
      ⟨some 22, .mov (.t 0), none, []⟩,
      ⟨some 23, .mov (.t 1), none, []⟩,
      ⟨some 24, .call 80 [(.t 22), (.t 23)], none, []⟩,
      ⟨some 25, .build 51 [(.val (.int .i64 0)), (.nl 2)] [(0, 0, 1, (.c (.int .i64 0))), (1, 1, 1, (.t 24))], none, []⟩,
      ⟨none, .store 51 2 (.t 4) (.t 25), none, []⟩])
    .ret))))
  modes := [.lend, .lend]
  rets := [⟨4, some (true, 2)⟩] }

/-- loop.example/g00539/laws.eqWeightsResult -/
def v31 : VFun := {
  code :=
    (.seq
    (.region false [2, 3] [
      ⟨some 2, .box 51 (.t 0), none, []⟩,
      ⟨some 3, .box 51 (.t 1), none, []⟩,
      ⟨some 4, .asg (.c (.bool false)), none, []⟩])
    (.seq
    (.seq
    (.region false [2, 3, 9] [
      ⟨some 5, .fa 51 0 0 1 (.t 2), none, []⟩,
      ⟨some 6, .load 2 false 1 (.t 5), none, []⟩,
      ⟨some 7, .fa 51 0 0 1 (.t 3), none, []⟩,
      ⟨some 8, .load 2 false 1 (.t 7), none, []⟩,
      ⟨some 9, .bin false .neq 2 (.t 6) (.t 8), none, []⟩])
    (.cond (.t 9)
      (.seq
      (.region false [4] [
        ⟨some 4, .asg (.c (.bool false)), none, []⟩])
      .ret)
      .skip))
    (.seq
    (.seq
    (.region false [15] [
      ⟨some 10, .fa 51 1 1 1 (.t 2), none, []⟩,
      ⟨some 11, .load 49 false 1 (.t 10), none, []⟩,
      ⟨some 12, .fa 51 1 1 1 (.t 3), none, []⟩,
      ⟨some 13, .load 49 false 1 (.t 12), none, []⟩,
      ⟨some 14, .call 32 [(.t 11), (.t 13)], none, []⟩,
      ⟨some 15, .un .not (.t 14), none, []⟩])
    (.cond (.t 15)
      (.seq
      (.region false [4] [
        ⟨some 4, .asg (.c (.bool false)), none, []⟩])
      .ret)
      .skip))
    (.seq
    (.region false [4] [
      ⟨some 4, .asg (.c (.bool true)), none, []⟩])
    .ret))))
  modes := [.lend, .lend]
  rets := [⟨4, none⟩] }

def b32_0 : VC :=
  (.seq
  (.seq
  (.region false [0, 1, 5, 14] [
    ⟨some 11, .mov (.t 5), none, []⟩,
    ⟨some 12, .mov (.t 0), none, []⟩,
    ⟨some 13, .len false 49 (.t 12), none, []⟩,
    ⟨some 14, .bin false .lss 3 (.t 11) (.t 13), none, []⟩])
  (.cond (.t 14)
    .skip
    (.exit 0)))
  (.seq
  (.block 1
    (.seq
    (.region true [0, 1, 5, 26] [
      ⟨some 17, .mov (.t 0), none, []⟩,
      ⟨some 18, .mov (.t 5), none, [0]⟩,
      ⟨some 19, .ia 49 112 2 (.t 17) (.t 18), none, []⟩,
      ⟨some 20, .load 112 true 2 (.t 19), none, []⟩,
      ⟨some 21, .mov (.t 1), none, [0, 1, 2, 3]⟩,
      ⟨some 22, .mov (.t 5), none, [0, 1, 2, 3, 4]⟩,
      ⟨some 23, .ia 49 112 2 (.t 21) (.t 22), none, [0, 1, 2, 3]⟩,
      ⟨some 24, .load 112 true 2 (.t 23), none, [0, 1, 2, 3]⟩,
      ⟨some 25, .call 81 [(.t 20), (.t 24)], none, []⟩,
      ⟨some 26, .un .not (.t 25), none, []⟩])
    (.cond (.t 26)
      (.seq
      (.region false [4] [
        ⟨some 4, .asg (.c (.bool false)), none, []⟩])
      .ret)
      .skip)))
  (.region false [0, 1, 5] [
    ⟨some 15, .mov (.t 5), none, []⟩,
    ⟨some 16, .bin false .add 3 (.t 15) (.c (.int .i64 1)), none, []⟩,
    ⟨some 5, .asg (.t 16), none, []⟩])))
def l32_0 : VC := .loop b32_0
/-- loop.example/g00539/laws.eqWeightS -/
def v32 : VFun := {
  code :=
    (.seq
    (.region false [0, 1] [
      ⟨some 4, .asg (.c (.bool false)), none, []⟩])
    (.seq
    (.seq
    (.region false [0, 1, 10] [
      ⟨some 6, .mov (.t 0), none, []⟩,
      ⟨some 7, .len false 49 (.t 6), none, []⟩,
      ⟨some 8, .mov (.t 1), none, []⟩,
      ⟨some 9, .len false 49 (.t 8), none, []⟩,
      ⟨some 10, .bin false .neq 3 (.t 7) (.t 9), none, []⟩])
    (.cond (.t 10)
      (.seq
      (.region false [4] [
        ⟨some 4, .asg (.c (.bool false)), none, []⟩])
      .ret)
      .skip))
    (.seq
    (.seq
    (.region false [0, 1, 5] [
      ⟨some 5, .asg (.c (.int .i64 0)), none, []⟩])
    (.block 0
      l32_0))
    (.seq
    (.region false [4] [
      ⟨some 4, .asg (.c (.bool true)), none, []⟩])
    .ret))))
  modes := [.lend, .lend]
  rets := [⟨4, none⟩] }

def b33_0 : VC :=
  (.seq
  (.seq
  (.region false [0, 1, 5, 9] [
    ⟨some 6, .mov (.t 5), none, []⟩,
    ⟨some 7, .mov (.t 0), none, []⟩,
    ⟨some 8, .len false 49 (.t 7), none, []⟩,
    ⟨some 9, .bin false .lss 3 (.t 6) (.t 8), none, []⟩])
  (.cond (.t 9)
    .skip
    (.exit 0)))
  (.seq
  (.block 1
    (.seq
    (.region false [0, 1, 5] [
      ⟨some 12, .mov (.t 0), none, []⟩,
      ⟨some 13, .mov (.t 5), none, []⟩,
      ⟨some 14, .mov (.t 1), none, []⟩,
      ⟨some 15, .call 82 [(.t 14)], none, []⟩,
      ⟨some 16, .ia 49 112 2 (.t 12) (.t 13), none, []⟩,
      ⟨some 17, .fa 112 0 0 1 (.t 16), none, []⟩,
      ⟨none, .store 9 1 (.t 17) (.t 15), none, []⟩])
    (.seq
    (.region false [0, 1, 5] [
      ⟨some 18, .mov (.t 1), none, []⟩,
      ⟨some 19, .bin false .add 3 (.t 18) (.c (.int .i64 1)), none, []⟩,
      ⟨some 1, .asg (.t 19), none, []⟩])
    (.seq
    (.region false [0, 1, 5] [
      ⟨some 20, .mov (.t 0), none, []⟩,
      ⟨some 21, .mov (.t 5), none, []⟩,
      ⟨some 22, .mov (.t 1), none, []⟩,
      ⟨some 23, .ia 49 112 2 (.t 20) (.t 21), none, []⟩,
      ⟨some 24, .fa 112 1 1 1 (.t 23), none, []⟩,
      ⟨none, .store 2 1 (.t 24) (.t 22), none, []⟩])
    (.region false [0, 1, 5] [
      ⟨some 25, .mov (.t 1), none, []⟩,
      ⟨some 26, .bin false .add 3 (.t 25) (.c (.int .i64 1)), none, []⟩,
      ⟨some 1, .asg (.t 26), none, []⟩])))))
  (.region false [0, 1, 5] [
    ⟨some 10, .mov (.t 5), none, []⟩,
    ⟨some 11, .bin false .add 3 (.t 10) (.c (.int .i64 1)), none, []⟩,
    ⟨some 5, .asg (.t 11), none, []⟩])))
def l33_0 : VC := .loop b33_0
/-- loop.example/g00539/laws.markWeightS -/
def v33 : VFun := {
  code :=
    (.seq
    (.region false [0, 1] [
      ⟨some 4, .asg (.c (.int .i64 0)), none, []⟩])
    (.seq
    (.seq
    (.region false [0, 1, 5] [
      ⟨some 5, .asg (.c (.int .i64 0)), none, []⟩])
    (.block 0
      l33_0))
    (.seq
    (.region false [0, 4] [
      ⟨some 27, .mov (.t 1), none, []⟩,
      ⟨some 4, .asg (.t 27), none, []⟩])
    .ret)))
  modes := [.io, .lend]
  rets := [⟨4, none⟩] }

/-- loop.example/g00539/laws.markWeightsResult -/
def v34 : VFun := {
  code :=
    (.seq
    (.region false [0, 1, 2] [
      ⟨some 2, .box 51 (.t 0), none, []⟩,
      ⟨some 4, .asg (.c (.int .i64 0)), none, []⟩])
    (.seq
    (.region false [0, 1, 2] [
      ⟨some 5, .fa 51 1 1 1 (.t 2), none, []⟩,
      ⟨some 6, .load 49 false 1 (.t 5), none, []⟩,
      ⟨some 7, .mov (.t 1), none, []⟩,
      ⟨some 8, .call 33 [(.t 6), (.t 7)], none, []⟩,
      ⟨some 1, .asg (.t 8), none, []⟩])
    (.seq
    (.region false [0, 2, 4] [
      ⟨some 9, .mov (.t 1), none, []⟩,
      ⟨some 4, .asg (.t 9), none, []⟩])
    .ret)))
  modes := [.io, .lend]
  rets := [⟨4, none⟩] }

/-- loop.example/g00539/laws.heldWeightsResult -/
def v35 : VFun := {
  code :=
    (.seq
    (.region false [1, 2] [
      ⟨some 2, .box 51 (.t 0), none, []⟩,
      ⟨some 4, .asg (.c (.int .i64 0)), none, []⟩])
    (.seq
    (.region false [1] [
      ⟨some 5, .fa 51 1 1 1 (.t 2), none, []⟩,
      ⟨some 6, .load 49 false 1 (.t 5), none, []⟩,
      ⟨some 7, .mov (.t 1), none, []⟩,
      ⟨some 8, .call 83 [(.t 6), (.t 7)], none, []⟩,
      ⟨some 1, .asg (.t 8), none, []⟩])
    (.seq
    (.seq
    (.region false [1, 10] [
      ⟨some 9, .mov (.t 1), none, []⟩,
      ⟨some 10, .bin false .lss 3 (.t 9) (.c (.int .i64 0)), none, []⟩])
    (.cond (.t 10)
      (.seq
      (.region false [4] [
        ⟨some 4, .asg (.c (.int .i64 (-1))), none, []⟩])
      .ret)
      .skip))
    (.seq
    (.region false [4] [
      ⟨some 11, .mov (.t 1), none, []⟩,
      ⟨some 4, .asg (.t 11), none, []⟩])
    .ret))))
  modes := [.lend, .lend]
  rets := [⟨4, none⟩] }

/-- loop.example/g00539/laws.szWeight -/
def v73 : VFun := {
  code :=
    (.seq
    (.region false [1, 2] [
      ⟨some 2, .box 108 (.t 0), none, []⟩,
      ⟨some 4, .asg (.c (.int .i64 0)), none, []⟩])
    (.seq
    (.region false [1] [
      ⟨some 5, .mov (.t 1), none, []⟩,
      ⟨some 6, .fa 108 0 0 1 (.t 2), none, []⟩,
      ⟨some 7, .load 9 false 1 (.t 6), none, []⟩,
      ⟨some 8, .len true 9 (.t 7), none, []⟩,
      ⟨some 9, .bin false .sub 3 (.t 5) (.t 8), none, []⟩,
      ⟨some 1, .asg (.t 9), none, []⟩])
    (.seq
    (.seq
    (.region false [1, 11] [
      ⟨some 10, .mov (.t 1), none, []⟩,
      ⟨some 11, .bin false .lss 3 (.t 10) (.c (.int .i64 0)), none, []⟩])
    (.cond (.t 11)
      (.seq
      (.region false [4] [
        ⟨some 4, .asg (.c (.int .i64 (-1))), none, []⟩])
      .ret)
      .skip))
    (.seq
    (.region false [4] [
      ⟨some 12, .mov (.t 1), none, []⟩,
      ⟨some 4, .asg (.t 12), none, []⟩])
    .ret))))
  modes := [.lend, .lend]
  rets := [⟨4, none⟩] }

def b74_0 : VC :=
  (.seq
  (.seq
  (.region false [0, 3, 11] [
    ⟨some 8, .mov (.t 3), none, []⟩,
    ⟨some 9, .mov (.t 0), none, []⟩,
    ⟨some 10, .len false 49 (.t 9), none, []⟩,
    ⟨some 11, .bin false .lss 3 (.t 8) (.t 10), none, []⟩])
  (.cond (.t 11)
    .skip
    (.exit 0)))
  (.seq
  (.block 1
    (.seq
    (.region false [0, 3, 4] [
      ⟨some 14, .mov (.t 0), none, []⟩,
      ⟨some 15, .mov (.t 3), none, []⟩,
      ⟨some 16, .ia 49 112 2 (.t 14) (.t 15), none, []⟩,
      ⟨some 17, .call 124 [(.t 16)], none, []⟩,
      ⟨some 4, .asg (.t 17), none, []⟩])
    (.seq
    (.region false [0, 3, 4, 19] [
      ⟨some 18, .mov (.t 4), none, []⟩,
      ⟨some 19, .bin false .neq 2 (.t 18) (.c (.int .i64 0)), none, []⟩])
    (.cond (.t 19)
      (.seq
      (.region false [2] [
        ⟨some 20, .mov (.t 4), none, []⟩,
        ⟨some 2, .asg (.t 20), none, []⟩])
      .ret)
      .skip))))
  (.region false [0, 3] [
    ⟨some 12, .mov (.t 3), none, []⟩,
    ⟨some 13, .bin false .add 3 (.t 12) (.c (.int .i64 1)), none, []⟩,
    ⟨some 3, .asg (.t 13), none, []⟩])))
def l74_0 : VC := .loop b74_0
/-- loop.example/g00539/spec.l13Fault -/
def v74 : VFun := {
  code :=
    (.seq
    (.region false [0] [
      ⟨some 2, .asg (.c (.int .i64 0)), none, []⟩])
    (.seq
    (.seq
    (.region false [0, 7] [
      ⟨some 5, .mov (.t 0), none, []⟩,
      ⟨some 6, .len false 49 (.t 5), none, []⟩,
      ⟨some 7, .bin false .gtr 3 (.t 6) (.c (.int .i64 12)), none, []⟩])
    (.cond (.t 7)
      (.seq
      (.region false [2] [
        ⟨some 2, .asg (.c (.int .i64 2)), none, []⟩])
      .ret)
      .skip))
    (.seq
    (.seq
    (.region false [0, 3] [
      ⟨some 3, .asg (.c (.int .i64 0)), none, []⟩])
    (.block 0
      l74_0))
    (.seq
    (.region false [2] [
      ⟨some 2, .asg (.c (.int .i64 0)), none, []⟩])
    .ret))))
  modes := [.lend]
  rets := [⟨2, none⟩] }

/-- loop.example/g00539/spec.l1Amount -/
def v75 : VFun := {
  code :=
    (.seq
    (.region false [0] [
      ⟨some 2, .asg (.c (.bool false)), none, []⟩])
    (.seq
    (.region false [2] [
      ⟨some 3, .mov (.t 0), none, []⟩,
      ⟨some 4, .call 113 [(.t 3), (.c (.int .i64 0)), (.c (.int .i64 1000000))], none, []⟩,
      ⟨some 2, .asg (.t 4), none, []⟩])
    .ret))
  modes := [.lend]
  rets := [⟨2, none⟩] }

def b76_2 : VC :=
  (.seq
  (.seq
  (.region false [7, 8, 9, 12, 13, 18, 19, 45, 57, 68] [
    ⟨some 65, .mov (.t 13), none, []⟩,
    ⟨some 66, .mov (.t 8), none, []⟩,
    ⟨some 67, .len false 156 (.t 66), none, []⟩,
    ⟨some 68, .bin false .lss 3 (.t 65) (.t 67), none, []⟩])
  (.cond (.t 68)
    .skip
    (.exit 4)))
  (.seq
  (.block 5
    (.seq
    (.region true [7, 8, 9, 12, 13, 18, 19, 45, 57, 79] [
      ⟨some 71, .mov (.t 8), none, []⟩,
      ⟨some 72, .mov (.t 13), none, [0]⟩,
      ⟨some 73, .ia 156 2 1 (.t 71) (.t 72), none, []⟩,
      ⟨some 74, .load 2 false 1 (.t 73), none, []⟩,
      ⟨some 75, .mov (.t 8), none, [0, 1, 2, 3]⟩,
      ⟨some 76, .mov (.t 12), none, [0, 1, 2, 3, 4]⟩,
      ⟨some 77, .ia 156 2 1 (.t 75) (.t 76), none, [0, 1, 2, 3]⟩,
      ⟨some 78, .load 2 false 1 (.t 77), none, [0, 1, 2, 3]⟩,
      ⟨some 79, .bin false .gtr 2 (.t 74) (.t 78), none, []⟩])
    (.cond (.t 79)
      (.region false [7, 8, 9, 12, 13, 18, 19, 45, 57] [
        ⟨some 80, .mov (.t 13), none, []⟩,
        ⟨some 12, .asg (.t 80), none, []⟩])
      .skip)))
  (.region false [7, 8, 9, 12, 13, 18, 19, 45, 57] [
    ⟨some 69, .mov (.t 13), none, []⟩,
    ⟨some 70, .bin false .add 3 (.t 69) (.c (.int .i64 1)), none, []⟩,
    ⟨some 13, .asg (.t 70), none, []⟩])))
def l76_2 : VC := .loop b76_2
def b76_1 : VC :=
  (.seq
  (.seq
  (.region false [7, 8, 9, 18, 19, 45, 57, 62] [
    ⟨some 61, .mov (.t 9), none, []⟩,
    ⟨some 62, .bin false .gtr 2 (.t 61) (.c (.int .i64 0)), none, []⟩])
  (.cond (.t 62)
    .skip
    (.exit 2)))
  (.seq
  (.block 3
    (.seq
    (.region false [7, 8, 9, 12, 18, 19, 45, 57] [
      ⟨some 12, .asg (.c (.int .i64 0)), none, []⟩])
    (.seq
    (.seq
    (.region false [7, 8, 9, 12, 13, 18, 19, 45, 57] [
      ⟨some 13, .asg (.c (.int .i64 1)), none, []⟩])
    (.block 4
      l76_2))
    (.seq
    (.region false [7, 8, 9, 12, 18, 19, 45, 57] [
      ⟨some 81, .mov (.t 7), none, []⟩,
      ⟨some 82, .mov (.t 12), none, []⟩,
      ⟨some 83, .ia 49 112 2 (.t 81) (.t 82), none, []⟩,
      ⟨some 84, .fa 112 1 1 1 (.t 83), none, []⟩,
      ⟨some 85, .load 2 false 1 (.t 84), none, []⟩,
      ⟨some 86, .bin false .add 2 (.t 85) (.c (.int .i64 1)), none, []⟩,
      ⟨some 87, .ia 49 112 2 (.t 81) (.t 82), none, []⟩,
      ⟨some 88, .fa 112 1 1 1 (.t 87), none, []⟩,
      ⟨none, .store 2 1 (.t 88) (.t 86), none, []⟩])
    (.region false [7, 8, 9, 18, 19, 45, 57] [
      ⟨some 89, .mov (.t 8), none, []⟩,
      ⟨some 90, .mov (.t 12), none, []⟩,
      ⟨some 91, .ia 156 2 1 (.t 89) (.t 90), none, []⟩,
      ⟨none, .store 2 1 (.t 91) (.c (.int .i64 (-1))), none, []⟩])))))
  (.region false [7, 8, 9, 18, 19, 45, 57] [
    ⟨some 63, .mov (.t 9), none, []⟩,
    ⟨some 64, .bin false .sub 2 (.t 63) (.c (.int .i64 1)), none, []⟩,
    ⟨some 9, .asg (.t 64), none, []⟩])))
def l76_1 : VC := .loop b76_1
def b76_0 : VC :=
  (.seq
  (.seq
  (.region false [0, 5, 6, 7, 8, 9, 10, 15, 18, 19, 24, 45, 57] [
    ⟨some 21, .mov (.t 10), none, []⟩,
    ⟨some 22, .mov (.t 5), none, []⟩,
    ⟨some 23, .len false 49 (.t 22), none, []⟩,
    ⟨some 24, .bin false .lss 3 (.t 21) (.t 23), none, []⟩])
  (.cond (.t 24)
    .skip
    (.exit 0)))
  (.seq
  (.block 1
    (.seq
    (.region false [0, 5, 6, 7, 8, 9, 10, 11, 15, 18, 19, 45, 57] [
      ⟨some 27, .mov (.t 0), none, []⟩,
      ⟨some 28, .mov (.t 5), none, []⟩,
      ⟨some 29, .mov (.t 10), none, []⟩,
      ⟨some 30, .ia 49 112 2 (.t 28) (.t 29), none, []⟩,
      ⟨some 31, .fa 112 1 1 1 (.t 30), none, []⟩,
      ⟨some 32, .load 2 false 1 (.t 31), none, []⟩,
      ⟨some 33, .bin false .mul 2 (.t 27) (.t 32), none, []⟩,
      ⟨some 34, .mov (.t 6), none, []⟩,
      ⟨some 35, .bin false .quo 2 (.t 33) (.t 34), none, []⟩,
      ⟨some 11, .asg (.t 35), none, []⟩])
    (.seq
    (.region false [0, 5, 6, 7, 8, 9, 10, 11, 15, 18, 19, 45, 57] [
      ⟨some 36, .mov (.t 7), none, []⟩,
      ⟨some 37, .mov (.t 5), none, []⟩,
      ⟨some 38, .mov (.t 10), none, []⟩,
      ⟨some 39, .ia 49 112 2 (.t 37) (.t 38), none, []⟩,
      ⟨some 40, .fa 112 0 0 1 (.t 39), none, []⟩,
      ⟨some 41, .load 9 false 1 (.t 40), none, []⟩,
      ⟨some 42, .mov (.t 11), none, []⟩,
      ⟨some 43, .build 112 [(.val (.string (⟨#[]⟩ : ByteArray))), (.val (.int .i64 0))] [(0, 0, 1, (.t 41)), (1, 1, 1, (.t 42))], none, []⟩,
      ⟨some 44, .lit 49 112 2 1 [(.val (.string (⟨#[]⟩ : ByteArray))), (.val (.int .i64 0))] [(0, (.t 43))], none, []⟩,
      ⟨some 45, .app 49 112 2 24 (.t 36) (.t 44), none, []⟩,
      ⟨some 7, .asg (.t 45), none, []⟩])
    (.seq
    (.region false [0, 5, 6, 7, 8, 9, 10, 11, 15, 18, 19, 45, 57] [
      ⟨some 46, .mov (.t 8), none, []⟩,
      ⟨some 47, .mov (.t 0), none, []⟩,
      ⟨some 48, .mov (.t 5), none, []⟩,
      ⟨some 49, .mov (.t 10), none, []⟩,
      ⟨some 50, .ia 49 112 2 (.t 48) (.t 49), none, []⟩,
      ⟨some 51, .fa 112 1 1 1 (.t 50), none, []⟩,
      ⟨some 52, .load 2 false 1 (.t 51), none, []⟩,
      ⟨some 53, .bin false .mul 2 (.t 47) (.t 52), none, []⟩,
      ⟨some 54, .mov (.t 6), none, []⟩,
      ⟨some 55, .bin false .rem 2 (.t 53) (.t 54), none, []⟩,
      ⟨some 56, .lit 156 2 1 1 [(.val (.int .i64 0))] [(0, (.t 55))], none, []⟩,
      ⟨some 57, .app 156 2 1 8 (.t 46) (.t 56), none, []⟩,
      ⟨some 8, .asg (.t 57), none, []⟩])
    (.region false [0, 5, 6, 7, 8, 9, 10, 15, 18, 19, 45, 57] [
      ⟨some 58, .mov (.t 9), none, []⟩,
      ⟨some 59, .mov (.t 11), none, []⟩,
      ⟨some 60, .bin false .sub 2 (.t 58) (.t 59), none, []⟩,
      ⟨some 9, .asg (.t 60), none, []⟩])))))
  (.region false [0, 5, 6, 7, 8, 9, 10, 15, 18, 19, 45, 57] [
    ⟨some 25, .mov (.t 10), none, []⟩,
    ⟨some 26, .bin false .add 3 (.t 25) (.c (.int .i64 1)), none, []⟩,
    ⟨some 10, .asg (.t 26), none, []⟩])))
def l76_0 : VC := .loop b76_0
/-- loop.example/g00539/spec.l13Split -/
def v76 : VFun := {
  code :=
    (.seq
    (.region false [0, 1] [
      ⟨some 4, .asg (.n 2), none, []⟩])
    (.seq
    (.region false [0, 5, 15] [
      ⟨some 14, .mov (.t 1), none, []⟩,
      ⟨some 15, .call 125 [(.t 14)], none, []⟩,
      ⟨some 5, .asg (.t 15), none, []⟩])
    (.seq
    (.region false [0, 5, 6, 15] [
      ⟨some 16, .mov (.t 5), none, []⟩,
      ⟨some 17, .call 126 [(.t 16)], none, []⟩,
      ⟨some 6, .asg (.t 17), none, []⟩])
    (.seq
    (.region false [0, 5, 6, 7, 15, 18, 45] [
      ⟨some 18, .lit 49 112 2 0 [(.val (.string (⟨#[]⟩ : ByteArray))), (.val (.int .i64 0))] [], none, []⟩,
      ⟨some 7, .asg (.t 18), none, []⟩])
    (.seq
    (.region false [0, 5, 6, 7, 8, 15, 18, 19, 45, 57] [
      ⟨some 19, .lit 156 2 1 0 [(.val (.int .i64 0))] [], none, []⟩,
      ⟨some 8, .asg (.t 19), none, []⟩])
    (.seq
    (.region false [0, 5, 6, 7, 8, 9, 15, 18, 19, 45, 57] [
      ⟨some 20, .mov (.t 0), none, []⟩,
      ⟨some 9, .asg (.t 20), none, []⟩])
    (.seq
    (.seq
    (.region false [0, 5, 6, 7, 8, 9, 10, 15, 18, 19, 45, 57] [
      ⟨some 10, .asg (.c (.int .i64 0)), none, []⟩])
    (.block 0
      l76_0))
    (.seq
    (.block 2
      l76_1)
    (.seq
    (.region false [4, 7, 18, 45] [
      ⟨some 92, .mov (.t 7), none, []⟩,
      ⟨some 4, .asg (.t 92), none, []⟩])
    .ret)))))))))
  modes := [.lend, .lend]
  rets := [⟨4, none⟩] }

/-- loop.example/g00539/laws.toWeight -/
def v77 : VFun := {
  code :=
    (.seq
    (.region false [1, 2] [
      ⟨some 1, .box 108 (.t 0), none, []⟩,
      ⟨some 2, .alloc 112 [(.val (.string (⟨#[]⟩ : ByteArray))), (.val (.int .i64 0))], none, []⟩])
    (.seq
    (.region false [1, 2, 3] [
      ⟨some 3, .alloc 112 [(.val (.string (⟨#[]⟩ : ByteArray))), (.val (.int .i64 0))], none, []⟩])
    (.seq
    (.region false [1, 2, 3] [
      ⟨some 4, .fa 108 0 0 1 (.t 1), none, []⟩,
      ⟨some 5, .load 9 false 1 (.t 4), none, []⟩,
      ⟨some 6, .fa 112 0 0 1 (.t 3), none, []⟩,
      ⟨none, .store 9 1 (.t 6) (.t 5), none, []⟩])
    (.seq
    (.region false [2, 3] [
      ⟨some 7, .fa 108 1 1 1 (.t 1), none, []⟩,
      ⟨some 8, .load 2 false 1 (.t 7), none, []⟩,
      ⟨some 9, .fa 112 1 1 1 (.t 3), none, []⟩,
      ⟨none, .store 2 1 (.t 9) (.t 8), none, []⟩])
    (.seq
    (.region false [2] [
      ⟨some 10, .load 112 true 2 (.t 3), none, []⟩,
      ⟨none, .store 112 2 (.t 2) (.t 10), none, []⟩])
    .ret)))))
  modes := [.lend]
  rets := [⟨2, some (true, 2)⟩] }

def b78_0 : VC :=
  (.seq
  (.region false [8, 9, 10, 11] [
    ⟨some 11, .bin false .lss 3 (.t 10) (.t 9), none, []⟩])
  (.seq
  (.cond (.t 11)
    .skip
    (.exit 0))
  (.seq
  (.block 1
    (.seq
    (.region false [4, 8, 9, 10] [
      ⟨some 12, .ia 49 112 2 (.t 8) (.t 10), none, []⟩,
      ⟨some 13, .load 112 true 2 (.t 12), none, []⟩,
      ⟨some 4, .alloc 112 [(.val (.string (⟨#[]⟩ : ByteArray))), (.val (.int .i64 0))], none, []⟩,
      ⟨none, .store 112 2 (.t 4) (.t 13), none, []⟩])
    (.block 2
      (.seq
      (.region false [4, 8, 9, 10, 14] [
        ⟨some 15, .fa 112 0 0 1 (.t 4), none, []⟩,
        ⟨some 16, .load 9 false 1 (.t 15), none, []⟩,
        ⟨some 17, .call 118 [(.t 16)], none, []⟩,
        ⟨some 18, .un .not (.t 17), none, []⟩,
        ⟨some 14, .asg (.t 18), none, []⟩])
      (.cond (.t 14)
        (.seq
        (.region false [2] [
          ⟨some 2, .asg (.c (.int .i64 5)), none, []⟩])
        .ret)
        (.seq
        (.region false [8, 9, 10, 19] [
          ⟨some 20, .fa 112 1 1 1 (.t 4), none, []⟩,
          ⟨some 21, .load 2 false 1 (.t 20), none, []⟩,
          ⟨some 22, .call 93 [(.t 21), (.c (.int .i64 1)), (.c (.int .i64 9999))], none, []⟩,
          ⟨some 23, .un .not (.t 22), none, []⟩,
          ⟨some 19, .asg (.t 23), none, []⟩])
        (.cond (.t 19)
          (.seq
          (.region false [2] [
            ⟨some 2, .asg (.c (.int .i64 3)), none, []⟩])
          .ret)
          .skip)))))))
  (.region false [8, 9, 10] [
    ⟨some 24, .bin false .add 3 (.t 10) (.c (.int .i64 1)), none, []⟩,
    ⟨some 10, .mov (.t 24), none, []⟩]))))
def l78_0 : VC := .loop b78_0
/-- loop.example/g00539/impl.WindowFault -/
def v78 : VFun := {
  code :=
    (.seq
    (.region false [0] [
      ⟨some 2, .asg (.c (.int .i64 0)), none, []⟩])
    (.seq
    (.seq
    (.region false [0, 7] [
      ⟨some 5, .mov (.t 0), none, []⟩,
      ⟨some 6, .len false 49 (.t 5), none, []⟩,
      ⟨some 7, .bin false .gtr 3 (.t 6) (.c (.int .i64 12)), none, []⟩])
    (.cond (.t 7)
      (.seq
      (.region false [2] [
        ⟨some 2, .asg (.c (.int .i64 2)), none, []⟩])
      .ret)
      .skip))
    (.seq
    (.seq
    (.region false [8, 9, 10] [
      ⟨some 8, .mov (.t 0), none, []⟩,
      ⟨some 9, .len false 49 (.t 8), none, []⟩,
      ⟨some 10, .mov (.c (.int .i64 0)), none, []⟩])
    (.block 0
      l78_0))
    (.seq
    (.region false [2] [
      ⟨some 2, .asg (.c (.int .i64 0)), none, []⟩])
    .ret))))
  modes := [.lend]
  rets := [⟨2, none⟩] }

/-- loop.example/g00539/impl.isAmount -/
def v79 : VFun := {
  code :=
    (.seq
    (.region false [0] [
      ⟨some 2, .asg (.c (.bool false)), none, []⟩])
    (.seq
    (.region false [2] [
      ⟨some 3, .mov (.t 0), none, []⟩,
      ⟨some 4, .call 93 [(.t 3), (.c (.int .i64 0)), (.c (.int .i64 1000000))], none, []⟩,
      ⟨some 2, .asg (.t 4), none, []⟩])
    .ret))
  modes := [.lend]
  rets := [⟨2, none⟩] }

def b80_1 : VC :=
  (.seq
  (.region false [5, 7, 14, 17, 42, 49, 50, 51] [
    ⟨some 51, .bin false .lss 2 (.t 50) (.t 49), none, []⟩])
  (.seq
  (.cond (.t 51)
    .skip
    (.exit 2))
  (.seq
  (.block 3
    (.seq
    (.region false [5, 7, 12, 14, 17, 42, 49, 50] [
      ⟨some 52, .mov (.t 7), none, []⟩,
      ⟨some 53, .mov (.t 7), none, []⟩,
      ⟨some 54, .call 130 [(.t 53)], none, []⟩,
      ⟨some 55, .call 129 [(.t 52), (.t 54)], none, []⟩,
      ⟨some 12, .asg (.t 55), none, []⟩])
    (.seq
    (.region false [5, 7, 12, 14, 17, 42, 49, 50] [
      ⟨some 56, .mov (.t 5), none, []⟩,
      ⟨some 57, .mov (.t 12), none, []⟩,
      ⟨some 58, .ia 49 112 2 (.t 56) (.t 57), none, []⟩,
      ⟨some 59, .fa 112 1 1 1 (.t 58), none, []⟩,
      ⟨some 60, .load 2 false 1 (.t 59), none, []⟩,
      ⟨some 61, .bin false .add 2 (.t 60) (.c (.int .i64 1)), none, []⟩,
      ⟨some 62, .ia 49 112 2 (.t 56) (.t 57), none, []⟩,
      ⟨some 63, .fa 112 1 1 1 (.t 62), none, []⟩,
      ⟨none, .store 2 1 (.t 63) (.t 61), none, []⟩])
    (.region false [5, 7, 14, 17, 42, 49, 50] [
      ⟨some 64, .mov (.t 7), none, []⟩,
      ⟨some 65, .mov (.t 12), none, []⟩,
      ⟨some 66, .ia 156 2 1 (.t 64) (.t 65), none, []⟩,
      ⟨none, .store 2 1 (.t 66) (.c (.int .i64 (-1))), none, []⟩]))))
  (.region false [5, 7, 14, 17, 42, 49, 50] [
    ⟨some 67, .bin false .add 2 (.t 50) (.c (.int .i64 1)), none, []⟩,
    ⟨some 50, .mov (.t 67), none, []⟩]))))
def l80_1 : VC := .loop b80_1
def b80_0 : VC :=
  (.seq
  (.region false [0, 5, 6, 7, 8, 14, 17, 19, 20, 21, 22, 42] [
    ⟨some 22, .bin false .lss 3 (.t 21) (.t 20), none, []⟩])
  (.seq
  (.cond (.t 22)
    .skip
    (.exit 0))
  (.seq
  (.block 1
    (.seq
    (.region false [0, 5, 6, 7, 8, 9, 10, 14, 17, 19, 20, 21, 42] [
      ⟨some 23, .mov (.t 21), none, []⟩,
      ⟨some 24, .ia 49 112 2 (.t 19) (.t 21), none, []⟩,
      ⟨some 25, .load 112 true 2 (.t 24), none, []⟩,
      ⟨some 10, .alloc 112 [(.val (.string (⟨#[]⟩ : ByteArray))), (.val (.int .i64 0))], none, []⟩,
      ⟨some 9, .asg (.t 23), none, []⟩,
      ⟨none, .store 112 2 (.t 10) (.t 25), none, []⟩])
    (.seq
    (.region false [0, 5, 6, 7, 8, 9, 11, 14, 17, 19, 20, 21, 42] [
      ⟨some 26, .mov (.t 0), none, []⟩,
      ⟨some 27, .fa 112 1 1 1 (.t 10), none, []⟩,
      ⟨some 28, .load 2 false 1 (.t 27), none, []⟩,
      ⟨some 29, .bin false .mul 2 (.t 26) (.t 28), none, []⟩,
      ⟨some 11, .asg (.t 29), none, []⟩])
    (.seq
    (.region false [0, 5, 6, 7, 8, 11, 14, 17, 19, 20, 21, 42] [
      ⟨some 30, .mov (.t 5), none, []⟩,
      ⟨some 31, .mov (.t 9), none, []⟩,
      ⟨some 32, .mov (.t 11), none, []⟩,
      ⟨some 33, .mov (.t 6), none, []⟩,
      ⟨some 34, .bin false .quo 2 (.t 32) (.t 33), none, []⟩,
      ⟨some 35, .ia 49 112 2 (.t 30) (.t 31), none, []⟩,
      ⟨some 36, .fa 112 1 1 1 (.t 35), none, []⟩,
      ⟨none, .store 2 1 (.t 36) (.t 34), none, []⟩])
    (.seq
    (.region false [0, 5, 6, 7, 8, 11, 14, 17, 19, 20, 21, 42] [
      ⟨some 37, .mov (.t 7), none, []⟩,
      ⟨some 38, .mov (.t 11), none, []⟩,
      ⟨some 39, .mov (.t 6), none, []⟩,
      ⟨some 40, .bin false .rem 2 (.t 38) (.t 39), none, []⟩,
      ⟨some 41, .lit 156 2 1 1 [(.val (.int .i64 0))] [(0, (.t 40))], none, []⟩,
      ⟨some 42, .app 156 2 1 8 (.t 37) (.t 41), none, []⟩,
      ⟨some 7, .asg (.t 42), none, []⟩])
    (.region false [0, 5, 6, 7, 8, 14, 17, 19, 20, 21, 42] [
      ⟨some 43, .mov (.t 8), none, []⟩,
      ⟨some 44, .mov (.t 11), none, []⟩,
      ⟨some 45, .mov (.t 6), none, []⟩,
      ⟨some 46, .bin false .quo 2 (.t 44) (.t 45), none, []⟩,
      ⟨some 47, .bin false .sub 2 (.t 43) (.t 46), none, []⟩,
      ⟨some 8, .asg (.t 47), none, []⟩]))))))
  (.region false [0, 5, 6, 7, 8, 14, 17, 19, 20, 21, 42] [
    ⟨some 48, .bin false .add 3 (.t 21) (.c (.int .i64 1)), none, []⟩,
    ⟨some 21, .mov (.t 48), none, []⟩]))))
def l80_0 : VC := .loop b80_0
/-- loop.example/g00539/impl.divided -/
def v80 : VFun := {
  code :=
    (.seq
    (.region false [0, 1] [
      ⟨some 4, .asg (.n 2), none, []⟩])
    (.seq
    (.region false [0, 5, 6, 7, 14, 17, 42] [
      ⟨some 13, .mov (.t 1), none, []⟩,
      ⟨some 14, .call 127 [(.t 13)], none, []⟩,
      ⟨some 15, .mov (.t 1), none, []⟩,
      ⟨some 16, .call 128 [(.t 15)], none, []⟩,
      ⟨some 17, .lit 156 2 1 0 [(.val (.int .i64 0))] [], none, []⟩,
      ⟨some 5, .asg (.t 14), none, []⟩,
      ⟨some 6, .asg (.t 16), none, []⟩,
      ⟨some 7, .asg (.t 17), none, []⟩])
    (.seq
    (.region false [0, 5, 6, 7, 8, 14, 17, 42] [
      ⟨some 18, .mov (.t 0), none, []⟩,
      ⟨some 8, .asg (.t 18), none, []⟩])
    (.seq
    (.seq
    (.region false [0, 5, 6, 7, 8, 14, 17, 19, 20, 21, 42] [
      ⟨some 19, .mov (.t 5), none, []⟩,
      ⟨some 20, .len false 49 (.t 19), none, []⟩,
      ⟨some 21, .mov (.c (.int .i64 0)), none, []⟩])
    (.block 0
      l80_0))
    (.seq
    (.seq
    (.region false [5, 7, 14, 17, 42, 49, 50] [
      ⟨some 49, .mov (.t 8), none, []⟩,
      ⟨some 50, .mov (.c (.int .i64 0)), none, []⟩])
    (.block 2
      l80_1))
    (.seq
    (.region false [4, 5, 14] [
      ⟨some 68, .mov (.t 5), none, []⟩,
      ⟨some 4, .asg (.t 68), none, []⟩])
    .ret))))))
  modes := [.lend, .lend]
  rets := [⟨4, none⟩] }

/-- loop.example/g00539/laws.eqWeight -/
def v81 : VFun := {
  code :=
    (.seq
    (.region false [2, 3] [
      ⟨some 2, .box 112 (.t 0), none, []⟩,
      ⟨some 3, .box 112 (.t 1), none, []⟩,
      ⟨some 4, .asg (.c (.bool false)), none, []⟩])
    (.seq
    (.seq
    (.region false [2, 3, 9] [
      ⟨some 5, .fa 112 0 0 1 (.t 2), none, []⟩,
      ⟨some 6, .load 9 false 1 (.t 5), none, []⟩,
      ⟨some 7, .fa 112 0 0 1 (.t 3), none, []⟩,
      ⟨some 8, .load 9 false 1 (.t 7), none, []⟩,
      ⟨some 9, .bin false .neq 9 (.t 6) (.t 8), none, []⟩])
    (.cond (.t 9)
      (.seq
      (.region false [4] [
        ⟨some 4, .asg (.c (.bool false)), none, []⟩])
      .ret)
      .skip))
    (.seq
    (.seq
    (.region false [14] [
      ⟨some 10, .fa 112 1 1 1 (.t 2), none, []⟩,
      ⟨some 11, .load 2 false 1 (.t 10), none, []⟩,
      ⟨some 12, .fa 112 1 1 1 (.t 3), none, []⟩,
      ⟨some 13, .load 2 false 1 (.t 12), none, []⟩,
      ⟨some 14, .bin false .neq 2 (.t 11) (.t 13), none, []⟩])
    (.cond (.t 14)
      (.seq
      (.region false [4] [
        ⟨some 4, .asg (.c (.bool false)), none, []⟩])
      .ret)
      .skip))
    (.seq
    (.region false [4] [
      ⟨some 4, .asg (.c (.bool true)), none, []⟩])
    .ret))))
  modes := [.lend, .lend]
  rets := [⟨4, none⟩] }

def b82_0 : VC :=
  (.seq
  (.seq
  (.region false [0, 3, 7] [
    ⟨some 6, .mov (.t 0), none, []⟩,
    ⟨some 7, .bin false .gtr 3 (.t 6) (.c (.int .i64 0)), none, []⟩])
  (.cond (.t 7)
    .skip
    (.exit 0)))
  (.block 1
    (.seq
    (.region false [0, 3] [
      ⟨some 8, .mov (.t 0), none, []⟩,
      ⟨some 9, .bin false .rem 3 (.t 8) (.c (.int .i64 10)), none, []⟩,
      ⟨some 10, .bin false .add 3 (.c (.int .i64 48)) (.t 9), none, []⟩,
      ⟨some 11, .conv 3 5 .u8 (.t 10), none, []⟩,
      ⟨some 12, .lit 25 5 1 1 [(.val (.int .u8 0))] [(0, (.t 11))], none, []⟩,
      ⟨some 13, .b2s 25 9 (.t 12), none, []⟩,
      ⟨some 14, .mov (.t 3), none, []⟩,
      ⟨some 15, .bin false .add 9 (.t 13) (.t 14), none, []⟩,
      ⟨some 3, .asg (.t 15), none, []⟩])
    (.region false [0, 3] [
      ⟨some 16, .mov (.t 0), none, []⟩,
      ⟨some 17, .bin false .quo 3 (.t 16) (.c (.int .i64 10)), none, []⟩,
      ⟨some 0, .asg (.t 17), none, []⟩]))))
def l82_0 : VC := .loop b82_0
/-- loop.example/g00539/laws.markText -/
def v82 : VFun := {
  code :=
    (.seq
    (.region false [0] [
      ⟨some 2, .asg (.c (.string (⟨#[]⟩ : ByteArray))), none, []⟩])
    (.seq
    (.seq
    (.region false [0, 5] [
      ⟨some 4, .mov (.t 0), none, []⟩,
      ⟨some 5, .bin false .leq 3 (.t 4) (.c (.int .i64 0)), none, []⟩])
    (.cond (.t 5)
      (.seq
      (.region false [2] [
        ⟨some 2, .asg (.c (.string (⟨#[109, 48]⟩ : ByteArray))), none, []⟩])
      .ret)
      .skip))
    (.seq
    (.region false [0, 3] [
      ⟨some 3, .asg (.c (.string (⟨#[]⟩ : ByteArray))), none, []⟩])
    (.seq
    (.block 0
      l82_0)
    (.seq
    (.region false [2] [
      ⟨some 18, .mov (.t 3), none, []⟩,
      ⟨some 19, .bin false .add 9 (.c (.string (⟨#[109]⟩ : ByteArray))) (.t 18), none, []⟩,
      ⟨some 2, .asg (.t 19), none, []⟩])
    .ret)))))
  modes := [.lend]
  rets := [⟨2, none⟩] }

def b83_0 : VC :=
  (.seq
  (.seq
  (.region false [0, 1, 5, 9] [
    ⟨some 6, .mov (.t 5), none, []⟩,
    ⟨some 7, .mov (.t 0), none, []⟩,
    ⟨some 8, .len false 49 (.t 7), none, []⟩,
    ⟨some 9, .bin false .lss 3 (.t 6) (.t 8), none, []⟩])
  (.cond (.t 9)
    .skip
    (.exit 0)))
  (.seq
  (.block 1
    (.seq
    (.seq
    (.region true [0, 1, 5, 19] [
      ⟨some 12, .mov (.t 0), none, []⟩,
      ⟨some 13, .mov (.t 5), none, [0]⟩,
      ⟨some 14, .ia 49 112 2 (.t 12) (.t 13), none, []⟩,
      ⟨some 15, .fa 112 0 0 1 (.t 14), none, []⟩,
      ⟨some 16, .load 9 false 1 (.t 15), none, []⟩,
      ⟨some 17, .mov (.t 1), none, [0, 1, 2, 3, 4]⟩,
      ⟨some 18, .call 82 [(.t 17)], none, [0, 1, 2, 3, 4]⟩,
      ⟨some 19, .bin false .neq 9 (.t 16) (.t 18), none, []⟩])
    (.cond (.t 19)
      (.seq
      (.region false [4] [
        ⟨some 4, .asg (.c (.int .i64 (-1))), none, []⟩])
      .ret)
      .skip))
    (.seq
    (.region false [0, 1, 5] [
      ⟨some 20, .mov (.t 1), none, []⟩,
      ⟨some 21, .bin false .add 3 (.t 20) (.c (.int .i64 1)), none, []⟩,
      ⟨some 1, .asg (.t 21), none, []⟩])
    (.seq
    (.seq
    (.region false [0, 1, 5, 28] [
      ⟨some 22, .mov (.t 0), none, []⟩,
      ⟨some 23, .mov (.t 5), none, []⟩,
      ⟨some 24, .ia 49 112 2 (.t 22) (.t 23), none, []⟩,
      ⟨some 25, .fa 112 1 1 1 (.t 24), none, []⟩,
      ⟨some 26, .load 2 false 1 (.t 25), none, []⟩,
      ⟨some 27, .mov (.t 1), none, []⟩,
      ⟨some 28, .bin false .neq 2 (.t 26) (.t 27), none, []⟩])
    (.cond (.t 28)
      (.seq
      (.region false [4] [
        ⟨some 4, .asg (.c (.int .i64 (-1))), none, []⟩])
      .ret)
      .skip))
    (.region false [0, 1, 5] [
      ⟨some 29, .mov (.t 1), none, []⟩,
      ⟨some 30, .bin false .add 3 (.t 29) (.c (.int .i64 1)), none, []⟩,
      ⟨some 1, .asg (.t 30), none, []⟩])))))
  (.region false [0, 1, 5] [
    ⟨some 10, .mov (.t 5), none, []⟩,
    ⟨some 11, .bin false .add 3 (.t 10) (.c (.int .i64 1)), none, []⟩,
    ⟨some 5, .asg (.t 11), none, []⟩])))
def l83_0 : VC := .loop b83_0
/-- loop.example/g00539/laws.heldWeightS -/
def v83 : VFun := {
  code :=
    (.seq
    (.region false [0, 1] [
      ⟨some 4, .asg (.c (.int .i64 0)), none, []⟩])
    (.seq
    (.seq
    (.region false [0, 1, 5] [
      ⟨some 5, .asg (.c (.int .i64 0)), none, []⟩])
    (.block 0
      l83_0))
    (.seq
    (.region false [4] [
      ⟨some 31, .mov (.t 1), none, []⟩,
      ⟨some 4, .asg (.t 31), none, []⟩])
    .ret)))
  modes := [.lend, .lend]
  rets := [⟨4, none⟩] }

/-- loop.example/g00539/impl.in -/
def v93 : VFun := {
  code :=
    (.seq
    (.region false [0, 1, 2] [
      ⟨some 6, .asg (.c (.bool false)), none, []⟩])
    (.seq
    (.region false [6] [
      ⟨some 7, .mov (.t 0), none, []⟩,
      ⟨some 8, .mov (.t 1), none, []⟩,
      ⟨some 9, .bin false .geq 2 (.t 7) (.t 8), none, []⟩,
      ⟨some 10, .mov (.t 9), none, []⟩,
      ⟨some 11, .mov (.t 0), some (10, true), []⟩,
      ⟨some 12, .mov (.t 2), some (10, true), []⟩,
      ⟨some 13, .bin false .leq 2 (.t 11) (.t 12), some (10, true), []⟩,
      ⟨some 14, .pick (.t 10) (.t 13) (.c (.bool false)), none, []⟩,
      ⟨some 6, .asg (.t 14), none, []⟩])
    .ret))
  modes := [.lend, .lend, .lend]
  rets := [⟨6, none⟩] }

/-- loop.example/g00539/spec.l1In -/
def v113 : VFun := {
  code :=
    (.seq
    (.region false [0, 1, 2] [
      ⟨some 6, .asg (.c (.bool false)), none, []⟩])
    (.seq
    (.region false [6] [
      ⟨some 7, .mov (.t 0), none, []⟩,
      ⟨some 8, .mov (.t 1), none, []⟩,
      ⟨some 9, .bin false .geq 2 (.t 7) (.t 8), none, []⟩,
      ⟨some 10, .mov (.t 9), none, []⟩,
      ⟨some 11, .mov (.t 0), some (10, true), []⟩,
      ⟨some 12, .mov (.t 2), some (10, true), []⟩,
      ⟨some 13, .bin false .leq 2 (.t 11) (.t 12), some (10, true), []⟩,
      ⟨some 14, .pick (.t 10) (.t 13) (.c (.bool false)), none, []⟩,
      ⟨some 6, .asg (.t 14), none, []⟩])
    .ret))
  modes := [.lend, .lend, .lend]
  rets := [⟨6, none⟩] }

def b114_0 : VC :=
  (.seq
  (.seq
  (.region false [0, 3, 7] [
    ⟨some 4, .mov (.t 3), none, []⟩,
    ⟨some 5, .mov (.t 0), none, []⟩,
    ⟨some 6, .len true 9 (.t 5), none, []⟩,
    ⟨some 7, .bin false .lss 3 (.t 4) (.t 6), none, []⟩])
  (.cond (.t 7)
    .skip
    (.exit 0)))
  (.seq
  (.block 1
    (.seq
    (.region false [0, 3, 14] [
      ⟨some 10, .mov (.t 0), none, []⟩,
      ⟨some 11, .mov (.t 3), none, []⟩,
      ⟨some 12, .idx 9 (.t 10) (.t 11), none, []⟩,
      ⟨some 13, .call 148 [(.t 12)], none, []⟩,
      ⟨some 14, .un .not (.t 13), none, []⟩])
    (.cond (.t 14)
      (.seq
      (.region false [2] [
        ⟨some 2, .asg (.c (.bool false)), none, []⟩])
      .ret)
      .skip)))
  (.region false [0, 3] [
    ⟨some 8, .mov (.t 3), none, []⟩,
    ⟨some 9, .bin false .add 3 (.t 8) (.c (.int .i64 1)), none, []⟩,
    ⟨some 3, .asg (.t 9), none, []⟩])))
def l114_0 : VC := .loop b114_0
/-- loop.example/g00539/spec.l9Arg -/
def v114 : VFun := {
  code :=
    (.seq
    (.region false [0] [
      ⟨some 2, .asg (.c (.bool false)), none, []⟩])
    (.seq
    (.seq
    (.region false [0, 3] [
      ⟨some 3, .asg (.c (.int .i64 0)), none, []⟩])
    (.block 0
      l114_0))
    (.seq
    (.region false [2] [
      ⟨some 15, .mov (.t 0), none, []⟩,
      ⟨some 16, .len true 9 (.t 15), none, []⟩,
      ⟨some 17, .bin false .leq 3 (.t 16) (.c (.int .i64 12)), none, []⟩,
      ⟨some 2, .asg (.t 17), none, []⟩])
    .ret)))
  modes := [.lend]
  rets := [⟨2, none⟩] }

/-- loop.example/g00539/impl.workerOk -/
def v118 : VFun := {
  code :=
    (.seq
    (.region false [0] [
      ⟨some 2, .asg (.c (.bool false)), none, []⟩])
    (.seq
    (.region false [2] [
      ⟨some 3, .mov (.t 0), none, []⟩,
      ⟨some 4, .bin false .neq 9 (.t 3) (.c (.string (⟨#[]⟩ : ByteArray))), none, []⟩,
      ⟨some 5, .mov (.t 4), none, []⟩,
      ⟨some 6, .mov (.t 0), some (5, true), []⟩,
      ⟨some 7, .call 149 [(.t 6)], some (5, true), []⟩,
      ⟨some 8, .pick (.t 5) (.t 7) (.c (.bool false)), none, []⟩,
      ⟨some 2, .asg (.t 8), none, []⟩])
    .ret))
  modes := [.lend]
  rets := [⟨2, none⟩] }

/-- loop.example/g00539/spec.l13One -/
def v124 : VFun := {
  code :=
    (.seq
    (.region false [0] [
      ⟨some 2, .asg (.c (.int .i64 0)), none, []⟩])
    (.seq
    (.seq
    (.region false [0, 15] [
      ⟨some 3, .mov (.t 0), none, []⟩,
      ⟨some 4, .nilc (.t 3), none, []⟩,
      ⟨some 5, .fa 112 0 0 1 (.t 4), none, []⟩,
      ⟨some 6, .load 9 false 1 (.t 5), none, []⟩,
      ⟨some 7, .bin false .eql 9 (.t 6) (.c (.string (⟨#[]⟩ : ByteArray))), none, []⟩,
      ⟨some 8, .mov (.t 7), none, []⟩,
      ⟨some 9, .mov (.t 0), some (8, false), []⟩,
      ⟨some 10, .nilc (.t 9), some (8, false), []⟩,
      ⟨some 11, .fa 112 0 0 1 (.t 10), some (8, false), []⟩,
      ⟨some 12, .load 9 false 1 (.t 11), some (8, false), []⟩,
      ⟨some 13, .call 114 [(.t 12)], some (8, false), []⟩,
      ⟨some 14, .un .not (.t 13), some (8, false), []⟩,
      ⟨some 15, .pick (.t 8) (.c (.bool true)) (.t 14), none, []⟩])
    (.cond (.t 15)
      (.seq
      (.region false [2] [
        ⟨some 2, .asg (.c (.int .i64 5)), none, []⟩])
      .ret)
      .skip))
    (.seq
    (.seq
    (.region false [21] [
      ⟨some 16, .mov (.t 0), none, []⟩,
      ⟨some 17, .nilc (.t 16), none, []⟩,
      ⟨some 18, .fa 112 1 1 1 (.t 17), none, []⟩,
      ⟨some 19, .load 2 false 1 (.t 18), none, []⟩,
      ⟨some 20, .call 113 [(.t 19), (.c (.int .i64 1)), (.c (.int .i64 9999))], none, []⟩,
      ⟨some 21, .un .not (.t 20), none, []⟩])
    (.cond (.t 21)
      (.seq
      (.region false [2] [
        ⟨some 2, .asg (.c (.int .i64 3)), none, []⟩])
      .ret)
      .skip))
    (.seq
    (.region false [2] [
      ⟨some 2, .asg (.c (.int .i64 0)), none, []⟩])
    .ret))))
  modes := [.lend]
  rets := [⟨2, none⟩] }

def b125_0 : VC :=
  (.seq
  (.seq
  (.region false [0, 3, 4, 6, 10, 43] [
    ⟨some 7, .mov (.t 4), none, []⟩,
    ⟨some 8, .mov (.t 0), none, []⟩,
    ⟨some 9, .len false 49 (.t 8), none, []⟩,
    ⟨some 10, .bin false .lss 3 (.t 7) (.t 9), none, []⟩])
  (.cond (.t 10)
    .skip
    (.exit 0)))
  (.seq
  (.block 1
    (.seq
    (.region false [0, 3, 4, 5, 6, 43] [
      ⟨some 13, .mov (.t 3), none, []⟩,
      ⟨some 14, .mov (.t 0), none, []⟩,
      ⟨some 15, .mov (.t 4), none, []⟩,
      ⟨some 16, .ia 49 112 2 (.t 14) (.t 15), none, []⟩,
      ⟨some 17, .fa 112 0 0 1 (.t 16), none, []⟩,
      ⟨some 18, .load 9 false 1 (.t 17), none, []⟩,
      ⟨some 19, .call 150 [(.t 13), (.t 18)], none, []⟩,
      ⟨some 5, .asg (.t 19), none, []⟩])
    (.seq
    (.region false [0, 3, 4, 5, 6, 21, 43] [
      ⟨some 20, .mov (.t 5), none, []⟩,
      ⟨some 21, .bin false .geq 3 (.t 20) (.c (.int .i64 0)), none, []⟩])
    (.cond (.t 21)
      (.region true [0, 3, 4, 6, 43] [
        ⟨some 22, .mov (.t 3), none, []⟩,
        ⟨some 23, .mov (.t 5), none, [0]⟩,
        ⟨some 24, .mov (.t 3), none, [0, 1]⟩,
        ⟨some 25, .mov (.t 5), none, [0, 1, 2]⟩,
        ⟨some 26, .ia 49 112 2 (.t 24) (.t 25), none, [0, 1]⟩,
        ⟨some 27, .fa 112 1 1 1 (.t 26), none, [0, 1]⟩,
        ⟨some 28, .load 2 false 1 (.t 27), none, [0, 1]⟩,
        ⟨some 29, .mov (.t 0), none, [0, 1, 2, 3, 4, 5, 6]⟩,
        ⟨some 30, .mov (.t 4), none, [0, 1, 2, 3, 4, 5, 6, 7]⟩,
        ⟨some 31, .ia 49 112 2 (.t 29) (.t 30), none, [0, 1, 2, 3, 4, 5, 6]⟩,
        ⟨some 32, .fa 112 1 1 1 (.t 31), none, [0, 1, 2, 3, 4, 5, 6]⟩,
        ⟨some 33, .load 2 false 1 (.t 32), none, [0, 1, 2, 3, 4, 5, 6]⟩,
        ⟨some 34, .bin false .add 2 (.t 28) (.t 33), none, [0, 1]⟩,
        ⟨some 35, .ia 49 112 2 (.t 22) (.t 23), none, []⟩,
        ⟨some 36, .fa 112 1 1 1 (.t 35), none, []⟩,
        ⟨none, .store 2 1 (.t 36) (.t 34), none, []⟩])
      (.region false [0, 3, 4, 6, 43] [
        ⟨some 37, .mov (.t 3), none, []⟩,
        ⟨some 38, .mov (.t 0), none, []⟩,
        ⟨some 39, .mov (.t 4), none, []⟩,
        ⟨some 40, .ia 49 112 2 (.t 38) (.t 39), none, []⟩,
        ⟨some 41, .load 112 true 2 (.t 40), none, []⟩,
        ⟨some 42, .lit 49 112 2 1 [(.val (.string (⟨#[]⟩ : ByteArray))), (.val (.int .i64 0))] [(0, (.t 41))], none, []⟩,
        ⟨some 43, .app 49 112 2 24 (.t 37) (.t 42), none, []⟩,
        ⟨some 3, .asg (.t 43), none, []⟩])))))
  (.region false [0, 3, 4, 6, 43] [
    ⟨some 11, .mov (.t 4), none, []⟩,
    ⟨some 12, .bin false .add 3 (.t 11) (.c (.int .i64 1)), none, []⟩,
    ⟨some 4, .asg (.t 12), none, []⟩])))
def l125_0 : VC := .loop b125_0
/-- loop.example/g00539/spec.l13Merge -/
def v125 : VFun := {
  code :=
    (.seq
    (.region false [0] [
      ⟨some 2, .asg (.n 2), none, []⟩])
    (.seq
    (.region false [0, 3, 6, 43] [
      ⟨some 6, .lit 49 112 2 0 [(.val (.string (⟨#[]⟩ : ByteArray))), (.val (.int .i64 0))] [], none, []⟩,
      ⟨some 3, .asg (.t 6), none, []⟩])
    (.seq
    (.seq
    (.region false [0, 3, 4, 6, 43] [
      ⟨some 4, .asg (.c (.int .i64 0)), none, []⟩])
    (.block 0
      l125_0))
    (.seq
    (.region false [2, 3, 6, 43] [
      ⟨some 44, .mov (.t 3), none, []⟩,
      ⟨some 2, .asg (.t 44), none, []⟩])
    .ret))))
  modes := [.lend]
  rets := [⟨2, none⟩] }

def b126_0 : VC :=
  (.seq
  (.seq
  (.region false [0, 3, 4, 8] [
    ⟨some 5, .mov (.t 4), none, []⟩,
    ⟨some 6, .mov (.t 0), none, []⟩,
    ⟨some 7, .len false 49 (.t 6), none, []⟩,
    ⟨some 8, .bin false .lss 3 (.t 5) (.t 7), none, []⟩])
  (.cond (.t 8)
    .skip
    (.exit 0)))
  (.seq
  (.block 1
    (.region false [0, 3, 4] [
      ⟨some 11, .mov (.t 3), none, []⟩,
      ⟨some 12, .mov (.t 0), none, []⟩,
      ⟨some 13, .mov (.t 4), none, []⟩,
      ⟨some 14, .ia 49 112 2 (.t 12) (.t 13), none, []⟩,
      ⟨some 15, .fa 112 1 1 1 (.t 14), none, []⟩,
      ⟨some 16, .load 2 false 1 (.t 15), none, []⟩,
      ⟨some 17, .bin false .add 2 (.t 11) (.t 16), none, []⟩,
      ⟨some 3, .asg (.t 17), none, []⟩]))
  (.region false [0, 3, 4] [
    ⟨some 9, .mov (.t 4), none, []⟩,
    ⟨some 10, .bin false .add 3 (.t 9) (.c (.int .i64 1)), none, []⟩,
    ⟨some 4, .asg (.t 10), none, []⟩])))
def l126_0 : VC := .loop b126_0
/-- loop.example/g00539/spec.l13Total -/
def v126 : VFun := {
  code :=
    (.seq
    (.region false [0] [
      ⟨some 2, .asg (.c (.int .i64 0)), none, []⟩])
    (.seq
    (.region false [0, 3] [
      ⟨some 3, .asg (.c (.int .i64 0)), none, []⟩])
    (.seq
    (.seq
    (.region false [0, 3, 4] [
      ⟨some 4, .asg (.c (.int .i64 0)), none, []⟩])
    (.block 0
      l126_0))
    (.seq
    (.region false [2] [
      ⟨some 18, .mov (.t 3), none, []⟩,
      ⟨some 2, .asg (.t 18), none, []⟩])
    .ret))))
  modes := [.lend]
  rets := [⟨2, none⟩] }

def b127_0 : VC :=
  (.seq
  (.region false [3, 7, 8, 9, 10, 11, 33] [
    ⟨some 11, .bin false .lss 3 (.t 10) (.t 9), none, []⟩])
  (.seq
  (.cond (.t 11)
    .skip
    (.exit 0))
  (.seq
  (.block 1
    (.seq
    (.region false [3, 5, 7, 8, 9, 10, 33] [
      ⟨some 12, .ia 49 112 2 (.t 8) (.t 10), none, []⟩,
      ⟨some 13, .load 112 true 2 (.t 12), none, []⟩,
      ⟨some 5, .alloc 112 [(.val (.string (⟨#[]⟩ : ByteArray))), (.val (.int .i64 0))], none, []⟩,
      ⟨none, .store 112 2 (.t 5) (.t 13), none, []⟩])
    (.seq
    (.region false [3, 5, 6, 7, 8, 9, 10, 33] [
      ⟨some 14, .mov (.t 3), none, []⟩,
      ⟨some 15, .fa 112 0 0 1 (.t 5), none, []⟩,
      ⟨some 16, .load 9 false 1 (.t 15), none, []⟩,
      ⟨some 17, .call 151 [(.t 14), (.t 16)], none, []⟩,
      ⟨some 6, .asg (.t 17), none, []⟩])
    (.seq
    (.region false [3, 5, 6, 7, 8, 9, 10, 19, 33] [
      ⟨some 18, .mov (.t 6), none, []⟩,
      ⟨some 19, .bin false .geq 3 (.t 18) (.c (.int .i64 0)), none, []⟩])
    (.cond (.t 19)
      (.region true [3, 7, 8, 9, 10, 33] [
        ⟨some 20, .mov (.t 3), none, []⟩,
        ⟨some 21, .mov (.t 6), none, [0]⟩,
        ⟨some 22, .ia 49 112 2 (.t 20) (.t 21), none, []⟩,
        ⟨some 23, .fa 112 1 1 1 (.t 22), none, []⟩,
        ⟨some 24, .load 2 false 1 (.t 23), none, []⟩,
        ⟨some 25, .fa 112 1 1 1 (.t 5), none, [0, 1, 2, 3, 4]⟩,
        ⟨some 26, .load 2 false 1 (.t 25), none, [0, 1, 2, 3, 4]⟩,
        ⟨some 27, .bin false .add 2 (.t 24) (.t 26), none, []⟩,
        ⟨some 28, .ia 49 112 2 (.t 20) (.t 21), none, []⟩,
        ⟨some 29, .fa 112 1 1 1 (.t 28), none, []⟩,
        ⟨none, .store 2 1 (.t 29) (.t 27), none, []⟩])
      (.region false [3, 7, 8, 9, 10, 33] [
        ⟨some 30, .mov (.t 3), none, []⟩,
        ⟨some 31, .load 112 true 2 (.t 5), none, []⟩,
        ⟨some 32, .lit 49 112 2 1 [(.val (.string (⟨#[]⟩ : ByteArray))), (.val (.int .i64 0))] [(0, (.t 31))], none, []⟩,
        ⟨some 33, .app 49 112 2 24 (.t 30) (.t 32), none, []⟩,
        ⟨some 3, .asg (.t 33), none, []⟩]))))))
  (.region false [3, 7, 8, 9, 10, 33] [
    ⟨some 34, .bin false .add 3 (.t 10) (.c (.int .i64 1)), none, []⟩,
    ⟨some 10, .mov (.t 34), none, []⟩]))))
def l127_0 : VC := .loop b127_0
/-- loop.example/g00539/impl.merged -/
def v127 : VFun := {
  code :=
    (.seq
    (.region false [0] [
      ⟨some 2, .asg (.n 2), none, []⟩])
    (.seq
    (.region false [0, 3, 7, 33] [
      ⟨some 7, .lit 49 112 2 0 [(.val (.string (⟨#[]⟩ : ByteArray))), (.val (.int .i64 0))] [], none, []⟩,
      ⟨some 3, .asg (.t 7), none, []⟩])
    (.seq
    (.seq
    (.region false [3, 7, 8, 9, 10, 33] [
      ⟨some 8, .mov (.t 0), none, []⟩,
      ⟨some 9, .len false 49 (.t 8), none, []⟩,
      ⟨some 10, .mov (.c (.int .i64 0)), none, []⟩])
    (.block 0
      l127_0))
    (.seq
    (.region false [2, 3, 7, 33] [
      ⟨some 35, .mov (.t 3), none, []⟩,
      ⟨some 2, .asg (.t 35), none, []⟩])
    .ret))))
  modes := [.lend]
  rets := [⟨2, none⟩] }

def b128_0 : VC :=
  (.seq
  (.region false [3, 6, 7, 8, 9] [
    ⟨some 9, .bin false .lss 3 (.t 8) (.t 7), none, []⟩])
  (.seq
  (.cond (.t 9)
    .skip
    (.exit 0))
  (.seq
  (.block 1
    (.seq
    (.region false [3, 5, 6, 7, 8] [
      ⟨some 10, .ia 49 112 2 (.t 6) (.t 8), none, []⟩,
      ⟨some 11, .load 112 true 2 (.t 10), none, []⟩,
      ⟨some 5, .alloc 112 [(.val (.string (⟨#[]⟩ : ByteArray))), (.val (.int .i64 0))], none, []⟩,
      ⟨none, .store 112 2 (.t 5) (.t 11), none, []⟩])
    (.region false [3, 6, 7, 8] [
      ⟨some 12, .mov (.t 3), none, []⟩,
      ⟨some 13, .fa 112 1 1 1 (.t 5), none, []⟩,
      ⟨some 14, .load 2 false 1 (.t 13), none, []⟩,
      ⟨some 15, .bin false .add 2 (.t 12) (.t 14), none, []⟩,
      ⟨some 3, .asg (.t 15), none, []⟩])))
  (.region false [3, 6, 7, 8] [
    ⟨some 16, .bin false .add 3 (.t 8) (.c (.int .i64 1)), none, []⟩,
    ⟨some 8, .mov (.t 16), none, []⟩]))))
def l128_0 : VC := .loop b128_0
/-- loop.example/g00539/impl.amounts -/
def v128 : VFun := {
  code :=
    (.seq
    (.region false [0] [
      ⟨some 2, .asg (.c (.int .i64 0)), none, []⟩])
    (.seq
    (.region false [0, 3] [
      ⟨some 3, .asg (.c (.int .i64 0)), none, []⟩])
    (.seq
    (.seq
    (.region false [3, 6, 7, 8] [
      ⟨some 6, .mov (.t 0), none, []⟩,
      ⟨some 7, .len false 49 (.t 6), none, []⟩,
      ⟨some 8, .mov (.c (.int .i64 0)), none, []⟩])
    (.block 0
      l128_0))
    (.seq
    (.region false [2] [
      ⟨some 17, .mov (.t 3), none, []⟩,
      ⟨some 2, .asg (.t 17), none, []⟩])
    .ret))))
  modes := [.lend]
  rets := [⟨2, none⟩] }

def b129_0 : VC :=
  (.seq
  (.region false [0, 1, 7, 8, 9] [
    ⟨some 9, .bin false .lss 3 (.t 8) (.t 7), none, []⟩])
  (.seq
  (.cond (.t 9)
    .skip
    (.exit 0))
  (.seq
  (.block 1
    (.seq
    (.region false [0, 1, 5, 7, 8] [
      ⟨some 10, .mov (.t 8), none, []⟩,
      ⟨some 5, .asg (.t 10), none, []⟩])
    (.seq
    (.region false [0, 1, 5, 7, 8, 16] [
      ⟨some 11, .mov (.t 1), none, []⟩,
      ⟨some 12, .mov (.t 0), none, []⟩,
      ⟨some 13, .mov (.t 5), none, []⟩,
      ⟨some 14, .ia 156 2 1 (.t 12) (.t 13), none, []⟩,
      ⟨some 15, .load 2 false 1 (.t 14), none, []⟩,
      ⟨some 16, .bin false .eql 2 (.t 11) (.t 15), none, []⟩])
    (.cond (.t 16)
      (.seq
      (.region false [4] [
        ⟨some 17, .mov (.t 5), none, []⟩,
        ⟨some 4, .asg (.t 17), none, []⟩])
      .ret)
      .skip))))
  (.region false [0, 1, 7, 8] [
    ⟨some 18, .bin false .add 3 (.t 8) (.c (.int .i64 1)), none, []⟩,
    ⟨some 8, .mov (.t 18), none, []⟩]))))
def l129_0 : VC := .loop b129_0
/-- slices.Index[[]int64,int64] -/
def v129 : VFun := {
  code :=
    (.seq
    (.region false [0, 1] [
      ⟨some 4, .asg (.c (.int .i64 0)), none, []⟩])
    (.seq
    (.seq
    (.region false [0, 1, 7, 8] [
      ⟨some 6, .mov (.t 0), none, []⟩,
      ⟨some 7, .len false 156 (.t 6), none, []⟩,
      ⟨some 8, .mov (.c (.int .i64 0)), none, []⟩])
    (.block 0
      l129_0))
    (.seq
    (.region false [4] [
      ⟨some 4, .asg (.c (.int .i64 (-1))), none, []⟩])
    .ret)))
  modes := [.lend, .lend]
  rets := [⟨4, none⟩] }

def b130_0 : VC :=
  (.seq
  (.seq
  (.region false [0, 3, 4, 15] [
    ⟨some 12, .mov (.t 4), none, []⟩,
    ⟨some 13, .mov (.t 0), none, []⟩,
    ⟨some 14, .len false 156 (.t 13), none, []⟩,
    ⟨some 15, .bin false .lss 3 (.t 12) (.t 14), none, []⟩])
  (.cond (.t 15)
    .skip
    (.exit 0)))
  (.seq
  (.block 1
    (.region false [0, 3, 4] [
      ⟨some 18, .mov (.t 3), none, []⟩,
      ⟨some 19, .mov (.t 0), none, []⟩,
      ⟨some 20, .mov (.t 4), none, []⟩,
      ⟨some 21, .ia 156 2 1 (.t 19) (.t 20), none, []⟩,
      ⟨some 22, .load 2 false 1 (.t 21), none, []⟩,
      ⟨some 23, .mm true (.t 18) (.t 22), none, []⟩,
      ⟨some 3, .asg (.t 23), none, []⟩]))
  (.region false [0, 3, 4] [
    ⟨some 16, .mov (.t 4), none, []⟩,
    ⟨some 17, .bin false .add 3 (.t 16) (.c (.int .i64 1)), none, []⟩,
    ⟨some 4, .asg (.t 17), none, []⟩])))
def l130_0 : VC := .loop b130_0
/-- slices.Max[[]int64,int64] -/
def v130 : VFun := {
  code :=
    (.seq
    (.region false [0] [
      ⟨some 2, .asg (.c (.int .i64 0)), none, []⟩])
    (.seq
    (.seq
    (.region false [0, 7] [
      ⟨some 5, .mov (.t 0), none, []⟩,
      ⟨some 6, .len false 156 (.t 5), none, []⟩,
      ⟨some 7, .bin false .lss 3 (.t 6) (.c (.int .i64 1)), none, []⟩])
    (.cond (.t 7)
      .any
      .skip))
    (.seq
    (.region false [0, 3] [
      ⟨some 9, .mov (.t 0), none, []⟩,
      ⟨some 10, .ia 156 2 1 (.t 9) (.c (.int .i64 0)), none, []⟩,
      ⟨some 11, .load 2 false 1 (.t 10), none, []⟩,
      ⟨some 3, .asg (.t 11), none, []⟩])
    (.seq
    (.seq
    (.region false [0, 3, 4] [
      ⟨some 4, .asg (.c (.int .i64 1)), none, []⟩])
    (.block 0
      l130_0))
    (.seq
    (.region false [2] [
      ⟨some 24, .mov (.t 3), none, []⟩,
      ⟨some 2, .asg (.t 24), none, []⟩])
    .ret)))))
  modes := [.lend]
  rets := [⟨2, none⟩] }

/-- loop.example/g00539/spec.l9Letter -/
def v148 : VFun := {
  code :=
    (.seq
    (.region false [0] [
      ⟨some 2, .asg (.c (.bool false)), none, []⟩])
    (.seq
    (.region false [2] [
      ⟨some 3, .mov (.t 0), none, []⟩,
      ⟨some 4, .bin false .geq 5 (.t 3) (.c (.int .u8 97)), none, []⟩,
      ⟨some 5, .mov (.t 4), none, []⟩,
      ⟨some 6, .mov (.t 0), some (5, true), []⟩,
      ⟨some 7, .bin false .leq 5 (.t 6) (.c (.int .u8 122)), some (5, true), []⟩,
      ⟨some 8, .pick (.t 5) (.t 7) (.c (.bool false)), none, []⟩,
      ⟨some 9, .mov (.t 8), none, []⟩,
      ⟨some 10, .mov (.t 0), some (9, false), []⟩,
      ⟨some 11, .bin false .geq 5 (.t 10) (.c (.int .u8 65)), some (9, false), []⟩,
      ⟨some 12, .mov (.t 11), some (9, false), []⟩,
      ⟨some 13, .mov (.t 0), some (12, true), []⟩,
      ⟨some 14, .bin false .leq 5 (.t 13) (.c (.int .u8 90)), some (12, true), []⟩,
      ⟨some 15, .pick (.t 12) (.t 14) (.c (.bool false)), some (9, false), []⟩,
      ⟨some 16, .pick (.t 9) (.c (.bool true)) (.t 15), none, []⟩,
      ⟨some 17, .mov (.t 16), none, []⟩,
      ⟨some 18, .mov (.t 0), some (17, false), []⟩,
      ⟨some 19, .bin false .geq 5 (.t 18) (.c (.int .u8 48)), some (17, false), []⟩,
      ⟨some 20, .mov (.t 19), some (17, false), []⟩,
      ⟨some 21, .mov (.t 0), some (20, true), []⟩,
      ⟨some 22, .bin false .leq 5 (.t 21) (.c (.int .u8 57)), some (20, true), []⟩,
      ⟨some 23, .pick (.t 20) (.t 22) (.c (.bool false)), some (17, false), []⟩,
      ⟨some 24, .pick (.t 17) (.c (.bool true)) (.t 23), none, []⟩,
      ⟨some 2, .asg (.t 24), none, []⟩])
    .ret))
  modes := [.lend]
  rets := [⟨2, none⟩] }

/-- loop.example/g00539/impl.argOk -/
def v149 : VFun := {
  code :=
    (.seq
    (.region false [0] [
      ⟨some 2, .asg (.c (.bool false)), none, []⟩])
    (.seq
    (.region false [2] [
      ⟨some 3, .mov (.t 0), none, []⟩,
      ⟨some 4, .len true 9 (.t 3), none, []⟩,
      ⟨some 5, .bin false .leq 3 (.t 4) (.c (.int .i64 12)), none, []⟩,
      ⟨some 6, .mov (.t 5), none, []⟩,
      ⟨some 7, .mov (.t 0), some (6, true), []⟩,
      ⟨some 8, .call 156 [(.t 7), (.c (.string (⟨#[97, 98, 99, 100, 101, 102, 103, 104, 105, 106, 107, 108, 109, 110, 111, 112, 113, 114, 115, 116, 117, 118, 119, 120, 121, 122, 65, 66, 67, 68, 69, 70, 71, 72, 73, 74, 75, 76, 77, 78, 79, 80, 81, 82, 83, 84, 85, 86, 87, 88, 89, 90, 48, 49, 50, 51, 52, 53, 54, 55, 56, 57]⟩ : ByteArray)))], some (6, true), []⟩,
      ⟨some 9, .bin false .eql 9 (.t 8) (.c (.string (⟨#[]⟩ : ByteArray))), some (6, true), []⟩,
      ⟨some 10, .pick (.t 6) (.t 9) (.c (.bool false)), none, []⟩,
      ⟨some 2, .asg (.t 10), none, []⟩])
    .ret))
  modes := [.lend]
  rets := [⟨2, none⟩] }

def b150_0 : VC :=
  (.seq
  (.seq
  (.region false [0, 1, 5, 9] [
    ⟨some 6, .mov (.t 5), none, []⟩,
    ⟨some 7, .mov (.t 0), none, []⟩,
    ⟨some 8, .len false 49 (.t 7), none, []⟩,
    ⟨some 9, .bin false .lss 3 (.t 6) (.t 8), none, []⟩])
  (.cond (.t 9)
    .skip
    (.exit 0)))
  (.seq
  (.block 1
    (.seq
    (.region false [0, 1, 5, 18] [
      ⟨some 12, .mov (.t 0), none, []⟩,
      ⟨some 13, .mov (.t 5), none, []⟩,
      ⟨some 14, .ia 49 112 2 (.t 12) (.t 13), none, []⟩,
      ⟨some 15, .fa 112 0 0 1 (.t 14), none, []⟩,
      ⟨some 16, .load 9 false 1 (.t 15), none, []⟩,
      ⟨some 17, .mov (.t 1), none, []⟩,
      ⟨some 18, .bin false .eql 9 (.t 16) (.t 17), none, []⟩])
    (.cond (.t 18)
      (.seq
      (.region false [4] [
        ⟨some 19, .mov (.t 5), none, []⟩,
        ⟨some 4, .asg (.t 19), none, []⟩])
      .ret)
      .skip)))
  (.region false [0, 1, 5] [
    ⟨some 10, .mov (.t 5), none, []⟩,
    ⟨some 11, .bin false .add 3 (.t 10) (.c (.int .i64 1)), none, []⟩,
    ⟨some 5, .asg (.t 11), none, []⟩])))
def l150_0 : VC := .loop b150_0
/-- loop.example/g00539/spec.l13At -/
def v150 : VFun := {
  code :=
    (.seq
    (.region false [0, 1] [
      ⟨some 4, .asg (.c (.int .i64 0)), none, []⟩])
    (.seq
    (.seq
    (.region false [0, 1, 5] [
      ⟨some 5, .asg (.c (.int .i64 0)), none, []⟩])
    (.block 0
      l150_0))
    (.seq
    (.region false [4] [
      ⟨some 4, .asg (.c (.int .i64 (-1))), none, []⟩])
    .ret)))
  modes := [.lend, .lend]
  rets := [⟨4, none⟩] }

/-- loop.example/g00539/impl.weightAt -/
def v151 : VFun := {
  code :=
    (.seq
    (.region false [0, 3] [
      ⟨some 3, .box 9 (.t 1), none, []⟩,
      ⟨some 4, .asg (.c (.int .i64 0)), none, []⟩])
    (.seq
    (.region false [4] [
      ⟨some 5, .mov (.t 0), none, []⟩,
      ⟨some 6, .fn 158 [] [(.t 3)], none, []⟩,
      ⟨some 7, .call 157 [(.t 5), (.t 6)], none, []⟩,
      ⟨some 4, .asg (.t 7), none, []⟩])
    .ret))
  modes := [.lend, .lend]
  rets := [⟨4, none⟩] }

def b157_0 : VC :=
  (.seq
  (.region false [0, 1, 7, 8, 9] [
    ⟨some 9, .bin false .lss 3 (.t 8) (.t 7), none, []⟩])
  (.seq
  (.cond (.t 9)
    .skip
    (.exit 0))
  (.seq
  (.block 1
    (.seq
    (.region false [0, 1, 5, 7, 8] [
      ⟨some 10, .mov (.t 8), none, []⟩,
      ⟨some 5, .asg (.t 10), none, []⟩])
    (.seq
    (.region false [0, 1, 5, 7, 8, 16] [
      ⟨some 11, .mov (.t 1), none, []⟩,
      ⟨some 12, .mov (.t 0), none, []⟩,
      ⟨some 13, .mov (.t 5), none, []⟩,
      ⟨some 14, .ia 49 112 2 (.t 12) (.t 13), none, []⟩,
      ⟨some 15, .load 112 true 2 (.t 14), none, []⟩,
      ⟨some 16, .callv (.t 11) [(.t 15)], none, []⟩])
    (.cond (.t 16)
      (.seq
      (.region false [4] [
        ⟨some 17, .mov (.t 5), none, []⟩,
        ⟨some 4, .asg (.t 17), none, []⟩])
      .ret)
      .skip))))
  (.region false [0, 1, 7, 8] [
    ⟨some 18, .bin false .add 3 (.t 8) (.c (.int .i64 1)), none, []⟩,
    ⟨some 8, .mov (.t 18), none, []⟩]))))
def l157_0 : VC := .loop b157_0
/-- slices.IndexFunc[[]loop.example/g00539/impl.Weight,loop.example/g00539/impl.Weight] -/
def v157 : VFun := {
  code :=
    (.seq
    (.region false [0, 1] [
      ⟨some 4, .asg (.c (.int .i64 0)), none, []⟩])
    (.seq
    (.seq
    (.region false [0, 1, 7, 8] [
      ⟨some 6, .mov (.t 0), none, []⟩,
      ⟨some 7, .len false 49 (.t 6), none, []⟩,
      ⟨some 8, .mov (.c (.int .i64 0)), none, []⟩])
    (.block 0
      l157_0))
    (.seq
    (.region false [4] [
      ⟨some 4, .asg (.c (.int .i64 (-1))), none, []⟩])
    .ret)))
  modes := [.lend, .lend]
  rets := [⟨4, none⟩] }

/-- loop.example/g00539/impl.weightAt$1 -/
def v158 : VFun := {
  code :=
    (.seq
    (.region false [1, 2] [
      ⟨some 2, .box 112 (.t 0), none, []⟩,
      ⟨some 3, .asg (.c (.bool false)), none, []⟩])
    (.seq
    (.region false [3] [
      ⟨some 4, .fa 112 0 0 1 (.t 2), none, []⟩,
      ⟨some 5, .load 9 false 1 (.t 4), none, []⟩,
      ⟨some 6, .load 9 false 1 (.t 1), none, []⟩,
      ⟨some 7, .bin false .eql 9 (.t 5) (.t 6), none, []⟩,
      ⟨some 3, .asg (.t 7), none, []⟩])
    .ret))
  modes := [.lend, .lend]
  rets := [⟨3, none⟩] }

def tab : List (Nat × VFun) := [(5, v5), (27, v27), (28, v28), (29, v29), (30, v30), (31, v31), (32, v32), (33, v33), (34, v34), (35, v35), (73, v73), (74, v74), (75, v75), (76, v76), (77, v77), (78, v78), (79, v79), (80, v80), (81, v81), (82, v82), (83, v83), (93, v93), (113, v113), (114, v114), (118, v118), (124, v124), (125, v125), (126, v126), (127, v127), (128, v128), (129, v129), (130, v130), (148, v148), (149, v149), (150, v150), (151, v151), (157, v157), (158, v158)]
def F (f : FuncId) : Option VFun := getA none (tab.map fun x => (x.1, some x.2)) f
theorem tab_ok : tab.all (fun x => matchFun Tryd.prog x.1 x.2) = true := by kernel_rfl
theorem F_mem {f : FuncId} {fn : VFun} : ∀ {l : List (Nat × VFun)}, getA none (l.map fun x => (x.1, some x.2)) f = some fn → (f, fn) ∈ l
  | [], h => by simp [getA] at h
  | (k, v) :: l, h => by
    simp only [List.map_cons, getA] at h
    split at h
    · rename_i e
      injection h with h
      subst e; subst h
      exact List.mem_cons_self ..
    · exact List.mem_cons_of_mem _ (F_mem h)
theorem F_ok (f : FuncId) (fn : VFun) (h : F f = some fn) : matchFun Tryd.prog f fn = true := List.all_eq_true.1 tab_ok _ (F_mem h)
end Go.Proofs.YtdnopbpdiineiaaDoor.SplitAmount
