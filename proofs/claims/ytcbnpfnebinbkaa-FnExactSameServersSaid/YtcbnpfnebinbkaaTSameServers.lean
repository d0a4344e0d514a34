/- V's text of the functions that this law reaches. -/
import Derived.Test.YtcbnpfnebinbkaaVCode
import Derived.Test.YtcbnpfnebinbkaaRows
import Derived.KernelRfl
namespace Go.Proofs.Ytcbnpfnebinbkaa.SameServers
open Go Go.Proofs.Ytcbnpfnebinbkaa.V

/-- loop.example/g00539/laws.FnExactSameServers -/
def v3 : VFun := {
  code :=
    (.seq
    (.region false [2, 3] [
      ⟨some 2, .box 24 (.t 0), none, []⟩,
      ⟨some 3, .box 24 (.t 1), none, []⟩,
      ⟨some 4, .asg (.c (.bool false)), none, []⟩])
    (.seq
    (.region false [2, 3, 5] [
      ⟨some 5, .asg (.c (.int .i64 1048576)), none, []⟩])
    (.seq
    (.region false [2, 3, 5] [
      ⟨some 10, .load 24 true 2 (.t 2), none, []⟩,
      ⟨some 11, .mov (.t 5), none, []⟩,
      ⟨some 12, .call 6 [(.t 10), (.t 11)], none, []⟩,
      ⟨some 5, .asg (.t 12), none, []⟩])
    (.seq
    (.seq
    (.region false [2, 3, 5, 14] [
      ⟨some 13, .mov (.t 5), none, []⟩,
      ⟨some 14, .bin false .lss 3 (.t 13) (.c (.int .i64 0)), none, []⟩])
    (.cond (.t 14)
      (.seq
      (.region false [4] [
        ⟨some 4, .asg (.c (.bool true)), none, []⟩])
      .ret)
      .skip))
    (.seq
    (.region false [2, 3, 5] [
      ⟨some 15, .load 24 true 2 (.t 3), none, []⟩,
      ⟨some 16, .mov (.t 5), none, []⟩,
      ⟨some 17, .call 6 [(.t 15), (.t 16)], none, []⟩,
      ⟨some 5, .asg (.t 17), none, []⟩])
    (.seq
    (.seq
    (.region false [2, 3, 19] [
      ⟨some 18, .mov (.t 5), none, []⟩,
      ⟨some 19, .bin false .lss 3 (.t 18) (.c (.int .i64 0)), none, []⟩])
    (.cond (.t 19)
      (.seq
      (.region false [4] [
        ⟨some 4, .asg (.c (.bool true)), none, []⟩])
      .ret)
      .skip))
    (.seq
    (.region true [2, 3, 6] [
      ⟨some 20, .load 24 true 2 (.t 2), none, []⟩,
      ⟨some 21, .call 8 [(.t 20)], none, []⟩,
      ⟨some 22, .load 24 true 2 (.t 3), none, [0, 1]⟩,
      ⟨some 23, .call 8 [(.t 22)], none, []⟩,
      ⟨some 24, .call 7 [(.t 21), (.t 23)], none, []⟩,
      ⟨some 6, .asg (.t 24), none, []⟩])
    (.seq
    (.region false [2, 3, 6, 7] [
      ⟨some 25, .load 24 true 2 (.t 2), none, []⟩,
      ⟨some 26, .call 8 [(.t 25)], none, []⟩,
      ⟨some 7, .alloc 29 [(.nl 4), (.val (.int .i64 0))], none, []⟩,
      ⟨none, .store 29 2 (.t 7) (.t 26), none, []⟩])
    (.seq
    (.region false [2, 3, 6, 7, 8] [
      ⟨some 27, .load 24 true 2 (.t 3), none, []⟩,
      ⟨some 28, .call 8 [(.t 27)], none, []⟩,
      ⟨some 8, .alloc 29 [(.nl 4), (.val (.int .i64 0))], none, []⟩,
      ⟨none, .store 29 2 (.t 8) (.t 28), none, []⟩])
    (.seq
    (.region false [2, 3, 6, 7, 8, 9] [
      ⟨some 29, .load 29 true 2 (.t 7), none, []⟩,
      ⟨some 30, .load 29 true 2 (.t 8), none, []⟩,
      ⟨some 31, .call 9 [(.t 29), (.t 30)], none, []⟩,
      ⟨some 9, .asg (.t 31), none, []⟩])
    (.seq
    (.seq
    (.region false [2, 3, 7, 8, 34] [
      ⟨some 32, .mov (.t 9), none, []⟩,
      ⟨some 33, .mov (.t 6), none, []⟩,
      ⟨some 34, .bin true .neq 4 (.t 32) (.t 33), none, []⟩])
    (.cond (.t 34)
      (.seq
      (.region false [4] [
        ⟨some 4, .asg (.c (.bool false)), none, []⟩])
      .ret)
      .skip))
    (.seq
    (.seq
    (.region true [3, 8, 39] [
      ⟨some 35, .load 29 true 2 (.t 7), none, []⟩,
      ⟨some 36, .load 24 true 2 (.t 2), none, [0]⟩,
      ⟨some 37, .call 8 [(.t 36)], none, [0]⟩,
      ⟨some 38, .call 10 [(.t 35), (.t 37)], none, []⟩,
      ⟨some 39, .un .not (.t 38), none, []⟩])
    (.cond (.t 39)
      (.seq
      (.region false [4] [
        ⟨some 4, .asg (.c (.bool false)), none, []⟩])
      .ret)
      .skip))
    (.seq
    (.seq
    (.region true [44] [
      ⟨some 40, .load 29 true 2 (.t 8), none, []⟩,
      ⟨some 41, .load 24 true 2 (.t 3), none, [0]⟩,
      ⟨some 42, .call 8 [(.t 41)], none, [0]⟩,
      ⟨some 43, .call 10 [(.t 40), (.t 42)], none, []⟩,
      ⟨some 44, .un .not (.t 43), none, []⟩])
    (.cond (.t 44)
      (.seq
      (.region false [4] [
        ⟨some 4, .asg (.c (.bool false)), none, []⟩])
      .ret)
      .skip))
    (.seq
    (.region false [4] [
      ⟨some 4, .asg (.c (.bool true)), none, []⟩])
    .ret))))))))))))))
  modes := [.lend, .lend]
  rets := [⟨4, none⟩] }

/-- loop.example/g00539/laws.szServer -/
def v6 : VFun := {
  code :=
    (.seq
    (.region false [1, 2] [
      ⟨some 2, .box 24 (.t 0), none, []⟩,
      ⟨some 4, .asg (.c (.int .i64 0)), none, []⟩])
    (.seq
    (.region false [1] [
      ⟨some 5, .fa 24 0 0 1 (.t 2), none, []⟩,
      ⟨some 6, .load 22 false 1 (.t 5), none, []⟩,
      ⟨some 7, .mov (.t 1), none, []⟩,
      ⟨some 8, .call 21 [(.t 6), (.t 7)], none, []⟩,
      ⟨some 1, .asg (.t 8), none, []⟩])
    (.seq
    (.seq
    (.region false [1, 10] [
      ⟨some 9, .mov (.t 1), none, []⟩,
      ⟨some 10, .bin false .lss 3 (.t 9) (.c (.int .i64 0)), none, []⟩])
    (.cond (.t 10)
      (.seq
      (.region false [4] [
        ⟨some 4, .asg (.c (.int .i64 (-1))), none, []⟩])
      .ret)
      .skip))
    (.seq
    (.region false [4] [
      ⟨some 11, .mov (.t 1), none, []⟩,
      ⟨some 4, .asg (.t 11), none, []⟩])
    .ret))))
  modes := [.lend, .lend]
  rets := [⟨4, none⟩] }

def b7_0 : VC :=
  (.seq
  (.seq
  (.region false [2, 3, 5, 24] [
    ⟨some 20, .mov (.t 5), none, []⟩,
    ⟨some 21, .fa 29 0 0 1 (.t 2), none, []⟩,
    ⟨some 22, .load 27 false 1 (.t 21), none, []⟩,
    ⟨some 23, .len false 27 (.t 22), none, []⟩,
    ⟨some 24, .bin false .lss 3 (.t 20) (.t 23), none, []⟩])
  (.cond (.t 24)
    .skip
    (.exit 0)))
  (.seq
  (.block 1
    (.seq
    (.region true [2, 3, 5, 37] [
      ⟨some 27, .fa 29 0 0 1 (.t 2), none, []⟩,
      ⟨some 28, .load 27 false 1 (.t 27), none, []⟩,
      ⟨some 29, .mov (.t 5), none, [0, 1]⟩,
      ⟨some 30, .ia 27 52 4 (.t 28) (.t 29), none, []⟩,
      ⟨some 31, .load 52 true 4 (.t 30), none, []⟩,
      ⟨some 32, .fa 29 0 0 1 (.t 3), none, [0, 1, 2, 3, 4]⟩,
      ⟨some 33, .load 27 false 1 (.t 32), none, [0, 1, 2, 3, 4]⟩,
      ⟨some 34, .mov (.t 5), none, [0, 1, 2, 3, 4, 5, 6]⟩,
      ⟨some 35, .ia 27 52 4 (.t 33) (.t 34), none, [0, 1, 2, 3, 4]⟩,
      ⟨some 36, .load 52 true 4 (.t 35), none, [0, 1, 2, 3, 4]⟩,
      ⟨some 37, .eqs true 52 [2, 1, 2, 1] (.t 31) (.t 36), none, []⟩])
    (.cond (.t 37)
      (.seq
      (.region false [4] [
        ⟨some 4, .asg (.c (.bool false)), none, []⟩])
      .ret)
      .skip)))
  (.region false [2, 3, 5] [
    ⟨some 25, .mov (.t 5), none, []⟩,
    ⟨some 26, .bin false .add 3 (.t 25) (.c (.int .i64 1)), none, []⟩,
    ⟨some 5, .asg (.t 26), none, []⟩])))
def l7_0 : VC := .loop b7_0
/-- loop.example/g00539/spec.SameServers -/
def v7 : VFun := {
  code :=
    (.seq
    (.region false [2, 3] [
      ⟨some 2, .box 29 (.t 0), none, []⟩,
      ⟨some 3, .box 29 (.t 1), none, []⟩,
      ⟨some 4, .asg (.c (.bool false)), none, []⟩])
    (.seq
    (.seq
    (.region false [2, 3, 19] [
      ⟨some 6, .fa 29 1 1 1 (.t 2), none, []⟩,
      ⟨some 7, .load 2 false 1 (.t 6), none, []⟩,
      ⟨some 8, .fa 29 1 1 1 (.t 3), none, []⟩,
      ⟨some 9, .load 2 false 1 (.t 8), none, []⟩,
      ⟨some 10, .bin false .neq 2 (.t 7) (.t 9), none, []⟩,
      ⟨some 11, .mov (.t 10), none, []⟩,
      ⟨some 12, .fa 29 0 0 1 (.t 2), some (11, false), []⟩,
      ⟨some 13, .load 27 false 1 (.t 12), some (11, false), []⟩,
      ⟨some 14, .len false 27 (.t 13), some (11, false), []⟩,
      ⟨some 15, .fa 29 0 0 1 (.t 3), some (11, false), []⟩,
      ⟨some 16, .load 27 false 1 (.t 15), some (11, false), []⟩,
      ⟨some 17, .len false 27 (.t 16), some (11, false), []⟩,
      ⟨some 18, .bin false .neq 3 (.t 14) (.t 17), some (11, false), []⟩,
      ⟨some 19, .pick (.t 11) (.c (.bool true)) (.t 18), none, []⟩])
    (.cond (.t 19)
      (.seq
      (.region false [4] [
        ⟨some 4, .asg (.c (.bool false)), none, []⟩])
      .ret)
      .skip))
    (.seq
    (.seq
    (.region false [2, 3, 5] [
      ⟨some 5, .asg (.c (.int .i64 0)), none, []⟩])
    (.block 0
      l7_0))
    (.seq
    (.region false [4] [
      ⟨some 4, .asg (.c (.bool true)), none, []⟩])
    .ret))))
  modes := [.lend, .lend]
  rets := [⟨4, none⟩] }

/-- loop.example/g00539/laws.toServer -/
def v8 : VFun := {
  code :=
    (.seq
    (.region false [1, 2] [
      ⟨some 1, .box 24 (.t 0), none, []⟩,
      ⟨some 2, .alloc 29 [(.nl 4), (.val (.int .i64 0))], none, []⟩])
    (.seq
    (.region false [1, 2, 3] [
      ⟨some 3, .alloc 29 [(.nl 4), (.val (.int .i64 0))], none, []⟩])
    (.seq
    (.region false [1, 2, 3] [
      ⟨some 4, .fa 24 0 0 1 (.t 1), none, []⟩,
      ⟨some 5, .load 22 false 1 (.t 4), none, []⟩,
      ⟨some 6, .call 22 [(.t 5)], none, []⟩,
      ⟨some 7, .fa 29 0 0 1 (.t 3), none, []⟩,
      ⟨none, .store 27 1 (.t 7) (.t 6), none, []⟩])
    (.seq
    (.region false [2, 3] [
      ⟨some 8, .fa 24 1 1 1 (.t 1), none, []⟩,
      ⟨some 9, .load 2 false 1 (.t 8), none, []⟩,
      ⟨some 10, .fa 29 1 1 1 (.t 3), none, []⟩,
      ⟨none, .store 2 1 (.t 10) (.t 9), none, []⟩])
    (.seq
    (.region false [2] [
      ⟨some 11, .load 29 true 2 (.t 3), none, []⟩,
      ⟨none, .store 29 2 (.t 2) (.t 11), none, []⟩])
    .ret)))))
  modes := [.lend]
  rets := [⟨2, some (true, 2)⟩] }

/-- loop.example/g00539/impl.SameServers -/
def v9 : VFun := {
  code :=
    (.seq
    (.region false [2, 3] [
      ⟨some 2, .box 29 (.t 0), none, []⟩,
      ⟨some 3, .box 29 (.t 1), none, []⟩,
      ⟨some 4, .asg (.c (.bool false)), none, []⟩])
    (.seq
    (.region false [4] [
      ⟨some 5, .fa 29 1 1 1 (.t 2), none, []⟩,
      ⟨some 6, .load 2 false 1 (.t 5), none, []⟩,
      ⟨some 7, .fa 29 1 1 1 (.t 3), none, []⟩,
      ⟨some 8, .load 2 false 1 (.t 7), none, []⟩,
      ⟨some 9, .bin false .eql 2 (.t 6) (.t 8), none, []⟩,
      ⟨some 10, .mov (.t 9), none, []⟩,
      ⟨some 11, .fa 29 0 0 1 (.t 2), some (10, true), []⟩,
      ⟨some 12, .load 27 false 1 (.t 11), some (10, true), []⟩,
      ⟨some 13, .fa 29 0 0 1 (.t 3), some (10, true), []⟩,
      ⟨some 14, .load 27 false 1 (.t 13), some (10, true), []⟩,
      ⟨some 15, .call 23 [(.t 12), (.t 14)], some (10, true), []⟩,
      ⟨some 16, .pick (.t 10) (.t 15) (.c (.bool false)), none, []⟩,
      ⟨some 4, .asg (.t 16), none, []⟩])
    .ret))
  modes := [.lend, .lend]
  rets := [⟨4, none⟩] }

/-- loop.example/g00539/laws.eqServer -/
def v10 : VFun := {
  code :=
    (.seq
    (.region false [2, 3] [
      ⟨some 2, .box 29 (.t 0), none, []⟩,
      ⟨some 3, .box 29 (.t 1), none, []⟩,
      ⟨some 4, .asg (.c (.bool false)), none, []⟩])
    (.seq
    (.seq
    (.region false [2, 3, 10] [
      ⟨some 5, .fa 29 0 0 1 (.t 2), none, []⟩,
      ⟨some 6, .load 27 false 1 (.t 5), none, []⟩,
      ⟨some 7, .fa 29 0 0 1 (.t 3), none, []⟩,
      ⟨some 8, .load 27 false 1 (.t 7), none, []⟩,
      ⟨some 9, .call 24 [(.t 6), (.t 8)], none, []⟩,
      ⟨some 10, .un .not (.t 9), none, []⟩])
    (.cond (.t 10)
      (.seq
      (.region false [4] [
        ⟨some 4, .asg (.c (.bool false)), none, []⟩])
      .ret)
      .skip))
    (.seq
    (.seq
    (.region false [15] [
      ⟨some 11, .fa 29 1 1 1 (.t 2), none, []⟩,
      ⟨some 12, .load 2 false 1 (.t 11), none, []⟩,
      ⟨some 13, .fa 29 1 1 1 (.t 3), none, []⟩,
      ⟨some 14, .load 2 false 1 (.t 13), none, []⟩,
      ⟨some 15, .bin false .neq 2 (.t 12) (.t 14), none, []⟩])
    (.cond (.t 15)
      (.seq
      (.region false [4] [
        ⟨some 4, .asg (.c (.bool false)), none, []⟩])
      .ret)
      .skip))
    (.seq
    (.region false [4] [
      ⟨some 4, .asg (.c (.bool true)), none, []⟩])
    .ret))))
  modes := [.lend, .lend]
  rets := [⟨4, none⟩] }

def b21_0 : VC :=
  (.seq
  (.seq
  (.region false [0, 1, 5, 15] [
    ⟨some 12, .mov (.t 5), none, []⟩,
    ⟨some 13, .mov (.t 0), none, []⟩,
    ⟨some 14, .len false 22 (.t 13), none, []⟩,
    ⟨some 15, .bin false .lss 3 (.t 12) (.t 14), none, []⟩])
  (.cond (.t 15)
    .skip
    (.exit 0)))
  (.seq
  (.block 1
    (.seq
    (.region false [0, 1, 5] [
      ⟨some 18, .mov (.t 0), none, []⟩,
      ⟨some 19, .mov (.t 5), none, []⟩,
      ⟨some 20, .ia 22 72 4 (.t 18) (.t 19), none, []⟩,
      ⟨some 21, .load 72 true 4 (.t 20), none, []⟩,
      ⟨some 22, .mov (.t 1), none, []⟩,
      ⟨some 23, .call 39 [(.t 21), (.t 22)], none, []⟩,
      ⟨some 1, .asg (.t 23), none, []⟩])
    (.seq
    (.region false [0, 1, 5, 25] [
      ⟨some 24, .mov (.t 1), none, []⟩,
      ⟨some 25, .bin false .lss 3 (.t 24) (.c (.int .i64 0)), none, []⟩])
    (.cond (.t 25)
      (.seq
      (.region false [4] [
        ⟨some 4, .asg (.c (.int .i64 (-1))), none, []⟩])
      .ret)
      .skip))))
  (.region false [0, 1, 5] [
    ⟨some 16, .mov (.t 5), none, []⟩,
    ⟨some 17, .bin false .add 3 (.t 16) (.c (.int .i64 1)), none, []⟩,
    ⟨some 5, .asg (.t 17), none, []⟩])))
def l21_0 : VC := .loop b21_0
/-- loop.example/g00539/laws.szSessionS -/
def v21 : VFun := {
  code :=
    (.seq
    (.region false [0, 1] [
      ⟨some 4, .asg (.c (.int .i64 0)), none, []⟩])
    (.seq
    (.region false [0, 1] [
      ⟨some 6, .mov (.t 1), none, []⟩,
      ⟨some 7, .mov (.t 0), none, []⟩,
      ⟨some 8, .len false 22 (.t 7), none, []⟩,
      ⟨some 9, .bin false .sub 3 (.t 6) (.t 8), none, []⟩,
      ⟨some 1, .asg (.t 9), none, []⟩])
    (.seq
    (.seq
    (.region false [0, 1, 11] [
      ⟨some 10, .mov (.t 1), none, []⟩,
      ⟨some 11, .bin false .lss 3 (.t 10) (.c (.int .i64 0)), none, []⟩])
    (.cond (.t 11)
      (.seq
      (.region false [4] [
        ⟨some 4, .asg (.c (.int .i64 (-1))), none, []⟩])
      .ret)
      .skip))
    (.seq
    (.seq
    (.region false [0, 1, 5] [
      ⟨some 5, .asg (.c (.int .i64 0)), none, []⟩])
    (.block 0
      l21_0))
    (.seq
    (.region false [4] [
      ⟨some 26, .mov (.t 1), none, []⟩,
      ⟨some 4, .asg (.t 26), none, []⟩])
    .ret)))))
  modes := [.lend, .lend]
  rets := [⟨4, none⟩] }

def b22_0 : VC :=
  (.seq
  (.seq
  (.region false [0, 3, 4, 7, 11] [
    ⟨some 8, .mov (.t 4), none, []⟩,
    ⟨some 9, .mov (.t 0), none, []⟩,
    ⟨some 10, .len false 22 (.t 9), none, []⟩,
    ⟨some 11, .bin false .lss 3 (.t 8) (.t 10), none, []⟩])
  (.cond (.t 11)
    .skip
    (.exit 0)))
  (.seq
  (.block 1
    (.region false [0, 3, 4, 7] [
      ⟨some 14, .mov (.t 3), none, []⟩,
      ⟨some 15, .mov (.t 4), none, []⟩,
      ⟨some 16, .mov (.t 0), none, []⟩,
      ⟨some 17, .mov (.t 4), none, []⟩,
      ⟨some 18, .ia 22 72 4 (.t 16) (.t 17), none, []⟩,
      ⟨some 19, .load 72 true 4 (.t 18), none, []⟩,
      ⟨some 20, .call 40 [(.t 19)], none, []⟩,
      ⟨some 21, .ia 27 52 4 (.t 14) (.t 15), none, []⟩,
      ⟨none, .store 52 4 (.t 21) (.t 20), none, []⟩]))
  (.region false [0, 3, 4, 7] [
    ⟨some 12, .mov (.t 4), none, []⟩,
    ⟨some 13, .bin false .add 3 (.t 12) (.c (.int .i64 1)), none, []⟩,
    ⟨some 4, .asg (.t 13), none, []⟩])))
def l22_0 : VC := .loop b22_0
/-- loop.example/g00539/laws.toSessionS -/
def v22 : VFun := {
  code :=
    (.seq
    (.region false [0] [
      ⟨some 2, .asg (.n 4), none, []⟩])
    (.seq
    (.region false [0, 3, 7] [
      ⟨some 5, .mov (.t 0), none, []⟩,
      ⟨some 6, .len false 22 (.t 5), none, []⟩,
      ⟨some 7, .mk 27 52 4 48 [(.val (.string (⟨#[]⟩ : ByteArray))), (.val (.int .i64 0)), (.val (.string (⟨#[]⟩ : ByteArray))), (.val (.int .i64 0))] (.t 6) (.t 6), none, []⟩,
      ⟨some 3, .asg (.t 7), none, []⟩])
    (.seq
    (.seq
    (.region false [0, 3, 4, 7] [
      ⟨some 4, .asg (.c (.int .i64 0)), none, []⟩])
    (.block 0
      l22_0))
    (.seq
    (.region false [2, 3, 7, 22] [
      ⟨some 22, .mov (.t 3), none, []⟩,
      ⟨some 2, .asg (.t 22), none, []⟩])
    .ret))))
  modes := [.lend]
  rets := [⟨2, none⟩] }

def b23_0 : VC :=
  (.seq
  (.region false [0, 1, 12, 13, 14] [
    ⟨some 14, .bin false .lss 3 (.t 13) (.t 12), none, []⟩])
  (.seq
  (.cond (.t 14)
    .skip
    (.exit 0))
  (.seq
  (.block 1
    (.seq
    (.region false [0, 1, 5, 12, 13] [
      ⟨some 15, .mov (.t 13), none, []⟩,
      ⟨some 5, .asg (.t 15), none, []⟩])
    (.seq
    (.region true [0, 1, 12, 13, 24] [
      ⟨some 16, .mov (.t 0), none, []⟩,
      ⟨some 17, .mov (.t 5), none, [0]⟩,
      ⟨some 18, .ia 27 52 4 (.t 16) (.t 17), none, []⟩,
      ⟨some 19, .load 52 true 4 (.t 18), none, []⟩,
      ⟨some 20, .mov (.t 1), none, [0, 1, 2, 3]⟩,
      ⟨some 21, .mov (.t 5), none, [0, 1, 2, 3, 4]⟩,
      ⟨some 22, .ia 27 52 4 (.t 20) (.t 21), none, [0, 1, 2, 3]⟩,
      ⟨some 23, .load 52 true 4 (.t 22), none, [0, 1, 2, 3]⟩,
      ⟨some 24, .eqs true 52 [2, 1, 2, 1] (.t 19) (.t 23), none, []⟩])
    (.cond (.t 24)
      (.seq
      (.region false [4] [
        ⟨some 4, .asg (.c (.bool false)), none, []⟩])
      .ret)
      .skip))))
  (.region false [0, 1, 12, 13] [
    ⟨some 25, .bin false .add 3 (.t 13) (.c (.int .i64 1)), none, []⟩,
    ⟨some 13, .mov (.t 25), none, []⟩]))))
def l23_0 : VC := .loop b23_0
/-- slices.Equal[[]loop.example/g00539/impl.Session,loop.example/g00539/impl.Session] -/
def v23 : VFun := {
  code :=
    (.seq
    (.region false [0, 1] [
      ⟨some 4, .asg (.c (.bool false)), none, []⟩])
    (.seq
    (.seq
    (.region false [0, 1, 10] [
      ⟨some 6, .mov (.t 0), none, []⟩,
      ⟨some 7, .len false 27 (.t 6), none, []⟩,
      ⟨some 8, .mov (.t 1), none, []⟩,
      ⟨some 9, .len false 27 (.t 8), none, []⟩,
      ⟨some 10, .bin false .neq 3 (.t 7) (.t 9), none, []⟩])
    (.cond (.t 10)
      (.seq
      (.region false [4] [
        ⟨some 4, .asg (.c (.bool false)), none, []⟩])
      .ret)
      .skip))
    (.seq
    (.seq
    (.region false [0, 1, 12, 13] [
      ⟨some 11, .mov (.t 0), none, []⟩,
      ⟨some 12, .len false 27 (.t 11), none, []⟩,
      ⟨some 13, .mov (.c (.int .i64 0)), none, []⟩])
    (.block 0
      l23_0))
    (.seq
    (.region false [4] [
      ⟨some 4, .asg (.c (.bool true)), none, []⟩])
    .ret))))
  modes := [.lend, .lend]
  rets := [⟨4, none⟩] }

def b24_0 : VC :=
  (.seq
  (.seq
  (.region false [0, 1, 5, 14] [
    ⟨some 11, .mov (.t 5), none, []⟩,
    ⟨some 12, .mov (.t 0), none, []⟩,
    ⟨some 13, .len false 27 (.t 12), none, []⟩,
    ⟨some 14, .bin false .lss 3 (.t 11) (.t 13), none, []⟩])
  (.cond (.t 14)
    .skip
    (.exit 0)))
  (.seq
  (.block 1
    (.seq
    (.region true [0, 1, 5, 26] [
      ⟨some 17, .mov (.t 0), none, []⟩,
      ⟨some 18, .mov (.t 5), none, [0]⟩,
      ⟨some 19, .ia 27 52 4 (.t 17) (.t 18), none, []⟩,
      ⟨some 20, .load 52 true 4 (.t 19), none, []⟩,
      ⟨some 21, .mov (.t 1), none, [0, 1, 2, 3]⟩,
      ⟨some 22, .mov (.t 5), none, [0, 1, 2, 3, 4]⟩,
      ⟨some 23, .ia 27 52 4 (.t 21) (.t 22), none, [0, 1, 2, 3]⟩,
      ⟨some 24, .load 52 true 4 (.t 23), none, [0, 1, 2, 3]⟩,
      ⟨some 25, .call 41 [(.t 20), (.t 24)], none, []⟩,
      ⟨some 26, .un .not (.t 25), none, []⟩])
    (.cond (.t 26)
      (.seq
      (.region false [4] [
        ⟨some 4, .asg (.c (.bool false)), none, []⟩])
      .ret)
      .skip)))
  (.region false [0, 1, 5] [
    ⟨some 15, .mov (.t 5), none, []⟩,
    ⟨some 16, .bin false .add 3 (.t 15) (.c (.int .i64 1)), none, []⟩,
    ⟨some 5, .asg (.t 16), none, []⟩])))
def l24_0 : VC := .loop b24_0
/-- loop.example/g00539/laws.eqSessionS -/
def v24 : VFun := {
  code :=
    (.seq
    (.region false [0, 1] [
      ⟨some 4, .asg (.c (.bool false)), none, []⟩])
    (.seq
    (.seq
    (.region false [0, 1, 10] [
      ⟨some 6, .mov (.t 0), none, []⟩,
      ⟨some 7, .len false 27 (.t 6), none, []⟩,
      ⟨some 8, .mov (.t 1), none, []⟩,
      ⟨some 9, .len false 27 (.t 8), none, []⟩,
      ⟨some 10, .bin false .neq 3 (.t 7) (.t 9), none, []⟩])
    (.cond (.t 10)
      (.seq
      (.region false [4] [
        ⟨some 4, .asg (.c (.bool false)), none, []⟩])
      .ret)
      .skip))
    (.seq
    (.seq
    (.region false [0, 1, 5] [
      ⟨some 5, .asg (.c (.int .i64 0)), none, []⟩])
    (.block 0
      l24_0))
    (.seq
    (.region false [4] [
      ⟨some 4, .asg (.c (.bool true)), none, []⟩])
    .ret))))
  modes := [.lend, .lend]
  rets := [⟨4, none⟩] }

/-- loop.example/g00539/laws.szSession -/
def v39 : VFun := {
  code :=
    (.seq
    (.region false [1, 2] [
      ⟨some 2, .box 72 (.t 0), none, []⟩,
      ⟨some 4, .asg (.c (.int .i64 0)), none, []⟩])
    (.seq
    (.region false [1, 2] [
      ⟨some 5, .mov (.t 1), none, []⟩,
      ⟨some 6, .fa 72 0 0 1 (.t 2), none, []⟩,
      ⟨some 7, .load 9 false 1 (.t 6), none, []⟩,
      ⟨some 8, .len true 9 (.t 7), none, []⟩,
      ⟨some 9, .bin false .sub 3 (.t 5) (.t 8), none, []⟩,
      ⟨some 1, .asg (.t 9), none, []⟩])
    (.seq
    (.seq
    (.region false [1, 2, 11] [
      ⟨some 10, .mov (.t 1), none, []⟩,
      ⟨some 11, .bin false .lss 3 (.t 10) (.c (.int .i64 0)), none, []⟩])
    (.cond (.t 11)
      (.seq
      (.region false [4] [
        ⟨some 4, .asg (.c (.int .i64 (-1))), none, []⟩])
      .ret)
      .skip))
    (.seq
    (.region false [1] [
      ⟨some 12, .mov (.t 1), none, []⟩,
      ⟨some 13, .fa 72 2 2 1 (.t 2), none, []⟩,
      ⟨some 14, .load 9 false 1 (.t 13), none, []⟩,
      ⟨some 15, .len true 9 (.t 14), none, []⟩,
      ⟨some 16, .bin false .sub 3 (.t 12) (.t 15), none, []⟩,
      ⟨some 1, .asg (.t 16), none, []⟩])
    (.seq
    (.seq
    (.region false [1, 18] [
      ⟨some 17, .mov (.t 1), none, []⟩,
      ⟨some 18, .bin false .lss 3 (.t 17) (.c (.int .i64 0)), none, []⟩])
    (.cond (.t 18)
      (.seq
      (.region false [4] [
        ⟨some 4, .asg (.c (.int .i64 (-1))), none, []⟩])
      .ret)
      .skip))
    (.seq
    (.region false [4] [
      ⟨some 19, .mov (.t 1), none, []⟩,
      ⟨some 4, .asg (.t 19), none, []⟩])
    .ret))))))
  modes := [.lend, .lend]
  rets := [⟨4, none⟩] }

/-- loop.example/g00539/laws.toSession -/
def v40 : VFun := {
  code :=
    (.seq
    (.region false [1, 2] [
      ⟨some 1, .box 72 (.t 0), none, []⟩,
      ⟨some 2, .alloc 52 [(.val (.string (⟨#[]⟩ : ByteArray))), (.val (.int .i64 0)), (.val (.string (⟨#[]⟩ : ByteArray))), (.val (.int .i64 0))], none, []⟩])
    (.seq
    (.region false [1, 2, 3] [
      ⟨some 3, .alloc 52 [(.val (.string (⟨#[]⟩ : ByteArray))), (.val (.int .i64 0)), (.val (.string (⟨#[]⟩ : ByteArray))), (.val (.int .i64 0))], none, []⟩])
    (.seq
    (.region false [1, 2, 3] [
      ⟨some 4, .fa 72 0 0 1 (.t 1), none, []⟩,
      ⟨some 5, .load 9 false 1 (.t 4), none, []⟩,
      ⟨some 6, .fa 52 0 0 1 (.t 3), none, []⟩,
      ⟨none, .store 9 1 (.t 6) (.t 5), none, []⟩])
    (.seq
    (.region false [1, 2, 3] [
      ⟨some 7, .fa 72 1 1 1 (.t 1), none, []⟩,
      ⟨some 8, .load 2 false 1 (.t 7), none, []⟩,
      ⟨some 9, .fa 52 1 1 1 (.t 3), none, []⟩,
      ⟨none, .store 2 1 (.t 9) (.t 8), none, []⟩])
    (.seq
    (.region false [1, 2, 3] [
      ⟨some 10, .fa 72 2 2 1 (.t 1), none, []⟩,
      ⟨some 11, .load 9 false 1 (.t 10), none, []⟩,
      ⟨some 12, .fa 52 2 2 1 (.t 3), none, []⟩,
      ⟨none, .store 9 1 (.t 12) (.t 11), none, []⟩])
    (.seq
    (.region false [2, 3] [
      ⟨some 13, .fa 72 3 3 1 (.t 1), none, []⟩,
      ⟨some 14, .load 2 false 1 (.t 13), none, []⟩,
      ⟨some 15, .fa 52 3 3 1 (.t 3), none, []⟩,
      ⟨none, .store 2 1 (.t 15) (.t 14), none, []⟩])
    (.seq
    (.region false [2] [
      ⟨some 16, .load 52 true 4 (.t 3), none, []⟩,
      ⟨none, .store 52 4 (.t 2) (.t 16), none, []⟩])
    .ret)))))))
  modes := [.lend]
  rets := [⟨2, some (true, 4)⟩] }

/-- loop.example/g00539/laws.eqSession -/
def v41 : VFun := {
  code :=
    (.seq
    (.region false [2, 3] [
      ⟨some 2, .box 52 (.t 0), none, []⟩,
      ⟨some 3, .box 52 (.t 1), none, []⟩,
      ⟨some 4, .asg (.c (.bool false)), none, []⟩])
    (.seq
    (.seq
    (.region false [2, 3, 9] [
      ⟨some 5, .fa 52 0 0 1 (.t 2), none, []⟩,
      ⟨some 6, .load 9 false 1 (.t 5), none, []⟩,
      ⟨some 7, .fa 52 0 0 1 (.t 3), none, []⟩,
      ⟨some 8, .load 9 false 1 (.t 7), none, []⟩,
      ⟨some 9, .bin false .neq 9 (.t 6) (.t 8), none, []⟩])
    (.cond (.t 9)
      (.seq
      (.region false [4] [
        ⟨some 4, .asg (.c (.bool false)), none, []⟩])
      .ret)
      .skip))
    (.seq
    (.seq
    (.region false [2, 3, 14] [
      ⟨some 10, .fa 52 1 1 1 (.t 2), none, []⟩,
      ⟨some 11, .load 2 false 1 (.t 10), none, []⟩,
      ⟨some 12, .fa 52 1 1 1 (.t 3), none, []⟩,
      ⟨some 13, .load 2 false 1 (.t 12), none, []⟩,
      ⟨some 14, .bin false .neq 2 (.t 11) (.t 13), none, []⟩])
    (.cond (.t 14)
      (.seq
      (.region false [4] [
        ⟨some 4, .asg (.c (.bool false)), none, []⟩])
      .ret)
      .skip))
    (.seq
    (.seq
    (.region false [2, 3, 19] [
      ⟨some 15, .fa 52 2 2 1 (.t 2), none, []⟩,
      ⟨some 16, .load 9 false 1 (.t 15), none, []⟩,
      ⟨some 17, .fa 52 2 2 1 (.t 3), none, []⟩,
      ⟨some 18, .load 9 false 1 (.t 17), none, []⟩,
      ⟨some 19, .bin false .neq 9 (.t 16) (.t 18), none, []⟩])
    (.cond (.t 19)
      (.seq
      (.region false [4] [
        ⟨some 4, .asg (.c (.bool false)), none, []⟩])
      .ret)
      .skip))
    (.seq
    (.seq
    (.region false [24] [
      ⟨some 20, .fa 52 3 3 1 (.t 2), none, []⟩,
      ⟨some 21, .load 2 false 1 (.t 20), none, []⟩,
      ⟨some 22, .fa 52 3 3 1 (.t 3), none, []⟩,
      ⟨some 23, .load 2 false 1 (.t 22), none, []⟩,
      ⟨some 24, .bin false .neq 2 (.t 21) (.t 23), none, []⟩])
    (.cond (.t 24)
      (.seq
      (.region false [4] [
        ⟨some 4, .asg (.c (.bool false)), none, []⟩])
      .ret)
      .skip))
    (.seq
    (.region false [4] [
      ⟨some 4, .asg (.c (.bool true)), none, []⟩])
    .ret))))))
  modes := [.lend, .lend]
  rets := [⟨4, none⟩] }

def tab : List (Nat × VFun) := [(3, v3), (6, v6), (7, v7), (8, v8), (9, v9), (10, v10), (21, v21), (22, v22), (23, v23), (24, v24), (39, v39), (40, v40), (41, v41)]
def F (f : FuncId) : Option VFun := getA none (tab.map fun x => (x.1, some x.2)) f
theorem tab_ok : tab.all (fun x => matchFun Try.prog x.1 x.2) = true := by kernel_rfl
theorem F_mem {f : FuncId} {fn : VFun} : ∀ {l : List (Nat × VFun)}, getA none (l.map fun x => (x.1, some x.2)) f = some fn → (f, fn) ∈ l
  | [], h => by simp [getA] at h
  | (k, v) :: l, h => by
    simp only [List.map_cons, getA] at h
    split at h
    · rename_i e
      injection h with h
      subst e; subst h
      exact List.mem_cons_self ..
    · exact List.mem_cons_of_mem _ (F_mem h)
theorem F_ok (f : FuncId) (fn : VFun) (h : F f = some fn) : matchFun Try.prog f fn = true := List.all_eq_true.1 tab_ok _ (F_mem h)
end Go.Proofs.Ytcbnpfnebinbkaa.SameServers
