/- V's text of the functions that this law reaches. -/
import Derived.Test.YtdnopbpdiineiaaDoorVCode
import Derived.Test.YtdnopbpdiineiaaDoorRows
import Derived.KernelRfl
namespace Go.Proofs.YtdnopbpdiineiaaDoor.PackEntry
open Go Go.Proofs.YtdnopbpdiineiaaDoor.V
set_option maxRecDepth 20000

/-- loop.example/g00539/laws.FnExactPackEntry -/
def v3 : VFun := {
  code :=
    (.seq
    (.region false [1] [
      ⟨some 1, .box 23 (.t 0), none, []⟩,
      ⟨some 2, .asg (.c (.bool false)), none, []⟩])
    (.seq
    (.region false [1, 3] [
      ⟨some 3, .asg (.c (.int .i64 1048576)), none, []⟩])
    (.seq
    (.region false [1, 3] [
      ⟨some 9, .load 23 true 4 (.t 1), none, []⟩,
      ⟨some 10, .mov (.t 3), none, []⟩,
      ⟨some 11, .call 11 [(.t 9), (.t 10)], none, []⟩,
      ⟨some 3, .asg (.t 11), none, []⟩])
    (.seq
    (.seq
    (.region false [1, 13] [
      ⟨some 12, .mov (.t 3), none, []⟩,
      ⟨some 13, .bin false .lss 3 (.t 12) (.c (.int .i64 0)), none, []⟩])
    (.cond (.t 13)
      (.seq
      (.region false [2] [
        ⟨some 2, .asg (.c (.bool true)), none, []⟩])
      .ret)
      .skip))
    (.seq
    (.region false [1, 4] [
      ⟨some 14, .load 23 true 4 (.t 1), none, []⟩,
      ⟨some 15, .call 13 [(.t 14)], none, []⟩,
      ⟨some 16, .call 12 [(.t 15)], none, []⟩,
      ⟨some 4, .alloc 27 [(.val (.int .i64 0)), (.nl 1)], none, []⟩,
      ⟨none, .store 27 2 (.t 4) (.t 16), none, []⟩])
    (.seq
    (.region false [1, 4, 5] [
      ⟨some 17, .load 23 true 4 (.t 1), none, []⟩,
      ⟨some 18, .call 13 [(.t 17)], none, []⟩,
      ⟨some 19, .call 14 [(.t 18)], none, []⟩,
      ⟨some 5, .alloc 27 [(.val (.int .i64 0)), (.nl 1)], none, []⟩,
      ⟨none, .store 27 2 (.t 5) (.t 19), none, []⟩])
    (.seq
    (.seq
    (.region false [1, 4, 5, 23] [
      ⟨some 20, .load 27 true 2 (.t 5), none, []⟩,
      ⟨some 21, .load 27 true 2 (.t 4), none, []⟩,
      ⟨some 22, .call 15 [(.t 20), (.t 21)], none, []⟩,
      ⟨some 23, .un .not (.t 22), none, []⟩])
    (.cond (.t 23)
      (.seq
      (.region false [2] [
        ⟨some 2, .asg (.c (.bool false)), none, []⟩])
      .ret)
      .skip))
    (.seq
    (.region false [1, 4, 5, 6] [
      ⟨some 6, .asg (.c (.int .i64 1)), none, []⟩])
    (.seq
    (.region false [1, 4, 5, 6] [
      ⟨some 24, .load 27 true 2 (.t 5), none, []⟩,
      ⟨some 25, .mov (.t 6), none, []⟩,
      ⟨some 26, .call 16 [(.t 24), (.t 25)], none, []⟩,
      ⟨some 6, .asg (.t 26), none, []⟩])
    (.seq
    (.region false [1, 4, 5, 6, 7] [
      ⟨some 7, .asg (.c (.int .i64 1)), none, []⟩])
    (.seq
    (.region false [1, 4, 5, 6, 7] [
      ⟨some 27, .load 27 true 2 (.t 5), none, []⟩,
      ⟨some 28, .mov (.t 7), none, []⟩,
      ⟨some 29, .call 17 [(.t 27), (.t 28)], none, []⟩,
      ⟨some 7, .asg (.t 29), none, []⟩])
    (.seq
    (.seq
    (.region false [1, 4, 5, 6, 7, 31] [
      ⟨some 30, .mov (.t 7), none, []⟩,
      ⟨some 31, .bin false .lss 3 (.t 30) (.c (.int .i64 0)), none, []⟩])
    (.cond (.t 31)
      (.seq
      (.region false [2] [
        ⟨some 2, .asg (.c (.bool false)), none, []⟩])
      .ret)
      .skip))
    (.seq
    (.seq
    (.region false [1, 4, 5, 6, 34] [
      ⟨some 32, .mov (.t 7), none, []⟩,
      ⟨some 33, .mov (.t 6), none, []⟩,
      ⟨some 34, .bin false .neq 3 (.t 32) (.t 33), none, []⟩])
    (.cond (.t 34)
      (.seq
      (.region false [2] [
        ⟨some 2, .asg (.c (.bool false)), none, []⟩])
      .ret)
      .skip))
    (.seq
    (.region false [4, 5, 6, 8] [
      ⟨some 35, .load 23 true 4 (.t 1), none, []⟩,
      ⟨some 36, .call 13 [(.t 35)], none, []⟩,
      ⟨some 37, .call 14 [(.t 36)], none, []⟩,
      ⟨some 8, .alloc 27 [(.val (.int .i64 0)), (.nl 1)], none, []⟩,
      ⟨none, .store 27 2 (.t 8) (.t 37), none, []⟩])
    (.seq
    (.seq
    (.region false [5, 6, 41] [
      ⟨some 38, .load 27 true 2 (.t 8), none, []⟩,
      ⟨some 39, .load 27 true 2 (.t 4), none, []⟩,
      ⟨some 40, .call 15 [(.t 38), (.t 39)], none, []⟩,
      ⟨some 41, .un .not (.t 40), none, []⟩])
    (.cond (.t 41)
      (.seq
      (.region false [2] [
        ⟨some 2, .asg (.c (.bool false)), none, []⟩])
      .ret)
      .skip))
    (.seq
    (.region false [5, 6, 7] [
      ⟨some 7, .asg (.c (.int .i64 1)), none, []⟩])
    (.seq
    (.region false [6, 7] [
      ⟨some 42, .load 27 true 2 (.t 5), none, []⟩,
      ⟨some 43, .mov (.t 7), none, []⟩,
      ⟨some 44, .call 17 [(.t 42), (.t 43)], none, []⟩,
      ⟨some 7, .asg (.t 44), none, []⟩])
    (.seq
    (.seq
    (.region false [6, 7, 46] [
      ⟨some 45, .mov (.t 7), none, []⟩,
      ⟨some 46, .bin false .lss 3 (.t 45) (.c (.int .i64 0)), none, []⟩])
    (.cond (.t 46)
      (.seq
      (.region false [2] [
        ⟨some 2, .asg (.c (.bool false)), none, []⟩])
      .ret)
      .skip))
    (.seq
    (.seq
    (.region false [49] [
      ⟨some 47, .mov (.t 7), none, []⟩,
      ⟨some 48, .mov (.t 6), none, []⟩,
      ⟨some 49, .bin false .neq 3 (.t 47) (.t 48), none, []⟩])
    (.cond (.t 49)
      (.seq
      (.region false [2] [
        ⟨some 2, .asg (.c (.bool false)), none, []⟩])
      .ret)
      .skip))
    (.seq
    (.region false [2] [
      ⟨some 2, .asg (.c (.bool true)), none, []⟩])
    .ret))))))))))))))))))))
  modes := [.lend]
  rets := [⟨2, none⟩] }

/-- loop.example/g00539/laws.szEntry -/
def v11 : VFun := {
  code :=
    (.seq
    (.region false [1, 2] [
      ⟨some 2, .box 23 (.t 0), none, []⟩,
      ⟨some 4, .asg (.c (.int .i64 0)), none, []⟩])
    (.seq
    (.region false [1] [
      ⟨some 5, .mov (.t 1), none, []⟩,
      ⟨some 6, .fa 23 1 1 1 (.t 2), none, []⟩,
      ⟨some 7, .load 9 false 1 (.t 6), none, []⟩,
      ⟨some 8, .len true 9 (.t 7), none, []⟩,
      ⟨some 9, .bin false .sub 3 (.t 5) (.t 8), none, []⟩,
      ⟨some 1, .asg (.t 9), none, []⟩])
    (.seq
    (.seq
    (.region false [1, 11] [
      ⟨some 10, .mov (.t 1), none, []⟩,
      ⟨some 11, .bin false .lss 3 (.t 10) (.c (.int .i64 0)), none, []⟩])
    (.cond (.t 11)
      (.seq
      (.region false [4] [
        ⟨some 4, .asg (.c (.int .i64 (-1))), none, []⟩])
      .ret)
      .skip))
    (.seq
    (.region false [4] [
      ⟨some 12, .mov (.t 1), none, []⟩,
      ⟨some 4, .asg (.t 12), none, []⟩])
    .ret))))
  modes := [.lend, .lend]
  rets := [⟨4, none⟩] }

/-- loop.example/g00539/spec.PackEntry -/
def v12 : VFun := {
  code :=
    (.seq
    (.region false [1, 2] [
      ⟨some 1, .box 29 (.t 0), none, []⟩,
      ⟨some 2, .alloc 27 [(.val (.int .i64 0)), (.nl 1)], none, []⟩])
    (.seq
    (.seq
    (.region false [1, 2, 3] [
      ⟨some 4, .call 62 [(.t 1)], none, []⟩,
      ⟨some 3, .asg (.t 4), none, []⟩])
    (.seq
    (.region false [1, 2, 3, 6] [
      ⟨some 5, .mov (.t 3), none, []⟩,
      ⟨some 6, .bin false .neq 2 (.t 5) (.c (.int .i64 0)), none, []⟩])
    (.cond (.t 6)
      (.seq
      (.region false [2] [
        ⟨some 7, .mov (.t 3), none, []⟩,
        ⟨some 8, .build 27 [(.val (.int .i64 0)), (.nl 1)] [(0, 0, 1, (.t 7))], none, []⟩,
        ⟨none, .store 27 2 (.t 2) (.t 8), none, []⟩])
      .ret)
      .skip)))
    (.seq
    (.region false [2] [
      ⟨some 9, .call 63 [(.t 1)], none, []⟩,
      ⟨some 10, .build 27 [(.val (.int .i64 0)), (.nl 1)] [(1, 1, 1, (.t 9))], none, []⟩,
      ⟨none, .store 27 2 (.t 2) (.t 10), none, []⟩])
    .ret)))
  modes := [.lend]
  rets := [⟨2, some (true, 2)⟩] }

/-- loop.example/g00539/laws.toEntry -/
def v13 : VFun := {
  code :=
    (.seq
    (.region false [1, 2] [
      ⟨some 1, .box 23 (.t 0), none, []⟩,
      ⟨some 2, .alloc 29 [(.val (.int .i64 0)), (.val (.string (⟨#[]⟩ : ByteArray))), (.val (.int .i64 0)), (.val (.int .i64 0))], none, []⟩])
    (.seq
    (.region false [1, 2, 3] [
      ⟨some 3, .alloc 29 [(.val (.int .i64 0)), (.val (.string (⟨#[]⟩ : ByteArray))), (.val (.int .i64 0)), (.val (.int .i64 0))], none, []⟩])
    (.seq
    (.region false [1, 2, 3] [
      ⟨some 4, .fa 23 0 0 1 (.t 1), none, []⟩,
      ⟨some 5, .load 2 false 1 (.t 4), none, []⟩,
      ⟨some 6, .fa 29 0 0 1 (.t 3), none, []⟩,
      ⟨none, .store 2 1 (.t 6) (.t 5), none, []⟩])
    (.seq
    (.region false [1, 2, 3] [
      ⟨some 7, .fa 23 1 1 1 (.t 1), none, []⟩,
      ⟨some 8, .load 9 false 1 (.t 7), none, []⟩,
      ⟨some 9, .fa 29 1 1 1 (.t 3), none, []⟩,
      ⟨none, .store 9 1 (.t 9) (.t 8), none, []⟩])
    (.seq
    (.region false [1, 2, 3] [
      ⟨some 10, .fa 23 2 2 1 (.t 1), none, []⟩,
      ⟨some 11, .load 2 false 1 (.t 10), none, []⟩,
      ⟨some 12, .fa 29 2 2 1 (.t 3), none, []⟩,
      ⟨none, .store 2 1 (.t 12) (.t 11), none, []⟩])
    (.seq
    (.region false [2, 3] [
      ⟨some 13, .fa 23 3 3 1 (.t 1), none, []⟩,
      ⟨some 14, .load 2 false 1 (.t 13), none, []⟩,
      ⟨some 15, .fa 29 3 3 1 (.t 3), none, []⟩,
      ⟨none, .store 2 1 (.t 15) (.t 14), none, []⟩])
    (.seq
    (.region false [2] [
      ⟨some 16, .load 29 true 4 (.t 3), none, []⟩,
      ⟨none, .store 29 4 (.t 2) (.t 16), none, []⟩])
    .ret)))))))
  modes := [.lend]
  rets := [⟨2, some (true, 4)⟩] }

/-- loop.example/g00539/impl.PackEntry -/
def v14 : VFun := {
  code :=
    (.seq
    (.region false [1, 2] [
      ⟨some 1, .box 29 (.t 0), none, []⟩,
      ⟨some 2, .alloc 27 [(.val (.int .i64 0)), (.nl 1)], none, []⟩])
    (.seq
    (.seq
    (.region false [1, 2, 3] [
      ⟨some 4, .load 29 true 4 (.t 1), none, []⟩,
      ⟨some 5, .call 64 [(.t 4)], none, []⟩,
      ⟨some 3, .asg (.t 5), none, []⟩])
    (.seq
    (.region false [1, 2, 3, 7] [
      ⟨some 6, .mov (.t 3), none, []⟩,
      ⟨some 7, .bin false .neq 2 (.t 6) (.c (.int .i64 0)), none, []⟩])
    (.cond (.t 7)
      (.seq
      (.region false [2] [
        ⟨some 8, .mov (.t 3), none, []⟩,
        ⟨some 9, .build 27 [(.val (.int .i64 0)), (.nl 1)] [(0, 0, 1, (.t 8))], none, []⟩,
        ⟨none, .store 27 2 (.t 2) (.t 9), none, []⟩])
      .ret)
      .skip)))
    (.seq
    (.region false [2] [
      ⟨some 10, .load 29 true 4 (.t 1), none, []⟩,
      ⟨some 11, .call 65 [(.t 10)], none, []⟩,
      ⟨some 12, .build 27 [(.val (.int .i64 0)), (.nl 1)] [(0, 0, 1, (.c (.int .i64 0))), (1, 1, 1, (.t 11))], none, []⟩,
      ⟨none, .store 27 2 (.t 2) (.t 12), none, []⟩])
    .ret)))
  modes := [.lend]
  rets := [⟨2, some (true, 2)⟩] }

/-- loop.example/g00539/laws.eqBytesResult -/
def v15 : VFun := {
  code :=
    (.seq
    (.region false [2, 3] [
      ⟨some 2, .box 27 (.t 0), none, []⟩,
      ⟨some 3, .box 27 (.t 1), none, []⟩,
      ⟨some 4, .asg (.c (.bool false)), none, []⟩])
    (.seq
    (.seq
    (.region false [2, 3, 9] [
      ⟨some 5, .fa 27 0 0 1 (.t 2), none, []⟩,
      ⟨some 6, .load 2 false 1 (.t 5), none, []⟩,
      ⟨some 7, .fa 27 0 0 1 (.t 3), none, []⟩,
      ⟨some 8, .load 2 false 1 (.t 7), none, []⟩,
      ⟨some 9, .bin false .neq 2 (.t 6) (.t 8), none, []⟩])
    (.cond (.t 9)
      (.seq
      (.region false [4] [
        ⟨some 4, .asg (.c (.bool false)), none, []⟩])
      .ret)
      .skip))
    (.seq
    (.seq
    (.region false [15] [
      ⟨some 10, .fa 27 1 1 1 (.t 2), none, []⟩,
      ⟨some 11, .load 25 false 1 (.t 10), none, []⟩,
      ⟨some 12, .fa 27 1 1 1 (.t 3), none, []⟩,
      ⟨some 13, .load 25 false 1 (.t 12), none, []⟩,
      ⟨some 14, .call 40 [(.t 11), (.t 13)], none, []⟩,
      ⟨some 15, .un .not (.t 14), none, []⟩])
    (.cond (.t 15)
      (.seq
      (.region false [4] [
        ⟨some 4, .asg (.c (.bool false)), none, []⟩])
      .ret)
      .skip))
    (.seq
    (.region false [4] [
      ⟨some 4, .asg (.c (.bool true)), none, []⟩])
    .ret))))
  modes := [.lend, .lend]
  rets := [⟨4, none⟩] }

/-- loop.example/g00539/laws.markBytesResult -/
def v16 : VFun := {
  code :=
    (.seq
    (.region false [0, 1, 2] [
      ⟨some 2, .box 27 (.t 0), none, []⟩,
      ⟨some 4, .asg (.c (.int .i64 0)), none, []⟩])
    (.seq
    (.region false [0, 1, 2] [
      ⟨some 5, .fa 27 1 1 1 (.t 2), none, []⟩,
      ⟨some 6, .load 25 false 1 (.t 5), none, []⟩,
      ⟨some 7, .mov (.t 1), none, []⟩,
      ⟨some 8, .call 41 [(.t 6), (.t 7)], none, []⟩,
      ⟨some 1, .asg (.t 8), none, []⟩])
    (.seq
    (.region false [0, 2, 4] [
      ⟨some 9, .mov (.t 1), none, []⟩,
      ⟨some 4, .asg (.t 9), none, []⟩])
    .ret)))
  modes := [.io, .lend]
  rets := [⟨4, none⟩] }

/-- loop.example/g00539/laws.heldBytesResult -/
def v17 : VFun := {
  code :=
    (.seq
    (.region false [1, 2] [
      ⟨some 2, .box 27 (.t 0), none, []⟩,
      ⟨some 4, .asg (.c (.int .i64 0)), none, []⟩])
    (.seq
    (.region false [1] [
      ⟨some 5, .fa 27 1 1 1 (.t 2), none, []⟩,
      ⟨some 6, .load 25 false 1 (.t 5), none, []⟩,
      ⟨some 7, .mov (.t 1), none, []⟩,
      ⟨some 8, .call 66 [(.t 6), (.t 7)], none, []⟩,
      ⟨some 1, .asg (.t 8), none, []⟩])
    (.seq
    (.seq
    (.region false [1, 10] [
      ⟨some 9, .mov (.t 1), none, []⟩,
      ⟨some 10, .bin false .lss 3 (.t 9) (.c (.int .i64 0)), none, []⟩])
    (.cond (.t 10)
      (.seq
      (.region false [4] [
        ⟨some 4, .asg (.c (.int .i64 (-1))), none, []⟩])
      .ret)
      .skip))
    (.seq
    (.region false [4] [
      ⟨some 11, .mov (.t 1), none, []⟩,
      ⟨some 4, .asg (.t 11), none, []⟩])
    .ret))))
  modes := [.lend, .lend]
  rets := [⟨4, none⟩] }

def b40_0 : VC :=
  (.seq
  (.seq
  (.region false [0, 1, 5, 14] [
    ⟨some 11, .mov (.t 5), none, []⟩,
    ⟨some 12, .mov (.t 0), none, []⟩,
    ⟨some 13, .len false 25 (.t 12), none, []⟩,
    ⟨some 14, .bin false .lss 3 (.t 11) (.t 13), none, []⟩])
  (.cond (.t 14)
    .skip
    (.exit 0)))
  (.seq
  (.block 1
    (.seq
    (.region true [0, 1, 5, 25] [
      ⟨some 17, .mov (.t 0), none, []⟩,
      ⟨some 18, .mov (.t 5), none, [0]⟩,
      ⟨some 19, .ia 25 5 1 (.t 17) (.t 18), none, []⟩,
      ⟨some 20, .load 5 false 1 (.t 19), none, []⟩,
      ⟨some 21, .mov (.t 1), none, [0, 1, 2, 3]⟩,
      ⟨some 22, .mov (.t 5), none, [0, 1, 2, 3, 4]⟩,
      ⟨some 23, .ia 25 5 1 (.t 21) (.t 22), none, [0, 1, 2, 3]⟩,
      ⟨some 24, .load 5 false 1 (.t 23), none, [0, 1, 2, 3]⟩,
      ⟨some 25, .bin false .neq 5 (.t 20) (.t 24), none, []⟩])
    (.cond (.t 25)
      (.seq
      (.region false [4] [
        ⟨some 4, .asg (.c (.bool false)), none, []⟩])
      .ret)
      .skip)))
  (.region false [0, 1, 5] [
    ⟨some 15, .mov (.t 5), none, []⟩,
    ⟨some 16, .bin false .add 3 (.t 15) (.c (.int .i64 1)), none, []⟩,
    ⟨some 5, .asg (.t 16), none, []⟩])))
def l40_0 : VC := .loop b40_0
/-- loop.example/g00539/laws.eqByteS -/
def v40 : VFun := {
  code :=
    (.seq
    (.region false [0, 1] [
      ⟨some 4, .asg (.c (.bool false)), none, []⟩])
    (.seq
    (.seq
    (.region false [0, 1, 10] [
      ⟨some 6, .mov (.t 0), none, []⟩,
      ⟨some 7, .len false 25 (.t 6), none, []⟩,
      ⟨some 8, .mov (.t 1), none, []⟩,
      ⟨some 9, .len false 25 (.t 8), none, []⟩,
      ⟨some 10, .bin false .neq 3 (.t 7) (.t 9), none, []⟩])
    (.cond (.t 10)
      (.seq
      (.region false [4] [
        ⟨some 4, .asg (.c (.bool false)), none, []⟩])
      .ret)
      .skip))
    (.seq
    (.seq
    (.region false [0, 1, 5] [
      ⟨some 5, .asg (.c (.int .i64 0)), none, []⟩])
    (.block 0
      l40_0))
    (.seq
    (.region false [4] [
      ⟨some 4, .asg (.c (.bool true)), none, []⟩])
    .ret))))
  modes := [.lend, .lend]
  rets := [⟨4, none⟩] }

def b41_0 : VC :=
  (.seq
  (.seq
  (.region false [0, 1, 5, 9] [
    ⟨some 6, .mov (.t 5), none, []⟩,
    ⟨some 7, .mov (.t 0), none, []⟩,
    ⟨some 8, .len false 25 (.t 7), none, []⟩,
    ⟨some 9, .bin false .lss 3 (.t 6) (.t 8), none, []⟩])
  (.cond (.t 9)
    .skip
    (.exit 0)))
  (.seq
  (.block 1
    (.seq
    (.region false [0, 1, 5] [
      ⟨some 12, .mov (.t 0), none, []⟩,
      ⟨some 13, .mov (.t 5), none, []⟩,
      ⟨some 14, .mov (.t 1), none, []⟩,
      ⟨some 15, .conv 3 5 .u8 (.t 14), none, []⟩,
      ⟨some 16, .ia 25 5 1 (.t 12) (.t 13), none, []⟩,
      ⟨none, .store 5 1 (.t 16) (.t 15), none, []⟩])
    (.region false [0, 1, 5] [
      ⟨some 17, .mov (.t 1), none, []⟩,
      ⟨some 18, .bin false .add 3 (.t 17) (.c (.int .i64 1)), none, []⟩,
      ⟨some 1, .asg (.t 18), none, []⟩])))
  (.region false [0, 1, 5] [
    ⟨some 10, .mov (.t 5), none, []⟩,
    ⟨some 11, .bin false .add 3 (.t 10) (.c (.int .i64 1)), none, []⟩,
    ⟨some 5, .asg (.t 11), none, []⟩])))
def l41_0 : VC := .loop b41_0
/-- loop.example/g00539/laws.markByteS -/
def v41 : VFun := {
  code :=
    (.seq
    (.region false [0, 1] [
      ⟨some 4, .asg (.c (.int .i64 0)), none, []⟩])
    (.seq
    (.seq
    (.region false [0, 1, 5] [
      ⟨some 5, .asg (.c (.int .i64 0)), none, []⟩])
    (.block 0
      l41_0))
    (.seq
    (.region false [0, 4] [
      ⟨some 19, .mov (.t 1), none, []⟩,
      ⟨some 4, .asg (.t 19), none, []⟩])
    .ret)))
  modes := [.io, .lend]
  rets := [⟨4, none⟩] }

/-- loop.example/g00539/spec.l15Fault -/
def v62 : VFun := {
  code :=
    (.seq
    (.region false [0] [
      ⟨some 2, .asg (.c (.int .i64 0)), none, []⟩])
    (.seq
    (.region false [0, 3, 4, 5] [
      ⟨some 7, .mov (.t 0), none, []⟩,
      ⟨some 8, .nilc (.t 7), none, []⟩,
      ⟨some 9, .fa 29 0 0 1 (.t 8), none, []⟩,
      ⟨some 10, .load 2 false 1 (.t 9), none, []⟩,
      ⟨some 11, .call 112 [(.t 10)], none, []⟩,
      ⟨some 6, .mov (.t 11), none, []⟩,
      ⟨some 12, .ext (.t 6) 0, none, []⟩,
      ⟨some 13, .ext (.t 6) 1, none, []⟩,
      ⟨some 14, .ext (.t 6) 2, none, []⟩,
      ⟨some 3, .asg (.t 12), none, []⟩,
      ⟨some 4, .asg (.t 13), none, []⟩,
      ⟨some 5, .asg (.t 14), none, []⟩])
    (.seq
    (.seq
    (.region false [0, 3, 53] [
      ⟨some 15, .mov (.t 0), none, []⟩,
      ⟨some 16, .nilc (.t 15), none, []⟩,
      ⟨some 17, .fa 29 0 0 1 (.t 16), none, []⟩,
      ⟨some 18, .load 2 false 1 (.t 17), none, []⟩,
      ⟨some 19, .call 113 [(.t 18), (.c (.int .i64 1)), (.c (.int .i64 5))], none, []⟩,
      ⟨some 20, .un .not (.t 19), none, []⟩,
      ⟨some 21, .mov (.t 20), none, []⟩,
      ⟨some 22, .mov (.t 3), some (21, false), []⟩,
      ⟨some 23, .un .not (.t 22), some (21, false), []⟩,
      ⟨some 24, .mov (.t 23), some (21, false), []⟩,
      ⟨some 25, .mov (.t 0), some (24, true), []⟩,
      ⟨some 26, .nilc (.t 25), some (24, true), []⟩,
      ⟨some 27, .fa 29 1 1 1 (.t 26), some (24, true), []⟩,
      ⟨some 28, .load 9 false 1 (.t 27), some (24, true), []⟩,
      ⟨some 29, .bin false .neq 9 (.t 28) (.c (.string (⟨#[]⟩ : ByteArray))), some (24, true), []⟩,
      ⟨some 30, .pick (.t 24) (.t 29) (.c (.bool false)), some (21, false), []⟩,
      ⟨some 31, .pick (.t 21) (.c (.bool true)) (.t 30), none, []⟩,
      ⟨some 32, .mov (.t 31), none, []⟩,
      ⟨some 33, .mov (.t 4), some (32, false), []⟩,
      ⟨some 34, .un .not (.t 33), some (32, false), []⟩,
      ⟨some 35, .mov (.t 34), some (32, false), []⟩,
      ⟨some 36, .mov (.t 0), some (35, true), []⟩,
      ⟨some 37, .nilc (.t 36), some (35, true), []⟩,
      ⟨some 38, .fa 29 2 2 1 (.t 37), some (35, true), []⟩,
      ⟨some 39, .load 2 false 1 (.t 38), some (35, true), []⟩,
      ⟨some 40, .bin false .neq 2 (.t 39) (.c (.int .i64 0)), some (35, true), []⟩,
      ⟨some 41, .pick (.t 35) (.t 40) (.c (.bool false)), some (32, false), []⟩,
      ⟨some 42, .pick (.t 32) (.c (.bool true)) (.t 41), none, []⟩,
      ⟨some 43, .mov (.t 42), none, []⟩,
      ⟨some 44, .mov (.t 5), some (43, false), []⟩,
      ⟨some 45, .un .not (.t 44), some (43, false), []⟩,
      ⟨some 46, .mov (.t 45), some (43, false), []⟩,
      ⟨some 47, .mov (.t 0), some (46, true), []⟩,
      ⟨some 48, .nilc (.t 47), some (46, true), []⟩,
      ⟨some 49, .fa 29 3 3 1 (.t 48), some (46, true), []⟩,
      ⟨some 50, .load 2 false 1 (.t 49), some (46, true), []⟩,
      ⟨some 51, .bin false .neq 2 (.t 50) (.c (.int .i64 0)), some (46, true), []⟩,
      ⟨some 52, .pick (.t 46) (.t 51) (.c (.bool false)), some (43, false), []⟩,
      ⟨some 53, .pick (.t 43) (.c (.bool true)) (.t 52), none, []⟩])
    (.cond (.t 53)
      (.seq
      (.region false [2] [
        ⟨some 2, .asg (.c (.int .i64 1)), none, []⟩])
      .ret)
      .skip))
    (.seq
    (.seq
    (.region false [0, 3, 69] [
      ⟨some 54, .mov (.t 3), none, []⟩,
      ⟨some 55, .mov (.t 54), none, []⟩,
      ⟨some 56, .mov (.t 0), some (55, true), []⟩,
      ⟨some 57, .nilc (.t 56), some (55, true), []⟩,
      ⟨some 58, .fa 29 1 1 1 (.t 57), some (55, true), []⟩,
      ⟨some 59, .load 9 false 1 (.t 58), some (55, true), []⟩,
      ⟨some 60, .bin false .eql 9 (.t 59) (.c (.string (⟨#[]⟩ : ByteArray))), some (55, true), []⟩,
      ⟨some 61, .mov (.t 60), some (55, true), []⟩,
      ⟨some 62, .mov (.t 0), some (61, false), []⟩,
      ⟨some 63, .nilc (.t 62), some (61, false), []⟩,
      ⟨some 64, .fa 29 1 1 1 (.t 63), some (61, false), []⟩,
      ⟨some 65, .load 9 false 1 (.t 64), some (61, false), []⟩,
      ⟨some 66, .call 114 [(.t 65)], some (61, false), []⟩,
      ⟨some 67, .un .not (.t 66), some (61, false), []⟩,
      ⟨some 68, .pick (.t 61) (.c (.bool true)) (.t 67), some (55, true), []⟩,
      ⟨some 69, .pick (.t 55) (.t 68) (.c (.bool false)), none, []⟩])
    (.cond (.t 69)
      (.seq
      (.region false [2] [
        ⟨some 2, .asg (.c (.int .i64 5)), none, []⟩])
      .ret)
      .skip))
    (.seq
    (.seq
    (.region false [107] [
      ⟨some 70, .mov (.t 0), none, []⟩,
      ⟨some 71, .nilc (.t 70), none, []⟩,
      ⟨some 72, .fa 29 2 2 1 (.t 71), none, []⟩,
      ⟨some 73, .load 2 false 1 (.t 72), none, []⟩,
      ⟨some 74, .call 115 [(.t 73)], none, []⟩,
      ⟨some 75, .un .not (.t 74), none, []⟩,
      ⟨some 76, .mov (.t 75), none, []⟩,
      ⟨some 77, .mov (.t 0), some (76, false), []⟩,
      ⟨some 78, .nilc (.t 77), some (76, false), []⟩,
      ⟨some 79, .fa 29 3 3 1 (.t 78), some (76, false), []⟩,
      ⟨some 80, .load 2 false 1 (.t 79), some (76, false), []⟩,
      ⟨some 81, .call 75 [(.t 80)], some (76, false), []⟩,
      ⟨some 82, .un .not (.t 81), some (76, false), []⟩,
      ⟨some 83, .pick (.t 76) (.c (.bool true)) (.t 82), none, []⟩,
      ⟨some 84, .mov (.t 83), none, []⟩,
      ⟨some 85, .mov (.t 3), some (84, false), []⟩,
      ⟨some 86, .mov (.t 85), some (84, false), []⟩,
      ⟨some 87, .mov (.t 0), some (86, true), []⟩,
      ⟨some 88, .nilc (.t 87), some (86, true), []⟩,
      ⟨some 89, .fa 29 3 3 1 (.t 88), some (86, true), []⟩,
      ⟨some 90, .load 2 false 1 (.t 89), some (86, true), []⟩,
      ⟨some 91, .bin false .lss 2 (.t 90) (.c (.int .i64 1)), some (86, true), []⟩,
      ⟨some 92, .pick (.t 86) (.t 91) (.c (.bool false)), some (84, false), []⟩,
      ⟨some 93, .pick (.t 84) (.c (.bool true)) (.t 92), none, []⟩,
      ⟨some 94, .mov (.t 93), none, []⟩,
      ⟨some 95, .mov (.t 0), some (94, false), []⟩,
      ⟨some 96, .nilc (.t 95), some (94, false), []⟩,
      ⟨some 97, .fa 29 0 0 1 (.t 96), some (94, false), []⟩,
      ⟨some 98, .load 2 false 1 (.t 97), some (94, false), []⟩,
      ⟨some 99, .bin false .eql 2 (.t 98) (.c (.int .i64 1)), some (94, false), []⟩,
      ⟨some 100, .mov (.t 99), some (94, false), []⟩,
      ⟨some 101, .mov (.t 0), some (100, true), []⟩,
      ⟨some 102, .nilc (.t 101), some (100, true), []⟩,
      ⟨some 103, .fa 29 3 3 1 (.t 102), some (100, true), []⟩,
      ⟨some 104, .load 2 false 1 (.t 103), some (100, true), []⟩,
      ⟨some 105, .bin false .gtr 2 (.t 104) (.c (.int .i64 9999)), some (100, true), []⟩,
      ⟨some 106, .pick (.t 100) (.t 105) (.c (.bool false)), some (94, false), []⟩,
      ⟨some 107, .pick (.t 94) (.c (.bool true)) (.t 106), none, []⟩])
    (.cond (.t 107)
      (.seq
      (.region false [2] [
        ⟨some 2, .asg (.c (.int .i64 3)), none, []⟩])
      .ret)
      .skip))
    (.seq
    (.region false [2] [
      ⟨some 2, .asg (.c (.int .i64 0)), none, []⟩])
    .ret))))))
  modes := [.lend]
  rets := [⟨2, none⟩] }

/-- loop.example/g00539/spec.l15Pack -/
def v63 : VFun := {
  code :=
    (.seq
    (.region false [0] [
      ⟨some 2, .asg (.n 1), none, []⟩])
    (.seq
    (.region true [0, 3, 22, 35] [
      ⟨some 5, .mov (.t 0), none, []⟩,
      ⟨some 6, .nilc (.t 5), none, []⟩,
      ⟨some 7, .fa 29 0 0 1 (.t 6), none, []⟩,
      ⟨some 8, .load 2 false 1 (.t 7), none, []⟩,
      ⟨some 9, .conv 2 5 .u8 (.t 8), none, []⟩,
      ⟨some 10, .mov (.t 0), none, [0, 1, 2, 3, 4]⟩,
      ⟨some 11, .nilc (.t 10), none, [0, 1, 2, 3, 4]⟩,
      ⟨some 12, .fa 29 1 1 1 (.t 11), none, [0, 1, 2, 3, 4]⟩,
      ⟨some 13, .load 9 false 1 (.t 12), none, [0, 1, 2, 3, 4]⟩,
      ⟨some 14, .len true 9 (.t 13), none, [0, 1, 2, 3, 4]⟩,
      ⟨some 15, .conv 3 5 .u8 (.t 14), none, [0, 1, 2, 3, 4]⟩,
      ⟨some 16, .lit 25 5 1 2 [(.val (.int .u8 0))] [(0, (.t 9)), (1, (.t 15))], none, []⟩,
      ⟨some 17, .mov (.t 0), none, [0, 1, 2, 3, 4, 5, 6, 7, 8, 9, 10, 11]⟩,
      ⟨some 18, .nilc (.t 17), none, [0, 1, 2, 3, 4, 5, 6, 7, 8, 9, 10, 11]⟩,
      ⟨some 19, .fa 29 1 1 1 (.t 18), none, [0, 1, 2, 3, 4, 5, 6, 7, 8, 9, 10, 11]⟩,
      ⟨some 20, .load 9 false 1 (.t 19), none, [0, 1, 2, 3, 4, 5, 6, 7, 8, 9, 10, 11]⟩,
      ⟨some 21, .s2b 9 25 (.t 20), none, [0, 1, 2, 3, 4, 5, 6, 7, 8, 9, 10, 11]⟩,
      ⟨some 22, .app 25 5 1 1 (.t 16) (.t 21), none, []⟩,
      ⟨some 3, .asg (.t 22), none, []⟩])
    (.seq
    (.region true [3, 22, 35] [
      ⟨some 23, .mov (.t 3), none, []⟩,
      ⟨some 24, .mov (.t 0), none, [0]⟩,
      ⟨some 25, .nilc (.t 24), none, [0]⟩,
      ⟨some 26, .fa 29 2 2 1 (.t 25), none, [0]⟩,
      ⟨some 27, .load 2 false 1 (.t 26), none, [0]⟩,
      ⟨some 28, .call 116 [(.t 27)], none, [0]⟩,
      ⟨some 29, .app 25 5 1 1 (.t 23) (.t 28), none, []⟩,
      ⟨some 30, .mov (.t 0), none, [0, 1, 2, 3, 4, 5, 6]⟩,
      ⟨some 31, .nilc (.t 30), none, [0, 1, 2, 3, 4, 5, 6]⟩,
      ⟨some 32, .fa 29 3 3 1 (.t 31), none, [0, 1, 2, 3, 4, 5, 6]⟩,
      ⟨some 33, .load 2 false 1 (.t 32), none, [0, 1, 2, 3, 4, 5, 6]⟩,
      ⟨some 34, .call 116 [(.t 33)], none, []⟩,
      ⟨some 35, .app 25 5 1 1 (.t 29) (.t 34), none, []⟩,
      ⟨some 3, .asg (.t 35), none, []⟩])
    (.seq
    (.region false [3, 4, 22, 35] [
      ⟨some 36, .mov (.t 3), none, []⟩,
      ⟨some 37, .call 117 [(.t 36)], none, []⟩,
      ⟨some 4, .asg (.t 37), none, []⟩])
    (.seq
    (.region false [2, 50] [
      ⟨some 38, .mov (.t 3), none, []⟩,
      ⟨some 39, .len false 25 (.t 38), none, []⟩,
      ⟨some 40, .conv 3 5 .u8 (.t 39), none, []⟩,
      ⟨some 41, .lit 25 5 1 1 [(.val (.int .u8 0))] [(0, (.t 40))], none, []⟩,
      ⟨some 42, .mov (.t 3), none, []⟩,
      ⟨some 43, .app 25 5 1 1 (.t 41) (.t 42), none, []⟩,
      ⟨some 44, .mov (.t 4), none, []⟩,
      ⟨some 45, .bin false .shr 2 (.t 44) (.c (.int .u64 8)), none, []⟩,
      ⟨some 46, .conv 2 5 .u8 (.t 45), none, []⟩,
      ⟨some 47, .mov (.t 4), none, []⟩,
      ⟨some 48, .conv 2 5 .u8 (.t 47), none, []⟩,
      ⟨some 49, .lit 25 5 1 2 [(.val (.int .u8 0))] [(0, (.t 46)), (1, (.t 48))], none, []⟩,
      ⟨some 50, .app 25 5 1 1 (.t 43) (.t 49), none, []⟩,
      ⟨some 2, .asg (.t 50), none, []⟩])
    .ret)))))
  modes := [.lend]
  rets := [⟨2, none⟩] }

/-- loop.example/g00539/impl.EntryFault -/
def v64 : VFun := {
  code :=
    (.seq
    (.region false [1] [
      ⟨some 1, .box 29 (.t 0), none, []⟩,
      ⟨some 2, .asg (.c (.int .i64 0)), none, []⟩])
    (.seq
    (.region false [1, 3] [
      ⟨some 5, .fa 29 0 0 1 (.t 1), none, []⟩,
      ⟨some 6, .load 2 false 1 (.t 5), none, []⟩,
      ⟨some 7, .bin false .eql 2 (.t 6) (.c (.int .i64 1)), none, []⟩,
      ⟨some 8, .mov (.t 7), none, []⟩,
      ⟨some 9, .fa 29 0 0 1 (.t 1), some (8, false), []⟩,
      ⟨some 10, .load 2 false 1 (.t 9), some (8, false), []⟩,
      ⟨some 11, .bin false .eql 2 (.t 10) (.c (.int .i64 5)), some (8, false), []⟩,
      ⟨some 12, .pick (.t 8) (.c (.bool true)) (.t 11), none, []⟩,
      ⟨some 3, .asg (.t 12), none, []⟩])
    (.seq
    (.region false [1, 3, 4] [
      ⟨some 13, .mov (.t 3), none, []⟩,
      ⟨some 14, .mov (.t 13), none, []⟩,
      ⟨some 15, .fa 29 0 0 1 (.t 1), some (14, false), []⟩,
      ⟨some 16, .load 2 false 1 (.t 15), some (14, false), []⟩,
      ⟨some 17, .bin false .eql 2 (.t 16) (.c (.int .i64 2)), some (14, false), []⟩,
      ⟨some 18, .pick (.t 14) (.c (.bool true)) (.t 17), none, []⟩,
      ⟨some 4, .asg (.t 18), none, []⟩])
    (.seq
    (.block 0
      (.seq
      (.region false [1, 3, 19] [
        ⟨some 20, .fa 29 0 0 1 (.t 1), none, []⟩,
        ⟨some 21, .load 2 false 1 (.t 20), none, []⟩,
        ⟨some 22, .call 93 [(.t 21), (.c (.int .i64 1)), (.c (.int .i64 5))], none, []⟩,
        ⟨some 23, .un .not (.t 22), none, []⟩,
        ⟨some 24, .mov (.t 23), none, []⟩,
        ⟨some 25, .mov (.t 3), some (24, false), []⟩,
        ⟨some 26, .un .not (.t 25), some (24, false), []⟩,
        ⟨some 27, .mov (.t 26), some (24, false), []⟩,
        ⟨some 28, .fa 29 1 1 1 (.t 1), some (27, true), []⟩,
        ⟨some 29, .load 9 false 1 (.t 28), some (27, true), []⟩,
        ⟨some 30, .bin false .neq 9 (.t 29) (.c (.string (⟨#[]⟩ : ByteArray))), some (27, true), []⟩,
        ⟨some 31, .pick (.t 27) (.t 30) (.c (.bool false)), some (24, false), []⟩,
        ⟨some 32, .pick (.t 24) (.c (.bool true)) (.t 31), none, []⟩,
        ⟨some 33, .mov (.t 32), none, []⟩,
        ⟨some 34, .mov (.t 3), some (33, false), []⟩,
        ⟨some 35, .mov (.t 34), some (33, false), []⟩,
        ⟨some 36, .fa 29 2 2 1 (.t 1), some (35, true), []⟩,
        ⟨some 37, .load 2 false 1 (.t 36), some (35, true), []⟩,
        ⟨some 38, .bin false .neq 2 (.t 37) (.c (.int .i64 0)), some (35, true), []⟩,
        ⟨some 39, .pick (.t 35) (.t 38) (.c (.bool false)), some (33, false), []⟩,
        ⟨some 40, .pick (.t 33) (.c (.bool true)) (.t 39), none, []⟩,
        ⟨some 41, .mov (.t 40), none, []⟩,
        ⟨some 42, .mov (.t 4), some (41, false), []⟩,
        ⟨some 43, .un .not (.t 42), some (41, false), []⟩,
        ⟨some 44, .mov (.t 43), some (41, false), []⟩,
        ⟨some 45, .fa 29 3 3 1 (.t 1), some (44, true), []⟩,
        ⟨some 46, .load 2 false 1 (.t 45), some (44, true), []⟩,
        ⟨some 47, .bin false .neq 2 (.t 46) (.c (.int .i64 0)), some (44, true), []⟩,
        ⟨some 48, .pick (.t 44) (.t 47) (.c (.bool false)), some (41, false), []⟩,
        ⟨some 49, .pick (.t 41) (.c (.bool true)) (.t 48), none, []⟩,
        ⟨some 19, .asg (.t 49), none, []⟩])
      (.cond (.t 19)
        (.seq
        (.region false [2] [
          ⟨some 2, .asg (.c (.int .i64 1)), none, []⟩])
        .ret)
        (.seq
        (.region false [1, 3, 50] [
          ⟨some 51, .mov (.t 3), none, []⟩,
          ⟨some 52, .mov (.t 51), none, []⟩,
          ⟨some 53, .fa 29 1 1 1 (.t 1), some (52, true), []⟩,
          ⟨some 54, .load 9 false 1 (.t 53), some (52, true), []⟩,
          ⟨some 55, .call 118 [(.t 54)], some (52, true), []⟩,
          ⟨some 56, .un .not (.t 55), some (52, true), []⟩,
          ⟨some 57, .pick (.t 52) (.t 56) (.c (.bool false)), none, []⟩,
          ⟨some 50, .asg (.t 57), none, []⟩])
        (.cond (.t 50)
          (.seq
          (.region false [2] [
            ⟨some 2, .asg (.c (.int .i64 5)), none, []⟩])
          .ret)
          (.seq
          (.region false [58] [
            ⟨some 59, .fa 29 2 2 1 (.t 1), none, []⟩,
            ⟨some 60, .load 2 false 1 (.t 59), none, []⟩,
            ⟨some 61, .call 119 [(.t 60)], none, []⟩,
            ⟨some 62, .un .not (.t 61), none, []⟩,
            ⟨some 63, .mov (.t 62), none, []⟩,
            ⟨some 64, .fa 29 3 3 1 (.t 1), some (63, false), []⟩,
            ⟨some 65, .load 2 false 1 (.t 64), some (63, false), []⟩,
            ⟨some 66, .call 79 [(.t 65)], some (63, false), []⟩,
            ⟨some 67, .un .not (.t 66), some (63, false), []⟩,
            ⟨some 68, .pick (.t 63) (.c (.bool true)) (.t 67), none, []⟩,
            ⟨some 69, .mov (.t 68), none, []⟩,
            ⟨some 70, .mov (.t 3), some (69, false), []⟩,
            ⟨some 71, .mov (.t 70), some (69, false), []⟩,
            ⟨some 72, .fa 29 3 3 1 (.t 1), some (71, true), []⟩,
            ⟨some 73, .load 2 false 1 (.t 72), some (71, true), []⟩,
            ⟨some 74, .bin false .eql 2 (.t 73) (.c (.int .i64 0)), some (71, true), []⟩,
            ⟨some 75, .pick (.t 71) (.t 74) (.c (.bool false)), some (69, false), []⟩,
            ⟨some 76, .pick (.t 69) (.c (.bool true)) (.t 75), none, []⟩,
            ⟨some 77, .mov (.t 76), none, []⟩,
            ⟨some 78, .fa 29 0 0 1 (.t 1), some (77, false), []⟩,
            ⟨some 79, .load 2 false 1 (.t 78), some (77, false), []⟩,
            ⟨some 80, .bin false .eql 2 (.t 79) (.c (.int .i64 1)), some (77, false), []⟩,
            ⟨some 81, .mov (.t 80), some (77, false), []⟩,
            ⟨some 82, .fa 29 3 3 1 (.t 1), some (81, true), []⟩,
            ⟨some 83, .load 2 false 1 (.t 82), some (81, true), []⟩,
            ⟨some 84, .bin false .gtr 2 (.t 83) (.c (.int .i64 9999)), some (81, true), []⟩,
            ⟨some 85, .pick (.t 81) (.t 84) (.c (.bool false)), some (77, false), []⟩,
            ⟨some 86, .pick (.t 77) (.c (.bool true)) (.t 85), none, []⟩,
            ⟨some 58, .asg (.t 86), none, []⟩])
          (.cond (.t 58)
            (.seq
            (.region false [2] [
              ⟨some 2, .asg (.c (.int .i64 3)), none, []⟩])
            .ret)
            .skip)))))))
    (.seq
    (.region false [2] [
      ⟨some 2, .asg (.c (.int .i64 0)), none, []⟩])
    .ret)))))
  modes := [.lend]
  rets := [⟨2, none⟩] }

/-- loop.example/g00539/impl.packEntry -/
def v65 : VFun := {
  code :=
    (.seq
    (.region false [1] [
      ⟨some 1, .box 29 (.t 0), none, []⟩,
      ⟨some 2, .asg (.n 1), none, []⟩])
    (.seq
    (.region true [3, 22] [
      ⟨some 4, .fa 29 0 0 1 (.t 1), none, []⟩,
      ⟨some 5, .load 2 false 1 (.t 4), none, []⟩,
      ⟨some 6, .conv 2 5 .u8 (.t 5), none, []⟩,
      ⟨some 7, .fa 29 1 1 1 (.t 1), none, [0, 1, 2]⟩,
      ⟨some 8, .load 9 false 1 (.t 7), none, [0, 1, 2]⟩,
      ⟨some 9, .len true 9 (.t 8), none, [0, 1, 2]⟩,
      ⟨some 10, .conv 3 5 .u8 (.t 9), none, [0, 1, 2]⟩,
      ⟨some 11, .lit 25 5 1 2 [(.val (.int .u8 0))] [(0, (.t 6)), (1, (.t 10))], none, []⟩,
      ⟨some 12, .fa 29 1 1 1 (.t 1), none, [0, 1, 2, 3, 4, 5, 6, 7]⟩,
      ⟨some 13, .load 9 false 1 (.t 12), none, [0, 1, 2, 3, 4, 5, 6, 7]⟩,
      ⟨some 14, .s2b 9 25 (.t 13), none, [0, 1, 2, 3, 4, 5, 6, 7]⟩,
      ⟨some 15, .fa 29 2 2 1 (.t 1), none, [0, 1, 2, 3, 4, 5, 6, 7, 8, 9, 10]⟩,
      ⟨some 16, .load 2 false 1 (.t 15), none, [0, 1, 2, 3, 4, 5, 6, 7, 8, 9, 10]⟩,
      ⟨some 17, .call 120 [(.t 16), (.c (.int .i64 4))], none, [0, 1, 2, 3, 4, 5, 6, 7, 8, 9, 10]⟩,
      ⟨some 18, .fa 29 3 3 1 (.t 1), none, [0, 1, 2, 3, 4, 5, 6, 7, 8, 9, 10, 11, 12, 13]⟩,
      ⟨some 19, .load 2 false 1 (.t 18), none, [0, 1, 2, 3, 4, 5, 6, 7, 8, 9, 10, 11, 12, 13]⟩,
      ⟨some 20, .call 120 [(.t 19), (.c (.int .i64 4))], none, [0, 1, 2, 3, 4, 5, 6, 7, 8, 9, 10]⟩,
      ⟨some 21, .lit 151 25 1 4 [(.nl 1)] [(0, (.t 11)), (1, (.t 14)), (2, (.t 17)), (3, (.t 20))], none, []⟩,
      ⟨some 22, .call 71 [(.t 21)], none, []⟩,
      ⟨some 3, .asg (.t 22), none, []⟩])
    (.seq
    (.region false [2, 33] [
      ⟨some 23, .mov (.t 3), none, []⟩,
      ⟨some 24, .len false 25 (.t 23), none, []⟩,
      ⟨some 25, .conv 3 5 .u8 (.t 24), none, []⟩,
      ⟨some 26, .lit 25 5 1 1 [(.val (.int .u8 0))] [(0, (.t 25))], none, []⟩,
      ⟨some 27, .mov (.t 3), none, []⟩,
      ⟨some 28, .mov (.t 3), none, []⟩,
      ⟨some 29, .call 121 [(.t 28)], none, []⟩,
      ⟨some 30, .bin false .rem 2 (.t 29) (.c (.int .i64 65536)), none, []⟩,
      ⟨some 31, .call 120 [(.t 30), (.c (.int .i64 2))], none, []⟩,
      ⟨some 32, .lit 151 25 1 3 [(.nl 1)] [(0, (.t 26)), (1, (.t 27)), (2, (.t 31))], none, []⟩,
      ⟨some 33, .call 71 [(.t 32)], none, []⟩,
      ⟨some 2, .asg (.t 33), none, []⟩])
    .ret)))
  modes := [.lend]
  rets := [⟨2, none⟩] }

def b66_0 : VC :=
  (.seq
  (.seq
  (.region false [0, 1, 5, 9] [
    ⟨some 6, .mov (.t 5), none, []⟩,
    ⟨some 7, .mov (.t 0), none, []⟩,
    ⟨some 8, .len false 25 (.t 7), none, []⟩,
    ⟨some 9, .bin false .lss 3 (.t 6) (.t 8), none, []⟩])
  (.cond (.t 9)
    .skip
    (.exit 0)))
  (.seq
  (.block 1
    (.seq
    (.seq
    (.region false [0, 1, 5, 18] [
      ⟨some 12, .mov (.t 0), none, []⟩,
      ⟨some 13, .mov (.t 5), none, []⟩,
      ⟨some 14, .ia 25 5 1 (.t 12) (.t 13), none, []⟩,
      ⟨some 15, .load 5 false 1 (.t 14), none, []⟩,
      ⟨some 16, .mov (.t 1), none, []⟩,
      ⟨some 17, .conv 3 5 .u8 (.t 16), none, []⟩,
      ⟨some 18, .bin false .neq 5 (.t 15) (.t 17), none, []⟩])
    (.cond (.t 18)
      (.seq
      (.region false [4] [
        ⟨some 4, .asg (.c (.int .i64 (-1))), none, []⟩])
      .ret)
      .skip))
    (.region false [0, 1, 5] [
      ⟨some 19, .mov (.t 1), none, []⟩,
      ⟨some 20, .bin false .add 3 (.t 19) (.c (.int .i64 1)), none, []⟩,
      ⟨some 1, .asg (.t 20), none, []⟩])))
  (.region false [0, 1, 5] [
    ⟨some 10, .mov (.t 5), none, []⟩,
    ⟨some 11, .bin false .add 3 (.t 10) (.c (.int .i64 1)), none, []⟩,
    ⟨some 5, .asg (.t 11), none, []⟩])))
def l66_0 : VC := .loop b66_0
/-- loop.example/g00539/laws.heldByteS -/
def v66 : VFun := {
  code :=
    (.seq
    (.region false [0, 1] [
      ⟨some 4, .asg (.c (.int .i64 0)), none, []⟩])
    (.seq
    (.seq
    (.region false [0, 1, 5] [
      ⟨some 5, .asg (.c (.int .i64 0)), none, []⟩])
    (.block 0
      l66_0))
    (.seq
    (.region false [4] [
      ⟨some 21, .mov (.t 1), none, []⟩,
      ⟨some 4, .asg (.t 21), none, []⟩])
    .ret)))
  modes := [.lend, .lend]
  rets := [⟨4, none⟩] }

def b71_1 : VC :=
  (.seq
  (.region false [6, 24, 25, 26, 27, 28, 33] [
    ⟨some 28, .bin false .lss 3 (.t 27) (.t 26), none, []⟩])
  (.seq
  (.cond (.t 28)
    .skip
    (.exit 2))
  (.seq
  (.block 3
    (.seq
    (.region false [6, 8, 24, 25, 26, 27, 33] [
      ⟨some 29, .ia 151 25 1 (.t 25) (.t 27), none, []⟩,
      ⟨some 30, .load 25 false 1 (.t 29), none, []⟩,
      ⟨some 8, .asg (.t 30), none, []⟩])
    (.region false [6, 24, 25, 26, 27, 33] [
      ⟨some 31, .mov (.t 6), none, []⟩,
      ⟨some 32, .mov (.t 8), none, []⟩,
      ⟨some 33, .app 25 5 1 1 (.t 31) (.t 32), none, []⟩,
      ⟨some 6, .asg (.t 33), none, []⟩])))
  (.region false [6, 24, 25, 26, 27, 33] [
    ⟨some 34, .bin false .add 3 (.t 27) (.c (.int .i64 1)), none, []⟩,
    ⟨some 27, .mov (.t 34), none, []⟩]))))
def l71_1 : VC := .loop b71_1
def b71_0 : VC :=
  (.seq
  (.region false [0, 3, 9, 10, 11, 12] [
    ⟨some 12, .bin false .lss 3 (.t 11) (.t 10), none, []⟩])
  (.seq
  (.cond (.t 12)
    .skip
    (.exit 0))
  (.seq
  (.block 1
    (.seq
    (.region false [0, 3, 5, 9, 10, 11] [
      ⟨some 13, .ia 151 25 1 (.t 9) (.t 11), none, []⟩,
      ⟨some 14, .load 25 false 1 (.t 13), none, []⟩,
      ⟨some 5, .asg (.t 14), none, []⟩])
    (.seq
    (.region false [0, 3, 9, 10, 11] [
      ⟨some 15, .mov (.t 3), none, []⟩,
      ⟨some 16, .mov (.t 5), none, []⟩,
      ⟨some 17, .len false 25 (.t 16), none, []⟩,
      ⟨some 18, .bin false .add 3 (.t 15) (.t 17), none, []⟩,
      ⟨some 3, .asg (.t 18), none, []⟩])
    (.seq
    (.region false [0, 3, 9, 10, 11, 20] [
      ⟨some 19, .mov (.t 3), none, []⟩,
      ⟨some 20, .bin false .lss 3 (.t 19) (.c (.int .i64 0)), none, []⟩])
    (.cond (.t 20)
      .any
      .skip)))))
  (.region false [0, 3, 9, 10, 11] [
    ⟨some 22, .bin false .add 3 (.t 11) (.c (.int .i64 1)), none, []⟩,
    ⟨some 11, .mov (.t 22), none, []⟩]))))
def l71_0 : VC := .loop b71_0
/-- slices.Concat[[]byte,byte] -/
def v71 : VFun := {
  code :=
    (.seq
    (.region false [0] [
      ⟨some 2, .asg (.n 1), none, []⟩])
    (.seq
    (.region false [0, 3] [
      ⟨some 3, .asg (.c (.int .i64 0)), none, []⟩])
    (.seq
    (.seq
    (.region false [0, 3, 9, 10, 11] [
      ⟨some 9, .mov (.t 0), none, []⟩,
      ⟨some 10, .len false 151 (.t 9), none, []⟩,
      ⟨some 11, .mov (.c (.int .i64 0)), none, []⟩])
    (.block 0
      l71_0))
    (.seq
    (.region false [0, 6, 24, 33] [
      ⟨some 23, .mov (.t 3), none, []⟩,
      ⟨some 24, .call 123 [(.n 1), (.t 23)], none, []⟩,
      ⟨some 6, .asg (.t 24), none, []⟩])
    (.seq
    (.seq
    (.region false [6, 24, 25, 26, 27, 33] [
      ⟨some 25, .mov (.t 0), none, []⟩,
      ⟨some 26, .len false 151 (.t 25), none, []⟩,
      ⟨some 27, .mov (.c (.int .i64 0)), none, []⟩])
    (.block 2
      l71_1))
    (.seq
    (.region false [2, 6, 24, 33] [
      ⟨some 35, .mov (.t 6), none, []⟩,
      ⟨some 2, .asg (.t 35), none, []⟩])
    .ret))))))
  modes := [.lend]
  rets := [⟨2, none⟩] }

/-- loop.example/g00539/spec.l1Amount -/
def v75 : VFun := {
  code :=
    (.seq
    (.region false [0] [
      ⟨some 2, .asg (.c (.bool false)), none, []⟩])
    (.seq
    (.region false [2] [
      ⟨some 3, .mov (.t 0), none, []⟩,
      ⟨some 4, .call 113 [(.t 3), (.c (.int .i64 0)), (.c (.int .i64 1000000))], none, []⟩,
      ⟨some 2, .asg (.t 4), none, []⟩])
    .ret))
  modes := [.lend]
  rets := [⟨2, none⟩] }

/-- loop.example/g00539/impl.isAmount -/
def v79 : VFun := {
  code :=
    (.seq
    (.region false [0] [
      ⟨some 2, .asg (.c (.bool false)), none, []⟩])
    (.seq
    (.region false [2] [
      ⟨some 3, .mov (.t 0), none, []⟩,
      ⟨some 4, .call 93 [(.t 3), (.c (.int .i64 0)), (.c (.int .i64 1000000))], none, []⟩,
      ⟨some 2, .asg (.t 4), none, []⟩])
    .ret))
  modes := [.lend]
  rets := [⟨2, none⟩] }

/-- loop.example/g00539/impl.in -/
def v93 : VFun := {
  code :=
    (.seq
    (.region false [0, 1, 2] [
      ⟨some 6, .asg (.c (.bool false)), none, []⟩])
    (.seq
    (.region false [6] [
      ⟨some 7, .mov (.t 0), none, []⟩,
      ⟨some 8, .mov (.t 1), none, []⟩,
      ⟨some 9, .bin false .geq 2 (.t 7) (.t 8), none, []⟩,
      ⟨some 10, .mov (.t 9), none, []⟩,
      ⟨some 11, .mov (.t 0), some (10, true), []⟩,
      ⟨some 12, .mov (.t 2), some (10, true), []⟩,
      ⟨some 13, .bin false .leq 2 (.t 11) (.t 12), some (10, true), []⟩,
      ⟨some 14, .pick (.t 10) (.t 13) (.c (.bool false)), none, []⟩,
      ⟨some 6, .asg (.t 14), none, []⟩])
    .ret))
  modes := [.lend, .lend, .lend]
  rets := [⟨6, none⟩] }

/-- loop.example/g00539/spec.l15Has -/
def v112 : VFun := {
  code :=
    (.seq
    (.region false [0] [
      ⟨some 2, .asg (.c (.bool false)), none, []⟩,
      ⟨some 3, .asg (.c (.bool false)), none, []⟩,
      ⟨some 4, .asg (.c (.bool false)), none, []⟩])
    (.seq
    (.region false [0, 5] [
      ⟨some 6, .mov (.t 0), none, []⟩,
      ⟨some 7, .bin false .eql 2 (.t 6) (.c (.int .i64 1)), none, []⟩,
      ⟨some 8, .mov (.t 7), none, []⟩,
      ⟨some 9, .mov (.t 0), some (8, false), []⟩,
      ⟨some 10, .bin false .eql 2 (.t 9) (.c (.int .i64 5)), some (8, false), []⟩,
      ⟨some 11, .pick (.t 8) (.c (.bool true)) (.t 10), none, []⟩,
      ⟨some 5, .asg (.t 11), none, []⟩])
    (.seq
    (.region false [2, 3, 4] [
      ⟨some 12, .mov (.t 5), none, []⟩,
      ⟨some 13, .mov (.t 5), none, []⟩,
      ⟨some 14, .un .not (.t 13), none, []⟩,
      ⟨some 15, .mov (.t 5), none, []⟩,
      ⟨some 16, .mov (.t 15), none, []⟩,
      ⟨some 17, .mov (.t 0), some (16, false), []⟩,
      ⟨some 18, .bin false .eql 2 (.t 17) (.c (.int .i64 2)), some (16, false), []⟩,
      ⟨some 19, .pick (.t 16) (.c (.bool true)) (.t 18), none, []⟩,
      ⟨some 2, .asg (.t 12), none, []⟩,
      ⟨some 3, .asg (.t 14), none, []⟩,
      ⟨some 4, .asg (.t 19), none, []⟩])
    .ret)))
  modes := [.lend]
  rets := [⟨2, none⟩, ⟨3, none⟩, ⟨4, none⟩] }

/-- loop.example/g00539/spec.l1In -/
def v113 : VFun := {
  code :=
    (.seq
    (.region false [0, 1, 2] [
      ⟨some 6, .asg (.c (.bool false)), none, []⟩])
    (.seq
    (.region false [6] [
      ⟨some 7, .mov (.t 0), none, []⟩,
      ⟨some 8, .mov (.t 1), none, []⟩,
      ⟨some 9, .bin false .geq 2 (.t 7) (.t 8), none, []⟩,
      ⟨some 10, .mov (.t 9), none, []⟩,
      ⟨some 11, .mov (.t 0), some (10, true), []⟩,
      ⟨some 12, .mov (.t 2), some (10, true), []⟩,
      ⟨some 13, .bin false .leq 2 (.t 11) (.t 12), some (10, true), []⟩,
      ⟨some 14, .pick (.t 10) (.t 13) (.c (.bool false)), none, []⟩,
      ⟨some 6, .asg (.t 14), none, []⟩])
    .ret))
  modes := [.lend, .lend, .lend]
  rets := [⟨6, none⟩] }

def b114_0 : VC :=
  (.seq
  (.seq
  (.region false [0, 3, 7] [
    ⟨some 4, .mov (.t 3), none, []⟩,
    ⟨some 5, .mov (.t 0), none, []⟩,
    ⟨some 6, .len true 9 (.t 5), none, []⟩,
    ⟨some 7, .bin false .lss 3 (.t 4) (.t 6), none, []⟩])
  (.cond (.t 7)
    .skip
    (.exit 0)))
  (.seq
  (.block 1
    (.seq
    (.region false [0, 3, 14] [
      ⟨some 10, .mov (.t 0), none, []⟩,
      ⟨some 11, .mov (.t 3), none, []⟩,
      ⟨some 12, .idx 9 (.t 10) (.t 11), none, []⟩,
      ⟨some 13, .call 148 [(.t 12)], none, []⟩,
      ⟨some 14, .un .not (.t 13), none, []⟩])
    (.cond (.t 14)
      (.seq
      (.region false [2] [
        ⟨some 2, .asg (.c (.bool false)), none, []⟩])
      .ret)
      .skip)))
  (.region false [0, 3] [
    ⟨some 8, .mov (.t 3), none, []⟩,
    ⟨some 9, .bin false .add 3 (.t 8) (.c (.int .i64 1)), none, []⟩,
    ⟨some 3, .asg (.t 9), none, []⟩])))
def l114_0 : VC := .loop b114_0
/-- loop.example/g00539/spec.l9Arg -/
def v114 : VFun := {
  code :=
    (.seq
    (.region false [0] [
      ⟨some 2, .asg (.c (.bool false)), none, []⟩])
    (.seq
    (.seq
    (.region false [0, 3] [
      ⟨some 3, .asg (.c (.int .i64 0)), none, []⟩])
    (.block 0
      l114_0))
    (.seq
    (.region false [2] [
      ⟨some 15, .mov (.t 0), none, []⟩,
      ⟨some 16, .len true 9 (.t 15), none, []⟩,
      ⟨some 17, .bin false .leq 3 (.t 16) (.c (.int .i64 12)), none, []⟩,
      ⟨some 2, .asg (.t 17), none, []⟩])
    .ret)))
  modes := [.lend]
  rets := [⟨2, none⟩] }

/-- loop.example/g00539/spec.l4Sum -/
def v115 : VFun := {
  code :=
    (.seq
    (.region false [0] [
      ⟨some 2, .asg (.c (.bool false)), none, []⟩])
    (.seq
    (.region false [2] [
      ⟨some 3, .mov (.t 0), none, []⟩,
      ⟨some 4, .call 113 [(.t 3), (.c (.int .i64 0)), (.c (.int .i64 2147483646))], none, []⟩,
      ⟨some 2, .asg (.t 4), none, []⟩])
    .ret))
  modes := [.lend]
  rets := [⟨2, none⟩] }

/-- loop.example/g00539/spec.l1Four -/
def v116 : VFun := {
  code :=
    (.seq
    (.region false [0] [
      ⟨some 2, .asg (.n 1), none, []⟩])
    (.seq
    (.region false [2, 14] [
      ⟨some 3, .mov (.t 0), none, []⟩,
      ⟨some 4, .bin false .shr 2 (.t 3) (.c (.int .u64 24)), none, []⟩,
      ⟨some 5, .conv 2 5 .u8 (.t 4), none, []⟩,
      ⟨some 6, .mov (.t 0), none, []⟩,
      ⟨some 7, .bin false .shr 2 (.t 6) (.c (.int .u64 16)), none, []⟩,
      ⟨some 8, .conv 2 5 .u8 (.t 7), none, []⟩,
      ⟨some 9, .mov (.t 0), none, []⟩,
      ⟨some 10, .bin false .shr 2 (.t 9) (.c (.int .u64 8)), none, []⟩,
      ⟨some 11, .conv 2 5 .u8 (.t 10), none, []⟩,
      ⟨some 12, .mov (.t 0), none, []⟩,
      ⟨some 13, .conv 2 5 .u8 (.t 12), none, []⟩,
      ⟨some 14, .lit 25 5 1 4 [(.val (.int .u8 0))] [(0, (.t 5)), (1, (.t 8)), (2, (.t 11)), (3, (.t 13))], none, []⟩,
      ⟨some 2, .asg (.t 14), none, []⟩])
    .ret))
  modes := [.lend]
  rets := [⟨2, none⟩] }

def b117_0 : VC :=
  (.seq
  (.seq
  (.region false [0, 3, 4, 8] [
    ⟨some 5, .mov (.t 4), none, []⟩,
    ⟨some 6, .mov (.t 0), none, []⟩,
    ⟨some 7, .len false 25 (.t 6), none, []⟩,
    ⟨some 8, .bin false .lss 3 (.t 5) (.t 7), none, []⟩])
  (.cond (.t 8)
    .skip
    (.exit 0)))
  (.seq
  (.block 1
    (.region false [0, 3, 4] [
      ⟨some 11, .mov (.t 3), none, []⟩,
      ⟨some 12, .bin false .mul 2 (.t 11) (.c (.int .i64 33)), none, []⟩,
      ⟨some 13, .mov (.t 0), none, []⟩,
      ⟨some 14, .mov (.t 4), none, []⟩,
      ⟨some 15, .ia 25 5 1 (.t 13) (.t 14), none, []⟩,
      ⟨some 16, .load 5 false 1 (.t 15), none, []⟩,
      ⟨some 17, .conv 5 2 .i64 (.t 16), none, []⟩,
      ⟨some 18, .bin false .add 2 (.t 12) (.t 17), none, []⟩,
      ⟨some 19, .bin false .add 2 (.t 18) (.c (.int .i64 1)), none, []⟩,
      ⟨some 20, .bin false .rem 2 (.t 19) (.c (.int .i64 2147483647)), none, []⟩,
      ⟨some 3, .asg (.t 20), none, []⟩]))
  (.region false [0, 3, 4] [
    ⟨some 9, .mov (.t 4), none, []⟩,
    ⟨some 10, .bin false .add 3 (.t 9) (.c (.int .i64 1)), none, []⟩,
    ⟨some 4, .asg (.t 10), none, []⟩])))
def l117_0 : VC := .loop b117_0
/-- loop.example/g00539/spec.l1Sum -/
def v117 : VFun := {
  code :=
    (.seq
    (.region false [0] [
      ⟨some 2, .asg (.c (.int .i64 0)), none, []⟩])
    (.seq
    (.region false [0, 3] [
      ⟨some 3, .asg (.c (.int .i64 5381)), none, []⟩])
    (.seq
    (.seq
    (.region false [0, 3, 4] [
      ⟨some 4, .asg (.c (.int .i64 0)), none, []⟩])
    (.block 0
      l117_0))
    (.seq
    (.region false [2] [
      ⟨some 21, .mov (.t 3), none, []⟩,
      ⟨some 2, .asg (.t 21), none, []⟩])
    .ret))))
  modes := [.lend]
  rets := [⟨2, none⟩] }

/-- loop.example/g00539/impl.workerOk -/
def v118 : VFun := {
  code :=
    (.seq
    (.region false [0] [
      ⟨some 2, .asg (.c (.bool false)), none, []⟩])
    (.seq
    (.region false [2] [
      ⟨some 3, .mov (.t 0), none, []⟩,
      ⟨some 4, .bin false .neq 9 (.t 3) (.c (.string (⟨#[]⟩ : ByteArray))), none, []⟩,
      ⟨some 5, .mov (.t 4), none, []⟩,
      ⟨some 6, .mov (.t 0), some (5, true), []⟩,
      ⟨some 7, .call 149 [(.t 6)], some (5, true), []⟩,
      ⟨some 8, .pick (.t 5) (.t 7) (.c (.bool false)), none, []⟩,
      ⟨some 2, .asg (.t 8), none, []⟩])
    .ret))
  modes := [.lend]
  rets := [⟨2, none⟩] }

/-- loop.example/g00539/impl.isSum -/
def v119 : VFun := {
  code :=
    (.seq
    (.region false [0] [
      ⟨some 2, .asg (.c (.bool false)), none, []⟩])
    (.seq
    (.region false [2] [
      ⟨some 3, .mov (.t 0), none, []⟩,
      ⟨some 4, .call 93 [(.t 3), (.c (.int .i64 0)), (.c (.int .i64 2147483646))], none, []⟩,
      ⟨some 2, .asg (.t 4), none, []⟩])
    .ret))
  modes := [.lend]
  rets := [⟨2, none⟩] }

def b120_0 : VC :=
  (.seq
  (.seq
  (.region false [0, 5, 6, 8, 12] [
    ⟨some 11, .mov (.t 6), none, []⟩,
    ⟨some 12, .bin false .geq 3 (.t 11) (.c (.int .i64 0)), none, []⟩])
  (.cond (.t 12)
    .skip
    (.exit 0)))
  (.seq
  (.block 1
    (.seq
    (.region false [0, 5, 6, 8] [
      ⟨some 15, .mov (.t 5), none, []⟩,
      ⟨some 16, .mov (.t 6), none, []⟩,
      ⟨some 17, .mov (.t 0), none, []⟩,
      ⟨some 18, .conv 2 5 .u8 (.t 17), none, []⟩,
      ⟨some 19, .ia 25 5 1 (.t 15) (.t 16), none, []⟩,
      ⟨none, .store 5 1 (.t 19) (.t 18), none, []⟩])
    (.region false [0, 5, 6, 8] [
      ⟨some 20, .mov (.t 0), none, []⟩,
      ⟨some 21, .bin false .shr 2 (.t 20) (.c (.int .u64 8)), none, []⟩,
      ⟨some 0, .asg (.t 21), none, []⟩])))
  (.region false [0, 5, 6, 8] [
    ⟨some 13, .mov (.t 6), none, []⟩,
    ⟨some 14, .bin false .sub 3 (.t 13) (.c (.int .i64 1)), none, []⟩,
    ⟨some 6, .asg (.t 14), none, []⟩])))
def l120_0 : VC := .loop b120_0
/-- loop.example/g00539/impl.high -/
def v120 : VFun := {
  code :=
    (.seq
    (.region false [0, 1] [
      ⟨some 4, .asg (.n 1), none, []⟩])
    (.seq
    (.region false [0, 1, 5, 8] [
      ⟨some 7, .mov (.t 1), none, []⟩,
      ⟨some 8, .mk 25 5 1 1 [(.val (.int .u8 0))] (.t 7) (.t 7), none, []⟩,
      ⟨some 5, .asg (.t 8), none, []⟩])
    (.seq
    (.seq
    (.region false [0, 5, 6, 8] [
      ⟨some 9, .mov (.t 1), none, []⟩,
      ⟨some 10, .bin false .sub 3 (.t 9) (.c (.int .i64 1)), none, []⟩,
      ⟨some 6, .asg (.t 10), none, []⟩])
    (.block 0
      l120_0))
    (.seq
    (.region false [4, 5, 8] [
      ⟨some 22, .mov (.t 5), none, []⟩,
      ⟨some 4, .asg (.t 22), none, []⟩])
    .ret))))
  modes := [.lend, .lend]
  rets := [⟨4, none⟩] }

def b121_0 : VC :=
  (.seq
  (.region false [3, 6, 7, 8, 9] [
    ⟨some 9, .bin false .lss 3 (.t 8) (.t 7), none, []⟩])
  (.seq
  (.cond (.t 9)
    .skip
    (.exit 0))
  (.seq
  (.block 1
    (.seq
    (.region false [3, 5, 6, 7, 8] [
      ⟨some 10, .ia 25 5 1 (.t 6) (.t 8), none, []⟩,
      ⟨some 11, .load 5 false 1 (.t 10), none, []⟩,
      ⟨some 5, .asg (.t 11), none, []⟩])
    (.region false [3, 6, 7, 8] [
      ⟨some 12, .mov (.t 3), none, []⟩,
      ⟨some 13, .bin false .mul 2 (.c (.int .i64 33)) (.t 12), none, []⟩,
      ⟨some 14, .mov (.t 5), none, []⟩,
      ⟨some 15, .conv 5 2 .i64 (.t 14), none, []⟩,
      ⟨some 16, .bin false .add 2 (.t 13) (.t 15), none, []⟩,
      ⟨some 17, .bin false .add 2 (.t 16) (.c (.int .i64 1)), none, []⟩,
      ⟨some 18, .bin false .rem 2 (.t 17) (.c (.int .i64 2147483647)), none, []⟩,
      ⟨some 3, .asg (.t 18), none, []⟩])))
  (.region false [3, 6, 7, 8] [
    ⟨some 19, .bin false .add 3 (.t 8) (.c (.int .i64 1)), none, []⟩,
    ⟨some 8, .mov (.t 19), none, []⟩]))))
def l121_0 : VC := .loop b121_0
/-- loop.example/g00539/impl.sumOf -/
def v121 : VFun := {
  code :=
    (.seq
    (.region false [0] [
      ⟨some 2, .asg (.c (.int .i64 0)), none, []⟩])
    (.seq
    (.region false [0, 3] [
      ⟨some 3, .asg (.c (.int .i64 5381)), none, []⟩])
    (.seq
    (.seq
    (.region false [3, 6, 7, 8] [
      ⟨some 6, .mov (.t 0), none, []⟩,
      ⟨some 7, .len false 25 (.t 6), none, []⟩,
      ⟨some 8, .mov (.c (.int .i64 0)), none, []⟩])
    (.block 0
      l121_0))
    (.seq
    (.region false [2] [
      ⟨some 20, .mov (.t 3), none, []⟩,
      ⟨some 2, .asg (.t 20), none, []⟩])
    .ret))))
  modes := [.lend]
  rets := [⟨2, none⟩] }

/-- slices.Grow[[]byte,byte] -/
def v123 : VFun := {
  code :=
    (.seq
    (.region false [0, 1, 25] [
      ⟨some 4, .asg (.n 1), none, []⟩])
    (.seq
    (.seq
    (.region false [0, 1, 6, 25] [
      ⟨some 5, .mov (.t 1), none, []⟩,
      ⟨some 6, .bin false .lss 3 (.t 5) (.c (.int .i64 0)), none, []⟩])
    (.cond (.t 6)
      .any
      .skip))
    (.seq
    (.seq
    (.region false [0, 1, 25] [
      ⟨some 8, .mov (.t 1), none, []⟩,
      ⟨some 9, .mov (.t 0), none, []⟩,
      ⟨some 10, .capn 25 (.t 9), none, []⟩,
      ⟨some 11, .mov (.t 0), none, []⟩,
      ⟨some 12, .len false 25 (.t 11), none, []⟩,
      ⟨some 13, .bin false .sub 3 (.t 10) (.t 12), none, []⟩,
      ⟨some 14, .bin false .sub 3 (.t 8) (.t 13), none, []⟩,
      ⟨some 1, .asg (.t 14), none, []⟩])
    (.seq
    (.region false [0, 1, 16, 25] [
      ⟨some 15, .mov (.t 1), none, []⟩,
      ⟨some 16, .bin false .gtr 3 (.t 15) (.c (.int .i64 0)), none, []⟩])
    (.cond (.t 16)
      (.region false [0, 25] [
        ⟨some 17, .mov (.t 0), none, []⟩,
        ⟨some 18, .mov (.t 0), none, []⟩,
        ⟨some 19, .capn 25 (.t 18), none, []⟩,
        ⟨some 20, .cut 25 (some 5) 1 (.t 17) none (some (.t 19)), none, []⟩,
        ⟨some 21, .mov (.t 1), none, []⟩,
        ⟨some 22, .appn 25 5 1 1 [(.val (.int .u8 0))] (.t 20) (.t 21), none, []⟩,
        ⟨some 23, .mov (.t 0), none, []⟩,
        ⟨some 24, .len false 25 (.t 23), none, []⟩,
        ⟨some 25, .trunc 25 5 1 (.t 22) (.t 24), none, []⟩,
        ⟨some 0, .asg (.t 25), none, []⟩])
      .skip)))
    (.seq
    (.region false [0, 4, 25] [
      ⟨some 26, .mov (.t 0), none, []⟩,
      ⟨some 4, .asg (.t 26), none, []⟩])
    .ret))))
  modes := [.nl, .lend]
  rets := [⟨4, none⟩] }

/-- loop.example/g00539/spec.l9Letter -/
def v148 : VFun := {
  code :=
    (.seq
    (.region false [0] [
      ⟨some 2, .asg (.c (.bool false)), none, []⟩])
    (.seq
    (.region false [2] [
      ⟨some 3, .mov (.t 0), none, []⟩,
      ⟨some 4, .bin false .geq 5 (.t 3) (.c (.int .u8 97)), none, []⟩,
      ⟨some 5, .mov (.t 4), none, []⟩,
      ⟨some 6, .mov (.t 0), some (5, true), []⟩,
      ⟨some 7, .bin false .leq 5 (.t 6) (.c (.int .u8 122)), some (5, true), []⟩,
      ⟨some 8, .pick (.t 5) (.t 7) (.c (.bool false)), none, []⟩,
      ⟨some 9, .mov (.t 8), none, []⟩,
      ⟨some 10, .mov (.t 0), some (9, false), []⟩,
      ⟨some 11, .bin false .geq 5 (.t 10) (.c (.int .u8 65)), some (9, false), []⟩,
      ⟨some 12, .mov (.t 11), some (9, false), []⟩,
      ⟨some 13, .mov (.t 0), some (12, true), []⟩,
      ⟨some 14, .bin false .leq 5 (.t 13) (.c (.int .u8 90)), some (12, true), []⟩,
      ⟨some 15, .pick (.t 12) (.t 14) (.c (.bool false)), some (9, false), []⟩,
      ⟨some 16, .pick (.t 9) (.c (.bool true)) (.t 15), none, []⟩,
      ⟨some 17, .mov (.t 16), none, []⟩,
      ⟨some 18, .mov (.t 0), some (17, false), []⟩,
      ⟨some 19, .bin false .geq 5 (.t 18) (.c (.int .u8 48)), some (17, false), []⟩,
      ⟨some 20, .mov (.t 19), some (17, false), []⟩,
      ⟨some 21, .mov (.t 0), some (20, true), []⟩,
      ⟨some 22, .bin false .leq 5 (.t 21) (.c (.int .u8 57)), some (20, true), []⟩,
      ⟨some 23, .pick (.t 20) (.t 22) (.c (.bool false)), some (17, false), []⟩,
      ⟨some 24, .pick (.t 17) (.c (.bool true)) (.t 23), none, []⟩,
      ⟨some 2, .asg (.t 24), none, []⟩])
    .ret))
  modes := [.lend]
  rets := [⟨2, none⟩] }

/-- loop.example/g00539/impl.argOk -/
def v149 : VFun := {
  code :=
    (.seq
    (.region false [0] [
      ⟨some 2, .asg (.c (.bool false)), none, []⟩])
    (.seq
    (.region false [2] [
      ⟨some 3, .mov (.t 0), none, []⟩,
      ⟨some 4, .len true 9 (.t 3), none, []⟩,
      ⟨some 5, .bin false .leq 3 (.t 4) (.c (.int .i64 12)), none, []⟩,
      ⟨some 6, .mov (.t 5), none, []⟩,
      ⟨some 7, .mov (.t 0), some (6, true), []⟩,
      ⟨some 8, .call 156 [(.t 7), (.c (.string (⟨#[97, 98, 99, 100, 101, 102, 103, 104, 105, 106, 107, 108, 109, 110, 111, 112, 113, 114, 115, 116, 117, 118, 119, 120, 121, 122, 65, 66, 67, 68, 69, 70, 71, 72, 73, 74, 75, 76, 77, 78, 79, 80, 81, 82, 83, 84, 85, 86, 87, 88, 89, 90, 48, 49, 50, 51, 52, 53, 54, 55, 56, 57]⟩ : ByteArray)))], some (6, true), []⟩,
      ⟨some 9, .bin false .eql 9 (.t 8) (.c (.string (⟨#[]⟩ : ByteArray))), some (6, true), []⟩,
      ⟨some 10, .pick (.t 6) (.t 9) (.c (.bool false)), none, []⟩,
      ⟨some 2, .asg (.t 10), none, []⟩])
    .ret))
  modes := [.lend]
  rets := [⟨2, none⟩] }

def tab : List (Nat × VFun) := [(3, v3), (11, v11), (12, v12), (13, v13), (14, v14), (15, v15), (16, v16), (17, v17), (40, v40), (41, v41), (62, v62), (63, v63), (64, v64), (65, v65), (66, v66), (71, v71), (75, v75), (79, v79), (93, v93), (112, v112), (113, v113), (114, v114), (115, v115), (116, v116), (117, v117), (118, v118), (119, v119), (120, v120), (121, v121), (123, v123), (148, v148), (149, v149)]
def F (f : FuncId) : Option VFun := getA none (tab.map fun x => (x.1, some x.2)) f
theorem tab_ok : tab.all (fun x => matchFun Tryd.prog x.1 x.2) = true := by kernel_rfl
theorem F_mem {f : FuncId} {fn : VFun} : ∀ {l : List (Nat × VFun)}, getA none (l.map fun x => (x.1, some x.2)) f = some fn → (f, fn) ∈ l
  | [], h => by simp [getA] at h
  | (k, v) :: l, h => by
    simp only [List.map_cons, getA] at h
    split at h
    · rename_i e
      injection h with h
      subst e; subst h
      exact List.mem_cons_self ..
    · exact List.mem_cons_of_mem _ (F_mem h)
theorem F_ok (f : FuncId) (fn : VFun) (h : F f = some fn) : matchFun Tryd.prog f fn = true := List.all_eq_true.1 tab_ok _ (F_mem h)
end Go.Proofs.YtdnopbpdiineiaaDoor.PackEntry
