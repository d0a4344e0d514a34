/- V's text of the functions that this law reaches. -/
import Derived.Test.YtdnopbpdiineiaaDoorVCode
import Derived.Test.YtdnopbpdiineiaaDoorRows
import Derived.KernelRfl
namespace Go.Proofs.YtdnopbpdiineiaaDoor.WorkersOf
open Go Go.Proofs.YtdnopbpdiineiaaDoor.V
set_option maxRecDepth 20000

/-- loop.example/g00539/laws.FnExactWorkersOf -/
def v8 : VFun := {
  code :=
    (.seq
    (.region false [1] [
      ⟨some 1, .box 71 (.t 0), none, []⟩,
      ⟨some 2, .asg (.c (.bool false)), none, []⟩])
    (.seq
    (.region false [1, 3] [
      ⟨some 3, .asg (.c (.int .i64 1048576)), none, []⟩])
    (.seq
    (.region false [1, 3] [
      ⟨some 11, .load 71 true 2 (.t 1), none, []⟩,
      ⟨some 12, .mov (.t 3), none, []⟩,
      ⟨some 13, .call 44 [(.t 11), (.t 12)], none, []⟩,
      ⟨some 3, .asg (.t 13), none, []⟩])
    (.seq
    (.seq
    (.region false [1, 15] [
      ⟨some 14, .mov (.t 3), none, []⟩,
      ⟨some 15, .bin false .lss 3 (.t 14) (.c (.int .i64 0)), none, []⟩])
    (.cond (.t 15)
      (.seq
      (.region false [2] [
        ⟨some 2, .asg (.c (.bool true)), none, []⟩])
      .ret)
      .skip))
    (.seq
    (.region false [1, 4] [
      ⟨some 16, .load 71 true 2 (.t 1), none, []⟩,
      ⟨some 17, .call 46 [(.t 16)], none, []⟩,
      ⟨some 18, .call 49 [(.t 17)], none, []⟩,
      ⟨some 4, .alloc 82 [(.val (.int .i64 0)), (.nl 1), (.val (.string (⟨#[]⟩ : ByteArray)))], none, []⟩,
      ⟨none, .store 82 3 (.t 4) (.t 18), none, []⟩])
    (.seq
    (.region false [1, 4, 5] [
      ⟨some 19, .load 71 true 2 (.t 1), none, []⟩,
      ⟨some 20, .call 46 [(.t 19)], none, []⟩,
      ⟨some 5, .alloc 76 [(.nl 4), (.val (.int .i64 0))], none, []⟩,
      ⟨none, .store 76 2 (.t 5) (.t 20), none, []⟩])
    (.seq
    (.region false [1, 4, 5, 6] [
      ⟨some 21, .load 76 true 2 (.t 5), none, []⟩,
      ⟨some 22, .call 50 [(.t 21)], none, []⟩,
      ⟨some 6, .alloc 82 [(.val (.int .i64 0)), (.nl 1), (.val (.string (⟨#[]⟩ : ByteArray)))], none, []⟩,
      ⟨none, .store 82 3 (.t 6) (.t 22), none, []⟩])
    (.seq
    (.seq
    (.region false [1, 4, 5, 6, 26] [
      ⟨some 23, .load 82 true 3 (.t 6), none, []⟩,
      ⟨some 24, .load 82 true 3 (.t 4), none, []⟩,
      ⟨some 25, .call 51 [(.t 23), (.t 24)], none, []⟩,
      ⟨some 26, .un .not (.t 25), none, []⟩])
    (.cond (.t 26)
      (.seq
      (.region false [2] [
        ⟨some 2, .asg (.c (.bool false)), none, []⟩])
      .ret)
      .skip))
    (.seq
    (.seq
    (.region true [1, 4, 5, 6, 31] [
      ⟨some 27, .load 76 true 2 (.t 5), none, []⟩,
      ⟨some 28, .load 71 true 2 (.t 1), none, [0]⟩,
      ⟨some 29, .call 46 [(.t 28)], none, [0]⟩,
      ⟨some 30, .call 48 [(.t 27), (.t 29)], none, []⟩,
      ⟨some 31, .un .not (.t 30), none, []⟩])
    (.cond (.t 31)
      (.seq
      (.region false [2] [
        ⟨some 2, .asg (.c (.bool false)), none, []⟩])
      .ret)
      .skip))
    (.seq
    (.region false [1, 4, 5, 6, 7] [
      ⟨some 7, .asg (.c (.int .i64 1)), none, []⟩])
    (.seq
    (.region false [1, 4, 6, 7] [
      ⟨some 32, .load 76 true 2 (.t 5), none, []⟩,
      ⟨some 33, .mov (.t 7), none, []⟩,
      ⟨some 34, .call 52 [(.t 32), (.t 33)], none, []⟩,
      ⟨some 7, .asg (.t 34), none, []⟩])
    (.seq
    (.seq
    (.region false [1, 4, 6, 42] [
      ⟨some 35, .mov (.t 7), none, []⟩,
      ⟨some 36, .bin false .lss 3 (.t 35) (.c (.int .i64 0)), none, []⟩,
      ⟨some 37, .mov (.t 36), none, []⟩,
      ⟨some 38, .load 82 true 3 (.t 6), some (37, false), []⟩,
      ⟨some 39, .load 82 true 3 (.t 4), some (37, false), []⟩,
      ⟨some 40, .call 51 [(.t 38), (.t 39)], some (37, false), []⟩,
      ⟨some 41, .un .not (.t 40), some (37, false), []⟩,
      ⟨some 42, .pick (.t 37) (.c (.bool true)) (.t 41), none, []⟩])
    (.cond (.t 42)
      (.seq
      (.region false [2] [
        ⟨some 2, .asg (.c (.bool false)), none, []⟩])
      .ret)
      .skip))
    (.seq
    (.region false [1, 4, 6, 8] [
      ⟨some 8, .asg (.c (.int .i64 1)), none, []⟩])
    (.seq
    (.region false [1, 4, 6, 8] [
      ⟨some 43, .load 82 true 3 (.t 6), none, []⟩,
      ⟨some 44, .mov (.t 8), none, []⟩,
      ⟨some 45, .call 53 [(.t 43), (.t 44)], none, []⟩,
      ⟨some 8, .asg (.t 45), none, []⟩])
    (.seq
    (.region false [1, 4, 6, 8, 9] [
      ⟨some 9, .asg (.c (.int .i64 1)), none, []⟩])
    (.seq
    (.region false [1, 4, 6, 8, 9] [
      ⟨some 46, .load 82 true 3 (.t 6), none, []⟩,
      ⟨some 47, .mov (.t 9), none, []⟩,
      ⟨some 48, .call 54 [(.t 46), (.t 47)], none, []⟩,
      ⟨some 9, .asg (.t 48), none, []⟩])
    (.seq
    (.seq
    (.region false [1, 4, 6, 8, 9, 50] [
      ⟨some 49, .mov (.t 9), none, []⟩,
      ⟨some 50, .bin false .lss 3 (.t 49) (.c (.int .i64 0)), none, []⟩])
    (.cond (.t 50)
      (.seq
      (.region false [2] [
        ⟨some 2, .asg (.c (.bool false)), none, []⟩])
      .ret)
      .skip))
    (.seq
    (.seq
    (.region false [1, 4, 6, 8, 53] [
      ⟨some 51, .mov (.t 9), none, []⟩,
      ⟨some 52, .mov (.t 8), none, []⟩,
      ⟨some 53, .bin false .neq 3 (.t 51) (.t 52), none, []⟩])
    (.cond (.t 53)
      (.seq
      (.region false [2] [
        ⟨some 2, .asg (.c (.bool false)), none, []⟩])
      .ret)
      .skip))
    (.seq
    (.region false [4, 6, 8, 10] [
      ⟨some 54, .load 71 true 2 (.t 1), none, []⟩,
      ⟨some 55, .call 46 [(.t 54)], none, []⟩,
      ⟨some 56, .call 50 [(.t 55)], none, []⟩,
      ⟨some 10, .alloc 82 [(.val (.int .i64 0)), (.nl 1), (.val (.string (⟨#[]⟩ : ByteArray)))], none, []⟩,
      ⟨none, .store 82 3 (.t 10) (.t 56), none, []⟩])
    (.seq
    (.seq
    (.region false [6, 8, 60] [
      ⟨some 57, .load 82 true 3 (.t 10), none, []⟩,
      ⟨some 58, .load 82 true 3 (.t 4), none, []⟩,
      ⟨some 59, .call 51 [(.t 57), (.t 58)], none, []⟩,
      ⟨some 60, .un .not (.t 59), none, []⟩])
    (.cond (.t 60)
      (.seq
      (.region false [2] [
        ⟨some 2, .asg (.c (.bool false)), none, []⟩])
      .ret)
      .skip))
    (.seq
    (.region false [6, 8, 9] [
      ⟨some 9, .asg (.c (.int .i64 1)), none, []⟩])
    (.seq
    (.region false [8, 9] [
      ⟨some 61, .load 82 true 3 (.t 6), none, []⟩,
      ⟨some 62, .mov (.t 9), none, []⟩,
      ⟨some 63, .call 54 [(.t 61), (.t 62)], none, []⟩,
      ⟨some 9, .asg (.t 63), none, []⟩])
    (.seq
    (.seq
    (.region false [8, 9, 65] [
      ⟨some 64, .mov (.t 9), none, []⟩,
      ⟨some 65, .bin false .lss 3 (.t 64) (.c (.int .i64 0)), none, []⟩])
    (.cond (.t 65)
      (.seq
      (.region false [2] [
        ⟨some 2, .asg (.c (.bool false)), none, []⟩])
      .ret)
      .skip))
    (.seq
    (.seq
    (.region false [68] [
      ⟨some 66, .mov (.t 9), none, []⟩,
      ⟨some 67, .mov (.t 8), none, []⟩,
      ⟨some 68, .bin false .neq 3 (.t 66) (.t 67), none, []⟩])
    (.cond (.t 68)
      (.seq
      (.region false [2] [
        ⟨some 2, .asg (.c (.bool false)), none, []⟩])
      .ret)
      .skip))
    (.seq
    (.region false [2] [
      ⟨some 2, .asg (.c (.bool true)), none, []⟩])
    .ret)))))))))))))))))))))))))
  modes := [.lend]
  rets := [⟨2, none⟩] }

/-- loop.example/g00539/laws.szServer -/
def v44 : VFun := {
  code :=
    (.seq
    (.region false [1, 2] [
      ⟨some 2, .box 71 (.t 0), none, []⟩,
      ⟨some 4, .asg (.c (.int .i64 0)), none, []⟩])
    (.seq
    (.region false [1] [
      ⟨some 5, .fa 71 0 0 1 (.t 2), none, []⟩,
      ⟨some 6, .load 69 false 1 (.t 5), none, []⟩,
      ⟨some 7, .mov (.t 1), none, []⟩,
      ⟨some 8, .call 89 [(.t 6), (.t 7)], none, []⟩,
      ⟨some 1, .asg (.t 8), none, []⟩])
    (.seq
    (.seq
    (.region false [1, 10] [
      ⟨some 9, .mov (.t 1), none, []⟩,
      ⟨some 10, .bin false .lss 3 (.t 9) (.c (.int .i64 0)), none, []⟩])
    (.cond (.t 10)
      (.seq
      (.region false [4] [
        ⟨some 4, .asg (.c (.int .i64 (-1))), none, []⟩])
      .ret)
      .skip))
    (.seq
    (.region false [4] [
      ⟨some 11, .mov (.t 1), none, []⟩,
      ⟨some 4, .asg (.t 11), none, []⟩])
    .ret))))
  modes := [.lend, .lend]
  rets := [⟨4, none⟩] }

/-- loop.example/g00539/laws.toServer -/
def v46 : VFun := {
  code :=
    (.seq
    (.region false [1, 2] [
      ⟨some 1, .box 71 (.t 0), none, []⟩,
      ⟨some 2, .alloc 76 [(.nl 4), (.val (.int .i64 0))], none, []⟩])
    (.seq
    (.region false [1, 2, 3] [
      ⟨some 3, .alloc 76 [(.nl 4), (.val (.int .i64 0))], none, []⟩])
    (.seq
    (.region false [1, 2, 3] [
      ⟨some 4, .fa 71 0 0 1 (.t 1), none, []⟩,
      ⟨some 5, .load 69 false 1 (.t 4), none, []⟩,
      ⟨some 6, .call 91 [(.t 5)], none, []⟩,
      ⟨some 7, .fa 76 0 0 1 (.t 3), none, []⟩,
      ⟨none, .store 74 1 (.t 7) (.t 6), none, []⟩])
    (.seq
    (.region false [2, 3] [
      ⟨some 8, .fa 71 1 1 1 (.t 1), none, []⟩,
      ⟨some 9, .load 2 false 1 (.t 8), none, []⟩,
      ⟨some 10, .fa 76 1 1 1 (.t 3), none, []⟩,
      ⟨none, .store 2 1 (.t 10) (.t 9), none, []⟩])
    (.seq
    (.region false [2] [
      ⟨some 11, .load 76 true 2 (.t 3), none, []⟩,
      ⟨none, .store 76 2 (.t 2) (.t 11), none, []⟩])
    .ret)))))
  modes := [.lend]
  rets := [⟨2, some (true, 2)⟩] }

def b47_0 : VC :=
  (.seq
  (.region false [1, 11, 12, 13, 14] [
    ⟨some 14, .bin false .lss 3 (.t 13) (.t 12), none, []⟩])
  (.seq
  (.cond (.t 14)
    .skip
    (.exit 0))
  (.seq
  (.block 1
    (.seq
    (.region false [1, 3, 4, 11, 12, 13] [
      ⟨some 15, .mov (.t 13), none, []⟩,
      ⟨some 16, .ia 74 127 4 (.t 11) (.t 13), none, []⟩,
      ⟨some 17, .load 127 true 4 (.t 16), none, []⟩,
      ⟨some 4, .alloc 127 [(.val (.string (⟨#[]⟩ : ByteArray))), (.val (.int .i64 0)), (.val (.string (⟨#[]⟩ : ByteArray))), (.val (.int .i64 0))], none, []⟩,
      ⟨some 3, .asg (.t 15), none, []⟩,
      ⟨none, .store 127 4 (.t 4) (.t 17), none, []⟩])
    (.seq
    (.region true [1, 5, 11, 12, 13] [
      ⟨some 18, .load 127 true 4 (.t 4), none, []⟩,
      ⟨some 19, .fa 76 0 0 1 (.t 1), none, [0]⟩,
      ⟨some 20, .load 74 false 1 (.t 19), none, [0]⟩,
      ⟨some 21, .mov (.t 3), none, [0, 1, 2]⟩,
      ⟨some 22, .cut 74 (some 127) 4 (.t 20) none (some (.t 21)), none, [0]⟩,
      ⟨some 23, .call 92 [(.t 18), (.t 22)], none, []⟩,
      ⟨some 5, .asg (.t 23), none, []⟩])
    (.seq
    (.region false [1, 5, 11, 12, 13, 25] [
      ⟨some 24, .mov (.t 5), none, []⟩,
      ⟨some 25, .bin false .neq 2 (.t 24) (.c (.int .i64 0)), none, []⟩])
    (.cond (.t 25)
      (.seq
      (.region false [2] [
        ⟨some 26, .mov (.t 5), none, []⟩,
        ⟨some 2, .asg (.t 26), none, []⟩])
      .ret)
      .skip)))))
  (.region false [1, 11, 12, 13] [
    ⟨some 27, .bin false .add 3 (.t 13) (.c (.int .i64 1)), none, []⟩,
    ⟨some 13, .mov (.t 27), none, []⟩]))))
def l47_0 : VC := .loop b47_0
/-- loop.example/g00539/impl.ServerFault -/
def v47 : VFun := {
  code :=
    (.seq
    (.region false [1] [
      ⟨some 1, .box 76 (.t 0), none, []⟩,
      ⟨some 2, .asg (.c (.int .i64 0)), none, []⟩])
    (.seq
    (.seq
    (.region false [1, 9] [
      ⟨some 6, .fa 76 0 0 1 (.t 1), none, []⟩,
      ⟨some 7, .load 74 false 1 (.t 6), none, []⟩,
      ⟨some 8, .len false 74 (.t 7), none, []⟩,
      ⟨some 9, .bin false .gtr 3 (.t 8) (.c (.int .i64 4)), none, []⟩])
    (.cond (.t 9)
      (.seq
      (.region false [2] [
        ⟨some 2, .asg (.c (.int .i64 2)), none, []⟩])
      .ret)
      .skip))
    (.seq
    (.seq
    (.region false [1, 11, 12, 13] [
      ⟨some 10, .fa 76 0 0 1 (.t 1), none, []⟩,
      ⟨some 11, .load 74 false 1 (.t 10), none, []⟩,
      ⟨some 12, .len false 74 (.t 11), none, []⟩,
      ⟨some 13, .mov (.c (.int .i64 0)), none, []⟩])
    (.block 0
      l47_0))
    (.seq
    (.seq
    (.region false [37] [
      ⟨some 28, .fa 76 1 1 1 (.t 1), none, []⟩,
      ⟨some 29, .load 2 false 1 (.t 28), none, []⟩,
      ⟨some 30, .call 93 [(.t 29), (.c (.int .i64 0)), (.c (.int .i64 999))], none, []⟩,
      ⟨some 31, .un .not (.t 30), none, []⟩,
      ⟨some 32, .mov (.t 31), none, []⟩,
      ⟨some 33, .fa 76 0 0 1 (.t 1), some (32, false), []⟩,
      ⟨some 34, .load 74 false 1 (.t 33), some (32, false), []⟩,
      ⟨some 35, .fn 95 [] [(.t 1)], some (32, false), []⟩,
      ⟨some 36, .call 94 [(.t 34), (.t 35)], some (32, false), []⟩,
      ⟨some 37, .pick (.t 32) (.c (.bool true)) (.t 36), none, []⟩])
    (.cond (.t 37)
      (.seq
      (.region false [2] [
        ⟨some 2, .asg (.c (.int .i64 3)), none, []⟩])
      .ret)
      .skip))
    (.seq
    (.region false [2] [
      ⟨some 2, .asg (.c (.int .i64 0)), none, []⟩])
    .ret)))))
  modes := [.lend]
  rets := [⟨2, none⟩] }

/-- loop.example/g00539/laws.eqServer -/
def v48 : VFun := {
  code :=
    (.seq
    (.region false [2, 3] [
      ⟨some 2, .box 76 (.t 0), none, []⟩,
      ⟨some 3, .box 76 (.t 1), none, []⟩,
      ⟨some 4, .asg (.c (.bool false)), none, []⟩])
    (.seq
    (.seq
    (.region false [2, 3, 10] [
      ⟨some 5, .fa 76 0 0 1 (.t 2), none, []⟩,
      ⟨some 6, .load 74 false 1 (.t 5), none, []⟩,
      ⟨some 7, .fa 76 0 0 1 (.t 3), none, []⟩,
      ⟨some 8, .load 74 false 1 (.t 7), none, []⟩,
      ⟨some 9, .call 96 [(.t 6), (.t 8)], none, []⟩,
      ⟨some 10, .un .not (.t 9), none, []⟩])
    (.cond (.t 10)
      (.seq
      (.region false [4] [
        ⟨some 4, .asg (.c (.bool false)), none, []⟩])
      .ret)
      .skip))
    (.seq
    (.seq
    (.region false [15] [
      ⟨some 11, .fa 76 1 1 1 (.t 2), none, []⟩,
      ⟨some 12, .load 2 false 1 (.t 11), none, []⟩,
      ⟨some 13, .fa 76 1 1 1 (.t 3), none, []⟩,
      ⟨some 14, .load 2 false 1 (.t 13), none, []⟩,
      ⟨some 15, .bin false .neq 2 (.t 12) (.t 14), none, []⟩])
    (.cond (.t 15)
      (.seq
      (.region false [4] [
        ⟨some 4, .asg (.c (.bool false)), none, []⟩])
      .ret)
      .skip))
    (.seq
    (.region false [4] [
      ⟨some 4, .asg (.c (.bool true)), none, []⟩])
    .ret))))
  modes := [.lend, .lend]
  rets := [⟨4, none⟩] }

def b49_1 : VC :=
  (.seq
  (.seq
  (.region false [1, 2, 4, 5, 6, 7, 8, 34] [
    ⟨some 30, .mov (.t 8), none, []⟩,
    ⟨some 31, .fa 82 1 1 1 (.t 4), none, []⟩,
    ⟨some 32, .load 80 false 1 (.t 31), none, []⟩,
    ⟨some 33, .len false 80 (.t 32), none, []⟩,
    ⟨some 34, .bin false .lss 3 (.t 30) (.t 33), none, []⟩])
  (.cond (.t 34)
    .skip
    (.exit 2)))
  (.seq
  (.block 3
    (.region false [1, 2, 4, 5, 6, 7, 8] [
      ⟨some 37, .mov (.t 7), none, []⟩,
      ⟨some 38, .mov (.t 37), none, []⟩,
      ⟨some 39, .fa 82 1 1 1 (.t 4), some (38, false), []⟩,
      ⟨some 40, .load 80 false 1 (.t 39), some (38, false), []⟩,
      ⟨some 41, .mov (.t 8), some (38, false), []⟩,
      ⟨some 42, .ia 80 9 1 (.t 40) (.t 41), some (38, false), []⟩,
      ⟨some 43, .load 9 false 1 (.t 42), some (38, false), []⟩,
      ⟨some 44, .mov (.t 6), some (38, false), []⟩,
      ⟨some 45, .bin false .eql 9 (.t 43) (.t 44), some (38, false), []⟩,
      ⟨some 46, .pick (.t 38) (.c (.bool true)) (.t 45), none, []⟩,
      ⟨some 7, .asg (.t 46), none, []⟩]))
  (.region false [1, 2, 4, 5, 6, 7, 8] [
    ⟨some 35, .mov (.t 8), none, []⟩,
    ⟨some 36, .bin false .add 3 (.t 35) (.c (.int .i64 1)), none, []⟩,
    ⟨some 8, .asg (.t 36), none, []⟩])))
def l49_1 : VC := .loop b49_1
def b49_0 : VC :=
  (.seq
  (.seq
  (.region false [1, 2, 4, 5, 19] [
    ⟨some 15, .mov (.t 5), none, []⟩,
    ⟨some 16, .fa 76 0 0 1 (.t 1), none, []⟩,
    ⟨some 17, .load 74 false 1 (.t 16), none, []⟩,
    ⟨some 18, .len false 74 (.t 17), none, []⟩,
    ⟨some 19, .bin false .lss 3 (.t 15) (.t 18), none, []⟩])
  (.cond (.t 19)
    .skip
    (.exit 0)))
  (.seq
  (.block 1
    (.seq
    (.region false [1, 2, 4, 5, 6] [
      ⟨some 22, .fa 76 0 0 1 (.t 1), none, []⟩,
      ⟨some 23, .load 74 false 1 (.t 22), none, []⟩,
      ⟨some 24, .mov (.t 5), none, []⟩,
      ⟨some 25, .ia 74 127 4 (.t 23) (.t 24), none, []⟩,
      ⟨some 26, .fa 127 2 2 1 (.t 25), none, []⟩,
      ⟨some 27, .load 9 false 1 (.t 26), none, []⟩,
      ⟨some 6, .asg (.t 27), none, []⟩])
    (.seq
    (.region false [1, 2, 4, 5, 6, 7] [
      ⟨some 28, .mov (.t 6), none, []⟩,
      ⟨some 29, .bin false .eql 9 (.t 28) (.c (.string (⟨#[]⟩ : ByteArray))), none, []⟩,
      ⟨some 7, .asg (.t 29), none, []⟩])
    (.seq
    (.seq
    (.region false [1, 2, 4, 5, 6, 7, 8] [
      ⟨some 8, .asg (.c (.int .i64 0)), none, []⟩])
    (.block 2
      l49_1))
    (.seq
    (.region false [1, 2, 4, 5, 6, 48] [
      ⟨some 47, .mov (.t 7), none, []⟩,
      ⟨some 48, .un .not (.t 47), none, []⟩])
    (.cond (.t 48)
      (.region false [1, 2, 4, 5] [
        ⟨some 49, .fa 82 1 1 1 (.t 4), none, []⟩,
        ⟨some 50, .load 80 false 1 (.t 49), none, []⟩,
        ⟨some 51, .mov (.t 6), none, []⟩,
        ⟨some 52, .lit 80 9 1 1 [(.val (.string (⟨#[]⟩ : ByteArray)))] [(0, (.t 51))], none, []⟩,
        ⟨some 53, .app 80 9 1 16 (.t 50) (.t 52), none, []⟩,
        ⟨some 54, .fa 82 1 1 1 (.t 4), none, []⟩,
        ⟨none, .store 80 1 (.t 54) (.t 53), none, []⟩])
      .skip))))))
  (.region false [1, 2, 4, 5] [
    ⟨some 20, .mov (.t 5), none, []⟩,
    ⟨some 21, .bin false .add 3 (.t 20) (.c (.int .i64 1)), none, []⟩,
    ⟨some 5, .asg (.t 21), none, []⟩])))
def l49_0 : VC := .loop b49_0
/-- loop.example/g00539/spec.WorkersOf -/
def v49 : VFun := {
  code :=
    (.seq
    (.region false [1, 2] [
      ⟨some 1, .box 76 (.t 0), none, []⟩,
      ⟨some 2, .alloc 82 [(.val (.int .i64 0)), (.nl 1), (.val (.string (⟨#[]⟩ : ByteArray)))], none, []⟩])
    (.seq
    (.seq
    (.region false [1, 2, 3] [
      ⟨some 9, .call 90 [(.t 1)], none, []⟩,
      ⟨some 3, .asg (.t 9), none, []⟩])
    (.seq
    (.region false [1, 2, 3, 11] [
      ⟨some 10, .mov (.t 3), none, []⟩,
      ⟨some 11, .bin false .neq 2 (.t 10) (.c (.int .i64 0)), none, []⟩])
    (.cond (.t 11)
      (.seq
      (.region false [2] [
        ⟨some 12, .mov (.t 3), none, []⟩,
        ⟨some 13, .build 82 [(.val (.int .i64 0)), (.nl 1), (.val (.string (⟨#[]⟩ : ByteArray)))] [(0, 0, 1, (.t 12))], none, []⟩,
        ⟨none, .store 82 3 (.t 2) (.t 13), none, []⟩])
      .ret)
      .skip)))
    (.seq
    (.region false [1, 2, 4] [
      ⟨some 14, .build 82 [(.val (.int .i64 0)), (.nl 1), (.val (.string (⟨#[]⟩ : ByteArray)))] [], none, []⟩,
      ⟨some 4, .alloc 82 [(.val (.int .i64 0)), (.nl 1), (.val (.string (⟨#[]⟩ : ByteArray)))], none, []⟩,
      ⟨none, .store 82 3 (.t 4) (.t 14), none, []⟩])
    (.seq
    (.seq
    (.region false [1, 2, 4, 5] [
      ⟨some 5, .asg (.c (.int .i64 0)), none, []⟩])
    (.block 0
      l49_0))
    (.seq
    (.region false [2] [
      ⟨some 55, .load 82 true 3 (.t 4), none, []⟩,
      ⟨none, .store 82 3 (.t 2) (.t 55), none, []⟩])
    .ret)))))
  modes := [.lend]
  rets := [⟨2, some (true, 3)⟩] }

def b50_0 : VC :=
  (.seq
  (.region false [1, 2, 4, 13, 15, 16, 17, 18, 35] [
    ⟨some 18, .bin false .lss 3 (.t 17) (.t 16), none, []⟩])
  (.seq
  (.cond (.t 18)
    .skip
    (.exit 0))
  (.seq
  (.block 1
    (.seq
    (.region false [1, 2, 4, 6, 13, 15, 16, 17, 35] [
      ⟨some 19, .ia 74 127 4 (.t 15) (.t 17), none, []⟩,
      ⟨some 20, .load 127 true 4 (.t 19), none, []⟩,
      ⟨some 6, .alloc 127 [(.val (.string (⟨#[]⟩ : ByteArray))), (.val (.int .i64 0)), (.val (.string (⟨#[]⟩ : ByteArray))), (.val (.int .i64 0))], none, []⟩,
      ⟨none, .store 127 4 (.t 6) (.t 20), none, []⟩])
    (.seq
    (.region false [1, 2, 4, 6, 13, 15, 16, 17, 30, 35] [
      ⟨some 21, .fa 127 2 2 1 (.t 6), none, []⟩,
      ⟨some 22, .load 9 false 1 (.t 21), none, []⟩,
      ⟨some 23, .bin false .neq 9 (.t 22) (.c (.string (⟨#[]⟩ : ByteArray))), none, []⟩,
      ⟨some 24, .mov (.t 23), none, []⟩,
      ⟨some 25, .mov (.t 4), some (24, true), []⟩,
      ⟨some 26, .fa 127 2 2 1 (.t 6), some (24, true), []⟩,
      ⟨some 27, .load 9 false 1 (.t 26), some (24, true), []⟩,
      ⟨some 28, .call 97 [(.t 25), (.t 27)], some (24, true), []⟩,
      ⟨some 29, .un .not (.t 28), some (24, true), []⟩,
      ⟨some 30, .pick (.t 24) (.t 29) (.c (.bool false)), none, []⟩])
    (.cond (.t 30)
      (.region false [1, 2, 4, 13, 15, 16, 17, 35] [
        ⟨some 31, .mov (.t 4), none, []⟩,
        ⟨some 32, .fa 127 2 2 1 (.t 6), none, []⟩,
        ⟨some 33, .load 9 false 1 (.t 32), none, []⟩,
        ⟨some 34, .lit 80 9 1 1 [(.val (.string (⟨#[]⟩ : ByteArray)))] [(0, (.t 33))], none, []⟩,
        ⟨some 35, .app 80 9 1 16 (.t 31) (.t 34), none, []⟩,
        ⟨some 4, .asg (.t 35), none, []⟩])
      .skip))))
  (.region false [1, 2, 4, 13, 15, 16, 17, 35] [
    ⟨some 36, .bin false .add 3 (.t 17) (.c (.int .i64 1)), none, []⟩,
    ⟨some 17, .mov (.t 36), none, []⟩]))))
def l50_0 : VC := .loop b50_0
/-- loop.example/g00539/impl.WorkersOf -/
def v50 : VFun := {
  code :=
    (.seq
    (.region false [1, 2] [
      ⟨some 1, .box 76 (.t 0), none, []⟩,
      ⟨some 2, .alloc 82 [(.val (.int .i64 0)), (.nl 1), (.val (.string (⟨#[]⟩ : ByteArray)))], none, []⟩])
    (.seq
    (.seq
    (.region false [1, 2, 3] [
      ⟨some 7, .load 76 true 2 (.t 1), none, []⟩,
      ⟨some 8, .call 47 [(.t 7)], none, []⟩,
      ⟨some 3, .asg (.t 8), none, []⟩])
    (.seq
    (.region false [1, 2, 3, 10] [
      ⟨some 9, .mov (.t 3), none, []⟩,
      ⟨some 10, .bin false .neq 2 (.t 9) (.c (.int .i64 0)), none, []⟩])
    (.cond (.t 10)
      (.seq
      (.region false [2] [
        ⟨some 11, .mov (.t 3), none, []⟩,
        ⟨some 12, .build 82 [(.val (.int .i64 0)), (.nl 1), (.val (.string (⟨#[]⟩ : ByteArray)))] [(0, 0, 1, (.t 11))], none, []⟩,
        ⟨none, .store 82 3 (.t 2) (.t 12), none, []⟩])
      .ret)
      .skip)))
    (.seq
    (.region false [1, 2, 4, 13, 35] [
      ⟨some 13, .lit 80 9 1 0 [(.val (.string (⟨#[]⟩ : ByteArray)))] [], none, []⟩,
      ⟨some 4, .asg (.t 13), none, []⟩])
    (.seq
    (.seq
    (.region false [1, 2, 4, 13, 15, 16, 17, 35] [
      ⟨some 14, .fa 76 0 0 1 (.t 1), none, []⟩,
      ⟨some 15, .load 74 false 1 (.t 14), none, []⟩,
      ⟨some 16, .len false 74 (.t 15), none, []⟩,
      ⟨some 17, .mov (.c (.int .i64 0)), none, []⟩])
    (.block 0
      l50_0))
    (.seq
    (.region false [2] [
      ⟨some 37, .mov (.t 4), none, []⟩,
      ⟨some 38, .build 82 [(.val (.int .i64 0)), (.nl 1), (.val (.string (⟨#[]⟩ : ByteArray)))] [(1, 1, 1, (.t 37))], none, []⟩,
      ⟨none, .store 82 3 (.t 2) (.t 38), none, []⟩])
    .ret)))))
  modes := [.lend]
  rets := [⟨2, some (true, 3)⟩] }

/-- loop.example/g00539/laws.eqLinesResult -/
def v51 : VFun := {
  code :=
    (.seq
    (.region false [2, 3] [
      ⟨some 2, .box 82 (.t 0), none, []⟩,
      ⟨some 3, .box 82 (.t 1), none, []⟩,
      ⟨some 4, .asg (.c (.bool false)), none, []⟩])
    (.seq
    (.seq
    (.region false [2, 3, 9] [
      ⟨some 5, .fa 82 0 0 1 (.t 2), none, []⟩,
      ⟨some 6, .load 2 false 1 (.t 5), none, []⟩,
      ⟨some 7, .fa 82 0 0 1 (.t 3), none, []⟩,
      ⟨some 8, .load 2 false 1 (.t 7), none, []⟩,
      ⟨some 9, .bin false .neq 2 (.t 6) (.t 8), none, []⟩])
    (.cond (.t 9)
      (.seq
      (.region false [4] [
        ⟨some 4, .asg (.c (.bool false)), none, []⟩])
      .ret)
      .skip))
    (.seq
    (.seq
    (.region false [2, 3, 15] [
      ⟨some 10, .fa 82 1 1 1 (.t 2), none, []⟩,
      ⟨some 11, .load 80 false 1 (.t 10), none, []⟩,
      ⟨some 12, .fa 82 1 1 1 (.t 3), none, []⟩,
      ⟨some 13, .load 80 false 1 (.t 12), none, []⟩,
      ⟨some 14, .call 98 [(.t 11), (.t 13)], none, []⟩,
      ⟨some 15, .un .not (.t 14), none, []⟩])
    (.cond (.t 15)
      (.seq
      (.region false [4] [
        ⟨some 4, .asg (.c (.bool false)), none, []⟩])
      .ret)
      .skip))
    (.seq
    (.seq
    (.region false [20] [
      ⟨some 16, .fa 82 2 2 1 (.t 2), none, []⟩,
      ⟨some 17, .load 9 false 1 (.t 16), none, []⟩,
      ⟨some 18, .fa 82 2 2 1 (.t 3), none, []⟩,
      ⟨some 19, .load 9 false 1 (.t 18), none, []⟩,
      ⟨some 20, .bin false .neq 9 (.t 17) (.t 19), none, []⟩])
    (.cond (.t 20)
      (.seq
      (.region false [4] [
        ⟨some 4, .asg (.c (.bool false)), none, []⟩])
      .ret)
      .skip))
    (.seq
    (.region false [4] [
      ⟨some 4, .asg (.c (.bool true)), none, []⟩])
    .ret)))))
  modes := [.lend, .lend]
  rets := [⟨4, none⟩] }

/-- loop.example/g00539/laws.markServer -/
def v52 : VFun := {
  code :=
    (.seq
    (.region false [0, 1, 2] [
      ⟨some 2, .box 76 (.t 0), none, []⟩,
      ⟨some 4, .asg (.c (.int .i64 0)), none, []⟩])
    (.seq
    (.region false [0, 1, 2] [
      ⟨some 5, .fa 76 0 0 1 (.t 2), none, []⟩,
      ⟨some 6, .load 74 false 1 (.t 5), none, []⟩,
      ⟨some 7, .mov (.t 1), none, []⟩,
      ⟨some 8, .call 99 [(.t 6), (.t 7)], none, []⟩,
      ⟨some 1, .asg (.t 8), none, []⟩])
    (.seq
    (.region false [0, 2, 4] [
      ⟨some 9, .mov (.t 1), none, []⟩,
      ⟨some 4, .asg (.t 9), none, []⟩])
    .ret)))
  modes := [.io, .lend]
  rets := [⟨4, none⟩] }

/-- loop.example/g00539/laws.markLinesResult -/
def v53 : VFun := {
  code :=
    (.seq
    (.region false [0, 1, 2] [
      ⟨some 2, .box 82 (.t 0), none, []⟩,
      ⟨some 4, .asg (.c (.int .i64 0)), none, []⟩])
    (.seq
    (.region false [0, 1, 2] [
      ⟨some 5, .fa 82 1 1 1 (.t 2), none, []⟩,
      ⟨some 6, .load 80 false 1 (.t 5), none, []⟩,
      ⟨some 7, .mov (.t 1), none, []⟩,
      ⟨some 8, .call 100 [(.t 6), (.t 7)], none, []⟩,
      ⟨some 1, .asg (.t 8), none, []⟩])
    (.seq
    (.region false [0, 2, 4] [
      ⟨some 9, .mov (.t 1), none, []⟩,
      ⟨some 4, .asg (.t 9), none, []⟩])
    .ret)))
  modes := [.io, .lend]
  rets := [⟨4, none⟩] }

/-- loop.example/g00539/laws.heldLinesResult -/
def v54 : VFun := {
  code :=
    (.seq
    (.region false [1, 2] [
      ⟨some 2, .box 82 (.t 0), none, []⟩,
      ⟨some 4, .asg (.c (.int .i64 0)), none, []⟩])
    (.seq
    (.region false [1] [
      ⟨some 5, .fa 82 1 1 1 (.t 2), none, []⟩,
      ⟨some 6, .load 80 false 1 (.t 5), none, []⟩,
      ⟨some 7, .mov (.t 1), none, []⟩,
      ⟨some 8, .call 101 [(.t 6), (.t 7)], none, []⟩,
      ⟨some 1, .asg (.t 8), none, []⟩])
    (.seq
    (.seq
    (.region false [1, 10] [
      ⟨some 9, .mov (.t 1), none, []⟩,
      ⟨some 10, .bin false .lss 3 (.t 9) (.c (.int .i64 0)), none, []⟩])
    (.cond (.t 10)
      (.seq
      (.region false [4] [
        ⟨some 4, .asg (.c (.int .i64 (-1))), none, []⟩])
      .ret)
      .skip))
    (.seq
    (.region false [4] [
      ⟨some 11, .mov (.t 1), none, []⟩,
      ⟨some 4, .asg (.t 11), none, []⟩])
    .ret))))
  modes := [.lend, .lend]
  rets := [⟨4, none⟩] }

def b82_0 : VC :=
  (.seq
  (.seq
  (.region false [0, 3, 7] [
    ⟨some 6, .mov (.t 0), none, []⟩,
    ⟨some 7, .bin false .gtr 3 (.t 6) (.c (.int .i64 0)), none, []⟩])
  (.cond (.t 7)
    .skip
    (.exit 0)))
  (.block 1
    (.seq
    (.region false [0, 3] [
      ⟨some 8, .mov (.t 0), none, []⟩,
      ⟨some 9, .bin false .rem 3 (.t 8) (.c (.int .i64 10)), none, []⟩,
      ⟨some 10, .bin false .add 3 (.c (.int .i64 48)) (.t 9), none, []⟩,
      ⟨some 11, .conv 3 5 .u8 (.t 10), none, []⟩,
      ⟨some 12, .lit 25 5 1 1 [(.val (.int .u8 0))] [(0, (.t 11))], none, []⟩,
      ⟨some 13, .b2s 25 9 (.t 12), none, []⟩,
      ⟨some 14, .mov (.t 3), none, []⟩,
      ⟨some 15, .bin false .add 9 (.t 13) (.t 14), none, []⟩,
      ⟨some 3, .asg (.t 15), none, []⟩])
    (.region false [0, 3] [
      ⟨some 16, .mov (.t 0), none, []⟩,
      ⟨some 17, .bin false .quo 3 (.t 16) (.c (.int .i64 10)), none, []⟩,
      ⟨some 0, .asg (.t 17), none, []⟩]))))
def l82_0 : VC := .loop b82_0
/-- loop.example/g00539/laws.markText -/
def v82 : VFun := {
  code :=
    (.seq
    (.region false [0] [
      ⟨some 2, .asg (.c (.string (⟨#[]⟩ : ByteArray))), none, []⟩])
    (.seq
    (.seq
    (.region false [0, 5] [
      ⟨some 4, .mov (.t 0), none, []⟩,
      ⟨some 5, .bin false .leq 3 (.t 4) (.c (.int .i64 0)), none, []⟩])
    (.cond (.t 5)
      (.seq
      (.region false [2] [
        ⟨some 2, .asg (.c (.string (⟨#[109, 48]⟩ : ByteArray))), none, []⟩])
      .ret)
      .skip))
    (.seq
    (.region false [0, 3] [
      ⟨some 3, .asg (.c (.string (⟨#[]⟩ : ByteArray))), none, []⟩])
    (.seq
    (.block 0
      l82_0)
    (.seq
    (.region false [2] [
      ⟨some 18, .mov (.t 3), none, []⟩,
      ⟨some 19, .bin false .add 9 (.c (.string (⟨#[109]⟩ : ByteArray))) (.t 18), none, []⟩,
      ⟨some 2, .asg (.t 19), none, []⟩])
    .ret)))))
  modes := [.lend]
  rets := [⟨2, none⟩] }

def b89_0 : VC :=
  (.seq
  (.seq
  (.region false [0, 1, 5, 15] [
    ⟨some 12, .mov (.t 5), none, []⟩,
    ⟨some 13, .mov (.t 0), none, []⟩,
    ⟨some 14, .len false 69 (.t 13), none, []⟩,
    ⟨some 15, .bin false .lss 3 (.t 12) (.t 14), none, []⟩])
  (.cond (.t 15)
    .skip
    (.exit 0)))
  (.seq
  (.block 1
    (.seq
    (.region false [0, 1, 5] [
      ⟨some 18, .mov (.t 0), none, []⟩,
      ⟨some 19, .mov (.t 5), none, []⟩,
      ⟨some 20, .ia 69 163 4 (.t 18) (.t 19), none, []⟩,
      ⟨some 21, .load 163 true 4 (.t 20), none, []⟩,
      ⟨some 22, .mov (.t 1), none, []⟩,
      ⟨some 23, .call 135 [(.t 21), (.t 22)], none, []⟩,
      ⟨some 1, .asg (.t 23), none, []⟩])
    (.seq
    (.region false [0, 1, 5, 25] [
      ⟨some 24, .mov (.t 1), none, []⟩,
      ⟨some 25, .bin false .lss 3 (.t 24) (.c (.int .i64 0)), none, []⟩])
    (.cond (.t 25)
      (.seq
      (.region false [4] [
        ⟨some 4, .asg (.c (.int .i64 (-1))), none, []⟩])
      .ret)
      .skip))))
  (.region false [0, 1, 5] [
    ⟨some 16, .mov (.t 5), none, []⟩,
    ⟨some 17, .bin false .add 3 (.t 16) (.c (.int .i64 1)), none, []⟩,
    ⟨some 5, .asg (.t 17), none, []⟩])))
def l89_0 : VC := .loop b89_0
/-- loop.example/g00539/laws.szSessionS -/
def v89 : VFun := {
  code :=
    (.seq
    (.region false [0, 1] [
      ⟨some 4, .asg (.c (.int .i64 0)), none, []⟩])
    (.seq
    (.region false [0, 1] [
      ⟨some 6, .mov (.t 1), none, []⟩,
      ⟨some 7, .mov (.t 0), none, []⟩,
      ⟨some 8, .len false 69 (.t 7), none, []⟩,
      ⟨some 9, .bin false .sub 3 (.t 6) (.t 8), none, []⟩,
      ⟨some 1, .asg (.t 9), none, []⟩])
    (.seq
    (.seq
    (.region false [0, 1, 11] [
      ⟨some 10, .mov (.t 1), none, []⟩,
      ⟨some 11, .bin false .lss 3 (.t 10) (.c (.int .i64 0)), none, []⟩])
    (.cond (.t 11)
      (.seq
      (.region false [4] [
        ⟨some 4, .asg (.c (.int .i64 (-1))), none, []⟩])
      .ret)
      .skip))
    (.seq
    (.seq
    (.region false [0, 1, 5] [
      ⟨some 5, .asg (.c (.int .i64 0)), none, []⟩])
    (.block 0
      l89_0))
    (.seq
    (.region false [4] [
      ⟨some 26, .mov (.t 1), none, []⟩,
      ⟨some 4, .asg (.t 26), none, []⟩])
    .ret)))))
  modes := [.lend, .lend]
  rets := [⟨4, none⟩] }

def b90_1 : VC :=
  (.seq
  (.seq
  (.region false [0, 5, 39] [
    ⟨some 33, .mov (.t 5), none, []⟩,
    ⟨some 34, .mov (.t 0), none, []⟩,
    ⟨some 35, .nilc (.t 34), none, []⟩,
    ⟨some 36, .fa 76 0 0 1 (.t 35), none, []⟩,
    ⟨some 37, .load 74 false 1 (.t 36), none, []⟩,
    ⟨some 38, .len false 74 (.t 37), none, []⟩,
    ⟨some 39, .bin false .lss 3 (.t 33) (.t 38), none, []⟩])
  (.cond (.t 39)
    .skip
    (.exit 2)))
  (.seq
  (.block 3
    (.seq
    (.region true [0, 5, 54] [
      ⟨some 42, .mov (.t 0), none, []⟩,
      ⟨some 43, .nilc (.t 42), none, []⟩,
      ⟨some 44, .fa 76 0 0 1 (.t 43), none, []⟩,
      ⟨some 45, .load 74 false 1 (.t 44), none, []⟩,
      ⟨some 46, .mov (.t 5), none, [0, 1, 2, 3]⟩,
      ⟨some 47, .ia 74 127 4 (.t 45) (.t 46), none, []⟩,
      ⟨some 48, .fa 127 1 1 1 (.t 47), none, []⟩,
      ⟨some 49, .load 2 false 1 (.t 48), none, []⟩,
      ⟨some 50, .mov (.t 0), none, [0, 1, 2, 3, 4, 5, 6, 7]⟩,
      ⟨some 51, .nilc (.t 50), none, [0, 1, 2, 3, 4, 5, 6, 7]⟩,
      ⟨some 52, .fa 76 1 1 1 (.t 51), none, [0, 1, 2, 3, 4, 5, 6, 7]⟩,
      ⟨some 53, .load 2 false 1 (.t 52), none, [0, 1, 2, 3, 4, 5, 6, 7]⟩,
      ⟨some 54, .bin false .geq 2 (.t 49) (.t 53), none, []⟩])
    (.cond (.t 54)
      (.seq
      (.region false [2] [
        ⟨some 2, .asg (.c (.int .i64 3)), none, []⟩])
      .ret)
      .skip)))
  (.region false [0, 5] [
    ⟨some 40, .mov (.t 5), none, []⟩,
    ⟨some 41, .bin false .add 3 (.t 40) (.c (.int .i64 1)), none, []⟩,
    ⟨some 5, .asg (.t 41), none, []⟩])))
def l90_1 : VC := .loop b90_1
def b90_0 : VC :=
  (.seq
  (.seq
  (.region false [0, 3, 18] [
    ⟨some 12, .mov (.t 3), none, []⟩,
    ⟨some 13, .mov (.t 0), none, []⟩,
    ⟨some 14, .nilc (.t 13), none, []⟩,
    ⟨some 15, .fa 76 0 0 1 (.t 14), none, []⟩,
    ⟨some 16, .load 74 false 1 (.t 15), none, []⟩,
    ⟨some 17, .len false 74 (.t 16), none, []⟩,
    ⟨some 18, .bin false .lss 3 (.t 12) (.t 17), none, []⟩])
  (.cond (.t 18)
    .skip
    (.exit 0)))
  (.seq
  (.block 1
    (.seq
    (.region false [0, 3, 4] [
      ⟨some 21, .mov (.t 0), none, []⟩,
      ⟨some 22, .mov (.t 3), none, []⟩,
      ⟨some 23, .call 136 [(.t 21), (.t 22)], none, []⟩,
      ⟨some 4, .asg (.t 23), none, []⟩])
    (.seq
    (.region false [0, 3, 4, 25] [
      ⟨some 24, .mov (.t 4), none, []⟩,
      ⟨some 25, .bin false .neq 2 (.t 24) (.c (.int .i64 0)), none, []⟩])
    (.cond (.t 25)
      (.seq
      (.region false [2] [
        ⟨some 26, .mov (.t 4), none, []⟩,
        ⟨some 2, .asg (.t 26), none, []⟩])
      .ret)
      .skip))))
  (.region false [0, 3] [
    ⟨some 19, .mov (.t 3), none, []⟩,
    ⟨some 20, .bin false .add 3 (.t 19) (.c (.int .i64 1)), none, []⟩,
    ⟨some 3, .asg (.t 20), none, []⟩])))
def l90_0 : VC := .loop b90_0
/-- loop.example/g00539/spec.l10Fault -/
def v90 : VFun := {
  code :=
    (.seq
    (.region false [0] [
      ⟨some 2, .asg (.c (.int .i64 0)), none, []⟩])
    (.seq
    (.seq
    (.region false [0, 11] [
      ⟨some 6, .mov (.t 0), none, []⟩,
      ⟨some 7, .nilc (.t 6), none, []⟩,
      ⟨some 8, .fa 76 0 0 1 (.t 7), none, []⟩,
      ⟨some 9, .load 74 false 1 (.t 8), none, []⟩,
      ⟨some 10, .len false 74 (.t 9), none, []⟩,
      ⟨some 11, .bin false .gtr 3 (.t 10) (.c (.int .i64 4)), none, []⟩])
    (.cond (.t 11)
      (.seq
      (.region false [2] [
        ⟨some 2, .asg (.c (.int .i64 2)), none, []⟩])
      .ret)
      .skip))
    (.seq
    (.seq
    (.region false [0, 3] [
      ⟨some 3, .asg (.c (.int .i64 0)), none, []⟩])
    (.block 0
      l90_0))
    (.seq
    (.seq
    (.region false [0, 32] [
      ⟨some 27, .mov (.t 0), none, []⟩,
      ⟨some 28, .nilc (.t 27), none, []⟩,
      ⟨some 29, .fa 76 1 1 1 (.t 28), none, []⟩,
      ⟨some 30, .load 2 false 1 (.t 29), none, []⟩,
      ⟨some 31, .call 113 [(.t 30), (.c (.int .i64 0)), (.c (.int .i64 999))], none, []⟩,
      ⟨some 32, .un .not (.t 31), none, []⟩])
    (.cond (.t 32)
      (.seq
      (.region false [2] [
        ⟨some 2, .asg (.c (.int .i64 3)), none, []⟩])
      .ret)
      .skip))
    (.seq
    (.seq
    (.region false [0, 5] [
      ⟨some 5, .asg (.c (.int .i64 0)), none, []⟩])
    (.block 2
      l90_1))
    (.seq
    (.region false [2] [
      ⟨some 2, .asg (.c (.int .i64 0)), none, []⟩])
    .ret))))))
  modes := [.lend]
  rets := [⟨2, none⟩] }

def b91_0 : VC :=
  (.seq
  (.seq
  (.region false [0, 3, 4, 7, 11] [
    ⟨some 8, .mov (.t 4), none, []⟩,
    ⟨some 9, .mov (.t 0), none, []⟩,
    ⟨some 10, .len false 69 (.t 9), none, []⟩,
    ⟨some 11, .bin false .lss 3 (.t 8) (.t 10), none, []⟩])
  (.cond (.t 11)
    .skip
    (.exit 0)))
  (.seq
  (.block 1
    (.region false [0, 3, 4, 7] [
      ⟨some 14, .mov (.t 3), none, []⟩,
      ⟨some 15, .mov (.t 4), none, []⟩,
      ⟨some 16, .mov (.t 0), none, []⟩,
      ⟨some 17, .mov (.t 4), none, []⟩,
      ⟨some 18, .ia 69 163 4 (.t 16) (.t 17), none, []⟩,
      ⟨some 19, .load 163 true 4 (.t 18), none, []⟩,
      ⟨some 20, .call 137 [(.t 19)], none, []⟩,
      ⟨some 21, .ia 74 127 4 (.t 14) (.t 15), none, []⟩,
      ⟨none, .store 127 4 (.t 21) (.t 20), none, []⟩]))
  (.region false [0, 3, 4, 7] [
    ⟨some 12, .mov (.t 4), none, []⟩,
    ⟨some 13, .bin false .add 3 (.t 12) (.c (.int .i64 1)), none, []⟩,
    ⟨some 4, .asg (.t 13), none, []⟩])))
def l91_0 : VC := .loop b91_0
/-- loop.example/g00539/laws.toSessionS -/
def v91 : VFun := {
  code :=
    (.seq
    (.region false [0] [
      ⟨some 2, .asg (.n 4), none, []⟩])
    (.seq
    (.region false [0, 3, 7] [
      ⟨some 5, .mov (.t 0), none, []⟩,
      ⟨some 6, .len false 69 (.t 5), none, []⟩,
      ⟨some 7, .mk 74 127 4 48 [(.val (.string (⟨#[]⟩ : ByteArray))), (.val (.int .i64 0)), (.val (.string (⟨#[]⟩ : ByteArray))), (.val (.int .i64 0))] (.t 6) (.t 6), none, []⟩,
      ⟨some 3, .asg (.t 7), none, []⟩])
    (.seq
    (.seq
    (.region false [0, 3, 4, 7] [
      ⟨some 4, .asg (.c (.int .i64 0)), none, []⟩])
    (.block 0
      l91_0))
    (.seq
    (.region false [2, 3, 7] [
      ⟨some 22, .mov (.t 3), none, []⟩,
      ⟨some 2, .asg (.t 22), none, []⟩])
    .ret))))
  modes := [.lend]
  rets := [⟨2, none⟩] }

/-- loop.example/g00539/impl.sessionFault -/
def v92 : VFun := {
  code :=
    (.seq
    (.region false [1, 2] [
      ⟨some 2, .box 127 (.t 0), none, []⟩,
      ⟨some 4, .asg (.c (.int .i64 0)), none, []⟩])
    (.seq
    (.block 0
      (.seq
      (.region false [1, 2, 5] [
        ⟨some 6, .fa 127 0 0 1 (.t 2), none, []⟩,
        ⟨some 7, .load 9 false 1 (.t 6), none, []⟩,
        ⟨some 8, .len true 9 (.t 7), none, []⟩,
        ⟨some 9, .bin false .gtr 3 (.t 8) (.c (.int .i64 161)), none, []⟩,
        ⟨some 10, .mov (.t 9), none, []⟩,
        ⟨some 11, .fa 127 0 0 1 (.t 2), some (10, false), []⟩,
        ⟨some 12, .load 9 false 1 (.t 11), some (10, false), []⟩,
        ⟨some 13, .call 138 [(.t 12), (.c (.int .u8 10))], some (10, false), []⟩,
        ⟨some 14, .bin false .geq 3 (.t 13) (.c (.int .i64 0)), some (10, false), []⟩,
        ⟨some 15, .pick (.t 10) (.c (.bool true)) (.t 14), none, []⟩,
        ⟨some 16, .mov (.t 15), none, []⟩,
        ⟨some 17, .fa 127 2 2 1 (.t 2), some (16, false), []⟩,
        ⟨some 18, .load 9 false 1 (.t 17), some (16, false), []⟩,
        ⟨some 19, .call 139 [(.t 18)], some (16, false), []⟩,
        ⟨some 20, .pick (.t 16) (.c (.bool true)) (.t 19), none, []⟩,
        ⟨some 5, .asg (.t 20), none, []⟩])
      (.cond (.t 5)
        (.seq
        (.region false [4] [
          ⟨some 4, .asg (.c (.int .i64 5)), none, []⟩])
        .ret)
        (.seq
        (.region false [1, 2, 21] [
          ⟨some 22, .fa 127 1 1 1 (.t 2), none, []⟩,
          ⟨some 23, .load 2 false 1 (.t 22), none, []⟩,
          ⟨some 24, .call 93 [(.t 23), (.c (.int .i64 (-1))), (.c (.int .i64 998))], none, []⟩,
          ⟨some 25, .un .not (.t 24), none, []⟩,
          ⟨some 26, .mov (.t 25), none, []⟩,
          ⟨some 27, .fa 127 3 3 1 (.t 2), some (26, false), []⟩,
          ⟨some 28, .load 2 false 1 (.t 27), some (26, false), []⟩,
          ⟨some 29, .call 140 [(.t 28)], some (26, false), []⟩,
          ⟨some 30, .un .not (.t 29), some (26, false), []⟩,
          ⟨some 31, .pick (.t 26) (.c (.bool true)) (.t 30), none, []⟩,
          ⟨some 21, .asg (.t 31), none, []⟩])
        (.cond (.t 21)
          (.seq
          (.region false [4] [
            ⟨some 4, .asg (.c (.int .i64 3)), none, []⟩])
          .ret)
          (.seq
          (.region false [1, 2, 32] [
            ⟨some 33, .fa 127 2 2 1 (.t 2), none, []⟩,
            ⟨some 34, .load 9 false 1 (.t 33), none, []⟩,
            ⟨some 35, .bin false .neq 9 (.t 34) (.c (.string (⟨#[]⟩ : ByteArray))), none, []⟩,
            ⟨some 36, .mov (.t 35), none, []⟩,
            ⟨some 37, .fa 127 1 1 1 (.t 2), some (36, true), []⟩,
            ⟨some 38, .load 2 false 1 (.t 37), some (36, true), []⟩,
            ⟨some 39, .bin false .eql 2 (.t 38) (.c (.int .i64 (-1))), some (36, true), []⟩,
            ⟨some 40, .pick (.t 36) (.t 39) (.c (.bool false)), none, []⟩,
            ⟨some 32, .asg (.t 40), none, []⟩])
          (.cond (.t 32)
            (.seq
            (.region false [4] [
              ⟨some 4, .asg (.c (.int .i64 1)), none, []⟩])
            .ret)
            (.seq
            (.region false [41] [
              ⟨some 42, .fa 127 1 1 1 (.t 2), none, []⟩,
              ⟨some 43, .load 2 false 1 (.t 42), none, []⟩,
              ⟨some 44, .bin false .neq 2 (.t 43) (.c (.int .i64 (-1))), none, []⟩,
              ⟨some 45, .mov (.t 44), none, []⟩,
              ⟨some 46, .mov (.t 1), some (45, true), []⟩,
              ⟨some 47, .fn 141 [] [(.t 2)], some (45, true), []⟩,
              ⟨some 48, .call 94 [(.t 46), (.t 47)], some (45, true), []⟩,
              ⟨some 49, .pick (.t 45) (.t 48) (.c (.bool false)), none, []⟩,
              ⟨some 41, .asg (.t 49), none, []⟩])
            (.cond (.t 41)
              (.seq
              (.region false [4] [
                ⟨some 4, .asg (.c (.int .i64 6)), none, []⟩])
              .ret)
              .skip)))))))))
    (.seq
    (.region false [4] [
      ⟨some 4, .asg (.c (.int .i64 0)), none, []⟩])
    .ret)))
  modes := [.lend, .lend]
  rets := [⟨4, none⟩] }

/-- loop.example/g00539/impl.in -/
def v93 : VFun := {
  code :=
    (.seq
    (.region false [0, 1, 2] [
      ⟨some 6, .asg (.c (.bool false)), none, []⟩])
    (.seq
    (.region false [6] [
      ⟨some 7, .mov (.t 0), none, []⟩,
      ⟨some 8, .mov (.t 1), none, []⟩,
      ⟨some 9, .bin false .geq 2 (.t 7) (.t 8), none, []⟩,
      ⟨some 10, .mov (.t 9), none, []⟩,
      ⟨some 11, .mov (.t 0), some (10, true), []⟩,
      ⟨some 12, .mov (.t 2), some (10, true), []⟩,
      ⟨some 13, .bin false .leq 2 (.t 11) (.t 12), some (10, true), []⟩,
      ⟨some 14, .pick (.t 10) (.t 13) (.c (.bool false)), none, []⟩,
      ⟨some 6, .asg (.t 14), none, []⟩])
    .ret))
  modes := [.lend, .lend, .lend]
  rets := [⟨6, none⟩] }

/-- slices.ContainsFunc[[]loop.example/g00539/impl.Session,loop.example/g00539/impl.Session] -/
def v94 : VFun := {
  code :=
    (.seq
    (.region false [0, 1] [
      ⟨some 4, .asg (.c (.bool false)), none, []⟩])
    (.seq
    (.region false [4] [
      ⟨some 5, .mov (.t 0), none, []⟩,
      ⟨some 6, .mov (.t 1), none, []⟩,
      ⟨some 7, .call 142 [(.t 5), (.t 6)], none, []⟩,
      ⟨some 8, .bin false .geq 3 (.t 7) (.c (.int .i64 0)), none, []⟩,
      ⟨some 4, .asg (.t 8), none, []⟩])
    .ret))
  modes := [.lend, .lend]
  rets := [⟨4, none⟩] }

/-- loop.example/g00539/impl.ServerFault$1 -/
def v95 : VFun := {
  code :=
    (.seq
    (.region false [1, 2] [
      ⟨some 2, .box 127 (.t 0), none, []⟩,
      ⟨some 3, .asg (.c (.bool false)), none, []⟩])
    (.seq
    (.region false [3] [
      ⟨some 4, .fa 127 1 1 1 (.t 2), none, []⟩,
      ⟨some 5, .load 2 false 1 (.t 4), none, []⟩,
      ⟨some 6, .fa 76 1 1 1 (.t 1), none, []⟩,
      ⟨some 7, .load 2 false 1 (.t 6), none, []⟩,
      ⟨some 8, .bin false .geq 2 (.t 5) (.t 7), none, []⟩,
      ⟨some 3, .asg (.t 8), none, []⟩])
    .ret))
  modes := [.lend, .lend]
  rets := [⟨3, none⟩] }

def b96_0 : VC :=
  (.seq
  (.seq
  (.region false [0, 1, 5, 14] [
    ⟨some 11, .mov (.t 5), none, []⟩,
    ⟨some 12, .mov (.t 0), none, []⟩,
    ⟨some 13, .len false 74 (.t 12), none, []⟩,
    ⟨some 14, .bin false .lss 3 (.t 11) (.t 13), none, []⟩])
  (.cond (.t 14)
    .skip
    (.exit 0)))
  (.seq
  (.block 1
    (.seq
    (.region true [0, 1, 5, 26] [
      ⟨some 17, .mov (.t 0), none, []⟩,
      ⟨some 18, .mov (.t 5), none, [0]⟩,
      ⟨some 19, .ia 74 127 4 (.t 17) (.t 18), none, []⟩,
      ⟨some 20, .load 127 true 4 (.t 19), none, []⟩,
      ⟨some 21, .mov (.t 1), none, [0, 1, 2, 3]⟩,
      ⟨some 22, .mov (.t 5), none, [0, 1, 2, 3, 4]⟩,
      ⟨some 23, .ia 74 127 4 (.t 21) (.t 22), none, [0, 1, 2, 3]⟩,
      ⟨some 24, .load 127 true 4 (.t 23), none, [0, 1, 2, 3]⟩,
      ⟨some 25, .call 143 [(.t 20), (.t 24)], none, []⟩,
      ⟨some 26, .un .not (.t 25), none, []⟩])
    (.cond (.t 26)
      (.seq
      (.region false [4] [
        ⟨some 4, .asg (.c (.bool false)), none, []⟩])
      .ret)
      .skip)))
  (.region false [0, 1, 5] [
    ⟨some 15, .mov (.t 5), none, []⟩,
    ⟨some 16, .bin false .add 3 (.t 15) (.c (.int .i64 1)), none, []⟩,
    ⟨some 5, .asg (.t 16), none, []⟩])))
def l96_0 : VC := .loop b96_0
/-- loop.example/g00539/laws.eqSessionS -/
def v96 : VFun := {
  code :=
    (.seq
    (.region false [0, 1] [
      ⟨some 4, .asg (.c (.bool false)), none, []⟩])
    (.seq
    (.seq
    (.region false [0, 1, 10] [
      ⟨some 6, .mov (.t 0), none, []⟩,
      ⟨some 7, .len false 74 (.t 6), none, []⟩,
      ⟨some 8, .mov (.t 1), none, []⟩,
      ⟨some 9, .len false 74 (.t 8), none, []⟩,
      ⟨some 10, .bin false .neq 3 (.t 7) (.t 9), none, []⟩])
    (.cond (.t 10)
      (.seq
      (.region false [4] [
        ⟨some 4, .asg (.c (.bool false)), none, []⟩])
      .ret)
      .skip))
    (.seq
    (.seq
    (.region false [0, 1, 5] [
      ⟨some 5, .asg (.c (.int .i64 0)), none, []⟩])
    (.block 0
      l96_0))
    (.seq
    (.region false [4] [
      ⟨some 4, .asg (.c (.bool true)), none, []⟩])
    .ret))))
  modes := [.lend, .lend]
  rets := [⟨4, none⟩] }

/-- slices.Contains[[]string,string] -/
def v97 : VFun := {
  code :=
    (.seq
    (.region false [0, 1] [
      ⟨some 4, .asg (.c (.bool false)), none, []⟩])
    (.seq
    (.region false [4] [
      ⟨some 5, .mov (.t 0), none, []⟩,
      ⟨some 6, .mov (.t 1), none, []⟩,
      ⟨some 7, .call 144 [(.t 5), (.t 6)], none, []⟩,
      ⟨some 8, .bin false .geq 3 (.t 7) (.c (.int .i64 0)), none, []⟩,
      ⟨some 4, .asg (.t 8), none, []⟩])
    .ret))
  modes := [.lend, .lend]
  rets := [⟨4, none⟩] }

def b98_0 : VC :=
  (.seq
  (.seq
  (.region false [0, 1, 5, 14] [
    ⟨some 11, .mov (.t 5), none, []⟩,
    ⟨some 12, .mov (.t 0), none, []⟩,
    ⟨some 13, .len false 80 (.t 12), none, []⟩,
    ⟨some 14, .bin false .lss 3 (.t 11) (.t 13), none, []⟩])
  (.cond (.t 14)
    .skip
    (.exit 0)))
  (.seq
  (.block 1
    (.seq
    (.region true [0, 1, 5, 25] [
      ⟨some 17, .mov (.t 0), none, []⟩,
      ⟨some 18, .mov (.t 5), none, [0]⟩,
      ⟨some 19, .ia 80 9 1 (.t 17) (.t 18), none, []⟩,
      ⟨some 20, .load 9 false 1 (.t 19), none, []⟩,
      ⟨some 21, .mov (.t 1), none, [0, 1, 2, 3]⟩,
      ⟨some 22, .mov (.t 5), none, [0, 1, 2, 3, 4]⟩,
      ⟨some 23, .ia 80 9 1 (.t 21) (.t 22), none, [0, 1, 2, 3]⟩,
      ⟨some 24, .load 9 false 1 (.t 23), none, [0, 1, 2, 3]⟩,
      ⟨some 25, .bin false .neq 9 (.t 20) (.t 24), none, []⟩])
    (.cond (.t 25)
      (.seq
      (.region false [4] [
        ⟨some 4, .asg (.c (.bool false)), none, []⟩])
      .ret)
      .skip)))
  (.region false [0, 1, 5] [
    ⟨some 15, .mov (.t 5), none, []⟩,
    ⟨some 16, .bin false .add 3 (.t 15) (.c (.int .i64 1)), none, []⟩,
    ⟨some 5, .asg (.t 16), none, []⟩])))
def l98_0 : VC := .loop b98_0
/-- loop.example/g00539/laws.eqStringS -/
def v98 : VFun := {
  code :=
    (.seq
    (.region false [0, 1] [
      ⟨some 4, .asg (.c (.bool false)), none, []⟩])
    (.seq
    (.seq
    (.region false [0, 1, 10] [
      ⟨some 6, .mov (.t 0), none, []⟩,
      ⟨some 7, .len false 80 (.t 6), none, []⟩,
      ⟨some 8, .mov (.t 1), none, []⟩,
      ⟨some 9, .len false 80 (.t 8), none, []⟩,
      ⟨some 10, .bin false .neq 3 (.t 7) (.t 9), none, []⟩])
    (.cond (.t 10)
      (.seq
      (.region false [4] [
        ⟨some 4, .asg (.c (.bool false)), none, []⟩])
      .ret)
      .skip))
    (.seq
    (.seq
    (.region false [0, 1, 5] [
      ⟨some 5, .asg (.c (.int .i64 0)), none, []⟩])
    (.block 0
      l98_0))
    (.seq
    (.region false [4] [
      ⟨some 4, .asg (.c (.bool true)), none, []⟩])
    .ret))))
  modes := [.lend, .lend]
  rets := [⟨4, none⟩] }

def b99_0 : VC :=
  (.seq
  (.seq
  (.region false [0, 1, 5, 9] [
    ⟨some 6, .mov (.t 5), none, []⟩,
    ⟨some 7, .mov (.t 0), none, []⟩,
    ⟨some 8, .len false 74 (.t 7), none, []⟩,
    ⟨some 9, .bin false .lss 3 (.t 6) (.t 8), none, []⟩])
  (.cond (.t 9)
    .skip
    (.exit 0)))
  (.seq
  (.block 1
    (.seq
    (.region false [0, 1, 5] [
      ⟨some 12, .mov (.t 0), none, []⟩,
      ⟨some 13, .mov (.t 5), none, []⟩,
      ⟨some 14, .mov (.t 1), none, []⟩,
      ⟨some 15, .call 82 [(.t 14)], none, []⟩,
      ⟨some 16, .ia 74 127 4 (.t 12) (.t 13), none, []⟩,
      ⟨some 17, .fa 127 0 0 1 (.t 16), none, []⟩,
      ⟨none, .store 9 1 (.t 17) (.t 15), none, []⟩])
    (.seq
    (.region false [0, 1, 5] [
      ⟨some 18, .mov (.t 1), none, []⟩,
      ⟨some 19, .bin false .add 3 (.t 18) (.c (.int .i64 1)), none, []⟩,
      ⟨some 1, .asg (.t 19), none, []⟩])
    (.seq
    (.region false [0, 1, 5] [
      ⟨some 20, .mov (.t 0), none, []⟩,
      ⟨some 21, .mov (.t 5), none, []⟩,
      ⟨some 22, .mov (.t 1), none, []⟩,
      ⟨some 23, .ia 74 127 4 (.t 20) (.t 21), none, []⟩,
      ⟨some 24, .fa 127 1 1 1 (.t 23), none, []⟩,
      ⟨none, .store 2 1 (.t 24) (.t 22), none, []⟩])
    (.seq
    (.region false [0, 1, 5] [
      ⟨some 25, .mov (.t 1), none, []⟩,
      ⟨some 26, .bin false .add 3 (.t 25) (.c (.int .i64 1)), none, []⟩,
      ⟨some 1, .asg (.t 26), none, []⟩])
    (.seq
    (.region false [0, 1, 5] [
      ⟨some 27, .mov (.t 0), none, []⟩,
      ⟨some 28, .mov (.t 5), none, []⟩,
      ⟨some 29, .mov (.t 1), none, []⟩,
      ⟨some 30, .call 82 [(.t 29)], none, []⟩,
      ⟨some 31, .ia 74 127 4 (.t 27) (.t 28), none, []⟩,
      ⟨some 32, .fa 127 2 2 1 (.t 31), none, []⟩,
      ⟨none, .store 9 1 (.t 32) (.t 30), none, []⟩])
    (.seq
    (.region false [0, 1, 5] [
      ⟨some 33, .mov (.t 1), none, []⟩,
      ⟨some 34, .bin false .add 3 (.t 33) (.c (.int .i64 1)), none, []⟩,
      ⟨some 1, .asg (.t 34), none, []⟩])
    (.seq
    (.region false [0, 1, 5] [
      ⟨some 35, .mov (.t 0), none, []⟩,
      ⟨some 36, .mov (.t 5), none, []⟩,
      ⟨some 37, .mov (.t 1), none, []⟩,
      ⟨some 38, .ia 74 127 4 (.t 35) (.t 36), none, []⟩,
      ⟨some 39, .fa 127 3 3 1 (.t 38), none, []⟩,
      ⟨none, .store 2 1 (.t 39) (.t 37), none, []⟩])
    (.region false [0, 1, 5] [
      ⟨some 40, .mov (.t 1), none, []⟩,
      ⟨some 41, .bin false .add 3 (.t 40) (.c (.int .i64 1)), none, []⟩,
      ⟨some 1, .asg (.t 41), none, []⟩])))))))))
  (.region false [0, 1, 5] [
    ⟨some 10, .mov (.t 5), none, []⟩,
    ⟨some 11, .bin false .add 3 (.t 10) (.c (.int .i64 1)), none, []⟩,
    ⟨some 5, .asg (.t 11), none, []⟩])))
def l99_0 : VC := .loop b99_0
/-- loop.example/g00539/laws.markSessionS -/
def v99 : VFun := {
  code :=
    (.seq
    (.region false [0, 1] [
      ⟨some 4, .asg (.c (.int .i64 0)), none, []⟩])
    (.seq
    (.seq
    (.region false [0, 1, 5] [
      ⟨some 5, .asg (.c (.int .i64 0)), none, []⟩])
    (.block 0
      l99_0))
    (.seq
    (.region false [0, 4] [
      ⟨some 42, .mov (.t 1), none, []⟩,
      ⟨some 4, .asg (.t 42), none, []⟩])
    .ret)))
  modes := [.io, .lend]
  rets := [⟨4, none⟩] }

def b100_0 : VC :=
  (.seq
  (.seq
  (.region false [0, 1, 5, 9] [
    ⟨some 6, .mov (.t 5), none, []⟩,
    ⟨some 7, .mov (.t 0), none, []⟩,
    ⟨some 8, .len false 80 (.t 7), none, []⟩,
    ⟨some 9, .bin false .lss 3 (.t 6) (.t 8), none, []⟩])
  (.cond (.t 9)
    .skip
    (.exit 0)))
  (.seq
  (.block 1
    (.seq
    (.region false [0, 1, 5] [
      ⟨some 12, .mov (.t 0), none, []⟩,
      ⟨some 13, .mov (.t 5), none, []⟩,
      ⟨some 14, .mov (.t 1), none, []⟩,
      ⟨some 15, .call 82 [(.t 14)], none, []⟩,
      ⟨some 16, .ia 80 9 1 (.t 12) (.t 13), none, []⟩,
      ⟨none, .store 9 1 (.t 16) (.t 15), none, []⟩])
    (.region false [0, 1, 5] [
      ⟨some 17, .mov (.t 1), none, []⟩,
      ⟨some 18, .bin false .add 3 (.t 17) (.c (.int .i64 1)), none, []⟩,
      ⟨some 1, .asg (.t 18), none, []⟩])))
  (.region false [0, 1, 5] [
    ⟨some 10, .mov (.t 5), none, []⟩,
    ⟨some 11, .bin false .add 3 (.t 10) (.c (.int .i64 1)), none, []⟩,
    ⟨some 5, .asg (.t 11), none, []⟩])))
def l100_0 : VC := .loop b100_0
/-- loop.example/g00539/laws.markStringS -/
def v100 : VFun := {
  code :=
    (.seq
    (.region false [0, 1] [
      ⟨some 4, .asg (.c (.int .i64 0)), none, []⟩])
    (.seq
    (.seq
    (.region false [0, 1, 5] [
      ⟨some 5, .asg (.c (.int .i64 0)), none, []⟩])
    (.block 0
      l100_0))
    (.seq
    (.region false [0, 4] [
      ⟨some 19, .mov (.t 1), none, []⟩,
      ⟨some 4, .asg (.t 19), none, []⟩])
    .ret)))
  modes := [.io, .lend]
  rets := [⟨4, none⟩] }

def b101_0 : VC :=
  (.seq
  (.seq
  (.region false [0, 1, 5, 9] [
    ⟨some 6, .mov (.t 5), none, []⟩,
    ⟨some 7, .mov (.t 0), none, []⟩,
    ⟨some 8, .len false 80 (.t 7), none, []⟩,
    ⟨some 9, .bin false .lss 3 (.t 6) (.t 8), none, []⟩])
  (.cond (.t 9)
    .skip
    (.exit 0)))
  (.seq
  (.block 1
    (.seq
    (.seq
    (.region true [0, 1, 5, 18] [
      ⟨some 12, .mov (.t 0), none, []⟩,
      ⟨some 13, .mov (.t 5), none, [0]⟩,
      ⟨some 14, .ia 80 9 1 (.t 12) (.t 13), none, []⟩,
      ⟨some 15, .load 9 false 1 (.t 14), none, []⟩,
      ⟨some 16, .mov (.t 1), none, [0, 1, 2, 3]⟩,
      ⟨some 17, .call 82 [(.t 16)], none, [0, 1, 2, 3]⟩,
      ⟨some 18, .bin false .neq 9 (.t 15) (.t 17), none, []⟩])
    (.cond (.t 18)
      (.seq
      (.region false [4] [
        ⟨some 4, .asg (.c (.int .i64 (-1))), none, []⟩])
      .ret)
      .skip))
    (.region false [0, 1, 5] [
      ⟨some 19, .mov (.t 1), none, []⟩,
      ⟨some 20, .bin false .add 3 (.t 19) (.c (.int .i64 1)), none, []⟩,
      ⟨some 1, .asg (.t 20), none, []⟩])))
  (.region false [0, 1, 5] [
    ⟨some 10, .mov (.t 5), none, []⟩,
    ⟨some 11, .bin false .add 3 (.t 10) (.c (.int .i64 1)), none, []⟩,
    ⟨some 5, .asg (.t 11), none, []⟩])))
def l101_0 : VC := .loop b101_0
/-- loop.example/g00539/laws.heldStringS -/
def v101 : VFun := {
  code :=
    (.seq
    (.region false [0, 1] [
      ⟨some 4, .asg (.c (.int .i64 0)), none, []⟩])
    (.seq
    (.seq
    (.region false [0, 1, 5] [
      ⟨some 5, .asg (.c (.int .i64 0)), none, []⟩])
    (.block 0
      l101_0))
    (.seq
    (.region false [4] [
      ⟨some 21, .mov (.t 1), none, []⟩,
      ⟨some 4, .asg (.t 21), none, []⟩])
    .ret)))
  modes := [.lend, .lend]
  rets := [⟨4, none⟩] }

/-- loop.example/g00539/spec.l1In -/
def v113 : VFun := {
  code :=
    (.seq
    (.region false [0, 1, 2] [
      ⟨some 6, .asg (.c (.bool false)), none, []⟩])
    (.seq
    (.region false [6] [
      ⟨some 7, .mov (.t 0), none, []⟩,
      ⟨some 8, .mov (.t 1), none, []⟩,
      ⟨some 9, .bin false .geq 2 (.t 7) (.t 8), none, []⟩,
      ⟨some 10, .mov (.t 9), none, []⟩,
      ⟨some 11, .mov (.t 0), some (10, true), []⟩,
      ⟨some 12, .mov (.t 2), some (10, true), []⟩,
      ⟨some 13, .bin false .leq 2 (.t 11) (.t 12), some (10, true), []⟩,
      ⟨some 14, .pick (.t 10) (.t 13) (.c (.bool false)), none, []⟩,
      ⟨some 6, .asg (.t 14), none, []⟩])
    .ret))
  modes := [.lend, .lend, .lend]
  rets := [⟨6, none⟩] }

def b114_0 : VC :=
  (.seq
  (.seq
  (.region false [0, 3, 7] [
    ⟨some 4, .mov (.t 3), none, []⟩,
    ⟨some 5, .mov (.t 0), none, []⟩,
    ⟨some 6, .len true 9 (.t 5), none, []⟩,
    ⟨some 7, .bin false .lss 3 (.t 4) (.t 6), none, []⟩])
  (.cond (.t 7)
    .skip
    (.exit 0)))
  (.seq
  (.block 1
    (.seq
    (.region false [0, 3, 14] [
      ⟨some 10, .mov (.t 0), none, []⟩,
      ⟨some 11, .mov (.t 3), none, []⟩,
      ⟨some 12, .idx 9 (.t 10) (.t 11), none, []⟩,
      ⟨some 13, .call 148 [(.t 12)], none, []⟩,
      ⟨some 14, .un .not (.t 13), none, []⟩])
    (.cond (.t 14)
      (.seq
      (.region false [2] [
        ⟨some 2, .asg (.c (.bool false)), none, []⟩])
      .ret)
      .skip)))
  (.region false [0, 3] [
    ⟨some 8, .mov (.t 3), none, []⟩,
    ⟨some 9, .bin false .add 3 (.t 8) (.c (.int .i64 1)), none, []⟩,
    ⟨some 3, .asg (.t 9), none, []⟩])))
def l114_0 : VC := .loop b114_0
/-- loop.example/g00539/spec.l9Arg -/
def v114 : VFun := {
  code :=
    (.seq
    (.region false [0] [
      ⟨some 2, .asg (.c (.bool false)), none, []⟩])
    (.seq
    (.seq
    (.region false [0, 3] [
      ⟨some 3, .asg (.c (.int .i64 0)), none, []⟩])
    (.block 0
      l114_0))
    (.seq
    (.region false [2] [
      ⟨some 15, .mov (.t 0), none, []⟩,
      ⟨some 16, .len true 9 (.t 15), none, []⟩,
      ⟨some 17, .bin false .leq 3 (.t 16) (.c (.int .i64 12)), none, []⟩,
      ⟨some 2, .asg (.t 17), none, []⟩])
    .ret)))
  modes := [.lend]
  rets := [⟨2, none⟩] }

/-- loop.example/g00539/laws.szSession -/
def v135 : VFun := {
  code :=
    (.seq
    (.region false [1, 2] [
      ⟨some 2, .box 163 (.t 0), none, []⟩,
      ⟨some 4, .asg (.c (.int .i64 0)), none, []⟩])
    (.seq
    (.region false [1, 2] [
      ⟨some 5, .mov (.t 1), none, []⟩,
      ⟨some 6, .fa 163 0 0 1 (.t 2), none, []⟩,
      ⟨some 7, .load 9 false 1 (.t 6), none, []⟩,
      ⟨some 8, .len true 9 (.t 7), none, []⟩,
      ⟨some 9, .bin false .sub 3 (.t 5) (.t 8), none, []⟩,
      ⟨some 1, .asg (.t 9), none, []⟩])
    (.seq
    (.seq
    (.region false [1, 2, 11] [
      ⟨some 10, .mov (.t 1), none, []⟩,
      ⟨some 11, .bin false .lss 3 (.t 10) (.c (.int .i64 0)), none, []⟩])
    (.cond (.t 11)
      (.seq
      (.region false [4] [
        ⟨some 4, .asg (.c (.int .i64 (-1))), none, []⟩])
      .ret)
      .skip))
    (.seq
    (.region false [1] [
      ⟨some 12, .mov (.t 1), none, []⟩,
      ⟨some 13, .fa 163 2 2 1 (.t 2), none, []⟩,
      ⟨some 14, .load 9 false 1 (.t 13), none, []⟩,
      ⟨some 15, .len true 9 (.t 14), none, []⟩,
      ⟨some 16, .bin false .sub 3 (.t 12) (.t 15), none, []⟩,
      ⟨some 1, .asg (.t 16), none, []⟩])
    (.seq
    (.seq
    (.region false [1, 18] [
      ⟨some 17, .mov (.t 1), none, []⟩,
      ⟨some 18, .bin false .lss 3 (.t 17) (.c (.int .i64 0)), none, []⟩])
    (.cond (.t 18)
      (.seq
      (.region false [4] [
        ⟨some 4, .asg (.c (.int .i64 (-1))), none, []⟩])
      .ret)
      .skip))
    (.seq
    (.region false [4] [
      ⟨some 19, .mov (.t 1), none, []⟩,
      ⟨some 4, .asg (.t 19), none, []⟩])
    .ret))))))
  modes := [.lend, .lend]
  rets := [⟨4, none⟩] }

def b136_0 : VC :=
  (.seq
  (.seq
  (.region false [0, 1, 5, 6, 55] [
    ⟨some 53, .mov (.t 6), none, []⟩,
    ⟨some 54, .mov (.t 1), none, []⟩,
    ⟨some 55, .bin false .lss 3 (.t 53) (.t 54), none, []⟩])
  (.cond (.t 55)
    .skip
    (.exit 0)))
  (.seq
  (.block 1
    (.seq
    (.region true [0, 1, 5, 6, 77] [
      ⟨some 58, .mov (.t 5), none, []⟩,
      ⟨some 59, .nilc (.t 58), none, []⟩,
      ⟨some 60, .fa 127 1 1 1 (.t 59), none, []⟩,
      ⟨some 61, .load 2 false 1 (.t 60), none, []⟩,
      ⟨some 62, .bin false .geq 2 (.t 61) (.c (.int .i64 0)), none, []⟩,
      ⟨some 63, .mov (.t 62), none, []⟩,
      ⟨some 64, .mov (.t 0), some (63, true), []⟩,
      ⟨some 65, .nilc (.t 64), some (63, true), []⟩,
      ⟨some 66, .fa 76 0 0 1 (.t 65), some (63, true), []⟩,
      ⟨some 67, .load 74 false 1 (.t 66), some (63, true), []⟩,
      ⟨some 68, .mov (.t 6), some (63, true), [6, 7, 8, 9]⟩,
      ⟨some 69, .ia 74 127 4 (.t 67) (.t 68), some (63, true), []⟩,
      ⟨some 70, .fa 127 1 1 1 (.t 69), some (63, true), []⟩,
      ⟨some 71, .load 2 false 1 (.t 70), some (63, true), []⟩,
      ⟨some 72, .mov (.t 5), some (63, true), [6, 7, 8, 9, 10, 11, 12, 13]⟩,
      ⟨some 73, .nilc (.t 72), some (63, true), [6, 7, 8, 9, 10, 11, 12, 13]⟩,
      ⟨some 74, .fa 127 1 1 1 (.t 73), some (63, true), [6, 7, 8, 9, 10, 11, 12, 13]⟩,
      ⟨some 75, .load 2 false 1 (.t 74), some (63, true), [6, 7, 8, 9, 10, 11, 12, 13]⟩,
      ⟨some 76, .bin false .eql 2 (.t 71) (.t 75), some (63, true), []⟩,
      ⟨some 77, .pick (.t 63) (.t 76) (.c (.bool false)), none, []⟩])
    (.cond (.t 77)
      (.seq
      (.region false [4] [
        ⟨some 4, .asg (.c (.int .i64 6)), none, []⟩])
      .ret)
      .skip)))
  (.region false [0, 1, 5, 6] [
    ⟨some 56, .mov (.t 6), none, []⟩,
    ⟨some 57, .bin false .add 3 (.t 56) (.c (.int .i64 1)), none, []⟩,
    ⟨some 6, .asg (.t 57), none, []⟩])))
def l136_0 : VC := .loop b136_0
/-- loop.example/g00539/spec.l10One -/
def v136 : VFun := {
  code :=
    (.seq
    (.region false [0, 1] [
      ⟨some 4, .asg (.c (.int .i64 0)), none, []⟩])
    (.seq
    (.region false [0, 1, 5] [
      ⟨some 7, .mov (.t 0), none, []⟩,
      ⟨some 8, .nilc (.t 7), none, []⟩,
      ⟨some 9, .fa 76 0 0 1 (.t 8), none, []⟩,
      ⟨some 10, .load 74 false 1 (.t 9), none, []⟩,
      ⟨some 11, .mov (.t 1), none, []⟩,
      ⟨some 12, .ia 74 127 4 (.t 10) (.t 11), none, []⟩,
      ⟨some 5, .asg (.t 12), none, []⟩])
    (.seq
    (.seq
    (.region false [0, 1, 5, 26] [
      ⟨some 13, .mov (.t 5), none, []⟩,
      ⟨some 14, .nilc (.t 13), none, []⟩,
      ⟨some 15, .fa 127 0 0 1 (.t 14), none, []⟩,
      ⟨some 16, .load 9 false 1 (.t 15), none, []⟩,
      ⟨some 17, .call 154 [(.t 16)], none, []⟩,
      ⟨some 18, .un .not (.t 17), none, []⟩,
      ⟨some 19, .mov (.t 18), none, []⟩,
      ⟨some 20, .mov (.t 5), some (19, false), []⟩,
      ⟨some 21, .nilc (.t 20), some (19, false), []⟩,
      ⟨some 22, .fa 127 2 2 1 (.t 21), some (19, false), []⟩,
      ⟨some 23, .load 9 false 1 (.t 22), some (19, false), []⟩,
      ⟨some 24, .call 114 [(.t 23)], some (19, false), []⟩,
      ⟨some 25, .un .not (.t 24), some (19, false), []⟩,
      ⟨some 26, .pick (.t 19) (.c (.bool true)) (.t 25), none, []⟩])
    (.cond (.t 26)
      (.seq
      (.region false [4] [
        ⟨some 4, .asg (.c (.int .i64 5)), none, []⟩])
      .ret)
      .skip))
    (.seq
    (.seq
    (.region false [0, 1, 5, 40] [
      ⟨some 27, .mov (.t 5), none, []⟩,
      ⟨some 28, .nilc (.t 27), none, []⟩,
      ⟨some 29, .fa 127 1 1 1 (.t 28), none, []⟩,
      ⟨some 30, .load 2 false 1 (.t 29), none, []⟩,
      ⟨some 31, .call 113 [(.t 30), (.c (.int .i64 (-1))), (.c (.int .i64 998))], none, []⟩,
      ⟨some 32, .un .not (.t 31), none, []⟩,
      ⟨some 33, .mov (.t 32), none, []⟩,
      ⟨some 34, .mov (.t 5), some (33, false), []⟩,
      ⟨some 35, .nilc (.t 34), some (33, false), []⟩,
      ⟨some 36, .fa 127 3 3 1 (.t 35), some (33, false), []⟩,
      ⟨some 37, .load 2 false 1 (.t 36), some (33, false), []⟩,
      ⟨some 38, .call 113 [(.t 37), (.c (.int .i64 1)), (.c (.int .i64 9999))], some (33, false), []⟩,
      ⟨some 39, .un .not (.t 38), some (33, false), []⟩,
      ⟨some 40, .pick (.t 33) (.c (.bool true)) (.t 39), none, []⟩])
    (.cond (.t 40)
      (.seq
      (.region false [4] [
        ⟨some 4, .asg (.c (.int .i64 3)), none, []⟩])
      .ret)
      .skip))
    (.seq
    (.seq
    (.region false [0, 1, 5, 52] [
      ⟨some 41, .mov (.t 5), none, []⟩,
      ⟨some 42, .nilc (.t 41), none, []⟩,
      ⟨some 43, .fa 127 2 2 1 (.t 42), none, []⟩,
      ⟨some 44, .load 9 false 1 (.t 43), none, []⟩,
      ⟨some 45, .bin false .neq 9 (.t 44) (.c (.string (⟨#[]⟩ : ByteArray))), none, []⟩,
      ⟨some 46, .mov (.t 45), none, []⟩,
      ⟨some 47, .mov (.t 5), some (46, true), []⟩,
      ⟨some 48, .nilc (.t 47), some (46, true), []⟩,
      ⟨some 49, .fa 127 1 1 1 (.t 48), some (46, true), []⟩,
      ⟨some 50, .load 2 false 1 (.t 49), some (46, true), []⟩,
      ⟨some 51, .bin false .lss 2 (.t 50) (.c (.int .i64 0)), some (46, true), []⟩,
      ⟨some 52, .pick (.t 46) (.t 51) (.c (.bool false)), none, []⟩])
    (.cond (.t 52)
      (.seq
      (.region false [4] [
        ⟨some 4, .asg (.c (.int .i64 1)), none, []⟩])
      .ret)
      .skip))
    (.seq
    (.seq
    (.region false [0, 1, 5, 6] [
      ⟨some 6, .asg (.c (.int .i64 0)), none, []⟩])
    (.block 0
      l136_0))
    (.seq
    (.region false [4] [
      ⟨some 4, .asg (.c (.int .i64 0)), none, []⟩])
    .ret)))))))
  modes := [.lend, .lend]
  rets := [⟨4, none⟩] }

/-- loop.example/g00539/laws.toSession -/
def v137 : VFun := {
  code :=
    (.seq
    (.region false [1, 2] [
      ⟨some 1, .box 163 (.t 0), none, []⟩,
      ⟨some 2, .alloc 127 [(.val (.string (⟨#[]⟩ : ByteArray))), (.val (.int .i64 0)), (.val (.string (⟨#[]⟩ : ByteArray))), (.val (.int .i64 0))], none, []⟩])
    (.seq
    (.region false [1, 2, 3] [
      ⟨some 3, .alloc 127 [(.val (.string (⟨#[]⟩ : ByteArray))), (.val (.int .i64 0)), (.val (.string (⟨#[]⟩ : ByteArray))), (.val (.int .i64 0))], none, []⟩])
    (.seq
    (.region false [1, 2, 3] [
      ⟨some 4, .fa 163 0 0 1 (.t 1), none, []⟩,
      ⟨some 5, .load 9 false 1 (.t 4), none, []⟩,
      ⟨some 6, .fa 127 0 0 1 (.t 3), none, []⟩,
      ⟨none, .store 9 1 (.t 6) (.t 5), none, []⟩])
    (.seq
    (.region false [1, 2, 3] [
      ⟨some 7, .fa 163 1 1 1 (.t 1), none, []⟩,
      ⟨some 8, .load 2 false 1 (.t 7), none, []⟩,
      ⟨some 9, .fa 127 1 1 1 (.t 3), none, []⟩,
      ⟨none, .store 2 1 (.t 9) (.t 8), none, []⟩])
    (.seq
    (.region false [1, 2, 3] [
      ⟨some 10, .fa 163 2 2 1 (.t 1), none, []⟩,
      ⟨some 11, .load 9 false 1 (.t 10), none, []⟩,
      ⟨some 12, .fa 127 2 2 1 (.t 3), none, []⟩,
      ⟨none, .store 9 1 (.t 12) (.t 11), none, []⟩])
    (.seq
    (.region false [2, 3] [
      ⟨some 13, .fa 163 3 3 1 (.t 1), none, []⟩,
      ⟨some 14, .load 2 false 1 (.t 13), none, []⟩,
      ⟨some 15, .fa 127 3 3 1 (.t 3), none, []⟩,
      ⟨none, .store 2 1 (.t 15) (.t 14), none, []⟩])
    (.seq
    (.region false [2] [
      ⟨some 16, .load 127 true 4 (.t 3), none, []⟩,
      ⟨none, .store 127 4 (.t 2) (.t 16), none, []⟩])
    .ret)))))))
  modes := [.lend]
  rets := [⟨2, some (true, 4)⟩] }

/-- loop.example/g00539/impl.badArg -/
def v139 : VFun := {
  code :=
    (.seq
    (.region false [0] [
      ⟨some 2, .asg (.c (.bool false)), none, []⟩])
    (.seq
    (.region false [2] [
      ⟨some 3, .mov (.t 0), none, []⟩,
      ⟨some 4, .call 149 [(.t 3)], none, []⟩,
      ⟨some 5, .un .not (.t 4), none, []⟩,
      ⟨some 2, .asg (.t 5), none, []⟩])
    .ret))
  modes := [.lend]
  rets := [⟨2, none⟩] }

/-- loop.example/g00539/impl.isLevel -/
def v140 : VFun := {
  code :=
    (.seq
    (.region false [0] [
      ⟨some 2, .asg (.c (.bool false)), none, []⟩])
    (.seq
    (.region false [2] [
      ⟨some 3, .mov (.t 0), none, []⟩,
      ⟨some 4, .call 93 [(.t 3), (.c (.int .i64 1)), (.c (.int .i64 9999))], none, []⟩,
      ⟨some 2, .asg (.t 4), none, []⟩])
    .ret))
  modes := [.lend]
  rets := [⟨2, none⟩] }

/-- loop.example/g00539/impl.sessionFault$1 -/
def v141 : VFun := {
  code :=
    (.seq
    (.region false [1, 2] [
      ⟨some 2, .box 127 (.t 0), none, []⟩,
      ⟨some 3, .asg (.c (.bool false)), none, []⟩])
    (.seq
    (.region false [3] [
      ⟨some 4, .fa 127 1 1 1 (.t 1), none, []⟩,
      ⟨some 5, .load 2 false 1 (.t 4), none, []⟩,
      ⟨some 6, .fa 127 1 1 1 (.t 2), none, []⟩,
      ⟨some 7, .load 2 false 1 (.t 6), none, []⟩,
      ⟨some 8, .bin false .eql 2 (.t 5) (.t 7), none, []⟩,
      ⟨some 3, .asg (.t 8), none, []⟩])
    .ret))
  modes := [.lend, .lend]
  rets := [⟨3, none⟩] }

def b142_0 : VC :=
  (.seq
  (.region false [0, 1, 7, 8, 9] [
    ⟨some 9, .bin false .lss 3 (.t 8) (.t 7), none, []⟩])
  (.seq
  (.cond (.t 9)
    .skip
    (.exit 0))
  (.seq
  (.block 1
    (.seq
    (.region false [0, 1, 5, 7, 8] [
      ⟨some 10, .mov (.t 8), none, []⟩,
      ⟨some 5, .asg (.t 10), none, []⟩])
    (.seq
    (.region false [0, 1, 5, 7, 8, 16] [
      ⟨some 11, .mov (.t 1), none, []⟩,
      ⟨some 12, .mov (.t 0), none, []⟩,
      ⟨some 13, .mov (.t 5), none, []⟩,
      ⟨some 14, .ia 74 127 4 (.t 12) (.t 13), none, []⟩,
      ⟨some 15, .load 127 true 4 (.t 14), none, []⟩,
      ⟨some 16, .callv (.t 11) [(.t 15)], none, []⟩])
    (.cond (.t 16)
      (.seq
      (.region false [4] [
        ⟨some 17, .mov (.t 5), none, []⟩,
        ⟨some 4, .asg (.t 17), none, []⟩])
      .ret)
      .skip))))
  (.region false [0, 1, 7, 8] [
    ⟨some 18, .bin false .add 3 (.t 8) (.c (.int .i64 1)), none, []⟩,
    ⟨some 8, .mov (.t 18), none, []⟩]))))
def l142_0 : VC := .loop b142_0
/-- slices.IndexFunc[[]loop.example/g00539/impl.Session,loop.example/g00539/impl.Session] -/
def v142 : VFun := {
  code :=
    (.seq
    (.region false [0, 1] [
      ⟨some 4, .asg (.c (.int .i64 0)), none, []⟩])
    (.seq
    (.seq
    (.region false [0, 1, 7, 8] [
      ⟨some 6, .mov (.t 0), none, []⟩,
      ⟨some 7, .len false 74 (.t 6), none, []⟩,
      ⟨some 8, .mov (.c (.int .i64 0)), none, []⟩])
    (.block 0
      l142_0))
    (.seq
    (.region false [4] [
      ⟨some 4, .asg (.c (.int .i64 (-1))), none, []⟩])
    .ret)))
  modes := [.lend, .lend]
  rets := [⟨4, none⟩] }

/-- loop.example/g00539/laws.eqSession -/
def v143 : VFun := {
  code :=
    (.seq
    (.region false [2, 3] [
      ⟨some 2, .box 127 (.t 0), none, []⟩,
      ⟨some 3, .box 127 (.t 1), none, []⟩,
      ⟨some 4, .asg (.c (.bool false)), none, []⟩])
    (.seq
    (.seq
    (.region false [2, 3, 9] [
      ⟨some 5, .fa 127 0 0 1 (.t 2), none, []⟩,
      ⟨some 6, .load 9 false 1 (.t 5), none, []⟩,
      ⟨some 7, .fa 127 0 0 1 (.t 3), none, []⟩,
      ⟨some 8, .load 9 false 1 (.t 7), none, []⟩,
      ⟨some 9, .bin false .neq 9 (.t 6) (.t 8), none, []⟩])
    (.cond (.t 9)
      (.seq
      (.region false [4] [
        ⟨some 4, .asg (.c (.bool false)), none, []⟩])
      .ret)
      .skip))
    (.seq
    (.seq
    (.region false [2, 3, 14] [
      ⟨some 10, .fa 127 1 1 1 (.t 2), none, []⟩,
      ⟨some 11, .load 2 false 1 (.t 10), none, []⟩,
      ⟨some 12, .fa 127 1 1 1 (.t 3), none, []⟩,
      ⟨some 13, .load 2 false 1 (.t 12), none, []⟩,
      ⟨some 14, .bin false .neq 2 (.t 11) (.t 13), none, []⟩])
    (.cond (.t 14)
      (.seq
      (.region false [4] [
        ⟨some 4, .asg (.c (.bool false)), none, []⟩])
      .ret)
      .skip))
    (.seq
    (.seq
    (.region false [2, 3, 19] [
      ⟨some 15, .fa 127 2 2 1 (.t 2), none, []⟩,
      ⟨some 16, .load 9 false 1 (.t 15), none, []⟩,
      ⟨some 17, .fa 127 2 2 1 (.t 3), none, []⟩,
      ⟨some 18, .load 9 false 1 (.t 17), none, []⟩,
      ⟨some 19, .bin false .neq 9 (.t 16) (.t 18), none, []⟩])
    (.cond (.t 19)
      (.seq
      (.region false [4] [
        ⟨some 4, .asg (.c (.bool false)), none, []⟩])
      .ret)
      .skip))
    (.seq
    (.seq
    (.region false [24] [
      ⟨some 20, .fa 127 3 3 1 (.t 2), none, []⟩,
      ⟨some 21, .load 2 false 1 (.t 20), none, []⟩,
      ⟨some 22, .fa 127 3 3 1 (.t 3), none, []⟩,
      ⟨some 23, .load 2 false 1 (.t 22), none, []⟩,
      ⟨some 24, .bin false .neq 2 (.t 21) (.t 23), none, []⟩])
    (.cond (.t 24)
      (.seq
      (.region false [4] [
        ⟨some 4, .asg (.c (.bool false)), none, []⟩])
      .ret)
      .skip))
    (.seq
    (.region false [4] [
      ⟨some 4, .asg (.c (.bool true)), none, []⟩])
    .ret))))))
  modes := [.lend, .lend]
  rets := [⟨4, none⟩] }

def b144_0 : VC :=
  (.seq
  (.region false [0, 1, 7, 8, 9] [
    ⟨some 9, .bin false .lss 3 (.t 8) (.t 7), none, []⟩])
  (.seq
  (.cond (.t 9)
    .skip
    (.exit 0))
  (.seq
  (.block 1
    (.seq
    (.region false [0, 1, 5, 7, 8] [
      ⟨some 10, .mov (.t 8), none, []⟩,
      ⟨some 5, .asg (.t 10), none, []⟩])
    (.seq
    (.region false [0, 1, 5, 7, 8, 16] [
      ⟨some 11, .mov (.t 1), none, []⟩,
      ⟨some 12, .mov (.t 0), none, []⟩,
      ⟨some 13, .mov (.t 5), none, []⟩,
      ⟨some 14, .ia 80 9 1 (.t 12) (.t 13), none, []⟩,
      ⟨some 15, .load 9 false 1 (.t 14), none, []⟩,
      ⟨some 16, .bin false .eql 9 (.t 11) (.t 15), none, []⟩])
    (.cond (.t 16)
      (.seq
      (.region false [4] [
        ⟨some 17, .mov (.t 5), none, []⟩,
        ⟨some 4, .asg (.t 17), none, []⟩])
      .ret)
      .skip))))
  (.region false [0, 1, 7, 8] [
    ⟨some 18, .bin false .add 3 (.t 8) (.c (.int .i64 1)), none, []⟩,
    ⟨some 8, .mov (.t 18), none, []⟩]))))
def l144_0 : VC := .loop b144_0
/-- slices.Index[[]string,string] -/
def v144 : VFun := {
  code :=
    (.seq
    (.region false [0, 1] [
      ⟨some 4, .asg (.c (.int .i64 0)), none, []⟩])
    (.seq
    (.seq
    (.region false [0, 1, 7, 8] [
      ⟨some 6, .mov (.t 0), none, []⟩,
      ⟨some 7, .len false 80 (.t 6), none, []⟩,
      ⟨some 8, .mov (.c (.int .i64 0)), none, []⟩])
    (.block 0
      l144_0))
    (.seq
    (.region false [4] [
      ⟨some 4, .asg (.c (.int .i64 (-1))), none, []⟩])
    .ret)))
  modes := [.lend, .lend]
  rets := [⟨4, none⟩] }

/-- loop.example/g00539/spec.l9Letter -/
def v148 : VFun := {
  code :=
    (.seq
    (.region false [0] [
      ⟨some 2, .asg (.c (.bool false)), none, []⟩])
    (.seq
    (.region false [2] [
      ⟨some 3, .mov (.t 0), none, []⟩,
      ⟨some 4, .bin false .geq 5 (.t 3) (.c (.int .u8 97)), none, []⟩,
      ⟨some 5, .mov (.t 4), none, []⟩,
      ⟨some 6, .mov (.t 0), some (5, true), []⟩,
      ⟨some 7, .bin false .leq 5 (.t 6) (.c (.int .u8 122)), some (5, true), []⟩,
      ⟨some 8, .pick (.t 5) (.t 7) (.c (.bool false)), none, []⟩,
      ⟨some 9, .mov (.t 8), none, []⟩,
      ⟨some 10, .mov (.t 0), some (9, false), []⟩,
      ⟨some 11, .bin false .geq 5 (.t 10) (.c (.int .u8 65)), some (9, false), []⟩,
      ⟨some 12, .mov (.t 11), some (9, false), []⟩,
      ⟨some 13, .mov (.t 0), some (12, true), []⟩,
      ⟨some 14, .bin false .leq 5 (.t 13) (.c (.int .u8 90)), some (12, true), []⟩,
      ⟨some 15, .pick (.t 12) (.t 14) (.c (.bool false)), some (9, false), []⟩,
      ⟨some 16, .pick (.t 9) (.c (.bool true)) (.t 15), none, []⟩,
      ⟨some 17, .mov (.t 16), none, []⟩,
      ⟨some 18, .mov (.t 0), some (17, false), []⟩,
      ⟨some 19, .bin false .geq 5 (.t 18) (.c (.int .u8 48)), some (17, false), []⟩,
      ⟨some 20, .mov (.t 19), some (17, false), []⟩,
      ⟨some 21, .mov (.t 0), some (20, true), []⟩,
      ⟨some 22, .bin false .leq 5 (.t 21) (.c (.int .u8 57)), some (20, true), []⟩,
      ⟨some 23, .pick (.t 20) (.t 22) (.c (.bool false)), some (17, false), []⟩,
      ⟨some 24, .pick (.t 17) (.c (.bool true)) (.t 23), none, []⟩,
      ⟨some 2, .asg (.t 24), none, []⟩])
    .ret))
  modes := [.lend]
  rets := [⟨2, none⟩] }

/-- loop.example/g00539/impl.argOk -/
def v149 : VFun := {
  code :=
    (.seq
    (.region false [0] [
      ⟨some 2, .asg (.c (.bool false)), none, []⟩])
    (.seq
    (.region false [2] [
      ⟨some 3, .mov (.t 0), none, []⟩,
      ⟨some 4, .len true 9 (.t 3), none, []⟩,
      ⟨some 5, .bin false .leq 3 (.t 4) (.c (.int .i64 12)), none, []⟩,
      ⟨some 6, .mov (.t 5), none, []⟩,
      ⟨some 7, .mov (.t 0), some (6, true), []⟩,
      ⟨some 8, .call 156 [(.t 7), (.c (.string (⟨#[97, 98, 99, 100, 101, 102, 103, 104, 105, 106, 107, 108, 109, 110, 111, 112, 113, 114, 115, 116, 117, 118, 119, 120, 121, 122, 65, 66, 67, 68, 69, 70, 71, 72, 73, 74, 75, 76, 77, 78, 79, 80, 81, 82, 83, 84, 85, 86, 87, 88, 89, 90, 48, 49, 50, 51, 52, 53, 54, 55, 56, 57]⟩ : ByteArray)))], some (6, true), []⟩,
      ⟨some 9, .bin false .eql 9 (.t 8) (.c (.string (⟨#[]⟩ : ByteArray))), some (6, true), []⟩,
      ⟨some 10, .pick (.t 6) (.t 9) (.c (.bool false)), none, []⟩,
      ⟨some 2, .asg (.t 10), none, []⟩])
    .ret))
  modes := [.lend]
  rets := [⟨2, none⟩] }

def b154_0 : VC :=
  (.seq
  (.seq
  (.region false [0, 3, 7] [
    ⟨some 4, .mov (.t 3), none, []⟩,
    ⟨some 5, .mov (.t 0), none, []⟩,
    ⟨some 6, .len true 9 (.t 5), none, []⟩,
    ⟨some 7, .bin false .lss 3 (.t 4) (.t 6), none, []⟩])
  (.cond (.t 7)
    .skip
    (.exit 0)))
  (.seq
  (.block 1
    (.seq
    (.region false [0, 3, 13] [
      ⟨some 10, .mov (.t 0), none, []⟩,
      ⟨some 11, .mov (.t 3), none, []⟩,
      ⟨some 12, .idx 9 (.t 10) (.t 11), none, []⟩,
      ⟨some 13, .bin false .eql 5 (.t 12) (.c (.int .u8 10)), none, []⟩])
    (.cond (.t 13)
      (.seq
      (.region false [2] [
        ⟨some 2, .asg (.c (.bool false)), none, []⟩])
      .ret)
      .skip)))
  (.region false [0, 3] [
    ⟨some 8, .mov (.t 3), none, []⟩,
    ⟨some 9, .bin false .add 3 (.t 8) (.c (.int .i64 1)), none, []⟩,
    ⟨some 3, .asg (.t 9), none, []⟩])))
def l154_0 : VC := .loop b154_0
/-- loop.example/g00539/spec.l10Rest -/
def v154 : VFun := {
  code :=
    (.seq
    (.region false [0] [
      ⟨some 2, .asg (.c (.bool false)), none, []⟩])
    (.seq
    (.seq
    (.region false [0, 3] [
      ⟨some 3, .asg (.c (.int .i64 0)), none, []⟩])
    (.block 0
      l154_0))
    (.seq
    (.region false [2] [
      ⟨some 14, .mov (.t 0), none, []⟩,
      ⟨some 15, .len true 9 (.t 14), none, []⟩,
      ⟨some 16, .bin false .leq 3 (.t 15) (.c (.int .i64 161)), none, []⟩,
      ⟨some 2, .asg (.t 16), none, []⟩])
    .ret)))
  modes := [.lend]
  rets := [⟨2, none⟩] }

def tab : List (Nat × VFun) := [(8, v8), (44, v44), (46, v46), (47, v47), (48, v48), (49, v49), (50, v50), (51, v51), (52, v52), (53, v53), (54, v54), (82, v82), (89, v89), (90, v90), (91, v91), (92, v92), (93, v93), (94, v94), (95, v95), (96, v96), (97, v97), (98, v98), (99, v99), (100, v100), (101, v101), (113, v113), (114, v114), (135, v135), (136, v136), (137, v137), (139, v139), (140, v140), (141, v141), (142, v142), (143, v143), (144, v144), (148, v148), (149, v149), (154, v154)]
def F (f : FuncId) : Option VFun := getA none (tab.map fun x => (x.1, some x.2)) f
theorem tab_ok : tab.all (fun x => matchFun Tryd.prog x.1 x.2) = true := by kernel_rfl
theorem F_mem {f : FuncId} {fn : VFun} : ∀ {l : List (Nat × VFun)}, getA none (l.map fun x => (x.1, some x.2)) f = some fn → (f, fn) ∈ l
  | [], h => by simp [getA] at h
  | (k, v) :: l, h => by
    simp only [List.map_cons, getA] at h
    split at h
    · rename_i e
      injection h with h
      subst e; subst h
      exact List.mem_cons_self ..
    · exact List.mem_cons_of_mem _ (F_mem h)
theorem F_ok (f : FuncId) (fn : VFun) (h : F f = some fn) : matchFun Tryd.prog f fn = true := List.all_eq_true.1 tab_ok _ (F_mem h)
end Go.Proofs.YtdnopbpdiineiaaDoor.WorkersOf
