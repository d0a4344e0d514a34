/- V's text of the functions that this law reaches. -/
import Derived.Test.YtcbnpfnebinbkaaDoorVCode
import Derived.Test.YtcbnpfnebinbkaaDoorRows
import Derived.KernelRfl
namespace Go.Proofs.YtcbnpfnebinbkaaDoor.EntryFault
open Go Go.Proofs.YtcbnpfnebinbkaaDoor.V
set_option maxRecDepth 20000

/-- loop.example/g00539/laws.FnExactEntryFault -/
def v3 : VFun := {
  code :=
    (.seq
    (.region false [1] [
      ⟨some 1, .box 23 (.t 0), none, []⟩,
      ⟨some 2, .asg (.c (.bool false)), none, []⟩])
    (.seq
    (.region false [1, 3] [
      ⟨some 3, .asg (.c (.int .i64 1048576)), none, []⟩])
    (.seq
    (.region false [1, 3] [
      ⟨some 6, .load 23 true 4 (.t 1), none, []⟩,
      ⟨some 7, .mov (.t 3), none, []⟩,
      ⟨some 8, .call 12 [(.t 6), (.t 7)], none, []⟩,
      ⟨some 3, .asg (.t 8), none, []⟩])
    (.seq
    (.seq
    (.region false [1, 10] [
      ⟨some 9, .mov (.t 3), none, []⟩,
      ⟨some 10, .bin false .lss 3 (.t 9) (.c (.int .i64 0)), none, []⟩])
    (.cond (.t 10)
      (.seq
      (.region false [2] [
        ⟨some 2, .asg (.c (.bool true)), none, []⟩])
      .ret)
      .skip))
    (.seq
    (.region false [1, 4] [
      ⟨some 11, .load 23 true 4 (.t 1), none, []⟩,
      ⟨some 12, .call 14 [(.t 11)], none, []⟩,
      ⟨some 13, .call 13 [(.t 12)], none, []⟩,
      ⟨some 4, .asg (.t 13), none, []⟩])
    (.seq
    (.region false [4, 5] [
      ⟨some 14, .load 23 true 4 (.t 1), none, []⟩,
      ⟨some 15, .call 14 [(.t 14)], none, []⟩,
      ⟨some 16, .call 15 [(.t 15)], none, []⟩,
      ⟨some 5, .asg (.t 16), none, []⟩])
    (.seq
    (.seq
    (.region false [19] [
      ⟨some 17, .mov (.t 5), none, []⟩,
      ⟨some 18, .mov (.t 4), none, []⟩,
      ⟨some 19, .bin false .neq 2 (.t 17) (.t 18), none, []⟩])
    (.cond (.t 19)
      (.seq
      (.region false [2] [
        ⟨some 2, .asg (.c (.bool false)), none, []⟩])
      .ret)
      .skip))
    (.seq
    (.region false [2] [
      ⟨some 2, .asg (.c (.bool true)), none, []⟩])
    .ret))))))))
  modes := [.lend]
  rets := [⟨2, none⟩] }

/-- loop.example/g00539/laws.szEntry -/
def v12 : VFun := {
  code :=
    (.seq
    (.region false [1, 2] [
      ⟨some 2, .box 23 (.t 0), none, []⟩,
      ⟨some 4, .asg (.c (.int .i64 0)), none, []⟩])
    (.seq
    (.region false [1] [
      ⟨some 5, .mov (.t 1), none, []⟩,
      ⟨some 6, .fa 23 1 1 1 (.t 2), none, []⟩,
      ⟨some 7, .load 9 false 1 (.t 6), none, []⟩,
      ⟨some 8, .len true 9 (.t 7), none, []⟩,
      ⟨some 9, .bin false .sub 3 (.t 5) (.t 8), none, []⟩,
      ⟨some 1, .asg (.t 9), none, []⟩])
    (.seq
    (.seq
    (.region false [1, 11] [
      ⟨some 10, .mov (.t 1), none, []⟩,
      ⟨some 11, .bin false .lss 3 (.t 10) (.c (.int .i64 0)), none, []⟩])
    (.cond (.t 11)
      (.seq
      (.region false [4] [
        ⟨some 4, .asg (.c (.int .i64 (-1))), none, []⟩])
      .ret)
      .skip))
    (.seq
    (.region false [4] [
      ⟨some 12, .mov (.t 1), none, []⟩,
      ⟨some 4, .asg (.t 12), none, []⟩])
    .ret))))
  modes := [.lend, .lend]
  rets := [⟨4, none⟩] }

/-- loop.example/g00539/spec.EntryFault -/
def v13 : VFun := {
  code :=
    (.seq
    (.region false [1] [
      ⟨some 1, .box 26 (.t 0), none, []⟩,
      ⟨some 2, .asg (.c (.int .i64 0)), none, []⟩])
    (.seq
    (.region false [2] [
      ⟨some 3, .call 58 [(.t 1)], none, []⟩,
      ⟨some 2, .asg (.t 3), none, []⟩])
    .ret))
  modes := [.lend]
  rets := [⟨2, none⟩] }

/-- loop.example/g00539/laws.toEntry -/
def v14 : VFun := {
  code :=
    (.seq
    (.region false [1, 2] [
      ⟨some 1, .box 23 (.t 0), none, []⟩,
      ⟨some 2, .alloc 26 [(.val (.int .i64 0)), (.val (.string (⟨#[]⟩ : ByteArray))), (.val (.int .i64 0)), (.val (.int .i64 0))], none, []⟩])
    (.seq
    (.region false [1, 2, 3] [
      ⟨some 3, .alloc 26 [(.val (.int .i64 0)), (.val (.string (⟨#[]⟩ : ByteArray))), (.val (.int .i64 0)), (.val (.int .i64 0))], none, []⟩])
    (.seq
    (.region false [1, 2, 3] [
      ⟨some 4, .fa 23 0 0 1 (.t 1), none, []⟩,
      ⟨some 5, .load 2 false 1 (.t 4), none, []⟩,
      ⟨some 6, .fa 26 0 0 1 (.t 3), none, []⟩,
      ⟨none, .store 2 1 (.t 6) (.t 5), none, []⟩])
    (.seq
    (.region false [1, 2, 3] [
      ⟨some 7, .fa 23 1 1 1 (.t 1), none, []⟩,
      ⟨some 8, .load 9 false 1 (.t 7), none, []⟩,
      ⟨some 9, .fa 26 1 1 1 (.t 3), none, []⟩,
      ⟨none, .store 9 1 (.t 9) (.t 8), none, []⟩])
    (.seq
    (.region false [1, 2, 3] [
      ⟨some 10, .fa 23 2 2 1 (.t 1), none, []⟩,
      ⟨some 11, .load 2 false 1 (.t 10), none, []⟩,
      ⟨some 12, .fa 26 2 2 1 (.t 3), none, []⟩,
      ⟨none, .store 2 1 (.t 12) (.t 11), none, []⟩])
    (.seq
    (.region false [2, 3] [
      ⟨some 13, .fa 23 3 3 1 (.t 1), none, []⟩,
      ⟨some 14, .load 2 false 1 (.t 13), none, []⟩,
      ⟨some 15, .fa 26 3 3 1 (.t 3), none, []⟩,
      ⟨none, .store 2 1 (.t 15) (.t 14), none, []⟩])
    (.seq
    (.region false [2] [
      ⟨some 16, .load 26 true 4 (.t 3), none, []⟩,
      ⟨none, .store 26 4 (.t 2) (.t 16), none, []⟩])
    .ret)))))))
  modes := [.lend]
  rets := [⟨2, some (true, 4)⟩] }

/-- loop.example/g00539/impl.EntryFault -/
def v15 : VFun := {
  code :=
    (.seq
    (.region false [1] [
      ⟨some 1, .box 26 (.t 0), none, []⟩,
      ⟨some 2, .asg (.c (.int .i64 0)), none, []⟩])
    (.seq
    (.region false [1, 3] [
      ⟨some 5, .fa 26 0 0 1 (.t 1), none, []⟩,
      ⟨some 6, .load 2 false 1 (.t 5), none, []⟩,
      ⟨some 7, .bin false .eql 2 (.t 6) (.c (.int .i64 1)), none, []⟩,
      ⟨some 8, .mov (.t 7), none, []⟩,
      ⟨some 9, .fa 26 0 0 1 (.t 1), some (8, false), []⟩,
      ⟨some 10, .load 2 false 1 (.t 9), some (8, false), []⟩,
      ⟨some 11, .bin false .eql 2 (.t 10) (.c (.int .i64 5)), some (8, false), []⟩,
      ⟨some 12, .pick (.t 8) (.c (.bool true)) (.t 11), none, []⟩,
      ⟨some 3, .asg (.t 12), none, []⟩])
    (.seq
    (.region false [1, 3, 4] [
      ⟨some 13, .mov (.t 3), none, []⟩,
      ⟨some 14, .mov (.t 13), none, []⟩,
      ⟨some 15, .fa 26 0 0 1 (.t 1), some (14, false), []⟩,
      ⟨some 16, .load 2 false 1 (.t 15), some (14, false), []⟩,
      ⟨some 17, .bin false .eql 2 (.t 16) (.c (.int .i64 2)), some (14, false), []⟩,
      ⟨some 18, .pick (.t 14) (.c (.bool true)) (.t 17), none, []⟩,
      ⟨some 4, .asg (.t 18), none, []⟩])
    (.seq
    (.block 0
      (.seq
      (.region false [1, 3, 19] [
        ⟨some 20, .fa 26 0 0 1 (.t 1), none, []⟩,
        ⟨some 21, .load 2 false 1 (.t 20), none, []⟩,
        ⟨some 22, .call 59 [(.t 21), (.c (.int .i64 1)), (.c (.int .i64 5))], none, []⟩,
        ⟨some 23, .un .not (.t 22), none, []⟩,
        ⟨some 24, .mov (.t 23), none, []⟩,
        ⟨some 25, .mov (.t 3), some (24, false), []⟩,
        ⟨some 26, .un .not (.t 25), some (24, false), []⟩,
        ⟨some 27, .mov (.t 26), some (24, false), []⟩,
        ⟨some 28, .fa 26 1 1 1 (.t 1), some (27, true), []⟩,
        ⟨some 29, .load 9 false 1 (.t 28), some (27, true), []⟩,
        ⟨some 30, .bin false .neq 9 (.t 29) (.c (.string (⟨#[]⟩ : ByteArray))), some (27, true), []⟩,
        ⟨some 31, .pick (.t 27) (.t 30) (.c (.bool false)), some (24, false), []⟩,
        ⟨some 32, .pick (.t 24) (.c (.bool true)) (.t 31), none, []⟩,
        ⟨some 33, .mov (.t 32), none, []⟩,
        ⟨some 34, .mov (.t 3), some (33, false), []⟩,
        ⟨some 35, .mov (.t 34), some (33, false), []⟩,
        ⟨some 36, .fa 26 2 2 1 (.t 1), some (35, true), []⟩,
        ⟨some 37, .load 2 false 1 (.t 36), some (35, true), []⟩,
        ⟨some 38, .bin false .neq 2 (.t 37) (.c (.int .i64 0)), some (35, true), []⟩,
        ⟨some 39, .pick (.t 35) (.t 38) (.c (.bool false)), some (33, false), []⟩,
        ⟨some 40, .pick (.t 33) (.c (.bool true)) (.t 39), none, []⟩,
        ⟨some 41, .mov (.t 40), none, []⟩,
        ⟨some 42, .mov (.t 4), some (41, false), []⟩,
        ⟨some 43, .un .not (.t 42), some (41, false), []⟩,
        ⟨some 44, .mov (.t 43), some (41, false), []⟩,
        ⟨some 45, .fa 26 3 3 1 (.t 1), some (44, true), []⟩,
        ⟨some 46, .load 2 false 1 (.t 45), some (44, true), []⟩,
        ⟨some 47, .bin false .neq 2 (.t 46) (.c (.int .i64 0)), some (44, true), []⟩,
        ⟨some 48, .pick (.t 44) (.t 47) (.c (.bool false)), some (41, false), []⟩,
        ⟨some 49, .pick (.t 41) (.c (.bool true)) (.t 48), none, []⟩,
        ⟨some 19, .asg (.t 49), none, []⟩])
      (.cond (.t 19)
        (.seq
        (.region false [2] [
          ⟨some 2, .asg (.c (.int .i64 1)), none, []⟩])
        .ret)
        (.seq
        (.region false [1, 3, 50] [
          ⟨some 51, .mov (.t 3), none, []⟩,
          ⟨some 52, .mov (.t 51), none, []⟩,
          ⟨some 53, .fa 26 1 1 1 (.t 1), some (52, true), []⟩,
          ⟨some 54, .load 9 false 1 (.t 53), some (52, true), []⟩,
          ⟨some 55, .call 60 [(.t 54)], some (52, true), []⟩,
          ⟨some 56, .un .not (.t 55), some (52, true), []⟩,
          ⟨some 57, .pick (.t 52) (.t 56) (.c (.bool false)), none, []⟩,
          ⟨some 50, .asg (.t 57), none, []⟩])
        (.cond (.t 50)
          (.seq
          (.region false [2] [
            ⟨some 2, .asg (.c (.int .i64 5)), none, []⟩])
          .ret)
          (.seq
          (.region false [58] [
            ⟨some 59, .fa 26 2 2 1 (.t 1), none, []⟩,
            ⟨some 60, .load 2 false 1 (.t 59), none, []⟩,
            ⟨some 61, .call 61 [(.t 60)], none, []⟩,
            ⟨some 62, .un .not (.t 61), none, []⟩,
            ⟨some 63, .mov (.t 62), none, []⟩,
            ⟨some 64, .fa 26 3 3 1 (.t 1), some (63, false), []⟩,
            ⟨some 65, .load 2 false 1 (.t 64), some (63, false), []⟩,
            ⟨some 66, .call 62 [(.t 65)], some (63, false), []⟩,
            ⟨some 67, .un .not (.t 66), some (63, false), []⟩,
            ⟨some 68, .pick (.t 63) (.c (.bool true)) (.t 67), none, []⟩,
            ⟨some 69, .mov (.t 68), none, []⟩,
            ⟨some 70, .mov (.t 3), some (69, false), []⟩,
            ⟨some 71, .mov (.t 70), some (69, false), []⟩,
            ⟨some 72, .fa 26 3 3 1 (.t 1), some (71, true), []⟩,
            ⟨some 73, .load 2 false 1 (.t 72), some (71, true), []⟩,
            ⟨some 74, .bin false .eql 2 (.t 73) (.c (.int .i64 0)), some (71, true), []⟩,
            ⟨some 75, .pick (.t 71) (.t 74) (.c (.bool false)), some (69, false), []⟩,
            ⟨some 76, .pick (.t 69) (.c (.bool true)) (.t 75), none, []⟩,
            ⟨some 77, .mov (.t 76), none, []⟩,
            ⟨some 78, .fa 26 0 0 1 (.t 1), some (77, false), []⟩,
            ⟨some 79, .load 2 false 1 (.t 78), some (77, false), []⟩,
            ⟨some 80, .bin false .eql 2 (.t 79) (.c (.int .i64 1)), some (77, false), []⟩,
            ⟨some 81, .mov (.t 80), some (77, false), []⟩,
            ⟨some 82, .fa 26 3 3 1 (.t 1), some (81, true), []⟩,
            ⟨some 83, .load 2 false 1 (.t 82), some (81, true), []⟩,
            ⟨some 84, .bin false .gtr 2 (.t 83) (.c (.int .i64 9999)), some (81, true), []⟩,
            ⟨some 85, .pick (.t 81) (.t 84) (.c (.bool false)), some (77, false), []⟩,
            ⟨some 86, .pick (.t 77) (.c (.bool true)) (.t 85), none, []⟩,
            ⟨some 58, .asg (.t 86), none, []⟩])
          (.cond (.t 58)
            (.seq
            (.region false [2] [
              ⟨some 2, .asg (.c (.int .i64 3)), none, []⟩])
            .ret)
            .skip)))))))
    (.seq
    (.region false [2] [
      ⟨some 2, .asg (.c (.int .i64 0)), none, []⟩])
    .ret)))))
  modes := [.lend]
  rets := [⟨2, none⟩] }

/-- loop.example/g00539/spec.l15Fault -/
def v58 : VFun := {
  code :=
    (.seq
    (.region false [0] [
      ⟨some 2, .asg (.c (.int .i64 0)), none, []⟩])
    (.seq
    (.region false [0, 3, 4, 5] [
      ⟨some 7, .mov (.t 0), none, []⟩,
      ⟨some 8, .nilc (.t 7), none, []⟩,
      ⟨some 9, .fa 26 0 0 1 (.t 8), none, []⟩,
      ⟨some 10, .load 2 false 1 (.t 9), none, []⟩,
      ⟨some 11, .call 92 [(.t 10)], none, []⟩,
      ⟨some 6, .mov (.t 11), none, []⟩,
      ⟨some 12, .ext (.t 6) 0, none, []⟩,
      ⟨some 13, .ext (.t 6) 1, none, []⟩,
      ⟨some 14, .ext (.t 6) 2, none, []⟩,
      ⟨some 3, .asg (.t 12), none, []⟩,
      ⟨some 4, .asg (.t 13), none, []⟩,
      ⟨some 5, .asg (.t 14), none, []⟩])
    (.seq
    (.seq
    (.region false [0, 3, 53] [
      ⟨some 15, .mov (.t 0), none, []⟩,
      ⟨some 16, .nilc (.t 15), none, []⟩,
      ⟨some 17, .fa 26 0 0 1 (.t 16), none, []⟩,
      ⟨some 18, .load 2 false 1 (.t 17), none, []⟩,
      ⟨some 19, .call 72 [(.t 18), (.c (.int .i64 1)), (.c (.int .i64 5))], none, []⟩,
      ⟨some 20, .un .not (.t 19), none, []⟩,
      ⟨some 21, .mov (.t 20), none, []⟩,
      ⟨some 22, .mov (.t 3), some (21, false), []⟩,
      ⟨some 23, .un .not (.t 22), some (21, false), []⟩,
      ⟨some 24, .mov (.t 23), some (21, false), []⟩,
      ⟨some 25, .mov (.t 0), some (24, true), []⟩,
      ⟨some 26, .nilc (.t 25), some (24, true), []⟩,
      ⟨some 27, .fa 26 1 1 1 (.t 26), some (24, true), []⟩,
      ⟨some 28, .load 9 false 1 (.t 27), some (24, true), []⟩,
      ⟨some 29, .bin false .neq 9 (.t 28) (.c (.string (⟨#[]⟩ : ByteArray))), some (24, true), []⟩,
      ⟨some 30, .pick (.t 24) (.t 29) (.c (.bool false)), some (21, false), []⟩,
      ⟨some 31, .pick (.t 21) (.c (.bool true)) (.t 30), none, []⟩,
      ⟨some 32, .mov (.t 31), none, []⟩,
      ⟨some 33, .mov (.t 4), some (32, false), []⟩,
      ⟨some 34, .un .not (.t 33), some (32, false), []⟩,
      ⟨some 35, .mov (.t 34), some (32, false), []⟩,
      ⟨some 36, .mov (.t 0), some (35, true), []⟩,
      ⟨some 37, .nilc (.t 36), some (35, true), []⟩,
      ⟨some 38, .fa 26 2 2 1 (.t 37), some (35, true), []⟩,
      ⟨some 39, .load 2 false 1 (.t 38), some (35, true), []⟩,
      ⟨some 40, .bin false .neq 2 (.t 39) (.c (.int .i64 0)), some (35, true), []⟩,
      ⟨some 41, .pick (.t 35) (.t 40) (.c (.bool false)), some (32, false), []⟩,
      ⟨some 42, .pick (.t 32) (.c (.bool true)) (.t 41), none, []⟩,
      ⟨some 43, .mov (.t 42), none, []⟩,
      ⟨some 44, .mov (.t 5), some (43, false), []⟩,
      ⟨some 45, .un .not (.t 44), some (43, false), []⟩,
      ⟨some 46, .mov (.t 45), some (43, false), []⟩,
      ⟨some 47, .mov (.t 0), some (46, true), []⟩,
      ⟨some 48, .nilc (.t 47), some (46, true), []⟩,
      ⟨some 49, .fa 26 3 3 1 (.t 48), some (46, true), []⟩,
      ⟨some 50, .load 2 false 1 (.t 49), some (46, true), []⟩,
      ⟨some 51, .bin false .neq 2 (.t 50) (.c (.int .i64 0)), some (46, true), []⟩,
      ⟨some 52, .pick (.t 46) (.t 51) (.c (.bool false)), some (43, false), []⟩,
      ⟨some 53, .pick (.t 43) (.c (.bool true)) (.t 52), none, []⟩])
    (.cond (.t 53)
      (.seq
      (.region false [2] [
        ⟨some 2, .asg (.c (.int .i64 1)), none, []⟩])
      .ret)
      .skip))
    (.seq
    (.seq
    (.region false [0, 3, 69] [
      ⟨some 54, .mov (.t 3), none, []⟩,
      ⟨some 55, .mov (.t 54), none, []⟩,
      ⟨some 56, .mov (.t 0), some (55, true), []⟩,
      ⟨some 57, .nilc (.t 56), some (55, true), []⟩,
      ⟨some 58, .fa 26 1 1 1 (.t 57), some (55, true), []⟩,
      ⟨some 59, .load 9 false 1 (.t 58), some (55, true), []⟩,
      ⟨some 60, .bin false .eql 9 (.t 59) (.c (.string (⟨#[]⟩ : ByteArray))), some (55, true), []⟩,
      ⟨some 61, .mov (.t 60), some (55, true), []⟩,
      ⟨some 62, .mov (.t 0), some (61, false), []⟩,
      ⟨some 63, .nilc (.t 62), some (61, false), []⟩,
      ⟨some 64, .fa 26 1 1 1 (.t 63), some (61, false), []⟩,
      ⟨some 65, .load 9 false 1 (.t 64), some (61, false), []⟩,
      ⟨some 66, .call 93 [(.t 65)], some (61, false), []⟩,
      ⟨some 67, .un .not (.t 66), some (61, false), []⟩,
      ⟨some 68, .pick (.t 61) (.c (.bool true)) (.t 67), some (55, true), []⟩,
      ⟨some 69, .pick (.t 55) (.t 68) (.c (.bool false)), none, []⟩])
    (.cond (.t 69)
      (.seq
      (.region false [2] [
        ⟨some 2, .asg (.c (.int .i64 5)), none, []⟩])
      .ret)
      .skip))
    (.seq
    (.seq
    (.region false [107] [
      ⟨some 70, .mov (.t 0), none, []⟩,
      ⟨some 71, .nilc (.t 70), none, []⟩,
      ⟨some 72, .fa 26 2 2 1 (.t 71), none, []⟩,
      ⟨some 73, .load 2 false 1 (.t 72), none, []⟩,
      ⟨some 74, .call 94 [(.t 73)], none, []⟩,
      ⟨some 75, .un .not (.t 74), none, []⟩,
      ⟨some 76, .mov (.t 75), none, []⟩,
      ⟨some 77, .mov (.t 0), some (76, false), []⟩,
      ⟨some 78, .nilc (.t 77), some (76, false), []⟩,
      ⟨some 79, .fa 26 3 3 1 (.t 78), some (76, false), []⟩,
      ⟨some 80, .load 2 false 1 (.t 79), some (76, false), []⟩,
      ⟨some 81, .call 84 [(.t 80)], some (76, false), []⟩,
      ⟨some 82, .un .not (.t 81), some (76, false), []⟩,
      ⟨some 83, .pick (.t 76) (.c (.bool true)) (.t 82), none, []⟩,
      ⟨some 84, .mov (.t 83), none, []⟩,
      ⟨some 85, .mov (.t 3), some (84, false), []⟩,
      ⟨some 86, .mov (.t 85), some (84, false), []⟩,
      ⟨some 87, .mov (.t 0), some (86, true), []⟩,
      ⟨some 88, .nilc (.t 87), some (86, true), []⟩,
      ⟨some 89, .fa 26 3 3 1 (.t 88), some (86, true), []⟩,
      ⟨some 90, .load 2 false 1 (.t 89), some (86, true), []⟩,
      ⟨some 91, .bin false .lss 2 (.t 90) (.c (.int .i64 1)), some (86, true), []⟩,
      ⟨some 92, .pick (.t 86) (.t 91) (.c (.bool false)), some (84, false), []⟩,
      ⟨some 93, .pick (.t 84) (.c (.bool true)) (.t 92), none, []⟩,
      ⟨some 94, .mov (.t 93), none, []⟩,
      ⟨some 95, .mov (.t 0), some (94, false), []⟩,
      ⟨some 96, .nilc (.t 95), some (94, false), []⟩,
      ⟨some 97, .fa 26 0 0 1 (.t 96), some (94, false), []⟩,
      ⟨some 98, .load 2 false 1 (.t 97), some (94, false), []⟩,
      ⟨some 99, .bin false .eql 2 (.t 98) (.c (.int .i64 1)), some (94, false), []⟩,
      ⟨some 100, .mov (.t 99), some (94, false), []⟩,
      ⟨some 101, .mov (.t 0), some (100, true), []⟩,
      ⟨some 102, .nilc (.t 101), some (100, true), []⟩,
      ⟨some 103, .fa 26 3 3 1 (.t 102), some (100, true), []⟩,
      ⟨some 104, .load 2 false 1 (.t 103), some (100, true), []⟩,
      ⟨some 105, .bin false .gtr 2 (.t 104) (.c (.int .i64 9999)), some (100, true), []⟩,
      ⟨some 106, .pick (.t 100) (.t 105) (.c (.bool false)), some (94, false), []⟩,
      ⟨some 107, .pick (.t 94) (.c (.bool true)) (.t 106), none, []⟩])
    (.cond (.t 107)
      (.seq
      (.region false [2] [
        ⟨some 2, .asg (.c (.int .i64 3)), none, []⟩])
      .ret)
      .skip))
    (.seq
    (.region false [2] [
      ⟨some 2, .asg (.c (.int .i64 0)), none, []⟩])
    .ret))))))
  modes := [.lend]
  rets := [⟨2, none⟩] }

/-- loop.example/g00539/impl.in -/
def v59 : VFun := {
  code :=
    (.seq
    (.region false [0, 1, 2] [
      ⟨some 6, .asg (.c (.bool false)), none, []⟩])
    (.seq
    (.region false [6] [
      ⟨some 7, .mov (.t 0), none, []⟩,
      ⟨some 8, .mov (.t 1), none, []⟩,
      ⟨some 9, .bin false .geq 2 (.t 7) (.t 8), none, []⟩,
      ⟨some 10, .mov (.t 9), none, []⟩,
      ⟨some 11, .mov (.t 0), some (10, true), []⟩,
      ⟨some 12, .mov (.t 2), some (10, true), []⟩,
      ⟨some 13, .bin false .leq 2 (.t 11) (.t 12), some (10, true), []⟩,
      ⟨some 14, .pick (.t 10) (.t 13) (.c (.bool false)), none, []⟩,
      ⟨some 6, .asg (.t 14), none, []⟩])
    .ret))
  modes := [.lend, .lend, .lend]
  rets := [⟨6, none⟩] }

/-- loop.example/g00539/impl.workerOk -/
def v60 : VFun := {
  code :=
    (.seq
    (.region false [0] [
      ⟨some 2, .asg (.c (.bool false)), none, []⟩])
    (.seq
    (.region false [2] [
      ⟨some 3, .mov (.t 0), none, []⟩,
      ⟨some 4, .bin false .neq 9 (.t 3) (.c (.string (⟨#[]⟩ : ByteArray))), none, []⟩,
      ⟨some 5, .mov (.t 4), none, []⟩,
      ⟨some 6, .mov (.t 0), some (5, true), []⟩,
      ⟨some 7, .call 95 [(.t 6)], some (5, true), []⟩,
      ⟨some 8, .pick (.t 5) (.t 7) (.c (.bool false)), none, []⟩,
      ⟨some 2, .asg (.t 8), none, []⟩])
    .ret))
  modes := [.lend]
  rets := [⟨2, none⟩] }

/-- loop.example/g00539/impl.isSum -/
def v61 : VFun := {
  code :=
    (.seq
    (.region false [0] [
      ⟨some 2, .asg (.c (.bool false)), none, []⟩])
    (.seq
    (.region false [2] [
      ⟨some 3, .mov (.t 0), none, []⟩,
      ⟨some 4, .call 59 [(.t 3), (.c (.int .i64 0)), (.c (.int .i64 2147483646))], none, []⟩,
      ⟨some 2, .asg (.t 4), none, []⟩])
    .ret))
  modes := [.lend]
  rets := [⟨2, none⟩] }

/-- loop.example/g00539/impl.isAmount -/
def v62 : VFun := {
  code :=
    (.seq
    (.region false [0] [
      ⟨some 2, .asg (.c (.bool false)), none, []⟩])
    (.seq
    (.region false [2] [
      ⟨some 3, .mov (.t 0), none, []⟩,
      ⟨some 4, .call 59 [(.t 3), (.c (.int .i64 0)), (.c (.int .i64 1000000))], none, []⟩,
      ⟨some 2, .asg (.t 4), none, []⟩])
    .ret))
  modes := [.lend]
  rets := [⟨2, none⟩] }

/-- loop.example/g00539/spec.l1In -/
def v72 : VFun := {
  code :=
    (.seq
    (.region false [0, 1, 2] [
      ⟨some 6, .asg (.c (.bool false)), none, []⟩])
    (.seq
    (.region false [6] [
      ⟨some 7, .mov (.t 0), none, []⟩,
      ⟨some 8, .mov (.t 1), none, []⟩,
      ⟨some 9, .bin false .geq 2 (.t 7) (.t 8), none, []⟩,
      ⟨some 10, .mov (.t 9), none, []⟩,
      ⟨some 11, .mov (.t 0), some (10, true), []⟩,
      ⟨some 12, .mov (.t 2), some (10, true), []⟩,
      ⟨some 13, .bin false .leq 2 (.t 11) (.t 12), some (10, true), []⟩,
      ⟨some 14, .pick (.t 10) (.t 13) (.c (.bool false)), none, []⟩,
      ⟨some 6, .asg (.t 14), none, []⟩])
    .ret))
  modes := [.lend, .lend, .lend]
  rets := [⟨6, none⟩] }

/-- loop.example/g00539/spec.l1Amount -/
def v84 : VFun := {
  code :=
    (.seq
    (.region false [0] [
      ⟨some 2, .asg (.c (.bool false)), none, []⟩])
    (.seq
    (.region false [2] [
      ⟨some 3, .mov (.t 0), none, []⟩,
      ⟨some 4, .call 72 [(.t 3), (.c (.int .i64 0)), (.c (.int .i64 1000000))], none, []⟩,
      ⟨some 2, .asg (.t 4), none, []⟩])
    .ret))
  modes := [.lend]
  rets := [⟨2, none⟩] }

/-- loop.example/g00539/spec.l15Has -/
def v92 : VFun := {
  code :=
    (.seq
    (.region false [0] [
      ⟨some 2, .asg (.c (.bool false)), none, []⟩,
      ⟨some 3, .asg (.c (.bool false)), none, []⟩,
      ⟨some 4, .asg (.c (.bool false)), none, []⟩])
    (.seq
    (.region false [0, 5] [
      ⟨some 6, .mov (.t 0), none, []⟩,
      ⟨some 7, .bin false .eql 2 (.t 6) (.c (.int .i64 1)), none, []⟩,
      ⟨some 8, .mov (.t 7), none, []⟩,
      ⟨some 9, .mov (.t 0), some (8, false), []⟩,
      ⟨some 10, .bin false .eql 2 (.t 9) (.c (.int .i64 5)), some (8, false), []⟩,
      ⟨some 11, .pick (.t 8) (.c (.bool true)) (.t 10), none, []⟩,
      ⟨some 5, .asg (.t 11), none, []⟩])
    (.seq
    (.region false [2, 3, 4] [
      ⟨some 12, .mov (.t 5), none, []⟩,
      ⟨some 13, .mov (.t 5), none, []⟩,
      ⟨some 14, .un .not (.t 13), none, []⟩,
      ⟨some 15, .mov (.t 5), none, []⟩,
      ⟨some 16, .mov (.t 15), none, []⟩,
      ⟨some 17, .mov (.t 0), some (16, false), []⟩,
      ⟨some 18, .bin false .eql 2 (.t 17) (.c (.int .i64 2)), some (16, false), []⟩,
      ⟨some 19, .pick (.t 16) (.c (.bool true)) (.t 18), none, []⟩,
      ⟨some 2, .asg (.t 12), none, []⟩,
      ⟨some 3, .asg (.t 14), none, []⟩,
      ⟨some 4, .asg (.t 19), none, []⟩])
    .ret)))
  modes := [.lend]
  rets := [⟨2, none⟩, ⟨3, none⟩, ⟨4, none⟩] }

def b93_0 : VC :=
  (.seq
  (.seq
  (.region false [0, 3, 7] [
    ⟨some 4, .mov (.t 3), none, []⟩,
    ⟨some 5, .mov (.t 0), none, []⟩,
    ⟨some 6, .len true 9 (.t 5), none, []⟩,
    ⟨some 7, .bin false .lss 3 (.t 4) (.t 6), none, []⟩])
  (.cond (.t 7)
    .skip
    (.exit 0)))
  (.seq
  (.block 1
    (.seq
    (.region false [0, 3, 14] [
      ⟨some 10, .mov (.t 0), none, []⟩,
      ⟨some 11, .mov (.t 3), none, []⟩,
      ⟨some 12, .idx 9 (.t 10) (.t 11), none, []⟩,
      ⟨some 13, .call 111 [(.t 12)], none, []⟩,
      ⟨some 14, .un .not (.t 13), none, []⟩])
    (.cond (.t 14)
      (.seq
      (.region false [2] [
        ⟨some 2, .asg (.c (.bool false)), none, []⟩])
      .ret)
      .skip)))
  (.region false [0, 3] [
    ⟨some 8, .mov (.t 3), none, []⟩,
    ⟨some 9, .bin false .add 3 (.t 8) (.c (.int .i64 1)), none, []⟩,
    ⟨some 3, .asg (.t 9), none, []⟩])))
def l93_0 : VC := .loop b93_0
/-- loop.example/g00539/spec.l9Arg -/
def v93 : VFun := {
  code :=
    (.seq
    (.region false [0] [
      ⟨some 2, .asg (.c (.bool false)), none, []⟩])
    (.seq
    (.seq
    (.region false [0, 3] [
      ⟨some 3, .asg (.c (.int .i64 0)), none, []⟩])
    (.block 0
      l93_0))
    (.seq
    (.region false [2] [
      ⟨some 15, .mov (.t 0), none, []⟩,
      ⟨some 16, .len true 9 (.t 15), none, []⟩,
      ⟨some 17, .bin false .leq 3 (.t 16) (.c (.int .i64 12)), none, []⟩,
      ⟨some 2, .asg (.t 17), none, []⟩])
    .ret)))
  modes := [.lend]
  rets := [⟨2, none⟩] }

/-- loop.example/g00539/spec.l4Sum -/
def v94 : VFun := {
  code :=
    (.seq
    (.region false [0] [
      ⟨some 2, .asg (.c (.bool false)), none, []⟩])
    (.seq
    (.region false [2] [
      ⟨some 3, .mov (.t 0), none, []⟩,
      ⟨some 4, .call 72 [(.t 3), (.c (.int .i64 0)), (.c (.int .i64 2147483646))], none, []⟩,
      ⟨some 2, .asg (.t 4), none, []⟩])
    .ret))
  modes := [.lend]
  rets := [⟨2, none⟩] }

/-- loop.example/g00539/impl.argOk -/
def v95 : VFun := {
  code :=
    (.seq
    (.region false [0] [
      ⟨some 2, .asg (.c (.bool false)), none, []⟩])
    (.seq
    (.region false [2] [
      ⟨some 3, .mov (.t 0), none, []⟩,
      ⟨some 4, .len true 9 (.t 3), none, []⟩,
      ⟨some 5, .bin false .leq 3 (.t 4) (.c (.int .i64 12)), none, []⟩,
      ⟨some 6, .mov (.t 5), none, []⟩,
      ⟨some 7, .mov (.t 0), some (6, true), []⟩,
      ⟨some 8, .call 112 [(.t 7), (.c (.string (⟨#[97, 98, 99, 100, 101, 102, 103, 104, 105, 106, 107, 108, 109, 110, 111, 112, 113, 114, 115, 116, 117, 118, 119, 120, 121, 122, 65, 66, 67, 68, 69, 70, 71, 72, 73, 74, 75, 76, 77, 78, 79, 80, 81, 82, 83, 84, 85, 86, 87, 88, 89, 90, 48, 49, 50, 51, 52, 53, 54, 55, 56, 57]⟩ : ByteArray)))], some (6, true), []⟩,
      ⟨some 9, .bin false .eql 9 (.t 8) (.c (.string (⟨#[]⟩ : ByteArray))), some (6, true), []⟩,
      ⟨some 10, .pick (.t 6) (.t 9) (.c (.bool false)), none, []⟩,
      ⟨some 2, .asg (.t 10), none, []⟩])
    .ret))
  modes := [.lend]
  rets := [⟨2, none⟩] }

/-- loop.example/g00539/spec.l9Letter -/
def v111 : VFun := {
  code :=
    (.seq
    (.region false [0] [
      ⟨some 2, .asg (.c (.bool false)), none, []⟩])
    (.seq
    (.region false [2] [
      ⟨some 3, .mov (.t 0), none, []⟩,
      ⟨some 4, .bin false .geq 5 (.t 3) (.c (.int .u8 97)), none, []⟩,
      ⟨some 5, .mov (.t 4), none, []⟩,
      ⟨some 6, .mov (.t 0), some (5, true), []⟩,
      ⟨some 7, .bin false .leq 5 (.t 6) (.c (.int .u8 122)), some (5, true), []⟩,
      ⟨some 8, .pick (.t 5) (.t 7) (.c (.bool false)), none, []⟩,
      ⟨some 9, .mov (.t 8), none, []⟩,
      ⟨some 10, .mov (.t 0), some (9, false), []⟩,
      ⟨some 11, .bin false .geq 5 (.t 10) (.c (.int .u8 65)), some (9, false), []⟩,
      ⟨some 12, .mov (.t 11), some (9, false), []⟩,
      ⟨some 13, .mov (.t 0), some (12, true), []⟩,
      ⟨some 14, .bin false .leq 5 (.t 13) (.c (.int .u8 90)), some (12, true), []⟩,
      ⟨some 15, .pick (.t 12) (.t 14) (.c (.bool false)), some (9, false), []⟩,
      ⟨some 16, .pick (.t 9) (.c (.bool true)) (.t 15), none, []⟩,
      ⟨some 17, .mov (.t 16), none, []⟩,
      ⟨some 18, .mov (.t 0), some (17, false), []⟩,
      ⟨some 19, .bin false .geq 5 (.t 18) (.c (.int .u8 48)), some (17, false), []⟩,
      ⟨some 20, .mov (.t 19), some (17, false), []⟩,
      ⟨some 21, .mov (.t 0), some (20, true), []⟩,
      ⟨some 22, .bin false .leq 5 (.t 21) (.c (.int .u8 57)), some (20, true), []⟩,
      ⟨some 23, .pick (.t 20) (.t 22) (.c (.bool false)), some (17, false), []⟩,
      ⟨some 24, .pick (.t 17) (.c (.bool true)) (.t 23), none, []⟩,
      ⟨some 2, .asg (.t 24), none, []⟩])
    .ret))
  modes := [.lend]
  rets := [⟨2, none⟩] }

def tab : List (Nat × VFun) := [(3, v3), (12, v12), (13, v13), (14, v14), (15, v15), (58, v58), (59, v59), (60, v60), (61, v61), (62, v62), (72, v72), (84, v84), (92, v92), (93, v93), (94, v94), (95, v95), (111, v111)]
def F (f : FuncId) : Option VFun := getA none (tab.map fun x => (x.1, some x.2)) f
theorem tab_ok : tab.all (fun x => matchFun Tryd.prog x.1 x.2) = true := by kernel_rfl
theorem F_mem {f : FuncId} {fn : VFun} : ∀ {l : List (Nat × VFun)}, getA none (l.map fun x => (x.1, some x.2)) f = some fn → (f, fn) ∈ l
  | [], h => by simp [getA] at h
  | (k, v) :: l, h => by
    simp only [List.map_cons, getA] at h
    split at h
    · rename_i e
      injection h with h
      subst e; subst h
      exact List.mem_cons_self ..
    · exact List.mem_cons_of_mem _ (F_mem h)
theorem F_ok (f : FuncId) (fn : VFun) (h : F f = some fn) : matchFun Tryd.prog f fn = true := List.all_eq_true.1 tab_ok _ (F_mem h)
end Go.Proofs.YtcbnpfnebinbkaaDoor.EntryFault
