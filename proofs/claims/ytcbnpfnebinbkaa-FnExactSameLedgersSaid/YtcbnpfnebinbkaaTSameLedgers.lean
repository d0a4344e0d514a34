/- V's text of the functions that this law reaches. -/
import Derived.Test.YtcbnpfnebinbkaaVCode
import Derived.Test.YtcbnpfnebinbkaaRows
import Derived.KernelRfl
namespace Go.Proofs.Ytcbnpfnebinbkaa.SameLedgers
open Go Go.Proofs.Ytcbnpfnebinbkaa.V

/-- loop.example/g00539/laws.FnExactSameLedgers -/
def v5 : VFun := {
  code :=
    (.seq
    (.region false [2, 3] [
      ⟨some 2, .box 45 (.t 0), none, []⟩,
      ⟨some 3, .box 45 (.t 1), none, []⟩,
      ⟨some 4, .asg (.c (.bool false)), none, []⟩])
    (.seq
    (.region false [2, 3, 5] [
      ⟨some 5, .asg (.c (.int .i64 1048576)), none, []⟩])
    (.seq
    (.region false [2, 3, 5] [
      ⟨some 10, .load 45 true 8 (.t 2), none, []⟩,
      ⟨some 11, .mov (.t 5), none, []⟩,
      ⟨some 12, .call 16 [(.t 10), (.t 11)], none, []⟩,
      ⟨some 5, .asg (.t 12), none, []⟩])
    (.seq
    (.seq
    (.region false [2, 3, 5, 14] [
      ⟨some 13, .mov (.t 5), none, []⟩,
      ⟨some 14, .bin false .lss 3 (.t 13) (.c (.int .i64 0)), none, []⟩])
    (.cond (.t 14)
      (.seq
      (.region false [4] [
        ⟨some 4, .asg (.c (.bool true)), none, []⟩])
      .ret)
      .skip))
    (.seq
    (.region false [2, 3, 5] [
      ⟨some 15, .load 45 true 8 (.t 3), none, []⟩,
      ⟨some 16, .mov (.t 5), none, []⟩,
      ⟨some 17, .call 16 [(.t 15), (.t 16)], none, []⟩,
      ⟨some 5, .asg (.t 17), none, []⟩])
    (.seq
    (.seq
    (.region false [2, 3, 19] [
      ⟨some 18, .mov (.t 5), none, []⟩,
      ⟨some 19, .bin false .lss 3 (.t 18) (.c (.int .i64 0)), none, []⟩])
    (.cond (.t 19)
      (.seq
      (.region false [4] [
        ⟨some 4, .asg (.c (.bool true)), none, []⟩])
      .ret)
      .skip))
    (.seq
    (.region true [2, 3, 6] [
      ⟨some 20, .load 45 true 8 (.t 2), none, []⟩,
      ⟨some 21, .call 18 [(.t 20)], none, []⟩,
      ⟨some 22, .load 45 true 8 (.t 3), none, [0, 1]⟩,
      ⟨some 23, .call 18 [(.t 22)], none, []⟩,
      ⟨some 24, .call 17 [(.t 21), (.t 23)], none, []⟩,
      ⟨some 6, .asg (.t 24), none, []⟩])
    (.seq
    (.region false [2, 3, 6, 7] [
      ⟨some 25, .load 45 true 8 (.t 2), none, []⟩,
      ⟨some 26, .call 18 [(.t 25)], none, []⟩,
      ⟨some 7, .alloc 35 [(.val (.int .i64 0)), (.val (.int .i64 0)), (.nl 2), (.nl 5), (.nl 2), (.val (.int .i64 0)), (.val (.int .i64 0)), (.val (.int .i64 0))], none, []⟩,
      ⟨none, .store 35 8 (.t 7) (.t 26), none, []⟩])
    (.seq
    (.region false [2, 3, 6, 7, 8] [
      ⟨some 27, .load 45 true 8 (.t 3), none, []⟩,
      ⟨some 28, .call 18 [(.t 27)], none, []⟩,
      ⟨some 8, .alloc 35 [(.val (.int .i64 0)), (.val (.int .i64 0)), (.nl 2), (.nl 5), (.nl 2), (.val (.int .i64 0)), (.val (.int .i64 0)), (.val (.int .i64 0))], none, []⟩,
      ⟨none, .store 35 8 (.t 8) (.t 28), none, []⟩])
    (.seq
    (.region false [2, 3, 6, 7, 8, 9] [
      ⟨some 29, .load 35 true 8 (.t 7), none, []⟩,
      ⟨some 30, .load 35 true 8 (.t 8), none, []⟩,
      ⟨some 31, .call 19 [(.t 29), (.t 30)], none, []⟩,
      ⟨some 9, .asg (.t 31), none, []⟩])
    (.seq
    (.seq
    (.region false [2, 3, 7, 8, 34] [
      ⟨some 32, .mov (.t 9), none, []⟩,
      ⟨some 33, .mov (.t 6), none, []⟩,
      ⟨some 34, .bin true .neq 4 (.t 32) (.t 33), none, []⟩])
    (.cond (.t 34)
      (.seq
      (.region false [4] [
        ⟨some 4, .asg (.c (.bool false)), none, []⟩])
      .ret)
      .skip))
    (.seq
    (.seq
    (.region true [3, 8, 39] [
      ⟨some 35, .load 35 true 8 (.t 7), none, []⟩,
      ⟨some 36, .load 45 true 8 (.t 2), none, [0]⟩,
      ⟨some 37, .call 18 [(.t 36)], none, [0]⟩,
      ⟨some 38, .call 20 [(.t 35), (.t 37)], none, []⟩,
      ⟨some 39, .un .not (.t 38), none, []⟩])
    (.cond (.t 39)
      (.seq
      (.region false [4] [
        ⟨some 4, .asg (.c (.bool false)), none, []⟩])
      .ret)
      .skip))
    (.seq
    (.seq
    (.region true [44] [
      ⟨some 40, .load 35 true 8 (.t 8), none, []⟩,
      ⟨some 41, .load 45 true 8 (.t 3), none, [0]⟩,
      ⟨some 42, .call 18 [(.t 41)], none, [0]⟩,
      ⟨some 43, .call 20 [(.t 40), (.t 42)], none, []⟩,
      ⟨some 44, .un .not (.t 43), none, []⟩])
    (.cond (.t 44)
      (.seq
      (.region false [4] [
        ⟨some 4, .asg (.c (.bool false)), none, []⟩])
      .ret)
      .skip))
    (.seq
    (.region false [4] [
      ⟨some 4, .asg (.c (.bool true)), none, []⟩])
    .ret))))))))))))))
  modes := [.lend, .lend]
  rets := [⟨4, none⟩] }

/-- loop.example/g00539/laws.szLedger -/
def v16 : VFun := {
  code :=
    (.seq
    (.region false [1, 2] [
      ⟨some 2, .box 45 (.t 0), none, []⟩,
      ⟨some 4, .asg (.c (.int .i64 0)), none, []⟩])
    (.seq
    (.region false [1, 2] [
      ⟨some 5, .fa 45 2 2 1 (.t 2), none, []⟩,
      ⟨some 6, .load 42 false 1 (.t 5), none, []⟩,
      ⟨some 7, .mov (.t 1), none, []⟩,
      ⟨some 8, .call 29 [(.t 6), (.t 7)], none, []⟩,
      ⟨some 1, .asg (.t 8), none, []⟩])
    (.seq
    (.seq
    (.region false [1, 2, 10] [
      ⟨some 9, .mov (.t 1), none, []⟩,
      ⟨some 10, .bin false .lss 3 (.t 9) (.c (.int .i64 0)), none, []⟩])
    (.cond (.t 10)
      (.seq
      (.region false [4] [
        ⟨some 4, .asg (.c (.int .i64 (-1))), none, []⟩])
      .ret)
      .skip))
    (.seq
    (.region false [1, 2] [
      ⟨some 11, .fa 45 3 3 1 (.t 2), none, []⟩,
      ⟨some 12, .load 43 false 1 (.t 11), none, []⟩,
      ⟨some 13, .mov (.t 1), none, []⟩,
      ⟨some 14, .call 30 [(.t 12), (.t 13)], none, []⟩,
      ⟨some 1, .asg (.t 14), none, []⟩])
    (.seq
    (.seq
    (.region false [1, 2, 16] [
      ⟨some 15, .mov (.t 1), none, []⟩,
      ⟨some 16, .bin false .lss 3 (.t 15) (.c (.int .i64 0)), none, []⟩])
    (.cond (.t 16)
      (.seq
      (.region false [4] [
        ⟨some 4, .asg (.c (.int .i64 (-1))), none, []⟩])
      .ret)
      .skip))
    (.seq
    (.region false [1] [
      ⟨some 17, .fa 45 4 4 1 (.t 2), none, []⟩,
      ⟨some 18, .load 42 false 1 (.t 17), none, []⟩,
      ⟨some 19, .mov (.t 1), none, []⟩,
      ⟨some 20, .call 29 [(.t 18), (.t 19)], none, []⟩,
      ⟨some 1, .asg (.t 20), none, []⟩])
    (.seq
    (.seq
    (.region false [1, 22] [
      ⟨some 21, .mov (.t 1), none, []⟩,
      ⟨some 22, .bin false .lss 3 (.t 21) (.c (.int .i64 0)), none, []⟩])
    (.cond (.t 22)
      (.seq
      (.region false [4] [
        ⟨some 4, .asg (.c (.int .i64 (-1))), none, []⟩])
      .ret)
      .skip))
    (.seq
    (.region false [4] [
      ⟨some 23, .mov (.t 1), none, []⟩,
      ⟨some 4, .asg (.t 23), none, []⟩])
    .ret))))))))
  modes := [.lend, .lend]
  rets := [⟨4, none⟩] }

def b17_0 : VC :=
  (.seq
  (.seq
  (.region false [2, 3, 5, 54] [
    ⟨some 50, .mov (.t 5), none, []⟩,
    ⟨some 51, .fa 35 3 3 1 (.t 2), none, []⟩,
    ⟨some 52, .load 33 false 1 (.t 51), none, []⟩,
    ⟨some 53, .len false 33 (.t 52), none, []⟩,
    ⟨some 54, .bin false .lss 3 (.t 50) (.t 53), none, []⟩])
  (.cond (.t 54)
    .skip
    (.exit 0)))
  (.seq
  (.block 1
    (.seq
    (.region false [2, 3, 5, 6, 57, 58, 59, 60] [
      ⟨some 57, .fa 35 3 3 1 (.t 2), none, []⟩,
      ⟨some 58, .load 33 false 1 (.t 57), none, []⟩,
      ⟨some 59, .mov (.t 5), none, []⟩,
      ⟨some 60, .ia 33 62 5 (.t 58) (.t 59), none, []⟩,
      ⟨some 6, .asg (.t 60), none, []⟩])
    (.seq
    (.region false [2, 3, 5, 6, 7, 57, 58, 59, 60, 61, 62, 63, 64] [
      ⟨some 61, .fa 35 3 3 1 (.t 3), none, []⟩,
      ⟨some 62, .load 33 false 1 (.t 61), none, []⟩,
      ⟨some 63, .mov (.t 5), none, []⟩,
      ⟨some 64, .ia 33 62 5 (.t 62) (.t 63), none, []⟩,
      ⟨some 7, .asg (.t 64), none, []⟩])
    (.seq
    (.region true [2, 3, 5, 118] [
      ⟨some 65, .mov (.t 6), none, []⟩,
      ⟨some 66, .nilc (.t 65), none, []⟩,
      ⟨some 67, .fa 62 0 0 1 (.t 66), none, []⟩,
      ⟨some 68, .load 2 false 1 (.t 67), none, []⟩,
      ⟨some 69, .mov (.t 7), none, [0, 1, 2, 3]⟩,
      ⟨some 70, .nilc (.t 69), none, [0, 1, 2, 3]⟩,
      ⟨some 71, .fa 62 0 0 1 (.t 70), none, [0, 1, 2, 3]⟩,
      ⟨some 72, .load 2 false 1 (.t 71), none, [0, 1, 2, 3]⟩,
      ⟨some 73, .bin false .neq 2 (.t 68) (.t 72), none, []⟩,
      ⟨some 74, .mov (.t 73), none, []⟩,
      ⟨some 75, .mov (.t 6), some (74, false), []⟩,
      ⟨some 76, .nilc (.t 75), some (74, false), []⟩,
      ⟨some 77, .fa 62 1 1 1 (.t 76), some (74, false), []⟩,
      ⟨some 78, .load 2 false 1 (.t 77), some (74, false), []⟩,
      ⟨some 79, .mov (.t 7), some (74, false), [10, 11, 12, 13]⟩,
      ⟨some 80, .nilc (.t 79), some (74, false), [10, 11, 12, 13]⟩,
      ⟨some 81, .fa 62 1 1 1 (.t 80), some (74, false), [10, 11, 12, 13]⟩,
      ⟨some 82, .load 2 false 1 (.t 81), some (74, false), [10, 11, 12, 13]⟩,
      ⟨some 83, .bin false .neq 2 (.t 78) (.t 82), some (74, false), []⟩,
      ⟨some 84, .pick (.t 74) (.c (.bool true)) (.t 83), none, []⟩,
      ⟨some 85, .mov (.t 84), none, []⟩,
      ⟨some 86, .mov (.t 6), some (85, false), []⟩,
      ⟨some 87, .nilc (.t 86), some (85, false), []⟩,
      ⟨some 88, .fa 62 2 2 1 (.t 87), some (85, false), []⟩,
      ⟨some 89, .load 2 false 1 (.t 88), some (85, false), []⟩,
      ⟨some 90, .mov (.t 7), some (85, false), [21, 22, 23, 24]⟩,
      ⟨some 91, .nilc (.t 90), some (85, false), [21, 22, 23, 24]⟩,
      ⟨some 92, .fa 62 2 2 1 (.t 91), some (85, false), [21, 22, 23, 24]⟩,
      ⟨some 93, .load 2 false 1 (.t 92), some (85, false), [21, 22, 23, 24]⟩,
      ⟨some 94, .bin false .neq 2 (.t 89) (.t 93), some (85, false), []⟩,
      ⟨some 95, .pick (.t 85) (.c (.bool true)) (.t 94), none, []⟩,
      ⟨some 96, .mov (.t 95), none, []⟩,
      ⟨some 97, .mov (.t 6), some (96, false), []⟩,
      ⟨some 98, .nilc (.t 97), some (96, false), []⟩,
      ⟨some 99, .fa 62 4 4 1 (.t 98), some (96, false), []⟩,
      ⟨some 100, .load 2 false 1 (.t 99), some (96, false), []⟩,
      ⟨some 101, .mov (.t 7), some (96, false), [32, 33, 34, 35]⟩,
      ⟨some 102, .nilc (.t 101), some (96, false), [32, 33, 34, 35]⟩,
      ⟨some 103, .fa 62 4 4 1 (.t 102), some (96, false), [32, 33, 34, 35]⟩,
      ⟨some 104, .load 2 false 1 (.t 103), some (96, false), [32, 33, 34, 35]⟩,
      ⟨some 105, .bin false .neq 2 (.t 100) (.t 104), some (96, false), []⟩,
      ⟨some 106, .pick (.t 96) (.c (.bool true)) (.t 105), none, []⟩,
      ⟨some 107, .mov (.t 106), none, []⟩,
      ⟨some 108, .mov (.t 6), some (107, false), []⟩,
      ⟨some 109, .nilc (.t 108), some (107, false), []⟩,
      ⟨some 110, .fa 62 3 3 1 (.t 109), some (107, false), []⟩,
      ⟨some 111, .load 32 false 1 (.t 110), some (107, false), []⟩,
      ⟨some 112, .mov (.t 7), some (107, false), [43, 44, 45, 46]⟩,
      ⟨some 113, .nilc (.t 112), some (107, false), [43, 44, 45, 46]⟩,
      ⟨some 114, .fa 62 3 3 1 (.t 113), some (107, false), [43, 44, 45, 46]⟩,
      ⟨some 115, .load 32 false 1 (.t 114), some (107, false), [43, 44, 45, 46]⟩,
      ⟨some 116, .call 31 [(.t 111), (.t 115)], some (107, false), []⟩,
      ⟨some 117, .un .not (.t 116), some (107, false), []⟩,
      ⟨some 118, .pick (.t 107) (.c (.bool true)) (.t 117), none, []⟩])
    (.cond (.t 118)
      (.seq
      (.region false [4] [
        ⟨some 4, .asg (.c (.bool false)), none, []⟩])
      .ret)
      .skip)))))
  (.region false [2, 3, 5] [
    ⟨some 55, .mov (.t 5), none, []⟩,
    ⟨some 56, .bin false .add 3 (.t 55) (.c (.int .i64 1)), none, []⟩,
    ⟨some 5, .asg (.t 56), none, []⟩])))
def l17_0 : VC := .loop b17_0
/-- loop.example/g00539/spec.SameLedgers -/
def v17 : VFun := {
  code :=
    (.seq
    (.region false [2, 3] [
      ⟨some 2, .box 35 (.t 0), none, []⟩,
      ⟨some 3, .box 35 (.t 1), none, []⟩,
      ⟨some 4, .asg (.c (.bool false)), none, []⟩])
    (.seq
    (.seq
    (.region false [2, 3, 49] [
      ⟨some 8, .fa 35 0 0 1 (.t 2), none, []⟩,
      ⟨some 9, .load 2 false 1 (.t 8), none, []⟩,
      ⟨some 10, .fa 35 0 0 1 (.t 3), none, []⟩,
      ⟨some 11, .load 2 false 1 (.t 10), none, []⟩,
      ⟨some 12, .bin false .neq 2 (.t 9) (.t 11), none, []⟩,
      ⟨some 13, .mov (.t 12), none, []⟩,
      ⟨some 14, .fa 35 1 1 1 (.t 2), some (13, false), []⟩,
      ⟨some 15, .load 2 false 1 (.t 14), some (13, false), []⟩,
      ⟨some 16, .fa 35 1 1 1 (.t 3), some (13, false), []⟩,
      ⟨some 17, .load 2 false 1 (.t 16), some (13, false), []⟩,
      ⟨some 18, .bin false .neq 2 (.t 15) (.t 17), some (13, false), []⟩,
      ⟨some 19, .pick (.t 13) (.c (.bool true)) (.t 18), none, []⟩,
      ⟨some 20, .mov (.t 19), none, []⟩,
      ⟨some 21, .fa 35 5 5 1 (.t 2), some (20, false), []⟩,
      ⟨some 22, .load 2 false 1 (.t 21), some (20, false), []⟩,
      ⟨some 23, .fa 35 5 5 1 (.t 3), some (20, false), []⟩,
      ⟨some 24, .load 2 false 1 (.t 23), some (20, false), []⟩,
      ⟨some 25, .bin false .neq 2 (.t 22) (.t 24), some (20, false), []⟩,
      ⟨some 26, .pick (.t 20) (.c (.bool true)) (.t 25), none, []⟩,
      ⟨some 27, .mov (.t 26), none, []⟩,
      ⟨some 28, .fa 35 6 6 1 (.t 2), some (27, false), []⟩,
      ⟨some 29, .load 2 false 1 (.t 28), some (27, false), []⟩,
      ⟨some 30, .fa 35 6 6 1 (.t 3), some (27, false), []⟩,
      ⟨some 31, .load 2 false 1 (.t 30), some (27, false), []⟩,
      ⟨some 32, .bin false .neq 2 (.t 29) (.t 31), some (27, false), []⟩,
      ⟨some 33, .pick (.t 27) (.c (.bool true)) (.t 32), none, []⟩,
      ⟨some 34, .mov (.t 33), none, []⟩,
      ⟨some 35, .fa 35 7 7 1 (.t 2), some (34, false), []⟩,
      ⟨some 36, .load 2 false 1 (.t 35), some (34, false), []⟩,
      ⟨some 37, .fa 35 7 7 1 (.t 3), some (34, false), []⟩,
      ⟨some 38, .load 2 false 1 (.t 37), some (34, false), []⟩,
      ⟨some 39, .bin false .neq 2 (.t 36) (.t 38), some (34, false), []⟩,
      ⟨some 40, .pick (.t 34) (.c (.bool true)) (.t 39), none, []⟩,
      ⟨some 41, .mov (.t 40), none, []⟩,
      ⟨some 42, .fa 35 3 3 1 (.t 2), some (41, false), []⟩,
      ⟨some 43, .load 33 false 1 (.t 42), some (41, false), []⟩,
      ⟨some 44, .len false 33 (.t 43), some (41, false), []⟩,
      ⟨some 45, .fa 35 3 3 1 (.t 3), some (41, false), []⟩,
      ⟨some 46, .load 33 false 1 (.t 45), some (41, false), []⟩,
      ⟨some 47, .len false 33 (.t 46), some (41, false), []⟩,
      ⟨some 48, .bin false .neq 3 (.t 44) (.t 47), some (41, false), []⟩,
      ⟨some 49, .pick (.t 41) (.c (.bool true)) (.t 48), none, []⟩])
    (.cond (.t 49)
      (.seq
      (.region false [4] [
        ⟨some 4, .asg (.c (.bool false)), none, []⟩])
      .ret)
      .skip))
    (.seq
    (.seq
    (.region false [2, 3, 5] [
      ⟨some 5, .asg (.c (.int .i64 0)), none, []⟩])
    (.block 0
      l17_0))
    (.seq
    (.region false [4] [
      ⟨some 119, .fa 35 2 2 1 (.t 2), none, []⟩,
      ⟨some 120, .load 32 false 1 (.t 119), none, []⟩,
      ⟨some 121, .fa 35 2 2 1 (.t 3), none, []⟩,
      ⟨some 122, .load 32 false 1 (.t 121), none, []⟩,
      ⟨some 123, .call 31 [(.t 120), (.t 122)], none, []⟩,
      ⟨some 124, .mov (.t 123), none, []⟩,
      ⟨some 125, .fa 35 4 4 1 (.t 2), some (124, true), []⟩,
      ⟨some 126, .load 32 false 1 (.t 125), some (124, true), []⟩,
      ⟨some 127, .fa 35 4 4 1 (.t 3), some (124, true), []⟩,
      ⟨some 128, .load 32 false 1 (.t 127), some (124, true), []⟩,
      ⟨some 129, .call 31 [(.t 126), (.t 128)], some (124, true), []⟩,
      ⟨some 130, .pick (.t 124) (.t 129) (.c (.bool false)), none, []⟩,
      ⟨some 4, .asg (.t 130), none, []⟩])
    .ret))))
  modes := [.lend, .lend]
  rets := [⟨4, none⟩] }

/-- loop.example/g00539/laws.toLedger -/
def v18 : VFun := {
  code :=
    (.seq
    (.region false [1, 2] [
      ⟨some 1, .box 45 (.t 0), none, []⟩,
      ⟨some 2, .alloc 35 [(.val (.int .i64 0)), (.val (.int .i64 0)), (.nl 2), (.nl 5), (.nl 2), (.val (.int .i64 0)), (.val (.int .i64 0)), (.val (.int .i64 0))], none, []⟩])
    (.seq
    (.region false [1, 2, 3] [
      ⟨some 3, .alloc 35 [(.val (.int .i64 0)), (.val (.int .i64 0)), (.nl 2), (.nl 5), (.nl 2), (.val (.int .i64 0)), (.val (.int .i64 0)), (.val (.int .i64 0))], none, []⟩])
    (.seq
    (.region false [1, 2, 3] [
      ⟨some 4, .fa 45 0 0 1 (.t 1), none, []⟩,
      ⟨some 5, .load 2 false 1 (.t 4), none, []⟩,
      ⟨some 6, .fa 35 0 0 1 (.t 3), none, []⟩,
      ⟨none, .store 2 1 (.t 6) (.t 5), none, []⟩])
    (.seq
    (.region false [1, 2, 3] [
      ⟨some 7, .fa 45 1 1 1 (.t 1), none, []⟩,
      ⟨some 8, .load 2 false 1 (.t 7), none, []⟩,
      ⟨some 9, .fa 35 1 1 1 (.t 3), none, []⟩,
      ⟨none, .store 2 1 (.t 9) (.t 8), none, []⟩])
    (.seq
    (.region false [1, 2, 3] [
      ⟨some 10, .fa 45 2 2 1 (.t 1), none, []⟩,
      ⟨some 11, .load 42 false 1 (.t 10), none, []⟩,
      ⟨some 12, .call 32 [(.t 11)], none, []⟩,
      ⟨some 13, .fa 35 2 2 1 (.t 3), none, []⟩,
      ⟨none, .store 32 1 (.t 13) (.t 12), none, []⟩])
    (.seq
    (.region false [1, 2, 3] [
      ⟨some 14, .fa 45 3 3 1 (.t 1), none, []⟩,
      ⟨some 15, .load 43 false 1 (.t 14), none, []⟩,
      ⟨some 16, .call 33 [(.t 15)], none, []⟩,
      ⟨some 17, .fa 35 3 3 1 (.t 3), none, []⟩,
      ⟨none, .store 33 1 (.t 17) (.t 16), none, []⟩])
    (.seq
    (.region false [1, 2, 3] [
      ⟨some 18, .fa 45 4 4 1 (.t 1), none, []⟩,
      ⟨some 19, .load 42 false 1 (.t 18), none, []⟩,
      ⟨some 20, .call 32 [(.t 19)], none, []⟩,
      ⟨some 21, .fa 35 4 4 1 (.t 3), none, []⟩,
      ⟨none, .store 32 1 (.t 21) (.t 20), none, []⟩])
    (.seq
    (.region false [1, 2, 3] [
      ⟨some 22, .fa 45 5 5 1 (.t 1), none, []⟩,
      ⟨some 23, .load 2 false 1 (.t 22), none, []⟩,
      ⟨some 24, .fa 35 5 5 1 (.t 3), none, []⟩,
      ⟨none, .store 2 1 (.t 24) (.t 23), none, []⟩])
    (.seq
    (.region false [1, 2, 3] [
      ⟨some 25, .fa 45 6 6 1 (.t 1), none, []⟩,
      ⟨some 26, .load 2 false 1 (.t 25), none, []⟩,
      ⟨some 27, .fa 35 6 6 1 (.t 3), none, []⟩,
      ⟨none, .store 2 1 (.t 27) (.t 26), none, []⟩])
    (.seq
    (.region false [2, 3] [
      ⟨some 28, .fa 45 7 7 1 (.t 1), none, []⟩,
      ⟨some 29, .load 2 false 1 (.t 28), none, []⟩,
      ⟨some 30, .fa 35 7 7 1 (.t 3), none, []⟩,
      ⟨none, .store 2 1 (.t 30) (.t 29), none, []⟩])
    (.seq
    (.region false [2] [
      ⟨some 31, .load 35 true 8 (.t 3), none, []⟩,
      ⟨none, .store 35 8 (.t 2) (.t 31), none, []⟩])
    .ret)))))))))))
  modes := [.lend]
  rets := [⟨2, some (true, 8)⟩] }

/-- loop.example/g00539/impl.SameLedgers -/
def v19 : VFun := {
  code :=
    (.seq
    (.region false [2, 3] [
      ⟨some 2, .box 35 (.t 0), none, []⟩,
      ⟨some 3, .box 35 (.t 1), none, []⟩,
      ⟨some 4, .asg (.c (.bool false)), none, []⟩])
    (.seq
    (.region false [2, 3, 5] [
      ⟨some 6, .fa 35 0 0 1 (.t 2), none, []⟩,
      ⟨some 7, .load 2 false 1 (.t 6), none, []⟩,
      ⟨some 8, .fa 35 0 0 1 (.t 3), none, []⟩,
      ⟨some 9, .load 2 false 1 (.t 8), none, []⟩,
      ⟨some 10, .bin false .eql 2 (.t 7) (.t 9), none, []⟩,
      ⟨some 11, .mov (.t 10), none, []⟩,
      ⟨some 12, .fa 35 1 1 1 (.t 2), some (11, true), []⟩,
      ⟨some 13, .load 2 false 1 (.t 12), some (11, true), []⟩,
      ⟨some 14, .fa 35 1 1 1 (.t 3), some (11, true), []⟩,
      ⟨some 15, .load 2 false 1 (.t 14), some (11, true), []⟩,
      ⟨some 16, .bin false .eql 2 (.t 13) (.t 15), some (11, true), []⟩,
      ⟨some 17, .pick (.t 11) (.t 16) (.c (.bool false)), none, []⟩,
      ⟨some 18, .mov (.t 17), none, []⟩,
      ⟨some 19, .fa 35 5 5 1 (.t 2), some (18, true), []⟩,
      ⟨some 20, .load 2 false 1 (.t 19), some (18, true), []⟩,
      ⟨some 21, .fa 35 5 5 1 (.t 3), some (18, true), []⟩,
      ⟨some 22, .load 2 false 1 (.t 21), some (18, true), []⟩,
      ⟨some 23, .bin false .eql 2 (.t 20) (.t 22), some (18, true), []⟩,
      ⟨some 24, .pick (.t 18) (.t 23) (.c (.bool false)), none, []⟩,
      ⟨some 25, .mov (.t 24), none, []⟩,
      ⟨some 26, .fa 35 6 6 1 (.t 2), some (25, true), []⟩,
      ⟨some 27, .load 2 false 1 (.t 26), some (25, true), []⟩,
      ⟨some 28, .fa 35 6 6 1 (.t 3), some (25, true), []⟩,
      ⟨some 29, .load 2 false 1 (.t 28), some (25, true), []⟩,
      ⟨some 30, .bin false .eql 2 (.t 27) (.t 29), some (25, true), []⟩,
      ⟨some 31, .pick (.t 25) (.t 30) (.c (.bool false)), none, []⟩,
      ⟨some 32, .mov (.t 31), none, []⟩,
      ⟨some 33, .fa 35 7 7 1 (.t 2), some (32, true), []⟩,
      ⟨some 34, .load 2 false 1 (.t 33), some (32, true), []⟩,
      ⟨some 35, .fa 35 7 7 1 (.t 3), some (32, true), []⟩,
      ⟨some 36, .load 2 false 1 (.t 35), some (32, true), []⟩,
      ⟨some 37, .bin false .eql 2 (.t 34) (.t 36), some (32, true), []⟩,
      ⟨some 38, .pick (.t 32) (.t 37) (.c (.bool false)), none, []⟩,
      ⟨some 5, .asg (.t 38), none, []⟩])
    (.seq
    (.region false [4] [
      ⟨some 39, .mov (.t 5), none, []⟩,
      ⟨some 40, .mov (.t 39), none, []⟩,
      ⟨some 41, .fa 35 2 2 1 (.t 2), some (40, true), []⟩,
      ⟨some 42, .load 32 false 1 (.t 41), some (40, true), []⟩,
      ⟨some 43, .fa 35 2 2 1 (.t 3), some (40, true), []⟩,
      ⟨some 44, .load 32 false 1 (.t 43), some (40, true), []⟩,
      ⟨some 45, .call 34 [(.t 42), (.t 44)], some (40, true), []⟩,
      ⟨some 46, .pick (.t 40) (.t 45) (.c (.bool false)), none, []⟩,
      ⟨some 47, .mov (.t 46), none, []⟩,
      ⟨some 48, .fa 35 3 3 1 (.t 2), some (47, true), []⟩,
      ⟨some 49, .load 33 false 1 (.t 48), some (47, true), []⟩,
      ⟨some 50, .fa 35 3 3 1 (.t 3), some (47, true), []⟩,
      ⟨some 51, .load 33 false 1 (.t 50), some (47, true), []⟩,
      ⟨some 52, .call 35 [(.t 49), (.t 51), (.f 36)], some (47, true), []⟩,
      ⟨some 53, .pick (.t 47) (.t 52) (.c (.bool false)), none, []⟩,
      ⟨some 54, .mov (.t 53), none, []⟩,
      ⟨some 55, .fa 35 4 4 1 (.t 2), some (54, true), []⟩,
      ⟨some 56, .load 32 false 1 (.t 55), some (54, true), []⟩,
      ⟨some 57, .fa 35 4 4 1 (.t 3), some (54, true), []⟩,
      ⟨some 58, .load 32 false 1 (.t 57), some (54, true), []⟩,
      ⟨some 59, .call 34 [(.t 56), (.t 58)], some (54, true), []⟩,
      ⟨some 60, .pick (.t 54) (.t 59) (.c (.bool false)), none, []⟩,
      ⟨some 4, .asg (.t 60), none, []⟩])
    .ret)))
  modes := [.lend, .lend]
  rets := [⟨4, none⟩] }

/-- loop.example/g00539/laws.eqLedger -/
def v20 : VFun := {
  code :=
    (.seq
    (.region false [2, 3] [
      ⟨some 2, .box 35 (.t 0), none, []⟩,
      ⟨some 3, .box 35 (.t 1), none, []⟩,
      ⟨some 4, .asg (.c (.bool false)), none, []⟩])
    (.seq
    (.seq
    (.region false [2, 3, 9] [
      ⟨some 5, .fa 35 0 0 1 (.t 2), none, []⟩,
      ⟨some 6, .load 2 false 1 (.t 5), none, []⟩,
      ⟨some 7, .fa 35 0 0 1 (.t 3), none, []⟩,
      ⟨some 8, .load 2 false 1 (.t 7), none, []⟩,
      ⟨some 9, .bin false .neq 2 (.t 6) (.t 8), none, []⟩])
    (.cond (.t 9)
      (.seq
      (.region false [4] [
        ⟨some 4, .asg (.c (.bool false)), none, []⟩])
      .ret)
      .skip))
    (.seq
    (.seq
    (.region false [2, 3, 14] [
      ⟨some 10, .fa 35 1 1 1 (.t 2), none, []⟩,
      ⟨some 11, .load 2 false 1 (.t 10), none, []⟩,
      ⟨some 12, .fa 35 1 1 1 (.t 3), none, []⟩,
      ⟨some 13, .load 2 false 1 (.t 12), none, []⟩,
      ⟨some 14, .bin false .neq 2 (.t 11) (.t 13), none, []⟩])
    (.cond (.t 14)
      (.seq
      (.region false [4] [
        ⟨some 4, .asg (.c (.bool false)), none, []⟩])
      .ret)
      .skip))
    (.seq
    (.seq
    (.region false [2, 3, 20] [
      ⟨some 15, .fa 35 2 2 1 (.t 2), none, []⟩,
      ⟨some 16, .load 32 false 1 (.t 15), none, []⟩,
      ⟨some 17, .fa 35 2 2 1 (.t 3), none, []⟩,
      ⟨some 18, .load 32 false 1 (.t 17), none, []⟩,
      ⟨some 19, .call 37 [(.t 16), (.t 18)], none, []⟩,
      ⟨some 20, .un .not (.t 19), none, []⟩])
    (.cond (.t 20)
      (.seq
      (.region false [4] [
        ⟨some 4, .asg (.c (.bool false)), none, []⟩])
      .ret)
      .skip))
    (.seq
    (.seq
    (.region false [2, 3, 26] [
      ⟨some 21, .fa 35 3 3 1 (.t 2), none, []⟩,
      ⟨some 22, .load 33 false 1 (.t 21), none, []⟩,
      ⟨some 23, .fa 35 3 3 1 (.t 3), none, []⟩,
      ⟨some 24, .load 33 false 1 (.t 23), none, []⟩,
      ⟨some 25, .call 38 [(.t 22), (.t 24)], none, []⟩,
      ⟨some 26, .un .not (.t 25), none, []⟩])
    (.cond (.t 26)
      (.seq
      (.region false [4] [
        ⟨some 4, .asg (.c (.bool false)), none, []⟩])
      .ret)
      .skip))
    (.seq
    (.seq
    (.region false [2, 3, 32] [
      ⟨some 27, .fa 35 4 4 1 (.t 2), none, []⟩,
      ⟨some 28, .load 32 false 1 (.t 27), none, []⟩,
      ⟨some 29, .fa 35 4 4 1 (.t 3), none, []⟩,
      ⟨some 30, .load 32 false 1 (.t 29), none, []⟩,
      ⟨some 31, .call 37 [(.t 28), (.t 30)], none, []⟩,
      ⟨some 32, .un .not (.t 31), none, []⟩])
    (.cond (.t 32)
      (.seq
      (.region false [4] [
        ⟨some 4, .asg (.c (.bool false)), none, []⟩])
      .ret)
      .skip))
    (.seq
    (.seq
    (.region false [2, 3, 37] [
      ⟨some 33, .fa 35 5 5 1 (.t 2), none, []⟩,
      ⟨some 34, .load 2 false 1 (.t 33), none, []⟩,
      ⟨some 35, .fa 35 5 5 1 (.t 3), none, []⟩,
      ⟨some 36, .load 2 false 1 (.t 35), none, []⟩,
      ⟨some 37, .bin false .neq 2 (.t 34) (.t 36), none, []⟩])
    (.cond (.t 37)
      (.seq
      (.region false [4] [
        ⟨some 4, .asg (.c (.bool false)), none, []⟩])
      .ret)
      .skip))
    (.seq
    (.seq
    (.region false [2, 3, 42] [
      ⟨some 38, .fa 35 6 6 1 (.t 2), none, []⟩,
      ⟨some 39, .load 2 false 1 (.t 38), none, []⟩,
      ⟨some 40, .fa 35 6 6 1 (.t 3), none, []⟩,
      ⟨some 41, .load 2 false 1 (.t 40), none, []⟩,
      ⟨some 42, .bin false .neq 2 (.t 39) (.t 41), none, []⟩])
    (.cond (.t 42)
      (.seq
      (.region false [4] [
        ⟨some 4, .asg (.c (.bool false)), none, []⟩])
      .ret)
      .skip))
    (.seq
    (.seq
    (.region false [47] [
      ⟨some 43, .fa 35 7 7 1 (.t 2), none, []⟩,
      ⟨some 44, .load 2 false 1 (.t 43), none, []⟩,
      ⟨some 45, .fa 35 7 7 1 (.t 3), none, []⟩,
      ⟨some 46, .load 2 false 1 (.t 45), none, []⟩,
      ⟨some 47, .bin false .neq 2 (.t 44) (.t 46), none, []⟩])
    (.cond (.t 47)
      (.seq
      (.region false [4] [
        ⟨some 4, .asg (.c (.bool false)), none, []⟩])
      .ret)
      .skip))
    (.seq
    (.region false [4] [
      ⟨some 4, .asg (.c (.bool true)), none, []⟩])
    .ret))))))))))
  modes := [.lend, .lend]
  rets := [⟨4, none⟩] }

def b29_0 : VC :=
  (.seq
  (.seq
  (.region false [0, 1, 5, 15] [
    ⟨some 12, .mov (.t 5), none, []⟩,
    ⟨some 13, .mov (.t 0), none, []⟩,
    ⟨some 14, .len false 42 (.t 13), none, []⟩,
    ⟨some 15, .bin false .lss 3 (.t 12) (.t 14), none, []⟩])
  (.cond (.t 15)
    .skip
    (.exit 0)))
  (.seq
  (.block 1
    (.seq
    (.region false [0, 1, 5] [
      ⟨some 18, .mov (.t 0), none, []⟩,
      ⟨some 19, .mov (.t 5), none, []⟩,
      ⟨some 20, .ia 42 80 2 (.t 18) (.t 19), none, []⟩,
      ⟨some 21, .load 80 true 2 (.t 20), none, []⟩,
      ⟨some 22, .mov (.t 1), none, []⟩,
      ⟨some 23, .call 49 [(.t 21), (.t 22)], none, []⟩,
      ⟨some 1, .asg (.t 23), none, []⟩])
    (.seq
    (.region false [0, 1, 5, 25] [
      ⟨some 24, .mov (.t 1), none, []⟩,
      ⟨some 25, .bin false .lss 3 (.t 24) (.c (.int .i64 0)), none, []⟩])
    (.cond (.t 25)
      (.seq
      (.region false [4] [
        ⟨some 4, .asg (.c (.int .i64 (-1))), none, []⟩])
      .ret)
      .skip))))
  (.region false [0, 1, 5] [
    ⟨some 16, .mov (.t 5), none, []⟩,
    ⟨some 17, .bin false .add 3 (.t 16) (.c (.int .i64 1)), none, []⟩,
    ⟨some 5, .asg (.t 17), none, []⟩])))
def l29_0 : VC := .loop b29_0
/-- loop.example/g00539/laws.szWeightS -/
def v29 : VFun := {
  code :=
    (.seq
    (.region false [0, 1] [
      ⟨some 4, .asg (.c (.int .i64 0)), none, []⟩])
    (.seq
    (.region false [0, 1] [
      ⟨some 6, .mov (.t 1), none, []⟩,
      ⟨some 7, .mov (.t 0), none, []⟩,
      ⟨some 8, .len false 42 (.t 7), none, []⟩,
      ⟨some 9, .bin false .sub 3 (.t 6) (.t 8), none, []⟩,
      ⟨some 1, .asg (.t 9), none, []⟩])
    (.seq
    (.seq
    (.region false [0, 1, 11] [
      ⟨some 10, .mov (.t 1), none, []⟩,
      ⟨some 11, .bin false .lss 3 (.t 10) (.c (.int .i64 0)), none, []⟩])
    (.cond (.t 11)
      (.seq
      (.region false [4] [
        ⟨some 4, .asg (.c (.int .i64 (-1))), none, []⟩])
      .ret)
      .skip))
    (.seq
    (.seq
    (.region false [0, 1, 5] [
      ⟨some 5, .asg (.c (.int .i64 0)), none, []⟩])
    (.block 0
      l29_0))
    (.seq
    (.region false [4] [
      ⟨some 26, .mov (.t 1), none, []⟩,
      ⟨some 4, .asg (.t 26), none, []⟩])
    .ret)))))
  modes := [.lend, .lend]
  rets := [⟨4, none⟩] }

def b30_0 : VC :=
  (.seq
  (.seq
  (.region false [0, 1, 5, 15] [
    ⟨some 12, .mov (.t 5), none, []⟩,
    ⟨some 13, .mov (.t 0), none, []⟩,
    ⟨some 14, .len false 43 (.t 13), none, []⟩,
    ⟨some 15, .bin false .lss 3 (.t 12) (.t 14), none, []⟩])
  (.cond (.t 15)
    .skip
    (.exit 0)))
  (.seq
  (.block 1
    (.seq
    (.region false [0, 1, 5] [
      ⟨some 18, .mov (.t 0), none, []⟩,
      ⟨some 19, .mov (.t 5), none, []⟩,
      ⟨some 20, .ia 43 83 5 (.t 18) (.t 19), none, []⟩,
      ⟨some 21, .load 83 true 5 (.t 20), none, []⟩,
      ⟨some 22, .mov (.t 1), none, []⟩,
      ⟨some 23, .call 50 [(.t 21), (.t 22)], none, []⟩,
      ⟨some 1, .asg (.t 23), none, []⟩])
    (.seq
    (.region false [0, 1, 5, 25] [
      ⟨some 24, .mov (.t 1), none, []⟩,
      ⟨some 25, .bin false .lss 3 (.t 24) (.c (.int .i64 0)), none, []⟩])
    (.cond (.t 25)
      (.seq
      (.region false [4] [
        ⟨some 4, .asg (.c (.int .i64 (-1))), none, []⟩])
      .ret)
      .skip))))
  (.region false [0, 1, 5] [
    ⟨some 16, .mov (.t 5), none, []⟩,
    ⟨some 17, .bin false .add 3 (.t 16) (.c (.int .i64 1)), none, []⟩,
    ⟨some 5, .asg (.t 17), none, []⟩])))
def l30_0 : VC := .loop b30_0
/-- loop.example/g00539/laws.szRewardS -/
def v30 : VFun := {
  code :=
    (.seq
    (.region false [0, 1] [
      ⟨some 4, .asg (.c (.int .i64 0)), none, []⟩])
    (.seq
    (.region false [0, 1] [
      ⟨some 6, .mov (.t 1), none, []⟩,
      ⟨some 7, .mov (.t 0), none, []⟩,
      ⟨some 8, .len false 43 (.t 7), none, []⟩,
      ⟨some 9, .bin false .sub 3 (.t 6) (.t 8), none, []⟩,
      ⟨some 1, .asg (.t 9), none, []⟩])
    (.seq
    (.seq
    (.region false [0, 1, 11] [
      ⟨some 10, .mov (.t 1), none, []⟩,
      ⟨some 11, .bin false .lss 3 (.t 10) (.c (.int .i64 0)), none, []⟩])
    (.cond (.t 11)
      (.seq
      (.region false [4] [
        ⟨some 4, .asg (.c (.int .i64 (-1))), none, []⟩])
      .ret)
      .skip))
    (.seq
    (.seq
    (.region false [0, 1, 5] [
      ⟨some 5, .asg (.c (.int .i64 0)), none, []⟩])
    (.block 0
      l30_0))
    (.seq
    (.region false [4] [
      ⟨some 26, .mov (.t 1), none, []⟩,
      ⟨some 4, .asg (.t 26), none, []⟩])
    .ret)))))
  modes := [.lend, .lend]
  rets := [⟨4, none⟩] }

def b31_0 : VC :=
  (.seq
  (.seq
  (.region false [0, 1, 5, 14] [
    ⟨some 11, .mov (.t 5), none, []⟩,
    ⟨some 12, .mov (.t 0), none, []⟩,
    ⟨some 13, .len false 32 (.t 12), none, []⟩,
    ⟨some 14, .bin false .lss 3 (.t 11) (.t 13), none, []⟩])
  (.cond (.t 14)
    .skip
    (.exit 0)))
  (.seq
  (.block 1
    (.seq
    (.region true [0, 1, 5, 25] [
      ⟨some 17, .mov (.t 0), none, []⟩,
      ⟨some 18, .mov (.t 5), none, [0]⟩,
      ⟨some 19, .ia 32 67 2 (.t 17) (.t 18), none, []⟩,
      ⟨some 20, .load 67 true 2 (.t 19), none, []⟩,
      ⟨some 21, .mov (.t 1), none, [0, 1, 2, 3]⟩,
      ⟨some 22, .mov (.t 5), none, [0, 1, 2, 3, 4]⟩,
      ⟨some 23, .ia 32 67 2 (.t 21) (.t 22), none, [0, 1, 2, 3]⟩,
      ⟨some 24, .load 67 true 2 (.t 23), none, [0, 1, 2, 3]⟩,
      ⟨some 25, .eqs true 67 [2, 1] (.t 20) (.t 24), none, []⟩])
    (.cond (.t 25)
      (.seq
      (.region false [4] [
        ⟨some 4, .asg (.c (.bool false)), none, []⟩])
      .ret)
      .skip)))
  (.region false [0, 1, 5] [
    ⟨some 15, .mov (.t 5), none, []⟩,
    ⟨some 16, .bin false .add 3 (.t 15) (.c (.int .i64 1)), none, []⟩,
    ⟨some 5, .asg (.t 16), none, []⟩])))
def l31_0 : VC := .loop b31_0
/-- loop.example/g00539/spec.l14SameWeights -/
def v31 : VFun := {
  code :=
    (.seq
    (.region false [0, 1] [
      ⟨some 4, .asg (.c (.bool false)), none, []⟩])
    (.seq
    (.seq
    (.region false [0, 1, 10] [
      ⟨some 6, .mov (.t 0), none, []⟩,
      ⟨some 7, .len false 32 (.t 6), none, []⟩,
      ⟨some 8, .mov (.t 1), none, []⟩,
      ⟨some 9, .len false 32 (.t 8), none, []⟩,
      ⟨some 10, .bin false .neq 3 (.t 7) (.t 9), none, []⟩])
    (.cond (.t 10)
      (.seq
      (.region false [4] [
        ⟨some 4, .asg (.c (.bool false)), none, []⟩])
      .ret)
      .skip))
    (.seq
    (.seq
    (.region false [0, 1, 5] [
      ⟨some 5, .asg (.c (.int .i64 0)), none, []⟩])
    (.block 0
      l31_0))
    (.seq
    (.region false [4] [
      ⟨some 4, .asg (.c (.bool true)), none, []⟩])
    .ret))))
  modes := [.lend, .lend]
  rets := [⟨4, none⟩] }

def b32_0 : VC :=
  (.seq
  (.seq
  (.region false [0, 3, 4, 7, 11] [
    ⟨some 8, .mov (.t 4), none, []⟩,
    ⟨some 9, .mov (.t 0), none, []⟩,
    ⟨some 10, .len false 42 (.t 9), none, []⟩,
    ⟨some 11, .bin false .lss 3 (.t 8) (.t 10), none, []⟩])
  (.cond (.t 11)
    .skip
    (.exit 0)))
  (.seq
  (.block 1
    (.region false [0, 3, 4, 7] [
      ⟨some 14, .mov (.t 3), none, []⟩,
      ⟨some 15, .mov (.t 4), none, []⟩,
      ⟨some 16, .mov (.t 0), none, []⟩,
      ⟨some 17, .mov (.t 4), none, []⟩,
      ⟨some 18, .ia 42 80 2 (.t 16) (.t 17), none, []⟩,
      ⟨some 19, .load 80 true 2 (.t 18), none, []⟩,
      ⟨some 20, .call 51 [(.t 19)], none, []⟩,
      ⟨some 21, .ia 32 67 2 (.t 14) (.t 15), none, []⟩,
      ⟨none, .store 67 2 (.t 21) (.t 20), none, []⟩]))
  (.region false [0, 3, 4, 7] [
    ⟨some 12, .mov (.t 4), none, []⟩,
    ⟨some 13, .bin false .add 3 (.t 12) (.c (.int .i64 1)), none, []⟩,
    ⟨some 4, .asg (.t 13), none, []⟩])))
def l32_0 : VC := .loop b32_0
/-- loop.example/g00539/laws.toWeightS -/
def v32 : VFun := {
  code :=
    (.seq
    (.region false [0] [
      ⟨some 2, .asg (.n 2), none, []⟩])
    (.seq
    (.region false [0, 3, 7] [
      ⟨some 5, .mov (.t 0), none, []⟩,
      ⟨some 6, .len false 42 (.t 5), none, []⟩,
      ⟨some 7, .mk 32 67 2 24 [(.val (.string (⟨#[]⟩ : ByteArray))), (.val (.int .i64 0))] (.t 6) (.t 6), none, []⟩,
      ⟨some 3, .asg (.t 7), none, []⟩])
    (.seq
    (.seq
    (.region false [0, 3, 4, 7] [
      ⟨some 4, .asg (.c (.int .i64 0)), none, []⟩])
    (.block 0
      l32_0))
    (.seq
    (.region false [2, 3, 7, 22] [
      ⟨some 22, .mov (.t 3), none, []⟩,
      ⟨some 2, .asg (.t 22), none, []⟩])
    .ret))))
  modes := [.lend]
  rets := [⟨2, none⟩] }

def b33_0 : VC :=
  (.seq
  (.seq
  (.region false [0, 3, 4, 7, 11] [
    ⟨some 8, .mov (.t 4), none, []⟩,
    ⟨some 9, .mov (.t 0), none, []⟩,
    ⟨some 10, .len false 43 (.t 9), none, []⟩,
    ⟨some 11, .bin false .lss 3 (.t 8) (.t 10), none, []⟩])
  (.cond (.t 11)
    .skip
    (.exit 0)))
  (.seq
  (.block 1
    (.region false [0, 3, 4, 7] [
      ⟨some 14, .mov (.t 3), none, []⟩,
      ⟨some 15, .mov (.t 4), none, []⟩,
      ⟨some 16, .mov (.t 0), none, []⟩,
      ⟨some 17, .mov (.t 4), none, []⟩,
      ⟨some 18, .ia 43 83 5 (.t 16) (.t 17), none, []⟩,
      ⟨some 19, .load 83 true 5 (.t 18), none, []⟩,
      ⟨some 20, .call 52 [(.t 19)], none, []⟩,
      ⟨some 21, .ia 33 62 5 (.t 14) (.t 15), none, []⟩,
      ⟨none, .store 62 5 (.t 21) (.t 20), none, []⟩]))
  (.region false [0, 3, 4, 7] [
    ⟨some 12, .mov (.t 4), none, []⟩,
    ⟨some 13, .bin false .add 3 (.t 12) (.c (.int .i64 1)), none, []⟩,
    ⟨some 4, .asg (.t 13), none, []⟩])))
def l33_0 : VC := .loop b33_0
/-- loop.example/g00539/laws.toRewardS -/
def v33 : VFun := {
  code :=
    (.seq
    (.region false [0] [
      ⟨some 2, .asg (.n 5), none, []⟩])
    (.seq
    (.region false [0, 3, 7] [
      ⟨some 5, .mov (.t 0), none, []⟩,
      ⟨some 6, .len false 43 (.t 5), none, []⟩,
      ⟨some 7, .mk 33 62 5 56 [(.val (.int .i64 0)), (.val (.int .i64 0)), (.val (.int .i64 0)), (.nl 2), (.val (.int .i64 0))] (.t 6) (.t 6), none, []⟩,
      ⟨some 3, .asg (.t 7), none, []⟩])
    (.seq
    (.seq
    (.region false [0, 3, 4, 7] [
      ⟨some 4, .asg (.c (.int .i64 0)), none, []⟩])
    (.block 0
      l33_0))
    (.seq
    (.region false [2, 3, 7, 22] [
      ⟨some 22, .mov (.t 3), none, []⟩,
      ⟨some 2, .asg (.t 22), none, []⟩])
    .ret))))
  modes := [.lend]
  rets := [⟨2, none⟩] }

def b34_0 : VC :=
  (.seq
  (.region false [0, 1, 12, 13, 14] [
    ⟨some 14, .bin false .lss 3 (.t 13) (.t 12), none, []⟩])
  (.seq
  (.cond (.t 14)
    .skip
    (.exit 0))
  (.seq
  (.block 1
    (.seq
    (.region false [0, 1, 5, 12, 13] [
      ⟨some 15, .mov (.t 13), none, []⟩,
      ⟨some 5, .asg (.t 15), none, []⟩])
    (.seq
    (.region true [0, 1, 12, 13, 24] [
      ⟨some 16, .mov (.t 0), none, []⟩,
      ⟨some 17, .mov (.t 5), none, [0]⟩,
      ⟨some 18, .ia 32 67 2 (.t 16) (.t 17), none, []⟩,
      ⟨some 19, .load 67 true 2 (.t 18), none, []⟩,
      ⟨some 20, .mov (.t 1), none, [0, 1, 2, 3]⟩,
      ⟨some 21, .mov (.t 5), none, [0, 1, 2, 3, 4]⟩,
      ⟨some 22, .ia 32 67 2 (.t 20) (.t 21), none, [0, 1, 2, 3]⟩,
      ⟨some 23, .load 67 true 2 (.t 22), none, [0, 1, 2, 3]⟩,
      ⟨some 24, .eqs true 67 [2, 1] (.t 19) (.t 23), none, []⟩])
    (.cond (.t 24)
      (.seq
      (.region false [4] [
        ⟨some 4, .asg (.c (.bool false)), none, []⟩])
      .ret)
      .skip))))
  (.region false [0, 1, 12, 13] [
    ⟨some 25, .bin false .add 3 (.t 13) (.c (.int .i64 1)), none, []⟩,
    ⟨some 13, .mov (.t 25), none, []⟩]))))
def l34_0 : VC := .loop b34_0
/-- slices.Equal[[]loop.example/g00539/impl.Weight,loop.example/g00539/impl.Weight] -/
def v34 : VFun := {
  code :=
    (.seq
    (.region false [0, 1] [
      ⟨some 4, .asg (.c (.bool false)), none, []⟩])
    (.seq
    (.seq
    (.region false [0, 1, 10] [
      ⟨some 6, .mov (.t 0), none, []⟩,
      ⟨some 7, .len false 32 (.t 6), none, []⟩,
      ⟨some 8, .mov (.t 1), none, []⟩,
      ⟨some 9, .len false 32 (.t 8), none, []⟩,
      ⟨some 10, .bin false .neq 3 (.t 7) (.t 9), none, []⟩])
    (.cond (.t 10)
      (.seq
      (.region false [4] [
        ⟨some 4, .asg (.c (.bool false)), none, []⟩])
      .ret)
      .skip))
    (.seq
    (.seq
    (.region false [0, 1, 12, 13] [
      ⟨some 11, .mov (.t 0), none, []⟩,
      ⟨some 12, .len false 32 (.t 11), none, []⟩,
      ⟨some 13, .mov (.c (.int .i64 0)), none, []⟩])
    (.block 0
      l34_0))
    (.seq
    (.region false [4] [
      ⟨some 4, .asg (.c (.bool true)), none, []⟩])
    .ret))))
  modes := [.lend, .lend]
  rets := [⟨4, none⟩] }

def b35_0 : VC :=
  (.seq
  (.region false [0, 1, 2, 15, 16, 17, 18] [
    ⟨some 18, .bin false .lss 3 (.t 17) (.t 16), none, []⟩])
  (.seq
  (.cond (.t 18)
    .skip
    (.exit 0))
  (.seq
  (.block 1
    (.seq
    (.region false [0, 1, 2, 7, 8, 15, 16, 17] [
      ⟨some 19, .mov (.t 17), none, []⟩,
      ⟨some 20, .ia 33 62 5 (.t 15) (.t 17), none, []⟩,
      ⟨some 21, .load 62 true 5 (.t 20), none, []⟩,
      ⟨some 8, .alloc 62 [(.val (.int .i64 0)), (.val (.int .i64 0)), (.val (.int .i64 0)), (.nl 2), (.val (.int .i64 0))], none, []⟩,
      ⟨some 7, .asg (.t 19), none, []⟩,
      ⟨none, .store 62 5 (.t 8) (.t 21), none, []⟩])
    (.seq
    (.region false [0, 1, 2, 8, 9, 15, 16, 17] [
      ⟨some 22, .mov (.t 1), none, []⟩,
      ⟨some 23, .mov (.t 7), none, []⟩,
      ⟨some 24, .ia 33 62 5 (.t 22) (.t 23), none, []⟩,
      ⟨some 25, .load 62 true 5 (.t 24), none, []⟩,
      ⟨some 9, .alloc 62 [(.val (.int .i64 0)), (.val (.int .i64 0)), (.val (.int .i64 0)), (.nl 2), (.val (.int .i64 0))], none, []⟩,
      ⟨none, .store 62 5 (.t 9) (.t 25), none, []⟩])
    (.seq
    (.region false [0, 1, 2, 15, 16, 17, 30] [
      ⟨some 26, .mov (.t 2), none, []⟩,
      ⟨some 27, .load 62 true 5 (.t 8), none, []⟩,
      ⟨some 28, .load 62 true 5 (.t 9), none, []⟩,
      ⟨some 29, .callv (.t 26) [(.t 27), (.t 28)], none, []⟩,
      ⟨some 30, .un .not (.t 29), none, []⟩])
    (.cond (.t 30)
      (.seq
      (.region false [6] [
        ⟨some 6, .asg (.c (.bool false)), none, []⟩])
      .ret)
      .skip)))))
  (.region false [0, 1, 2, 15, 16, 17] [
    ⟨some 31, .bin false .add 3 (.t 17) (.c (.int .i64 1)), none, []⟩,
    ⟨some 17, .mov (.t 31), none, []⟩]))))
def l35_0 : VC := .loop b35_0
/-- slices.EqualFunc[[]loop.example/g00539/impl.Reward,[]loop.example/g00539/impl.Reward,loop.example/g00539/impl.Reward,loop.example/g00539/impl.Reward] -/
def v35 : VFun := {
  code :=
    (.seq
    (.region false [0, 1, 2] [
      ⟨some 6, .asg (.c (.bool false)), none, []⟩])
    (.seq
    (.seq
    (.region false [0, 1, 2, 14] [
      ⟨some 10, .mov (.t 0), none, []⟩,
      ⟨some 11, .len false 33 (.t 10), none, []⟩,
      ⟨some 12, .mov (.t 1), none, []⟩,
      ⟨some 13, .len false 33 (.t 12), none, []⟩,
      ⟨some 14, .bin false .neq 3 (.t 11) (.t 13), none, []⟩])
    (.cond (.t 14)
      (.seq
      (.region false [6] [
        ⟨some 6, .asg (.c (.bool false)), none, []⟩])
      .ret)
      .skip))
    (.seq
    (.seq
    (.region false [0, 1, 2, 15, 16, 17] [
      ⟨some 15, .mov (.t 0), none, []⟩,
      ⟨some 16, .len false 33 (.t 15), none, []⟩,
      ⟨some 17, .mov (.c (.int .i64 0)), none, []⟩])
    (.block 0
      l35_0))
    (.seq
    (.region false [6] [
      ⟨some 6, .asg (.c (.bool true)), none, []⟩])
    .ret))))
  modes := [.lend, .lend, .lend]
  rets := [⟨6, none⟩] }

/-- loop.example/g00539/impl.sameReward -/
def v36 : VFun := {
  code :=
    (.seq
    (.region false [2, 3] [
      ⟨some 2, .box 62 (.t 0), none, []⟩,
      ⟨some 3, .box 62 (.t 1), none, []⟩,
      ⟨some 4, .asg (.c (.bool false)), none, []⟩])
    (.seq
    (.region false [4] [
      ⟨some 5, .fa 62 0 0 1 (.t 2), none, []⟩,
      ⟨some 6, .load 2 false 1 (.t 5), none, []⟩,
      ⟨some 7, .fa 62 0 0 1 (.t 3), none, []⟩,
      ⟨some 8, .load 2 false 1 (.t 7), none, []⟩,
      ⟨some 9, .bin false .eql 2 (.t 6) (.t 8), none, []⟩,
      ⟨some 10, .mov (.t 9), none, []⟩,
      ⟨some 11, .fa 62 1 1 1 (.t 2), some (10, true), []⟩,
      ⟨some 12, .load 2 false 1 (.t 11), some (10, true), []⟩,
      ⟨some 13, .fa 62 1 1 1 (.t 3), some (10, true), []⟩,
      ⟨some 14, .load 2 false 1 (.t 13), some (10, true), []⟩,
      ⟨some 15, .bin false .eql 2 (.t 12) (.t 14), some (10, true), []⟩,
      ⟨some 16, .pick (.t 10) (.t 15) (.c (.bool false)), none, []⟩,
      ⟨some 17, .mov (.t 16), none, []⟩,
      ⟨some 18, .fa 62 2 2 1 (.t 2), some (17, true), []⟩,
      ⟨some 19, .load 2 false 1 (.t 18), some (17, true), []⟩,
      ⟨some 20, .fa 62 2 2 1 (.t 3), some (17, true), []⟩,
      ⟨some 21, .load 2 false 1 (.t 20), some (17, true), []⟩,
      ⟨some 22, .bin false .eql 2 (.t 19) (.t 21), some (17, true), []⟩,
      ⟨some 23, .pick (.t 17) (.t 22) (.c (.bool false)), none, []⟩,
      ⟨some 24, .mov (.t 23), none, []⟩,
      ⟨some 25, .fa 62 3 3 1 (.t 2), some (24, true), []⟩,
      ⟨some 26, .load 32 false 1 (.t 25), some (24, true), []⟩,
      ⟨some 27, .fa 62 3 3 1 (.t 3), some (24, true), []⟩,
      ⟨some 28, .load 32 false 1 (.t 27), some (24, true), []⟩,
      ⟨some 29, .call 34 [(.t 26), (.t 28)], some (24, true), []⟩,
      ⟨some 30, .pick (.t 24) (.t 29) (.c (.bool false)), none, []⟩,
      ⟨some 31, .mov (.t 30), none, []⟩,
      ⟨some 32, .fa 62 4 4 1 (.t 2), some (31, true), []⟩,
      ⟨some 33, .load 2 false 1 (.t 32), some (31, true), []⟩,
      ⟨some 34, .fa 62 4 4 1 (.t 3), some (31, true), []⟩,
      ⟨some 35, .load 2 false 1 (.t 34), some (31, true), []⟩,
      ⟨some 36, .bin false .eql 2 (.t 33) (.t 35), some (31, true), []⟩,
      ⟨some 37, .pick (.t 31) (.t 36) (.c (.bool false)), none, []⟩,
      ⟨some 4, .asg (.t 37), none, []⟩])
    .ret))
  modes := [.lend, .lend]
  rets := [⟨4, none⟩] }

def b37_0 : VC :=
  (.seq
  (.seq
  (.region false [0, 1, 5, 14] [
    ⟨some 11, .mov (.t 5), none, []⟩,
    ⟨some 12, .mov (.t 0), none, []⟩,
    ⟨some 13, .len false 32 (.t 12), none, []⟩,
    ⟨some 14, .bin false .lss 3 (.t 11) (.t 13), none, []⟩])
  (.cond (.t 14)
    .skip
    (.exit 0)))
  (.seq
  (.block 1
    (.seq
    (.region true [0, 1, 5, 26] [
      ⟨some 17, .mov (.t 0), none, []⟩,
      ⟨some 18, .mov (.t 5), none, [0]⟩,
      ⟨some 19, .ia 32 67 2 (.t 17) (.t 18), none, []⟩,
      ⟨some 20, .load 67 true 2 (.t 19), none, []⟩,
      ⟨some 21, .mov (.t 1), none, [0, 1, 2, 3]⟩,
      ⟨some 22, .mov (.t 5), none, [0, 1, 2, 3, 4]⟩,
      ⟨some 23, .ia 32 67 2 (.t 21) (.t 22), none, [0, 1, 2, 3]⟩,
      ⟨some 24, .load 67 true 2 (.t 23), none, [0, 1, 2, 3]⟩,
      ⟨some 25, .call 53 [(.t 20), (.t 24)], none, []⟩,
      ⟨some 26, .un .not (.t 25), none, []⟩])
    (.cond (.t 26)
      (.seq
      (.region false [4] [
        ⟨some 4, .asg (.c (.bool false)), none, []⟩])
      .ret)
      .skip)))
  (.region false [0, 1, 5] [
    ⟨some 15, .mov (.t 5), none, []⟩,
    ⟨some 16, .bin false .add 3 (.t 15) (.c (.int .i64 1)), none, []⟩,
    ⟨some 5, .asg (.t 16), none, []⟩])))
def l37_0 : VC := .loop b37_0
/-- loop.example/g00539/laws.eqWeightS -/
def v37 : VFun := {
  code :=
    (.seq
    (.region false [0, 1] [
      ⟨some 4, .asg (.c (.bool false)), none, []⟩])
    (.seq
    (.seq
    (.region false [0, 1, 10] [
      ⟨some 6, .mov (.t 0), none, []⟩,
      ⟨some 7, .len false 32 (.t 6), none, []⟩,
      ⟨some 8, .mov (.t 1), none, []⟩,
      ⟨some 9, .len false 32 (.t 8), none, []⟩,
      ⟨some 10, .bin false .neq 3 (.t 7) (.t 9), none, []⟩])
    (.cond (.t 10)
      (.seq
      (.region false [4] [
        ⟨some 4, .asg (.c (.bool false)), none, []⟩])
      .ret)
      .skip))
    (.seq
    (.seq
    (.region false [0, 1, 5] [
      ⟨some 5, .asg (.c (.int .i64 0)), none, []⟩])
    (.block 0
      l37_0))
    (.seq
    (.region false [4] [
      ⟨some 4, .asg (.c (.bool true)), none, []⟩])
    .ret))))
  modes := [.lend, .lend]
  rets := [⟨4, none⟩] }

def b38_0 : VC :=
  (.seq
  (.seq
  (.region false [0, 1, 5, 14] [
    ⟨some 11, .mov (.t 5), none, []⟩,
    ⟨some 12, .mov (.t 0), none, []⟩,
    ⟨some 13, .len false 33 (.t 12), none, []⟩,
    ⟨some 14, .bin false .lss 3 (.t 11) (.t 13), none, []⟩])
  (.cond (.t 14)
    .skip
    (.exit 0)))
  (.seq
  (.block 1
    (.seq
    (.region true [0, 1, 5, 26] [
      ⟨some 17, .mov (.t 0), none, []⟩,
      ⟨some 18, .mov (.t 5), none, [0]⟩,
      ⟨some 19, .ia 33 62 5 (.t 17) (.t 18), none, []⟩,
      ⟨some 20, .load 62 true 5 (.t 19), none, []⟩,
      ⟨some 21, .mov (.t 1), none, [0, 1, 2, 3]⟩,
      ⟨some 22, .mov (.t 5), none, [0, 1, 2, 3, 4]⟩,
      ⟨some 23, .ia 33 62 5 (.t 21) (.t 22), none, [0, 1, 2, 3]⟩,
      ⟨some 24, .load 62 true 5 (.t 23), none, [0, 1, 2, 3]⟩,
      ⟨some 25, .call 54 [(.t 20), (.t 24)], none, []⟩,
      ⟨some 26, .un .not (.t 25), none, []⟩])
    (.cond (.t 26)
      (.seq
      (.region false [4] [
        ⟨some 4, .asg (.c (.bool false)), none, []⟩])
      .ret)
      .skip)))
  (.region false [0, 1, 5] [
    ⟨some 15, .mov (.t 5), none, []⟩,
    ⟨some 16, .bin false .add 3 (.t 15) (.c (.int .i64 1)), none, []⟩,
    ⟨some 5, .asg (.t 16), none, []⟩])))
def l38_0 : VC := .loop b38_0
/-- loop.example/g00539/laws.eqRewardS -/
def v38 : VFun := {
  code :=
    (.seq
    (.region false [0, 1] [
      ⟨some 4, .asg (.c (.bool false)), none, []⟩])
    (.seq
    (.seq
    (.region false [0, 1, 10] [
      ⟨some 6, .mov (.t 0), none, []⟩,
      ⟨some 7, .len false 33 (.t 6), none, []⟩,
      ⟨some 8, .mov (.t 1), none, []⟩,
      ⟨some 9, .len false 33 (.t 8), none, []⟩,
      ⟨some 10, .bin false .neq 3 (.t 7) (.t 9), none, []⟩])
    (.cond (.t 10)
      (.seq
      (.region false [4] [
        ⟨some 4, .asg (.c (.bool false)), none, []⟩])
      .ret)
      .skip))
    (.seq
    (.seq
    (.region false [0, 1, 5] [
      ⟨some 5, .asg (.c (.int .i64 0)), none, []⟩])
    (.block 0
      l38_0))
    (.seq
    (.region false [4] [
      ⟨some 4, .asg (.c (.bool true)), none, []⟩])
    .ret))))
  modes := [.lend, .lend]
  rets := [⟨4, none⟩] }

/-- loop.example/g00539/laws.szWeight -/
def v49 : VFun := {
  code :=
    (.seq
    (.region false [1, 2] [
      ⟨some 2, .box 80 (.t 0), none, []⟩,
      ⟨some 4, .asg (.c (.int .i64 0)), none, []⟩])
    (.seq
    (.region false [1] [
      ⟨some 5, .mov (.t 1), none, []⟩,
      ⟨some 6, .fa 80 0 0 1 (.t 2), none, []⟩,
      ⟨some 7, .load 9 false 1 (.t 6), none, []⟩,
      ⟨some 8, .len true 9 (.t 7), none, []⟩,
      ⟨some 9, .bin false .sub 3 (.t 5) (.t 8), none, []⟩,
      ⟨some 1, .asg (.t 9), none, []⟩])
    (.seq
    (.seq
    (.region false [1, 11] [
      ⟨some 10, .mov (.t 1), none, []⟩,
      ⟨some 11, .bin false .lss 3 (.t 10) (.c (.int .i64 0)), none, []⟩])
    (.cond (.t 11)
      (.seq
      (.region false [4] [
        ⟨some 4, .asg (.c (.int .i64 (-1))), none, []⟩])
      .ret)
      .skip))
    (.seq
    (.region false [4] [
      ⟨some 12, .mov (.t 1), none, []⟩,
      ⟨some 4, .asg (.t 12), none, []⟩])
    .ret))))
  modes := [.lend, .lend]
  rets := [⟨4, none⟩] }

/-- loop.example/g00539/laws.szReward -/
def v50 : VFun := {
  code :=
    (.seq
    (.region false [1, 2] [
      ⟨some 2, .box 83 (.t 0), none, []⟩,
      ⟨some 4, .asg (.c (.int .i64 0)), none, []⟩])
    (.seq
    (.region false [1] [
      ⟨some 5, .fa 83 3 3 1 (.t 2), none, []⟩,
      ⟨some 6, .load 42 false 1 (.t 5), none, []⟩,
      ⟨some 7, .mov (.t 1), none, []⟩,
      ⟨some 8, .call 29 [(.t 6), (.t 7)], none, []⟩,
      ⟨some 1, .asg (.t 8), none, []⟩])
    (.seq
    (.seq
    (.region false [1, 10] [
      ⟨some 9, .mov (.t 1), none, []⟩,
      ⟨some 10, .bin false .lss 3 (.t 9) (.c (.int .i64 0)), none, []⟩])
    (.cond (.t 10)
      (.seq
      (.region false [4] [
        ⟨some 4, .asg (.c (.int .i64 (-1))), none, []⟩])
      .ret)
      .skip))
    (.seq
    (.region false [4] [
      ⟨some 11, .mov (.t 1), none, []⟩,
      ⟨some 4, .asg (.t 11), none, []⟩])
    .ret))))
  modes := [.lend, .lend]
  rets := [⟨4, none⟩] }

/-- loop.example/g00539/laws.toWeight -/
def v51 : VFun := {
  code :=
    (.seq
    (.region false [1, 2] [
      ⟨some 1, .box 80 (.t 0), none, []⟩,
      ⟨some 2, .alloc 67 [(.val (.string (⟨#[]⟩ : ByteArray))), (.val (.int .i64 0))], none, []⟩])
    (.seq
    (.region false [1, 2, 3] [
      ⟨some 3, .alloc 67 [(.val (.string (⟨#[]⟩ : ByteArray))), (.val (.int .i64 0))], none, []⟩])
    (.seq
    (.region false [1, 2, 3] [
      ⟨some 4, .fa 80 0 0 1 (.t 1), none, []⟩,
      ⟨some 5, .load 9 false 1 (.t 4), none, []⟩,
      ⟨some 6, .fa 67 0 0 1 (.t 3), none, []⟩,
      ⟨none, .store 9 1 (.t 6) (.t 5), none, []⟩])
    (.seq
    (.region false [2, 3] [
      ⟨some 7, .fa 80 1 1 1 (.t 1), none, []⟩,
      ⟨some 8, .load 2 false 1 (.t 7), none, []⟩,
      ⟨some 9, .fa 67 1 1 1 (.t 3), none, []⟩,
      ⟨none, .store 2 1 (.t 9) (.t 8), none, []⟩])
    (.seq
    (.region false [2] [
      ⟨some 10, .load 67 true 2 (.t 3), none, []⟩,
      ⟨none, .store 67 2 (.t 2) (.t 10), none, []⟩])
    .ret)))))
  modes := [.lend]
  rets := [⟨2, some (true, 2)⟩] }

/-- loop.example/g00539/laws.toReward -/
def v52 : VFun := {
  code :=
    (.seq
    (.region false [1, 2] [
      ⟨some 1, .box 83 (.t 0), none, []⟩,
      ⟨some 2, .alloc 62 [(.val (.int .i64 0)), (.val (.int .i64 0)), (.val (.int .i64 0)), (.nl 2), (.val (.int .i64 0))], none, []⟩])
    (.seq
    (.region false [1, 2, 3] [
      ⟨some 3, .alloc 62 [(.val (.int .i64 0)), (.val (.int .i64 0)), (.val (.int .i64 0)), (.nl 2), (.val (.int .i64 0))], none, []⟩])
    (.seq
    (.region false [1, 2, 3] [
      ⟨some 4, .fa 83 0 0 1 (.t 1), none, []⟩,
      ⟨some 5, .load 2 false 1 (.t 4), none, []⟩,
      ⟨some 6, .fa 62 0 0 1 (.t 3), none, []⟩,
      ⟨none, .store 2 1 (.t 6) (.t 5), none, []⟩])
    (.seq
    (.region false [1, 2, 3] [
      ⟨some 7, .fa 83 1 1 1 (.t 1), none, []⟩,
      ⟨some 8, .load 2 false 1 (.t 7), none, []⟩,
      ⟨some 9, .fa 62 1 1 1 (.t 3), none, []⟩,
      ⟨none, .store 2 1 (.t 9) (.t 8), none, []⟩])
    (.seq
    (.region false [1, 2, 3] [
      ⟨some 10, .fa 83 2 2 1 (.t 1), none, []⟩,
      ⟨some 11, .load 2 false 1 (.t 10), none, []⟩,
      ⟨some 12, .fa 62 2 2 1 (.t 3), none, []⟩,
      ⟨none, .store 2 1 (.t 12) (.t 11), none, []⟩])
    (.seq
    (.region false [1, 2, 3] [
      ⟨some 13, .fa 83 3 3 1 (.t 1), none, []⟩,
      ⟨some 14, .load 42 false 1 (.t 13), none, []⟩,
      ⟨some 15, .call 32 [(.t 14)], none, []⟩,
      ⟨some 16, .fa 62 3 3 1 (.t 3), none, []⟩,
      ⟨none, .store 32 1 (.t 16) (.t 15), none, []⟩])
    (.seq
    (.region false [2, 3] [
      ⟨some 17, .fa 83 4 4 1 (.t 1), none, []⟩,
      ⟨some 18, .load 2 false 1 (.t 17), none, []⟩,
      ⟨some 19, .fa 62 4 4 1 (.t 3), none, []⟩,
      ⟨none, .store 2 1 (.t 19) (.t 18), none, []⟩])
    (.seq
    (.region false [2] [
      ⟨some 20, .load 62 true 5 (.t 3), none, []⟩,
      ⟨none, .store 62 5 (.t 2) (.t 20), none, []⟩])
    .ret))))))))
  modes := [.lend]
  rets := [⟨2, some (true, 5)⟩] }

/-- loop.example/g00539/laws.eqWeight -/
def v53 : VFun := {
  code :=
    (.seq
    (.region false [2, 3] [
      ⟨some 2, .box 67 (.t 0), none, []⟩,
      ⟨some 3, .box 67 (.t 1), none, []⟩,
      ⟨some 4, .asg (.c (.bool false)), none, []⟩])
    (.seq
    (.seq
    (.region false [2, 3, 9] [
      ⟨some 5, .fa 67 0 0 1 (.t 2), none, []⟩,
      ⟨some 6, .load 9 false 1 (.t 5), none, []⟩,
      ⟨some 7, .fa 67 0 0 1 (.t 3), none, []⟩,
      ⟨some 8, .load 9 false 1 (.t 7), none, []⟩,
      ⟨some 9, .bin false .neq 9 (.t 6) (.t 8), none, []⟩])
    (.cond (.t 9)
      (.seq
      (.region false [4] [
        ⟨some 4, .asg (.c (.bool false)), none, []⟩])
      .ret)
      .skip))
    (.seq
    (.seq
    (.region false [14] [
      ⟨some 10, .fa 67 1 1 1 (.t 2), none, []⟩,
      ⟨some 11, .load 2 false 1 (.t 10), none, []⟩,
      ⟨some 12, .fa 67 1 1 1 (.t 3), none, []⟩,
      ⟨some 13, .load 2 false 1 (.t 12), none, []⟩,
      ⟨some 14, .bin false .neq 2 (.t 11) (.t 13), none, []⟩])
    (.cond (.t 14)
      (.seq
      (.region false [4] [
        ⟨some 4, .asg (.c (.bool false)), none, []⟩])
      .ret)
      .skip))
    (.seq
    (.region false [4] [
      ⟨some 4, .asg (.c (.bool true)), none, []⟩])
    .ret))))
  modes := [.lend, .lend]
  rets := [⟨4, none⟩] }

/-- loop.example/g00539/laws.eqReward -/
def v54 : VFun := {
  code :=
    (.seq
    (.region false [2, 3] [
      ⟨some 2, .box 62 (.t 0), none, []⟩,
      ⟨some 3, .box 62 (.t 1), none, []⟩,
      ⟨some 4, .asg (.c (.bool false)), none, []⟩])
    (.seq
    (.seq
    (.region false [2, 3, 9] [
      ⟨some 5, .fa 62 0 0 1 (.t 2), none, []⟩,
      ⟨some 6, .load 2 false 1 (.t 5), none, []⟩,
      ⟨some 7, .fa 62 0 0 1 (.t 3), none, []⟩,
      ⟨some 8, .load 2 false 1 (.t 7), none, []⟩,
      ⟨some 9, .bin false .neq 2 (.t 6) (.t 8), none, []⟩])
    (.cond (.t 9)
      (.seq
      (.region false [4] [
        ⟨some 4, .asg (.c (.bool false)), none, []⟩])
      .ret)
      .skip))
    (.seq
    (.seq
    (.region false [2, 3, 14] [
      ⟨some 10, .fa 62 1 1 1 (.t 2), none, []⟩,
      ⟨some 11, .load 2 false 1 (.t 10), none, []⟩,
      ⟨some 12, .fa 62 1 1 1 (.t 3), none, []⟩,
      ⟨some 13, .load 2 false 1 (.t 12), none, []⟩,
      ⟨some 14, .bin false .neq 2 (.t 11) (.t 13), none, []⟩])
    (.cond (.t 14)
      (.seq
      (.region false [4] [
        ⟨some 4, .asg (.c (.bool false)), none, []⟩])
      .ret)
      .skip))
    (.seq
    (.seq
    (.region false [2, 3, 19] [
      ⟨some 15, .fa 62 2 2 1 (.t 2), none, []⟩,
      ⟨some 16, .load 2 false 1 (.t 15), none, []⟩,
      ⟨some 17, .fa 62 2 2 1 (.t 3), none, []⟩,
      ⟨some 18, .load 2 false 1 (.t 17), none, []⟩,
      ⟨some 19, .bin false .neq 2 (.t 16) (.t 18), none, []⟩])
    (.cond (.t 19)
      (.seq
      (.region false [4] [
        ⟨some 4, .asg (.c (.bool false)), none, []⟩])
      .ret)
      .skip))
    (.seq
    (.seq
    (.region false [2, 3, 25] [
      ⟨some 20, .fa 62 3 3 1 (.t 2), none, []⟩,
      ⟨some 21, .load 32 false 1 (.t 20), none, []⟩,
      ⟨some 22, .fa 62 3 3 1 (.t 3), none, []⟩,
      ⟨some 23, .load 32 false 1 (.t 22), none, []⟩,
      ⟨some 24, .call 37 [(.t 21), (.t 23)], none, []⟩,
      ⟨some 25, .un .not (.t 24), none, []⟩])
    (.cond (.t 25)
      (.seq
      (.region false [4] [
        ⟨some 4, .asg (.c (.bool false)), none, []⟩])
      .ret)
      .skip))
    (.seq
    (.seq
    (.region false [30] [
      ⟨some 26, .fa 62 4 4 1 (.t 2), none, []⟩,
      ⟨some 27, .load 2 false 1 (.t 26), none, []⟩,
      ⟨some 28, .fa 62 4 4 1 (.t 3), none, []⟩,
      ⟨some 29, .load 2 false 1 (.t 28), none, []⟩,
      ⟨some 30, .bin false .neq 2 (.t 27) (.t 29), none, []⟩])
    (.cond (.t 30)
      (.seq
      (.region false [4] [
        ⟨some 4, .asg (.c (.bool false)), none, []⟩])
      .ret)
      .skip))
    (.seq
    (.region false [4] [
      ⟨some 4, .asg (.c (.bool true)), none, []⟩])
    .ret)))))))
  modes := [.lend, .lend]
  rets := [⟨4, none⟩] }

def tab : List (Nat × VFun) := [(5, v5), (16, v16), (17, v17), (18, v18), (19, v19), (20, v20), (29, v29), (30, v30), (31, v31), (32, v32), (33, v33), (34, v34), (35, v35), (36, v36), (37, v37), (38, v38), (49, v49), (50, v50), (51, v51), (52, v52), (53, v53), (54, v54)]
def F (f : FuncId) : Option VFun := getA none (tab.map fun x => (x.1, some x.2)) f
theorem tab_ok : tab.all (fun x => matchFun Try.prog x.1 x.2) = true := by kernel_rfl
theorem F_mem {f : FuncId} {fn : VFun} : ∀ {l : List (Nat × VFun)}, getA none (l.map fun x => (x.1, some x.2)) f = some fn → (f, fn) ∈ l
  | [], h => by simp [getA] at h
  | (k, v) :: l, h => by
    simp only [List.map_cons, getA] at h
    split at h
    · rename_i e
      injection h with h
      subst e; subst h
      exact List.mem_cons_self ..
    · exact List.mem_cons_of_mem _ (F_mem h)
theorem F_ok (f : FuncId) (fn : VFun) (h : F f = some fn) : matchFun Try.prog f fn = true := List.all_eq_true.1 tab_ok _ (F_mem h)
end Go.Proofs.Ytcbnpfnebinbkaa.SameLedgers
