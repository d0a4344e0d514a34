/- V's text of the functions that this law reaches. -/
import Derived.Test.YthpmfdcmnnbjcaaVCode
import Derived.Test.YthpmfdcmnnbjcaaRows
import Derived.KernelRfl
namespace Go.Proofs.Ythpmfdcmnnbjcaa.Turns
open Go Go.Proofs.Ythpmfdcmnnbjcaa.V

/-- loop.example/g00539/laws.FnTurns -/
def v10 : VFun := {
  code :=
    (.seq
    (.region false [0] [
      ⟨some 2, .asg (.c (.bool false)), none, []⟩])
    (.seq
    (.seq
    (.region false [0, 10] [
      ⟨some 9, .mov (.t 0), none, []⟩,
      ⟨some 10, .call 38 [(.t 9)], none, []⟩])
    (.cond (.t 10)
      (.seq
      (.region false [2] [
        ⟨some 2, .asg (.c (.bool true)), none, []⟩])
      .ret)
      .skip))
    (.seq
    (.region false [3, 4, 5] [
      ⟨some 12, .mov (.t 0), none, []⟩,
      ⟨some 13, .call 39 [(.t 12)], none, []⟩,
      ⟨some 11, .mov (.t 13), none, []⟩,
      ⟨some 14, .ext (.t 11) 0, none, []⟩,
      ⟨some 15, .ext (.t 11) 1, none, []⟩,
      ⟨some 16, .ext (.t 11) 2, none, []⟩,
      ⟨some 3, .alloc 30 [(.val (.int .i64 0)), (.val (.int .i64 0)), (.val (.int .i64 0)), (.val (.int .i64 0)), (.val (.int .i64 0)), (.val (.int .i64 0)), (.val (.int .i64 0))], none, []⟩,
      ⟨none, .store 30 7 (.t 3) (.t 14), none, []⟩,
      ⟨some 4, .asg (.t 15), none, []⟩,
      ⟨some 5, .asg (.t 16), none, []⟩])
    (.seq
    (.region false [3, 4, 5, 6] [
      ⟨some 17, .load 30 true 7 (.t 3), none, []⟩,
      ⟨some 18, .mov (.t 4), none, []⟩,
      ⟨some 19, .mov (.t 5), none, []⟩,
      ⟨some 20, .call 40 [(.t 17), (.t 18), (.t 19)], none, []⟩,
      ⟨some 6, .alloc 62 [(.val (.int .i64 0)), (.nl 1)], none, []⟩,
      ⟨none, .store 62 2 (.t 6) (.t 20), none, []⟩])
    (.seq
    (.seq
    (.region false [3, 4, 5, 6, 23] [
      ⟨some 21, .fa 62 0 0 1 (.t 6), none, []⟩,
      ⟨some 22, .load 2 false 1 (.t 21), none, []⟩,
      ⟨some 23, .bin false .neq 2 (.t 22) (.c (.int .i64 0)), none, []⟩])
    (.cond (.t 23)
      (.seq
      (.region true [2] [
        ⟨some 24, .load 30 true 7 (.t 3), none, []⟩,
        ⟨some 25, .mov (.t 4), none, [0]⟩,
        ⟨some 26, .mov (.t 5), none, [0, 1]⟩,
        ⟨some 27, .call 41 [(.t 24), (.t 25), (.t 26)], none, []⟩,
        ⟨some 28, .fld 62 0 0 1 false (.t 27), none, []⟩,
        ⟨some 29, .fa 62 0 0 1 (.t 6), none, [0, 1, 2, 3, 4]⟩,
        ⟨some 30, .load 2 false 1 (.t 29), none, [0, 1, 2, 3, 4]⟩,
        ⟨some 31, .bin false .eql 2 (.t 28) (.t 30), none, []⟩,
        ⟨some 2, .asg (.t 31), none, []⟩])
      .ret)
      .skip))
    (.seq
    (.seq
    (.region true [3, 4, 47] [
      ⟨some 32, .fa 62 1 1 1 (.t 6), none, []⟩,
      ⟨some 33, .load 60 false 1 (.t 32), none, []⟩,
      ⟨some 34, .len false 60 (.t 33), none, []⟩,
      ⟨some 35, .mov (.t 5), none, [0, 1, 2]⟩,
      ⟨some 36, .bin false .neq 2 (.t 34) (.t 35), none, []⟩,
      ⟨some 37, .mov (.t 36), none, []⟩,
      ⟨some 38, .fa 62 1 1 1 (.t 6), some (37, false), []⟩,
      ⟨some 39, .load 60 false 1 (.t 38), some (37, false), []⟩,
      ⟨some 40, .load 30 true 7 (.t 3), some (37, false), [6, 7]⟩,
      ⟨some 41, .mov (.t 4), some (37, false), [6, 7, 8]⟩,
      ⟨some 42, .mov (.t 5), some (37, false), [6, 7, 8, 9]⟩,
      ⟨some 43, .call 41 [(.t 40), (.t 41), (.t 42)], some (37, false), [6, 7]⟩,
      ⟨some 44, .fld 62 1 1 1 false (.t 43), some (37, false), [6, 7]⟩,
      ⟨some 45, .call 42 [(.t 39), (.t 44)], some (37, false), []⟩,
      ⟨some 46, .un .not (.t 45), some (37, false), []⟩,
      ⟨some 47, .pick (.t 37) (.c (.bool true)) (.t 46), none, []⟩])
    (.cond (.t 47)
      (.seq
      (.region false [2] [
        ⟨some 2, .asg (.c (.bool false)), none, []⟩])
      .ret)
      .skip))
    (.seq
    (.region false [3, 4, 7] [
      ⟨some 48, .fa 30 3 3 1 (.t 3), none, []⟩,
      ⟨some 49, .load 2 false 1 (.t 48), none, []⟩,
      ⟨some 50, .mov (.t 4), none, []⟩,
      ⟨some 51, .bin false .quo 2 (.t 49) (.t 50), none, []⟩,
      ⟨some 7, .asg (.t 51), none, []⟩])
    (.seq
    (.seq
    (.region false [3, 4, 7, 55] [
      ⟨some 52, .mov (.t 7), none, []⟩,
      ⟨some 53, .fa 30 1 1 1 (.t 3), none, []⟩,
      ⟨some 54, .load 2 false 1 (.t 53), none, []⟩,
      ⟨some 55, .bin false .lss 2 (.t 52) (.t 54), none, []⟩])
    (.cond (.t 55)
      (.region false [3, 4, 7] [
        ⟨some 56, .fa 30 1 1 1 (.t 3), none, []⟩,
        ⟨some 57, .load 2 false 1 (.t 56), none, []⟩,
        ⟨some 7, .asg (.t 57), none, []⟩])
      .skip))
    (.seq
    (.seq
    (.region false [3, 4, 7, 61] [
      ⟨some 58, .mov (.t 7), none, []⟩,
      ⟨some 59, .fa 30 2 2 1 (.t 3), none, []⟩,
      ⟨some 60, .load 2 false 1 (.t 59), none, []⟩,
      ⟨some 61, .bin false .gtr 2 (.t 58) (.t 60), none, []⟩])
    (.cond (.t 61)
      (.region false [3, 4, 7] [
        ⟨some 62, .fa 30 2 2 1 (.t 3), none, []⟩,
        ⟨some 63, .load 2 false 1 (.t 62), none, []⟩,
        ⟨some 7, .asg (.t 63), none, []⟩])
      .skip))
    (.seq
    (.region false [3, 4, 7, 8] [
      ⟨some 64, .load 30 true 7 (.t 3), none, []⟩,
      ⟨some 65, .mov (.t 4), none, []⟩,
      ⟨some 66, .call 40 [(.t 64), (.t 65), (.c (.int .i64 9))], none, []⟩,
      ⟨some 8, .alloc 62 [(.val (.int .i64 0)), (.nl 1)], none, []⟩,
      ⟨none, .store 62 2 (.t 8) (.t 66), none, []⟩])
    (.seq
    (.region false [2] [
      ⟨some 67, .fa 62 0 0 1 (.t 8), none, []⟩,
      ⟨some 68, .load 2 false 1 (.t 67), none, []⟩,
      ⟨some 69, .bin false .eql 2 (.t 68) (.c (.int .i64 0)), none, []⟩,
      ⟨some 70, .mov (.t 69), none, []⟩,
      ⟨some 71, .fa 62 1 1 1 (.t 8), some (70, true), []⟩,
      ⟨some 72, .load 60 false 1 (.t 71), some (70, true), []⟩,
      ⟨some 73, .len false 60 (.t 72), some (70, true), []⟩,
      ⟨some 74, .bin false .eql 3 (.t 73) (.c (.int .i64 9)), some (70, true), []⟩,
      ⟨some 75, .pick (.t 70) (.t 74) (.c (.bool false)), none, []⟩,
      ⟨some 76, .mov (.t 75), none, []⟩,
      ⟨some 77, .fa 30 4 4 1 (.t 3), some (76, true), []⟩,
      ⟨some 78, .load 2 false 1 (.t 77), some (76, true), []⟩,
      ⟨some 79, .mov (.t 4), some (76, true), []⟩,
      ⟨some 80, .bin false .mul 2 (.t 78) (.t 79), some (76, true), []⟩,
      ⟨some 81, .fa 30 2 2 1 (.t 3), some (76, true), []⟩,
      ⟨some 82, .load 2 false 1 (.t 81), some (76, true), []⟩,
      ⟨some 83, .bin false .mul 2 (.t 80) (.t 82), some (76, true), []⟩,
      ⟨some 84, .bin false .gtr 2 (.t 83) (.c (.int .i64 99999)), some (76, true), []⟩,
      ⟨some 85, .mov (.t 84), some (76, true), []⟩,
      ⟨some 86, .fa 62 1 1 1 (.t 8), some (85, false), []⟩,
      ⟨some 87, .load 60 false 1 (.t 86), some (85, false), []⟩,
      ⟨some 88, .ia 60 2 1 (.t 87) (.c (.int .i64 8)), some (85, false), []⟩,
      ⟨some 89, .load 2 false 1 (.t 88), some (85, false), []⟩,
      ⟨some 90, .mov (.t 7), some (85, false), []⟩,
      ⟨some 91, .bin false .eql 2 (.t 89) (.t 90), some (85, false), []⟩,
      ⟨some 92, .pick (.t 85) (.c (.bool true)) (.t 91), some (76, true), []⟩,
      ⟨some 93, .pick (.t 76) (.t 92) (.c (.bool false)), none, []⟩,
      ⟨some 2, .asg (.t 93), none, []⟩])
    .ret)))))))))))
  modes := [.lend]
  rets := [⟨2, none⟩] }

/-- loop.example/g00539/impl.MeterFault -/
def v20 : VFun := {
  code :=
    (.seq
    (.region false [1] [
      ⟨some 1, .box 30 (.t 0), none, []⟩,
      ⟨some 2, .asg (.c (.int .i64 0)), none, []⟩])
    (.seq
    (.region false [1, 3] [
      ⟨some 4, .fa 30 1 1 1 (.t 1), none, []⟩,
      ⟨some 5, .load 2 false 1 (.t 4), none, []⟩,
      ⟨some 6, .call 58 [(.t 5)], none, []⟩,
      ⟨some 7, .mov (.t 6), none, []⟩,
      ⟨some 8, .fa 30 2 2 1 (.t 1), some (7, true), []⟩,
      ⟨some 9, .load 2 false 1 (.t 8), some (7, true), []⟩,
      ⟨some 10, .call 58 [(.t 9)], some (7, true), []⟩,
      ⟨some 11, .pick (.t 7) (.t 10) (.c (.bool false)), none, []⟩,
      ⟨some 12, .mov (.t 11), none, []⟩,
      ⟨some 13, .fa 30 1 1 1 (.t 1), some (12, true), []⟩,
      ⟨some 14, .load 2 false 1 (.t 13), some (12, true), []⟩,
      ⟨some 15, .fa 30 2 2 1 (.t 1), some (12, true), []⟩,
      ⟨some 16, .load 2 false 1 (.t 15), some (12, true), []⟩,
      ⟨some 17, .bin false .leq 2 (.t 14) (.t 16), some (12, true), []⟩,
      ⟨some 18, .pick (.t 12) (.t 17) (.c (.bool false)), none, []⟩,
      ⟨some 19, .mov (.t 18), none, []⟩,
      ⟨some 20, .fa 30 0 0 1 (.t 1), some (19, true), []⟩,
      ⟨some 21, .load 2 false 1 (.t 20), some (19, true), []⟩,
      ⟨some 22, .fa 30 1 1 1 (.t 1), some (19, true), []⟩,
      ⟨some 23, .load 2 false 1 (.t 22), some (19, true), []⟩,
      ⟨some 24, .fa 30 2 2 1 (.t 1), some (19, true), []⟩,
      ⟨some 25, .load 2 false 1 (.t 24), some (19, true), []⟩,
      ⟨some 26, .call 60 [(.t 21), (.t 23), (.t 25)], some (19, true), []⟩,
      ⟨some 27, .pick (.t 19) (.t 26) (.c (.bool false)), none, []⟩,
      ⟨some 3, .asg (.t 27), none, []⟩])
    (.seq
    (.seq
    (.region false [56] [
      ⟨some 28, .mov (.t 3), none, []⟩,
      ⟨some 29, .un .not (.t 28), none, []⟩,
      ⟨some 30, .mov (.t 29), none, []⟩,
      ⟨some 31, .fa 30 3 3 1 (.t 1), some (30, false), []⟩,
      ⟨some 32, .load 2 false 1 (.t 31), some (30, false), []⟩,
      ⟨some 33, .call 60 [(.t 32), (.c (.int .i64 1)), (.c (.int .i64 999))], some (30, false), []⟩,
      ⟨some 34, .un .not (.t 33), some (30, false), []⟩,
      ⟨some 35, .pick (.t 30) (.c (.bool true)) (.t 34), none, []⟩,
      ⟨some 36, .mov (.t 35), none, []⟩,
      ⟨some 37, .fa 30 4 4 1 (.t 1), some (36, false), []⟩,
      ⟨some 38, .load 2 false 1 (.t 37), some (36, false), []⟩,
      ⟨some 39, .call 60 [(.t 38), (.c (.int .i64 1)), (.c (.int .i64 99))], some (36, false), []⟩,
      ⟨some 40, .un .not (.t 39), some (36, false), []⟩,
      ⟨some 41, .pick (.t 36) (.c (.bool true)) (.t 40), none, []⟩,
      ⟨some 42, .mov (.t 41), none, []⟩,
      ⟨some 43, .fa 30 5 5 1 (.t 1), some (42, false), []⟩,
      ⟨some 44, .load 2 false 1 (.t 43), some (42, false), []⟩,
      ⟨some 45, .fa 30 4 4 1 (.t 1), some (42, false), []⟩,
      ⟨some 46, .load 2 false 1 (.t 45), some (42, false), []⟩,
      ⟨some 47, .bin false .sub 2 (.t 46) (.c (.int .i64 1)), some (42, false), []⟩,
      ⟨some 48, .call 60 [(.t 44), (.c (.int .i64 0)), (.t 47)], some (42, false), []⟩,
      ⟨some 49, .un .not (.t 48), some (42, false), []⟩,
      ⟨some 50, .pick (.t 42) (.c (.bool true)) (.t 49), none, []⟩,
      ⟨some 51, .mov (.t 50), none, []⟩,
      ⟨some 52, .fa 30 6 6 1 (.t 1), some (51, false), []⟩,
      ⟨some 53, .load 2 false 1 (.t 52), some (51, false), []⟩,
      ⟨some 54, .call 60 [(.t 53), (.c (.int .i64 0)), (.c (.int .i64 99999))], some (51, false), []⟩,
      ⟨some 55, .un .not (.t 54), some (51, false), []⟩,
      ⟨some 56, .pick (.t 51) (.c (.bool true)) (.t 55), none, []⟩])
    (.cond (.t 56)
      (.seq
      (.region false [2] [
        ⟨some 2, .asg (.c (.int .i64 3)), none, []⟩])
      .ret)
      .skip))
    (.seq
    (.region false [2] [
      ⟨some 2, .asg (.c (.int .i64 0)), none, []⟩])
    .ret))))
  modes := [.lend]
  rets := [⟨2, none⟩] }

/-- loop.example/g00539/laws.lwBig -/
def v38 : VFun := {
  code :=
    (.seq
    (.region false [0] [
      ⟨some 2, .asg (.c (.bool false)), none, []⟩])
    (.seq
    (.region false [2] [
      ⟨some 3, .mov (.t 0), none, []⟩,
      ⟨some 4, .len false 38 (.t 3), none, []⟩,
      ⟨some 5, .bin false .gtr 3 (.t 4) (.c (.int .i64 1048576)), none, []⟩,
      ⟨some 2, .asg (.t 5), none, []⟩])
    .ret))
  modes := [.lend]
  rets := [⟨2, none⟩] }

/-- loop.example/g00539/spec.DrawTurnsTo -/
def v39 : VFun := {
  code :=
    (.seq
    (.region false [0, 2] [
      ⟨some 2, .alloc 30 [(.val (.int .i64 0)), (.val (.int .i64 0)), (.val (.int .i64 0)), (.val (.int .i64 0)), (.val (.int .i64 0)), (.val (.int .i64 0)), (.val (.int .i64 0))], none, []⟩,
      ⟨some 3, .asg (.c (.int .i64 0)), none, []⟩,
      ⟨some 4, .asg (.c (.int .i64 0)), none, []⟩])
    (.seq
    (.region false [0, 2, 5, 6, 7] [
      ⟨some 6, .mov (.t 0), none, []⟩,
      ⟨some 7, .call 74 [(.t 6)], none, []⟩,
      ⟨some 5, .asg (.t 7), none, []⟩])
    (.seq
    (.region false [2, 3, 4] [
      ⟨some 8, .mov (.t 5), none, []⟩,
      ⟨some 9, .call 75 [(.t 8)], none, []⟩,
      ⟨some 10, .mov (.t 5), none, []⟩,
      ⟨some 11, .lit 60 2 1 4 [(.val (.int .i64 0))] [(0, (.c (.int .i64 1))), (1, (.c (.int .i64 3))), (2, (.c (.int .i64 99))), (3, (.c (.int .i64 100)))], none, []⟩,
      ⟨some 12, .call 76 [(.t 10), (.t 11)], none, []⟩,
      ⟨some 13, .mov (.t 5), none, []⟩,
      ⟨some 14, .lit 60 2 1 5 [(.val (.int .i64 0))] [(0, (.c (.int .i64 0))), (1, (.c (.int .i64 5))), (2, (.c (.int .i64 9))), (3, (.c (.int .i64 20))), (4, (.c (.int .i64 21)))], none, []⟩,
      ⟨some 15, .call 76 [(.t 13), (.t 14)], none, []⟩,
      ⟨none, .store 30 7 (.t 2) (.t 9), none, []⟩,
      ⟨some 3, .asg (.t 12), none, []⟩,
      ⟨some 4, .asg (.t 15), none, []⟩])
    .ret)))
  modes := [.lend]
  rets := [⟨2, some (true, 7)⟩, ⟨3, none⟩, ⟨4, none⟩] }

def b40_0 : VC :=
  (.seq
  (.region false [1, 3, 6, 7, 22, 23, 24, 25, 41] [
    ⟨some 25, .bin false .lss 2 (.t 24) (.t 23), none, []⟩])
  (.seq
  (.cond (.t 25)
    .skip
    (.exit 0))
  (.seq
  (.block 1
    (.seq
    (.region false [1, 3, 6, 7, 22, 23, 24, 41] [
      ⟨some 26, .load 30 true 7 (.t 3), none, []⟩,
      ⟨some 27, .fa 30 4 4 1 (.t 3), none, []⟩,
      ⟨some 28, .load 2 false 1 (.t 27), none, []⟩,
      ⟨some 29, .mov (.t 1), none, []⟩,
      ⟨some 30, .bin false .mul 2 (.t 28) (.t 29), none, []⟩,
      ⟨some 31, .fa 30 0 0 1 (.t 3), none, []⟩,
      ⟨some 32, .load 2 false 1 (.t 31), none, []⟩,
      ⟨some 33, .bin false .mul 2 (.t 30) (.t 32), none, []⟩,
      ⟨some 34, .mm false (.t 33) (.c (.int .i64 99999)), none, []⟩,
      ⟨some 35, .call 67 [(.t 26), (.t 34)], none, []⟩,
      ⟨some 36, .fa 30 0 0 1 (.t 3), none, []⟩,
      ⟨none, .store 2 1 (.t 36) (.t 35), none, []⟩])
    (.region false [1, 3, 6, 7, 22, 23, 24, 41] [
      ⟨some 37, .mov (.t 7), none, []⟩,
      ⟨some 38, .fa 30 0 0 1 (.t 3), none, []⟩,
      ⟨some 39, .load 2 false 1 (.t 38), none, []⟩,
      ⟨some 40, .lit 60 2 1 1 [(.val (.int .i64 0))] [(0, (.t 39))], none, []⟩,
      ⟨some 41, .app 60 2 1 8 (.t 37) (.t 40), none, []⟩,
      ⟨some 7, .asg (.t 41), none, []⟩])))
  (.region false [1, 3, 6, 7, 22, 23, 24, 41] [
    ⟨some 42, .bin false .add 2 (.t 24) (.c (.int .i64 1)), none, []⟩,
    ⟨some 24, .mov (.t 42), none, []⟩]))))
def l40_0 : VC := .loop b40_0
/-- loop.example/g00539/impl.TurnsTo -/
def v40 : VFun := {
  code :=
    (.seq
    (.region false [1, 2, 3, 6] [
      ⟨some 3, .box 30 (.t 0), none, []⟩,
      ⟨some 6, .alloc 62 [(.val (.int .i64 0)), (.nl 1)], none, []⟩])
    (.seq
    (.seq
    (.region false [1, 2, 3, 6, 20] [
      ⟨some 8, .load 30 true 7 (.t 3), none, []⟩,
      ⟨some 9, .call 20 [(.t 8)], none, []⟩,
      ⟨some 10, .bin false .neq 2 (.t 9) (.c (.int .i64 0)), none, []⟩,
      ⟨some 11, .mov (.t 10), none, []⟩,
      ⟨some 12, .mov (.t 1), some (11, false), []⟩,
      ⟨some 13, .call 60 [(.t 12), (.c (.int .i64 1)), (.c (.int .i64 99))], some (11, false), []⟩,
      ⟨some 14, .un .not (.t 13), some (11, false), []⟩,
      ⟨some 15, .pick (.t 11) (.c (.bool true)) (.t 14), none, []⟩,
      ⟨some 16, .mov (.t 15), none, []⟩,
      ⟨some 17, .mov (.t 2), some (16, false), []⟩,
      ⟨some 18, .call 60 [(.t 17), (.c (.int .i64 0)), (.c (.int .i64 20))], some (16, false), []⟩,
      ⟨some 19, .un .not (.t 18), some (16, false), []⟩,
      ⟨some 20, .pick (.t 16) (.c (.bool true)) (.t 19), none, []⟩])
    (.cond (.t 20)
      (.seq
      (.region false [6] [
        ⟨some 21, .build 62 [(.val (.int .i64 0)), (.nl 1)] [(0, 0, 1, (.c (.int .i64 3)))], none, []⟩,
        ⟨none, .store 62 2 (.t 6) (.t 21), none, []⟩])
      .ret)
      .skip))
    (.seq
    (.region false [1, 2, 3, 6, 7, 22, 41] [
      ⟨some 22, .lit 60 2 1 0 [(.val (.int .i64 0))] [], none, []⟩,
      ⟨some 7, .asg (.t 22), none, []⟩])
    (.seq
    (.seq
    (.region false [1, 3, 6, 7, 22, 23, 24, 41] [
      ⟨some 23, .mov (.t 2), none, []⟩,
      ⟨some 24, .mov (.c (.int .i64 0)), none, []⟩])
    (.block 0
      l40_0))
    (.seq
    (.region false [6] [
      ⟨some 43, .mov (.t 7), none, []⟩,
      ⟨some 44, .build 62 [(.val (.int .i64 0)), (.nl 1)] [(0, 0, 1, (.c (.int .i64 0))), (1, 1, 1, (.t 43))], none, []⟩,
      ⟨none, .store 62 2 (.t 6) (.t 44), none, []⟩])
    .ret)))))
  modes := [.lend, .lend, .lend]
  rets := [⟨6, some (true, 2)⟩] }

def b41_0 : VC :=
  (.seq
  (.seq
  (.region false [1, 2, 3, 6, 8, 25] [
    ⟨some 24, .mov (.t 2), none, []⟩,
    ⟨some 25, .bin false .gtr 2 (.t 24) (.c (.int .i64 0)), none, []⟩])
  (.cond (.t 25)
    .skip
    (.exit 0)))
  (.seq
  (.block 1
    (.seq
    (.region false [1, 2, 3, 6, 8] [
      ⟨some 28, .fa 30 4 4 1 (.t 3), none, []⟩,
      ⟨some 29, .load 2 false 1 (.t 28), none, []⟩,
      ⟨some 30, .mov (.t 1), none, []⟩,
      ⟨some 31, .bin false .mul 2 (.t 29) (.t 30), none, []⟩,
      ⟨some 32, .fa 30 0 0 1 (.t 3), none, []⟩,
      ⟨some 33, .load 2 false 1 (.t 32), none, []⟩,
      ⟨some 34, .bin false .mul 2 (.t 31) (.t 33), none, []⟩,
      ⟨some 35, .call 77 [(.c (.int .i64 99999)), (.t 34)], none, []⟩,
      ⟨some 36, .call 66 [(.t 3), (.t 35)], none, []⟩,
      ⟨some 37, .fa 30 0 0 1 (.t 3), none, []⟩,
      ⟨none, .store 2 1 (.t 37) (.t 36), none, []⟩])
    (.region false [1, 2, 3, 6, 8] [
      ⟨some 38, .fa 62 1 1 1 (.t 8), none, []⟩,
      ⟨some 39, .load 60 false 1 (.t 38), none, []⟩,
      ⟨some 40, .fa 30 0 0 1 (.t 3), none, []⟩,
      ⟨some 41, .load 2 false 1 (.t 40), none, []⟩,
      ⟨some 42, .lit 60 2 1 1 [(.val (.int .i64 0))] [(0, (.t 41))], none, []⟩,
      ⟨some 43, .app 60 2 1 8 (.t 39) (.t 42), none, []⟩,
      ⟨some 44, .fa 62 1 1 1 (.t 8), none, []⟩,
      ⟨none, .store 60 1 (.t 44) (.t 43), none, []⟩])))
  (.region false [1, 2, 3, 6, 8] [
    ⟨some 26, .mov (.t 2), none, []⟩,
    ⟨some 27, .bin false .sub 2 (.t 26) (.c (.int .i64 1)), none, []⟩,
    ⟨some 2, .asg (.t 27), none, []⟩])))
def l41_0 : VC := .loop b41_0
/-- loop.example/g00539/spec.TurnsTo -/
def v41 : VFun := {
  code :=
    (.seq
    (.region false [1, 2, 3, 6] [
      ⟨some 3, .box 30 (.t 0), none, []⟩,
      ⟨some 6, .alloc 62 [(.val (.int .i64 0)), (.nl 1)], none, []⟩])
    (.seq
    (.seq
    (.region false [1, 2, 3, 6, 7] [
      ⟨some 9, .call 59 [(.t 3)], none, []⟩,
      ⟨some 7, .asg (.t 9), none, []⟩])
    (.seq
    (.region false [1, 2, 3, 6, 7, 11] [
      ⟨some 10, .mov (.t 7), none, []⟩,
      ⟨some 11, .bin false .neq 2 (.t 10) (.c (.int .i64 0)), none, []⟩])
    (.cond (.t 11)
      (.seq
      (.region false [6] [
        ⟨some 12, .mov (.t 7), none, []⟩,
        ⟨some 13, .build 62 [(.val (.int .i64 0)), (.nl 1)] [(0, 0, 1, (.t 12))], none, []⟩,
        ⟨none, .store 62 2 (.t 6) (.t 13), none, []⟩])
      .ret)
      .skip)))
    (.seq
    (.seq
    (.region false [1, 2, 3, 6, 21] [
      ⟨some 14, .mov (.t 1), none, []⟩,
      ⟨some 15, .call 57 [(.t 14), (.c (.int .i64 1)), (.c (.int .i64 99))], none, []⟩,
      ⟨some 16, .un .not (.t 15), none, []⟩,
      ⟨some 17, .mov (.t 16), none, []⟩,
      ⟨some 18, .mov (.t 2), some (17, false), []⟩,
      ⟨some 19, .call 57 [(.t 18), (.c (.int .i64 0)), (.c (.int .i64 20))], some (17, false), []⟩,
      ⟨some 20, .un .not (.t 19), some (17, false), []⟩,
      ⟨some 21, .pick (.t 17) (.c (.bool true)) (.t 20), none, []⟩])
    (.cond (.t 21)
      (.seq
      (.region false [6] [
        ⟨some 22, .build 62 [(.val (.int .i64 0)), (.nl 1)] [(0, 0, 1, (.c (.int .i64 3)))], none, []⟩,
        ⟨none, .store 62 2 (.t 6) (.t 22), none, []⟩])
      .ret)
      .skip))
    (.seq
    (.region false [1, 2, 3, 6, 8] [
      ⟨some 23, .build 62 [(.val (.int .i64 0)), (.nl 1)] [], none, []⟩,
      ⟨some 8, .alloc 62 [(.val (.int .i64 0)), (.nl 1)], none, []⟩,
      ⟨none, .store 62 2 (.t 8) (.t 23), none, []⟩])
    (.seq
    (.block 0
      l41_0)
    (.seq
    (.region false [6] [
      ⟨some 45, .load 62 true 2 (.t 8), none, []⟩,
      ⟨none, .store 62 2 (.t 6) (.t 45), none, []⟩])
    .ret))))))
  modes := [.lend, .lend, .lend]
  rets := [⟨6, some (true, 2)⟩] }

def b42_0 : VC :=
  (.seq
  (.seq
  (.region false [0, 1, 5, 14] [
    ⟨some 11, .mov (.t 5), none, []⟩,
    ⟨some 12, .mov (.t 0), none, []⟩,
    ⟨some 13, .len false 60 (.t 12), none, []⟩,
    ⟨some 14, .bin false .lss 3 (.t 11) (.t 13), none, []⟩])
  (.cond (.t 14)
    .skip
    (.exit 0)))
  (.seq
  (.block 1
    (.seq
    (.region true [0, 1, 5, 25] [
      ⟨some 17, .mov (.t 0), none, []⟩,
      ⟨some 18, .mov (.t 5), none, [0]⟩,
      ⟨some 19, .ia 60 2 1 (.t 17) (.t 18), none, []⟩,
      ⟨some 20, .load 2 false 1 (.t 19), none, []⟩,
      ⟨some 21, .mov (.t 1), none, [0, 1, 2, 3]⟩,
      ⟨some 22, .mov (.t 5), none, [0, 1, 2, 3, 4]⟩,
      ⟨some 23, .ia 60 2 1 (.t 21) (.t 22), none, [0, 1, 2, 3]⟩,
      ⟨some 24, .load 2 false 1 (.t 23), none, [0, 1, 2, 3]⟩,
      ⟨some 25, .bin false .neq 2 (.t 20) (.t 24), none, []⟩])
    (.cond (.t 25)
      (.seq
      (.region false [4] [
        ⟨some 4, .asg (.c (.bool false)), none, []⟩])
      .ret)
      .skip)))
  (.region false [0, 1, 5] [
    ⟨some 15, .mov (.t 5), none, []⟩,
    ⟨some 16, .bin false .add 3 (.t 15) (.c (.int .i64 1)), none, []⟩,
    ⟨some 5, .asg (.t 16), none, []⟩])))
def l42_0 : VC := .loop b42_0
/-- loop.example/g00539/laws.lwNums -/
def v42 : VFun := {
  code :=
    (.seq
    (.region false [0, 1] [
      ⟨some 4, .asg (.c (.bool false)), none, []⟩])
    (.seq
    (.seq
    (.region false [0, 1, 10] [
      ⟨some 6, .mov (.t 0), none, []⟩,
      ⟨some 7, .len false 60 (.t 6), none, []⟩,
      ⟨some 8, .mov (.t 1), none, []⟩,
      ⟨some 9, .len false 60 (.t 8), none, []⟩,
      ⟨some 10, .bin false .neq 3 (.t 7) (.t 9), none, []⟩])
    (.cond (.t 10)
      (.seq
      (.region false [4] [
        ⟨some 4, .asg (.c (.bool false)), none, []⟩])
      .ret)
      .skip))
    (.seq
    (.seq
    (.region false [0, 1, 5] [
      ⟨some 5, .asg (.c (.int .i64 0)), none, []⟩])
    (.block 0
      l42_0))
    (.seq
    (.region false [4] [
      ⟨some 4, .asg (.c (.bool true)), none, []⟩])
    .ret))))
  modes := [.lend, .lend]
  rets := [⟨4, none⟩] }

/-- loop.example/g00539/spec.l1In -/
def v57 : VFun := {
  code :=
    (.seq
    (.region false [0, 1, 2] [
      ⟨some 6, .asg (.c (.bool false)), none, []⟩])
    (.seq
    (.region false [6] [
      ⟨some 7, .mov (.t 0), none, []⟩,
      ⟨some 8, .mov (.t 1), none, []⟩,
      ⟨some 9, .bin false .geq 2 (.t 7) (.t 8), none, []⟩,
      ⟨some 10, .mov (.t 9), none, []⟩,
      ⟨some 11, .mov (.t 0), some (10, true), []⟩,
      ⟨some 12, .mov (.t 2), some (10, true), []⟩,
      ⟨some 13, .bin false .leq 2 (.t 11) (.t 12), some (10, true), []⟩,
      ⟨some 14, .pick (.t 10) (.t 13) (.c (.bool false)), none, []⟩,
      ⟨some 6, .asg (.t 14), none, []⟩])
    .ret))
  modes := [.lend, .lend, .lend]
  rets := [⟨6, none⟩] }

/-- loop.example/g00539/impl.isLevel -/
def v58 : VFun := {
  code :=
    (.seq
    (.region false [0] [
      ⟨some 2, .asg (.c (.bool false)), none, []⟩])
    (.seq
    (.region false [2] [
      ⟨some 3, .mov (.t 0), none, []⟩,
      ⟨some 4, .call 60 [(.t 3), (.c (.int .i64 1)), (.c (.int .i64 9999))], none, []⟩,
      ⟨some 2, .asg (.t 4), none, []⟩])
    .ret))
  modes := [.lend]
  rets := [⟨2, none⟩] }

/-- loop.example/g00539/spec.l12Fault -/
def v59 : VFun := {
  code :=
    (.seq
    (.region false [0] [
      ⟨some 2, .asg (.c (.int .i64 0)), none, []⟩])
    (.seq
    (.seq
    (.region true [73] [
      ⟨some 3, .mov (.t 0), none, []⟩,
      ⟨some 4, .nilc (.t 3), none, []⟩,
      ⟨some 5, .fa 30 1 1 1 (.t 4), none, []⟩,
      ⟨some 6, .load 2 false 1 (.t 5), none, []⟩,
      ⟨some 7, .call 57 [(.t 6), (.c (.int .i64 1)), (.c (.int .i64 9999))], none, []⟩,
      ⟨some 8, .un .not (.t 7), none, []⟩,
      ⟨some 9, .mov (.t 8), none, []⟩,
      ⟨some 10, .mov (.t 0), some (9, false), []⟩,
      ⟨some 11, .nilc (.t 10), some (9, false), []⟩,
      ⟨some 12, .fa 30 2 2 1 (.t 11), some (9, false), []⟩,
      ⟨some 13, .load 2 false 1 (.t 12), some (9, false), []⟩,
      ⟨some 14, .mov (.t 0), some (9, false), [7, 8, 9, 10]⟩,
      ⟨some 15, .nilc (.t 14), some (9, false), [7, 8, 9, 10]⟩,
      ⟨some 16, .fa 30 1 1 1 (.t 15), some (9, false), [7, 8, 9, 10]⟩,
      ⟨some 17, .load 2 false 1 (.t 16), some (9, false), [7, 8, 9, 10]⟩,
      ⟨some 18, .call 57 [(.t 13), (.t 17), (.c (.int .i64 9999))], some (9, false), []⟩,
      ⟨some 19, .un .not (.t 18), some (9, false), []⟩,
      ⟨some 20, .pick (.t 9) (.c (.bool true)) (.t 19), none, []⟩,
      ⟨some 21, .mov (.t 20), none, []⟩,
      ⟨some 22, .mov (.t 0), some (21, false), []⟩,
      ⟨some 23, .nilc (.t 22), some (21, false), []⟩,
      ⟨some 24, .fa 30 0 0 1 (.t 23), some (21, false), []⟩,
      ⟨some 25, .load 2 false 1 (.t 24), some (21, false), []⟩,
      ⟨some 26, .mov (.t 0), some (21, false), [19, 20, 21, 22]⟩,
      ⟨some 27, .nilc (.t 26), some (21, false), [19, 20, 21, 22]⟩,
      ⟨some 28, .fa 30 1 1 1 (.t 27), some (21, false), [19, 20, 21, 22]⟩,
      ⟨some 29, .load 2 false 1 (.t 28), some (21, false), [19, 20, 21, 22]⟩,
      ⟨some 30, .mov (.t 0), some (21, false), [19, 20, 21, 22, 23, 24, 25, 26]⟩,
      ⟨some 31, .nilc (.t 30), some (21, false), [19, 20, 21, 22, 23, 24, 25, 26]⟩,
      ⟨some 32, .fa 30 2 2 1 (.t 31), some (21, false), [19, 20, 21, 22, 23, 24, 25, 26]⟩,
      ⟨some 33, .load 2 false 1 (.t 32), some (21, false), [19, 20, 21, 22, 23, 24, 25, 26]⟩,
      ⟨some 34, .call 57 [(.t 25), (.t 29), (.t 33)], some (21, false), []⟩,
      ⟨some 35, .un .not (.t 34), some (21, false), []⟩,
      ⟨some 36, .pick (.t 21) (.c (.bool true)) (.t 35), none, []⟩,
      ⟨some 37, .mov (.t 36), none, []⟩,
      ⟨some 38, .mov (.t 0), some (37, false), []⟩,
      ⟨some 39, .nilc (.t 38), some (37, false), []⟩,
      ⟨some 40, .fa 30 3 3 1 (.t 39), some (37, false), []⟩,
      ⟨some 41, .load 2 false 1 (.t 40), some (37, false), []⟩,
      ⟨some 42, .call 57 [(.t 41), (.c (.int .i64 1)), (.c (.int .i64 999))], some (37, false), []⟩,
      ⟨some 43, .un .not (.t 42), some (37, false), []⟩,
      ⟨some 44, .pick (.t 37) (.c (.bool true)) (.t 43), none, []⟩,
      ⟨some 45, .mov (.t 44), none, []⟩,
      ⟨some 46, .mov (.t 0), some (45, false), []⟩,
      ⟨some 47, .nilc (.t 46), some (45, false), []⟩,
      ⟨some 48, .fa 30 4 4 1 (.t 47), some (45, false), []⟩,
      ⟨some 49, .load 2 false 1 (.t 48), some (45, false), []⟩,
      ⟨some 50, .call 57 [(.t 49), (.c (.int .i64 1)), (.c (.int .i64 99))], some (45, false), []⟩,
      ⟨some 51, .un .not (.t 50), some (45, false), []⟩,
      ⟨some 52, .pick (.t 45) (.c (.bool true)) (.t 51), none, []⟩,
      ⟨some 53, .mov (.t 52), none, []⟩,
      ⟨some 54, .mov (.t 0), some (53, false), []⟩,
      ⟨some 55, .nilc (.t 54), some (53, false), []⟩,
      ⟨some 56, .fa 30 5 5 1 (.t 55), some (53, false), []⟩,
      ⟨some 57, .load 2 false 1 (.t 56), some (53, false), []⟩,
      ⟨some 58, .mov (.t 0), some (53, false), [51, 52, 53, 54]⟩,
      ⟨some 59, .nilc (.t 58), some (53, false), [51, 52, 53, 54]⟩,
      ⟨some 60, .fa 30 4 4 1 (.t 59), some (53, false), [51, 52, 53, 54]⟩,
      ⟨some 61, .load 2 false 1 (.t 60), some (53, false), [51, 52, 53, 54]⟩,
      ⟨some 62, .bin false .sub 2 (.t 61) (.c (.int .i64 1)), some (53, false), [51, 52, 53, 54]⟩,
      ⟨some 63, .call 57 [(.t 57), (.c (.int .i64 0)), (.t 62)], some (53, false), []⟩,
      ⟨some 64, .un .not (.t 63), some (53, false), []⟩,
      ⟨some 65, .pick (.t 53) (.c (.bool true)) (.t 64), none, []⟩,
      ⟨some 66, .mov (.t 65), none, []⟩,
      ⟨some 67, .mov (.t 0), some (66, false), []⟩,
      ⟨some 68, .nilc (.t 67), some (66, false), []⟩,
      ⟨some 69, .fa 30 6 6 1 (.t 68), some (66, false), []⟩,
      ⟨some 70, .load 2 false 1 (.t 69), some (66, false), []⟩,
      ⟨some 71, .call 57 [(.t 70), (.c (.int .i64 0)), (.c (.int .i64 99999))], some (66, false), []⟩,
      ⟨some 72, .un .not (.t 71), some (66, false), []⟩,
      ⟨some 73, .pick (.t 66) (.c (.bool true)) (.t 72), none, []⟩])
    (.cond (.t 73)
      (.seq
      (.region false [2] [
        ⟨some 2, .asg (.c (.int .i64 3)), none, []⟩])
      .ret)
      .skip))
    (.seq
    (.region false [2] [
      ⟨some 2, .asg (.c (.int .i64 0)), none, []⟩])
    .ret)))
  modes := [.lend]
  rets := [⟨2, none⟩] }

/-- loop.example/g00539/impl.in -/
def v60 : VFun := {
  code :=
    (.seq
    (.region false [0, 1, 2] [
      ⟨some 6, .asg (.c (.bool false)), none, []⟩])
    (.seq
    (.region false [6] [
      ⟨some 7, .mov (.t 0), none, []⟩,
      ⟨some 8, .mov (.t 1), none, []⟩,
      ⟨some 9, .bin false .geq 2 (.t 7) (.t 8), none, []⟩,
      ⟨some 10, .mov (.t 9), none, []⟩,
      ⟨some 11, .mov (.t 0), some (10, true), []⟩,
      ⟨some 12, .mov (.t 2), some (10, true), []⟩,
      ⟨some 13, .bin false .leq 2 (.t 11) (.t 12), some (10, true), []⟩,
      ⟨some 14, .pick (.t 10) (.t 13) (.c (.bool false)), none, []⟩,
      ⟨some 6, .asg (.t 14), none, []⟩])
    .ret))
  modes := [.lend, .lend, .lend]
  rets := [⟨6, none⟩] }

/-- loop.example/g00539/spec.l12Next -/
def v66 : VFun := {
  code :=
    (.seq
    (.region false [0, 1] [
      ⟨some 4, .asg (.c (.int .i64 0)), none, []⟩])
    (.seq
    (.region true [0, 5] [
      ⟨some 6, .mov (.t 0), none, []⟩,
      ⟨some 7, .nilc (.t 6), none, []⟩,
      ⟨some 8, .fa 30 0 0 1 (.t 7), none, []⟩,
      ⟨some 9, .load 2 false 1 (.t 8), none, []⟩,
      ⟨some 10, .mov (.t 0), none, [0, 1, 2, 3]⟩,
      ⟨some 11, .nilc (.t 10), none, [0, 1, 2, 3]⟩,
      ⟨some 12, .fa 30 4 4 1 (.t 11), none, [0, 1, 2, 3]⟩,
      ⟨some 13, .load 2 false 1 (.t 12), none, [0, 1, 2, 3]⟩,
      ⟨some 14, .bin false .mul 2 (.t 9) (.t 13), none, []⟩,
      ⟨some 15, .mov (.t 0), none, [0, 1, 2, 3, 4, 5, 6, 7, 8]⟩,
      ⟨some 16, .nilc (.t 15), none, [0, 1, 2, 3, 4, 5, 6, 7, 8]⟩,
      ⟨some 17, .fa 30 3 3 1 (.t 16), none, [0, 1, 2, 3, 4, 5, 6, 7, 8]⟩,
      ⟨some 18, .load 2 false 1 (.t 17), none, [0, 1, 2, 3, 4, 5, 6, 7, 8]⟩,
      ⟨some 19, .bin false .mul 2 (.t 14) (.t 18), none, []⟩,
      ⟨some 20, .mov (.t 1), none, [0, 1, 2, 3, 4, 5, 6, 7, 8, 9, 10, 11, 12, 13]⟩,
      ⟨some 21, .call 87 [(.c (.int .i64 1)), (.t 20)], none, [0, 1, 2, 3, 4, 5, 6, 7, 8, 9, 10, 11, 12, 13]⟩,
      ⟨some 22, .bin false .quo 2 (.t 19) (.t 21), none, []⟩,
      ⟨some 5, .asg (.t 22), none, []⟩])
    (.seq
    (.region true [0, 5] [
      ⟨some 23, .mov (.t 0), none, []⟩,
      ⟨some 24, .nilc (.t 23), none, []⟩,
      ⟨some 25, .fa 30 0 0 1 (.t 24), none, []⟩,
      ⟨some 26, .load 2 false 1 (.t 25), none, []⟩,
      ⟨some 27, .bin false .mul 2 (.c (.int .i64 4)) (.t 26), none, []⟩,
      ⟨some 28, .mov (.t 0), none, [0, 1, 2, 3, 4]⟩,
      ⟨some 29, .nilc (.t 28), none, [0, 1, 2, 3, 4]⟩,
      ⟨some 30, .fa 30 0 0 1 (.t 29), none, [0, 1, 2, 3, 4]⟩,
      ⟨some 31, .load 2 false 1 (.t 30), none, [0, 1, 2, 3, 4]⟩,
      ⟨some 32, .bin false .add 2 (.t 31) (.c (.int .i64 3)), none, [0, 1, 2, 3, 4]⟩,
      ⟨some 33, .bin false .quo 2 (.t 32) (.c (.int .i64 4)), none, [0, 1, 2, 3, 4]⟩,
      ⟨some 34, .mov (.t 5), none, [0, 1, 2, 3, 4, 5, 6, 7, 8, 9, 10]⟩,
      ⟨some 35, .call 87 [(.t 33), (.t 34)], none, [0, 1, 2, 3, 4]⟩,
      ⟨some 36, .call 77 [(.t 27), (.t 35)], none, []⟩,
      ⟨some 5, .asg (.t 36), none, []⟩])
    (.seq
    (.region true [4] [
      ⟨some 37, .mov (.t 0), none, []⟩,
      ⟨some 38, .nilc (.t 37), none, []⟩,
      ⟨some 39, .fa 30 2 2 1 (.t 38), none, []⟩,
      ⟨some 40, .load 2 false 1 (.t 39), none, []⟩,
      ⟨some 41, .mov (.t 0), none, [0, 1, 2, 3]⟩,
      ⟨some 42, .nilc (.t 41), none, [0, 1, 2, 3]⟩,
      ⟨some 43, .fa 30 1 1 1 (.t 42), none, [0, 1, 2, 3]⟩,
      ⟨some 44, .load 2 false 1 (.t 43), none, [0, 1, 2, 3]⟩,
      ⟨some 45, .mov (.t 5), none, [0, 1, 2, 3, 4, 5, 6, 7]⟩,
      ⟨some 46, .call 87 [(.t 44), (.t 45)], none, [0, 1, 2, 3]⟩,
      ⟨some 47, .call 77 [(.t 40), (.t 46)], none, []⟩,
      ⟨some 4, .asg (.t 47), none, []⟩])
    .ret))))
  modes := [.lend, .lend]
  rets := [⟨4, none⟩] }

/-- loop.example/g00539/impl.nextLevel -/
def v67 : VFun := {
  code :=
    (.seq
    (.region false [1, 2] [
      ⟨some 2, .box 30 (.t 0), none, []⟩,
      ⟨some 4, .asg (.c (.int .i64 0)), none, []⟩])
    (.seq
    (.region false [2, 5] [
      ⟨some 6, .fa 30 0 0 1 (.t 2), none, []⟩,
      ⟨some 7, .load 2 false 1 (.t 6), none, []⟩,
      ⟨some 8, .fa 30 4 4 1 (.t 2), none, []⟩,
      ⟨some 9, .load 2 false 1 (.t 8), none, []⟩,
      ⟨some 10, .bin false .mul 2 (.t 7) (.t 9), none, []⟩,
      ⟨some 11, .fa 30 3 3 1 (.t 2), none, []⟩,
      ⟨some 12, .load 2 false 1 (.t 11), none, []⟩,
      ⟨some 13, .bin false .mul 2 (.t 10) (.t 12), none, []⟩,
      ⟨some 14, .mov (.t 1), none, []⟩,
      ⟨some 15, .mm true (.t 14) (.c (.int .i64 1)), none, []⟩,
      ⟨some 16, .bin false .quo 2 (.t 13) (.t 15), none, []⟩,
      ⟨some 5, .asg (.t 16), none, []⟩])
    (.seq
    (.region false [2, 5] [
      ⟨some 17, .mov (.t 5), none, []⟩,
      ⟨some 18, .fa 30 0 0 1 (.t 2), none, []⟩,
      ⟨some 19, .load 2 false 1 (.t 18), none, []⟩,
      ⟨some 20, .bin false .mul 2 (.c (.int .i64 4)) (.t 19), none, []⟩,
      ⟨some 21, .mm false (.t 17) (.t 20), none, []⟩,
      ⟨some 22, .fa 30 0 0 1 (.t 2), none, []⟩,
      ⟨some 23, .load 2 false 1 (.t 22), none, []⟩,
      ⟨some 24, .bin false .add 2 (.t 23) (.c (.int .i64 4)), none, []⟩,
      ⟨some 25, .bin false .sub 2 (.t 24) (.c (.int .i64 1)), none, []⟩,
      ⟨some 26, .bin false .quo 2 (.t 25) (.c (.int .i64 4)), none, []⟩,
      ⟨some 27, .mm true (.t 21) (.t 26), none, []⟩,
      ⟨some 5, .asg (.t 27), none, []⟩])
    (.seq
    (.region false [4] [
      ⟨some 28, .mov (.t 5), none, []⟩,
      ⟨some 29, .fa 30 2 2 1 (.t 2), none, []⟩,
      ⟨some 30, .load 2 false 1 (.t 29), none, []⟩,
      ⟨some 31, .mm false (.t 28) (.t 30), none, []⟩,
      ⟨some 32, .fa 30 1 1 1 (.t 2), none, []⟩,
      ⟨some 33, .load 2 false 1 (.t 32), none, []⟩,
      ⟨some 34, .mm true (.t 31) (.t 33), none, []⟩,
      ⟨some 4, .asg (.t 34), none, []⟩])
    .ret))))
  modes := [.lend, .lend]
  rets := [⟨4, none⟩] }

/-- loop.example/g00539/spec.l1Source -/
def v74 : VFun := {
  code :=
    (.seq
    (.region false [0] [
      ⟨some 2, .asg (.c (.pointer none)), none, []⟩])
    (.seq
    (.region false [2, 5] [
      ⟨some 3, .mov (.t 0), none, []⟩,
      ⟨some 4, .build 110 [(.nl 1), (.val (.int .i64 0))] [(0, 0, 1, (.t 3))], none, []⟩,
      ⟨some 5, .box 110 (.t 4), none, []⟩,
      ⟨some 2, .asg (.t 5), none, []⟩])
    .ret))
  modes := [.lend]
  rets := [⟨2, none⟩] }

/-- loop.example/g00539/spec.l12Bent -/
def v75 : VFun := {
  code :=
    (.seq
    (.region false [0, 2] [
      ⟨some 2, .alloc 30 [(.val (.int .i64 0)), (.val (.int .i64 0)), (.val (.int .i64 0)), (.val (.int .i64 0)), (.val (.int .i64 0)), (.val (.int .i64 0)), (.val (.int .i64 0))], none, []⟩])
    (.seq
    (.region false [0, 2, 3] [
      ⟨some 4, .mov (.t 0), none, []⟩,
      ⟨some 5, .call 92 [(.t 4)], none, []⟩,
      ⟨some 3, .alloc 30 [(.val (.int .i64 0)), (.val (.int .i64 0)), (.val (.int .i64 0)), (.val (.int .i64 0)), (.val (.int .i64 0)), (.val (.int .i64 0)), (.val (.int .i64 0))], none, []⟩,
      ⟨none, .store 30 7 (.t 3) (.t 5), none, []⟩])
    (.seq
    (.seq
    (.region false [0, 2, 3, 7] [
      ⟨some 6, .mov (.t 0), none, []⟩,
      ⟨some 7, .call 85 [(.t 6), (.c (.int .i64 12))], none, []⟩])
    (.block 0
      (.seq
      (.region false [0, 2, 3, 7, 8] [
        ⟨some 9, .bin false .eql 2 (.t 7) (.c (.int .i64 0)), none, []⟩,
        ⟨some 8, .asg (.t 9), none, []⟩])
      (.cond (.t 8)
        (.region false [0, 2, 3] [
          ⟨some 10, .mov (.t 0), none, []⟩,
          ⟨some 11, .lit 60 2 1 2 [(.val (.int .i64 0))] [(0, (.c (.int .i64 0))), (1, (.c (.int .i64 10000)))], none, []⟩,
          ⟨some 12, .call 76 [(.t 10), (.t 11)], none, []⟩,
          ⟨some 13, .fa 30 0 0 1 (.t 3), none, []⟩,
          ⟨none, .store 2 1 (.t 13) (.t 12), none, []⟩])
        (.seq
        (.region false [0, 2, 3, 7, 14] [
          ⟨some 15, .bin false .eql 2 (.t 7) (.c (.int .i64 1)), none, []⟩,
          ⟨some 14, .asg (.t 15), none, []⟩])
        (.cond (.t 14)
          (.region false [0, 2, 3] [
            ⟨some 16, .mov (.t 0), none, []⟩,
            ⟨some 17, .fa 30 4 4 1 (.t 3), none, []⟩,
            ⟨some 18, .load 2 false 1 (.t 17), none, []⟩,
            ⟨some 19, .lit 60 2 1 2 [(.val (.int .i64 0))] [(0, (.c (.int .i64 (-1)))), (1, (.t 18))], none, []⟩,
            ⟨some 20, .call 76 [(.t 16), (.t 19)], none, []⟩,
            ⟨some 21, .fa 30 5 5 1 (.t 3), none, []⟩,
            ⟨none, .store 2 1 (.t 21) (.t 20), none, []⟩])
          (.seq
          (.region false [0, 2, 3, 7, 22] [
            ⟨some 23, .bin false .eql 2 (.t 7) (.c (.int .i64 2)), none, []⟩,
            ⟨some 22, .asg (.t 23), none, []⟩])
          (.cond (.t 22)
            (.region false [0, 2, 3] [
              ⟨some 24, .mov (.t 0), none, []⟩,
              ⟨some 25, .lit 60 2 1 2 [(.val (.int .i64 0))] [(0, (.c (.int .i64 0))), (1, (.c (.int .i64 1000)))], none, []⟩,
              ⟨some 26, .call 76 [(.t 24), (.t 25)], none, []⟩,
              ⟨some 27, .fa 30 3 3 1 (.t 3), none, []⟩,
              ⟨none, .store 2 1 (.t 27) (.t 26), none, []⟩])
            (.seq
            (.region false [0, 2, 3, 28] [
              ⟨some 29, .bin false .eql 2 (.t 7) (.c (.int .i64 3)), none, []⟩,
              ⟨some 28, .asg (.t 29), none, []⟩])
            (.cond (.t 28)
              (.region false [0, 2, 3] [
                ⟨some 30, .mov (.t 0), none, []⟩,
                ⟨some 31, .lit 60 2 1 2 [(.val (.int .i64 0))] [(0, (.c (.int .i64 0))), (1, (.c (.int .i64 10000)))], none, []⟩,
                ⟨some 32, .call 76 [(.t 30), (.t 31)], none, []⟩,
                ⟨some 33, .fa 30 2 2 1 (.t 3), none, []⟩,
                ⟨none, .store 2 1 (.t 33) (.t 32), none, []⟩])
              .skip))))))))))
    (.seq
    (.region false [0, 2] [
      ⟨some 34, .load 30 true 7 (.t 3), none, []⟩,
      ⟨none, .store 30 7 (.t 2) (.t 34), none, []⟩])
    .ret))))
  modes := [.io]
  rets := [⟨2, some (true, 7)⟩] }

/-- loop.example/g00539/spec.l1Pick -/
def v76 : VFun := {
  code :=
    (.seq
    (.region false [0, 1] [
      ⟨some 4, .asg (.c (.int .i64 0)), none, []⟩])
    (.seq
    (.region false [0, 4] [
      ⟨some 5, .mov (.t 1), none, []⟩,
      ⟨some 6, .mov (.t 0), none, []⟩,
      ⟨some 7, .mov (.t 1), none, []⟩,
      ⟨some 8, .len false 60 (.t 7), none, []⟩,
      ⟨some 9, .call 85 [(.t 6), (.t 8)], none, []⟩,
      ⟨some 10, .ia 60 2 1 (.t 5) (.t 9), none, []⟩,
      ⟨some 11, .load 2 false 1 (.t 10), none, []⟩,
      ⟨some 4, .asg (.t 11), none, []⟩])
    .ret))
  modes := [.io, .lend]
  rets := [⟨4, none⟩] }

/-- loop.example/g00539/spec.l1Min -/
def v77 : VFun := {
  code :=
    (.seq
    (.region false [0, 1] [
      ⟨some 4, .asg (.c (.int .i64 0)), none, []⟩])
    (.seq
    (.seq
    (.region false [0, 1, 7] [
      ⟨some 5, .mov (.t 0), none, []⟩,
      ⟨some 6, .mov (.t 1), none, []⟩,
      ⟨some 7, .bin false .lss 2 (.t 5) (.t 6), none, []⟩])
    (.cond (.t 7)
      (.seq
      (.region false [4] [
        ⟨some 8, .mov (.t 0), none, []⟩,
        ⟨some 4, .asg (.t 8), none, []⟩])
      .ret)
      .skip))
    (.seq
    (.region false [4] [
      ⟨some 9, .mov (.t 1), none, []⟩,
      ⟨some 4, .asg (.t 9), none, []⟩])
    .ret)))
  modes := [.lend, .lend]
  rets := [⟨4, none⟩] }

/-- loop.example/g00539/spec.l1Next -/
def v85 : VFun := {
  code :=
    (.seq
    (.region false [0, 1] [
      ⟨some 4, .asg (.c (.int .i64 0)), none, []⟩])
    (.seq
    (.region false [0, 1] [
      ⟨some 8, .mov (.t 0), none, []⟩,
      ⟨some 9, .mov (.t 0), none, []⟩,
      ⟨some 10, .nilc (.t 9), none, []⟩,
      ⟨some 11, .fa 110 1 1 1 (.t 10), none, []⟩,
      ⟨some 12, .load 2 false 1 (.t 11), none, []⟩,
      ⟨some 13, .bin false .add 2 (.t 12) (.c (.int .i64 1)), none, []⟩,
      ⟨some 14, .nilc (.t 8), none, []⟩,
      ⟨some 15, .fa 110 1 1 1 (.t 14), none, []⟩,
      ⟨none, .store 2 1 (.t 15) (.t 13), none, []⟩])
    (.seq
    (.seq
    (.region false [0, 1, 17] [
      ⟨some 16, .mov (.t 1), none, []⟩,
      ⟨some 17, .bin false .lss 2 (.t 16) (.c (.int .i64 1)), none, []⟩])
    (.cond (.t 17)
      (.seq
      (.region false [0, 4] [
        ⟨some 4, .asg (.c (.int .i64 0)), none, []⟩])
      .ret)
      .skip))
    (.seq
    (.region false [0, 1, 5] [
      ⟨some 18, .mov (.t 0), none, []⟩,
      ⟨some 19, .nilc (.t 18), none, []⟩,
      ⟨some 20, .fa 110 1 1 1 (.t 19), none, []⟩,
      ⟨some 21, .load 2 false 1 (.t 20), none, []⟩,
      ⟨some 22, .bin false .sub 2 (.t 21) (.c (.int .i64 1)), none, []⟩,
      ⟨some 5, .asg (.t 22), none, []⟩])
    (.seq
    (.region false [0, 1, 5, 6] [
      ⟨some 23, .mov (.t 0), none, []⟩,
      ⟨some 24, .nilc (.t 23), none, []⟩,
      ⟨some 25, .fa 110 0 0 1 (.t 24), none, []⟩,
      ⟨some 26, .load 38 false 1 (.t 25), none, []⟩,
      ⟨some 27, .len false 38 (.t 26), none, []⟩,
      ⟨some 6, .asg (.t 27), none, []⟩])
    (.seq
    (.seq
    (.region false [0, 1, 5, 6, 29] [
      ⟨some 28, .mov (.t 6), none, []⟩,
      ⟨some 29, .bin false .eql 2 (.t 28) (.c (.int .i64 0)), none, []⟩])
    (.cond (.t 29)
      (.seq
      (.region false [0, 4] [
        ⟨some 30, .mov (.t 5), none, []⟩,
        ⟨some 31, .bin false .mul 2 (.t 30) (.c (.int .i64 7)), none, []⟩,
        ⟨some 32, .mov (.t 1), none, []⟩,
        ⟨some 33, .bin false .rem 2 (.t 31) (.t 32), none, []⟩,
        ⟨some 4, .asg (.t 33), none, []⟩])
      .ret)
      .skip))
    (.seq
    (.region true [0, 1, 5, 6, 7] [
      ⟨some 34, .mov (.t 0), none, []⟩,
      ⟨some 35, .nilc (.t 34), none, []⟩,
      ⟨some 36, .fa 110 0 0 1 (.t 35), none, []⟩,
      ⟨some 37, .load 38 false 1 (.t 36), none, []⟩,
      ⟨some 38, .mov (.t 5), none, [0, 1, 2, 3]⟩,
      ⟨some 39, .mov (.t 6), none, [0, 1, 2, 3, 4]⟩,
      ⟨some 40, .bin false .rem 2 (.t 38) (.t 39), none, [0, 1, 2, 3]⟩,
      ⟨some 41, .ia 38 5 1 (.t 37) (.t 40), none, []⟩,
      ⟨some 42, .load 5 false 1 (.t 41), none, []⟩,
      ⟨some 43, .conv 5 2 .i64 (.t 42), none, []⟩,
      ⟨some 44, .mov (.t 5), none, [0, 1, 2, 3, 4, 5, 6, 7, 8, 9]⟩,
      ⟨some 45, .mov (.t 6), none, [0, 1, 2, 3, 4, 5, 6, 7, 8, 9, 10]⟩,
      ⟨some 46, .bin false .quo 2 (.t 44) (.t 45), none, [0, 1, 2, 3, 4, 5, 6, 7, 8, 9]⟩,
      ⟨some 47, .bin false .mul 2 (.t 46) (.c (.int .i64 37)), none, [0, 1, 2, 3, 4, 5, 6, 7, 8, 9]⟩,
      ⟨some 48, .bin false .add 2 (.t 43) (.t 47), none, []⟩,
      ⟨some 7, .asg (.t 48), none, []⟩])
    (.seq
    (.seq
    (.region false [0, 1, 5, 6, 7, 50] [
      ⟨some 49, .mov (.t 1), none, []⟩,
      ⟨some 50, .bin false .gtr 2 (.t 49) (.c (.int .i64 200)), none, []⟩])
    (.cond (.t 50)
      (.region true [0, 1, 7] [
        ⟨some 51, .mov (.t 7), none, []⟩,
        ⟨some 52, .bin false .mul 2 (.t 51) (.c (.int .i64 251)), none, []⟩,
        ⟨some 53, .mov (.t 0), none, [0, 1]⟩,
        ⟨some 54, .nilc (.t 53), none, [0, 1]⟩,
        ⟨some 55, .fa 110 0 0 1 (.t 54), none, [0, 1]⟩,
        ⟨some 56, .load 38 false 1 (.t 55), none, [0, 1]⟩,
        ⟨some 57, .mov (.t 5), none, [0, 1, 2, 3, 4, 5]⟩,
        ⟨some 58, .bin false .add 2 (.t 57) (.c (.int .i64 1)), none, [0, 1, 2, 3, 4, 5]⟩,
        ⟨some 59, .mov (.t 6), none, [0, 1, 2, 3, 4, 5, 6, 7]⟩,
        ⟨some 60, .bin false .rem 2 (.t 58) (.t 59), none, [0, 1, 2, 3, 4, 5]⟩,
        ⟨some 61, .ia 38 5 1 (.t 56) (.t 60), none, [0, 1]⟩,
        ⟨some 62, .load 5 false 1 (.t 61), none, [0, 1]⟩,
        ⟨some 63, .conv 5 2 .i64 (.t 62), none, [0, 1]⟩,
        ⟨some 64, .bin false .mul 2 (.t 63) (.c (.int .i64 13)), none, [0, 1]⟩,
        ⟨some 65, .bin false .add 2 (.t 52) (.t 64), none, []⟩,
        ⟨some 66, .mov (.t 5), none, [0, 1, 2, 3, 4, 5, 6, 7, 8, 9, 10, 11, 12, 13, 14]⟩,
        ⟨some 67, .bin false .add 2 (.t 65) (.t 66), none, []⟩,
        ⟨some 7, .asg (.t 67), none, []⟩])
      .skip))
    (.seq
    (.region false [0, 4] [
      ⟨some 68, .mov (.t 7), none, []⟩,
      ⟨some 69, .mov (.t 1), none, []⟩,
      ⟨some 70, .bin false .rem 2 (.t 68) (.t 69), none, []⟩,
      ⟨some 4, .asg (.t 70), none, []⟩])
    .ret)))))))))
  modes := [.io, .lend]
  rets := [⟨4, none⟩] }

/-- loop.example/g00539/spec.l1Max -/
def v87 : VFun := {
  code :=
    (.seq
    (.region false [0, 1] [
      ⟨some 4, .asg (.c (.int .i64 0)), none, []⟩])
    (.seq
    (.seq
    (.region false [0, 1, 7] [
      ⟨some 5, .mov (.t 0), none, []⟩,
      ⟨some 6, .mov (.t 1), none, []⟩,
      ⟨some 7, .bin false .gtr 2 (.t 5) (.t 6), none, []⟩])
    (.cond (.t 7)
      (.seq
      (.region false [4] [
        ⟨some 8, .mov (.t 0), none, []⟩,
        ⟨some 4, .asg (.t 8), none, []⟩])
      .ret)
      .skip))
    (.seq
    (.region false [4] [
      ⟨some 9, .mov (.t 1), none, []⟩,
      ⟨some 4, .asg (.t 9), none, []⟩])
    .ret)))
  modes := [.lend, .lend]
  rets := [⟨4, none⟩] }

/-- loop.example/g00539/spec.l12Draw -/
def v92 : VFun := {
  code :=
    (.seq
    (.region false [0, 2] [
      ⟨some 2, .alloc 30 [(.val (.int .i64 0)), (.val (.int .i64 0)), (.val (.int .i64 0)), (.val (.int .i64 0)), (.val (.int .i64 0)), (.val (.int .i64 0)), (.val (.int .i64 0))], none, []⟩])
    (.seq
    (.region false [0, 2, 3] [
      ⟨some 4, .mov (.t 0), none, []⟩,
      ⟨some 5, .lit 60 2 1 3 [(.val (.int .i64 0))] [(0, (.c (.int .i64 1))), (1, (.c (.int .i64 2))), (2, (.c (.int .i64 10)))], none, []⟩,
      ⟨some 6, .call 76 [(.t 4), (.t 5)], none, []⟩,
      ⟨some 7, .mov (.t 0), none, []⟩,
      ⟨some 8, .lit 60 2 1 3 [(.val (.int .i64 0))] [(0, (.c (.int .i64 10))), (1, (.c (.int .i64 500))), (2, (.c (.int .i64 9999)))], none, []⟩,
      ⟨some 9, .call 76 [(.t 7), (.t 8)], none, []⟩,
      ⟨some 10, .mov (.t 0), none, []⟩,
      ⟨some 11, .lit 60 2 1 3 [(.val (.int .i64 0))] [(0, (.c (.int .i64 1))), (1, (.c (.int .i64 10))), (2, (.c (.int .i64 60)))], none, []⟩,
      ⟨some 12, .call 76 [(.t 10), (.t 11)], none, []⟩,
      ⟨some 13, .mov (.t 0), none, []⟩,
      ⟨some 14, .lit 60 2 1 3 [(.val (.int .i64 0))] [(0, (.c (.int .i64 1))), (1, (.c (.int .i64 3))), (2, (.c (.int .i64 8)))], none, []⟩,
      ⟨some 15, .call 76 [(.t 13), (.t 14)], none, []⟩,
      ⟨some 16, .mov (.t 0), none, []⟩,
      ⟨some 17, .call 85 [(.t 16), (.c (.int .i64 50))], none, []⟩,
      ⟨some 18, .build 30 [(.val (.int .i64 0)), (.val (.int .i64 0)), (.val (.int .i64 0)), (.val (.int .i64 0)), (.val (.int .i64 0)), (.val (.int .i64 0)), (.val (.int .i64 0))] [(1, 1, 1, (.t 6)), (2, 2, 1, (.t 9)), (3, 3, 1, (.t 12)), (4, 4, 1, (.t 15)), (6, 6, 1, (.t 17))], none, []⟩,
      ⟨some 3, .alloc 30 [(.val (.int .i64 0)), (.val (.int .i64 0)), (.val (.int .i64 0)), (.val (.int .i64 0)), (.val (.int .i64 0)), (.val (.int .i64 0)), (.val (.int .i64 0))], none, []⟩,
      ⟨none, .store 30 7 (.t 3) (.t 18), none, []⟩])
    (.seq
    (.region false [0, 2, 3] [
      ⟨some 19, .mov (.t 0), none, []⟩,
      ⟨some 20, .fa 30 1 1 1 (.t 3), none, []⟩,
      ⟨some 21, .load 2 false 1 (.t 20), none, []⟩,
      ⟨some 22, .fa 30 2 2 1 (.t 3), none, []⟩,
      ⟨some 23, .load 2 false 1 (.t 22), none, []⟩,
      ⟨some 24, .fa 30 1 1 1 (.t 3), none, []⟩,
      ⟨some 25, .load 2 false 1 (.t 24), none, []⟩,
      ⟨some 26, .fa 30 2 2 1 (.t 3), none, []⟩,
      ⟨some 27, .load 2 false 1 (.t 26), none, []⟩,
      ⟨some 28, .bin false .add 2 (.t 25) (.t 27), none, []⟩,
      ⟨some 29, .bin false .quo 2 (.t 28) (.c (.int .i64 2)), none, []⟩,
      ⟨some 30, .lit 60 2 1 3 [(.val (.int .i64 0))] [(0, (.t 21)), (1, (.t 23)), (2, (.t 29))], none, []⟩,
      ⟨some 31, .call 76 [(.t 19), (.t 30)], none, []⟩,
      ⟨some 32, .fa 30 0 0 1 (.t 3), none, []⟩,
      ⟨none, .store 2 1 (.t 32) (.t 31), none, []⟩])
    (.seq
    (.region false [0, 2, 3] [
      ⟨some 33, .mov (.t 0), none, []⟩,
      ⟨some 34, .fa 30 4 4 1 (.t 3), none, []⟩,
      ⟨some 35, .load 2 false 1 (.t 34), none, []⟩,
      ⟨some 36, .bin false .sub 2 (.t 35) (.c (.int .i64 1)), none, []⟩,
      ⟨some 37, .fa 30 4 4 1 (.t 3), none, []⟩,
      ⟨some 38, .load 2 false 1 (.t 37), none, []⟩,
      ⟨some 39, .bin false .sub 2 (.t 38) (.c (.int .i64 1)), none, []⟩,
      ⟨some 40, .lit 60 2 1 3 [(.val (.int .i64 0))] [(0, (.c (.int .i64 0))), (1, (.t 36)), (2, (.t 39))], none, []⟩,
      ⟨some 41, .call 76 [(.t 33), (.t 40)], none, []⟩,
      ⟨some 42, .fa 30 5 5 1 (.t 3), none, []⟩,
      ⟨none, .store 2 1 (.t 42) (.t 41), none, []⟩])
    (.seq
    (.region false [0, 2] [
      ⟨some 43, .load 30 true 7 (.t 3), none, []⟩,
      ⟨none, .store 30 7 (.t 2) (.t 43), none, []⟩])
    .ret)))))
  modes := [.io]
  rets := [⟨2, some (true, 7)⟩] }

def tab : List (Nat × VFun) := [(10, v10), (20, v20), (38, v38), (39, v39), (40, v40), (41, v41), (42, v42), (57, v57), (58, v58), (59, v59), (60, v60), (66, v66), (67, v67), (74, v74), (75, v75), (76, v76), (77, v77), (85, v85), (87, v87), (92, v92)]
def F (f : FuncId) : Option VFun := getA none (tab.map fun x => (x.1, some x.2)) f
theorem tab_ok : tab.all (fun x => matchFun Try.prog x.1 x.2) = true := by kernel_rfl
theorem F_mem {f : FuncId} {fn : VFun} : ∀ {l : List (Nat × VFun)}, getA none (l.map fun x => (x.1, some x.2)) f = some fn → (f, fn) ∈ l
  | [], h => by simp [getA] at h
  | (k, v) :: l, h => by
    simp only [List.map_cons, getA] at h
    split at h
    · rename_i e
      injection h with h
      subst e; subst h
      exact List.mem_cons_self ..
    · exact List.mem_cons_of_mem _ (F_mem h)
theorem F_ok (f : FuncId) (fn : VFun) (h : F f = some fn) : matchFun Try.prog f fn = true := List.all_eq_true.1 tab_ok _ (F_mem h)
end Go.Proofs.Ythpmfdcmnnbjcaa.Turns
