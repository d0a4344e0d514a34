/- V's text of the functions that this law reaches. -/
import Derived.Test.YtfmkbpiobddhdaaDoorVCode
import Derived.Test.YtfmkbpiobddhdaaDoorRows
import Derived.KernelRfl
namespace Go.Proofs.YtfmkbpiobddhdaaDoor.Windows
open Go Go.Proofs.YtfmkbpiobddhdaaDoor.V
set_option maxRecDepth 20000

def b10_1 : VC :=
  (.seq
  (.seq
  (.region false [3, 4, 5, 6, 10, 11, 14, 19, 102] [
    ⟨some 100, .mov (.t 14), none, []⟩,
    ⟨some 101, .mov (.t 10), none, []⟩,
    ⟨some 102, .bin false .lss 3 (.t 100) (.t 101), none, []⟩])
  (.cond (.t 102)
    .skip
    (.exit 2)))
  (.seq
  (.block 3
    (.region false [3, 4, 5, 6, 10, 11, 14, 19] [
      ⟨some 105, .mov (.t 11), none, []⟩,
      ⟨some 106, .fa 63 1 1 1 (.t 6), none, []⟩,
      ⟨some 107, .load 28 false 1 (.t 106), none, []⟩,
      ⟨some 108, .mov (.t 14), none, []⟩,
      ⟨some 109, .ia 28 46 2 (.t 107) (.t 108), none, []⟩,
      ⟨some 110, .fa 46 1 1 1 (.t 109), none, []⟩,
      ⟨some 111, .load 2 false 1 (.t 110), none, []⟩,
      ⟨some 112, .bin false .sub 2 (.t 105) (.t 111), none, []⟩,
      ⟨some 11, .asg (.t 112), none, []⟩]))
  (.region false [3, 4, 5, 6, 10, 11, 14, 19] [
    ⟨some 103, .mov (.t 14), none, []⟩,
    ⟨some 104, .bin false .add 3 (.t 103) (.c (.int .i64 1)), none, []⟩,
    ⟨some 14, .asg (.t 104), none, []⟩])))
def l10_1 : VC := .loop b10_1
def b10_0 : VC :=
  (.seq
  (.seq
  (.region false [3, 4, 5, 6, 10, 11, 12, 13, 19, 72] [
    ⟨some 68, .mov (.t 13), none, []⟩,
    ⟨some 69, .fa 63 1 1 1 (.t 12), none, []⟩,
    ⟨some 70, .load 28 false 1 (.t 69), none, []⟩,
    ⟨some 71, .len false 28 (.t 70), none, []⟩,
    ⟨some 72, .bin false .lss 3 (.t 68) (.t 71), none, []⟩])
  (.cond (.t 72)
    .skip
    (.exit 0)))
  (.seq
  (.block 1
    (.seq
    (.region false [3, 4, 5, 6, 10, 11, 12, 13, 19] [
      ⟨some 75, .mov (.t 11), none, []⟩,
      ⟨some 76, .fa 63 1 1 1 (.t 12), none, []⟩,
      ⟨some 77, .load 28 false 1 (.t 76), none, []⟩,
      ⟨some 78, .mov (.t 13), none, []⟩,
      ⟨some 79, .ia 28 46 2 (.t 77) (.t 78), none, []⟩,
      ⟨some 80, .fa 46 1 1 1 (.t 79), none, []⟩,
      ⟨some 81, .load 2 false 1 (.t 80), none, []⟩,
      ⟨some 82, .bin false .add 2 (.t 75) (.t 81), none, []⟩,
      ⟨some 11, .asg (.t 82), none, []⟩])
    (.seq
    (.region true [3, 4, 5, 6, 10, 11, 12, 13, 19, 99] [
      ⟨some 83, .fa 63 1 1 1 (.t 6), none, []⟩,
      ⟨some 84, .load 28 false 1 (.t 83), none, []⟩,
      ⟨some 85, .fa 63 1 1 1 (.t 12), none, [0, 1]⟩,
      ⟨some 86, .load 28 false 1 (.t 85), none, [0, 1]⟩,
      ⟨some 87, .mov (.t 13), none, [0, 1, 2, 3]⟩,
      ⟨some 88, .ia 28 46 2 (.t 86) (.t 87), none, [0, 1]⟩,
      ⟨some 89, .fa 46 0 0 1 (.t 88), none, [0, 1]⟩,
      ⟨some 90, .load 9 false 1 (.t 89), none, [0, 1]⟩,
      ⟨some 91, .call 42 [(.t 84), (.t 90)], none, []⟩,
      ⟨some 92, .fld 36 1 1 1 false (.t 91), none, []⟩,
      ⟨some 93, .fa 63 1 1 1 (.t 12), none, [0, 1, 2, 3, 4, 5, 6, 7, 8, 9]⟩,
      ⟨some 94, .load 28 false 1 (.t 93), none, [0, 1, 2, 3, 4, 5, 6, 7, 8, 9]⟩,
      ⟨some 95, .mov (.t 13), none, [0, 1, 2, 3, 4, 5, 6, 7, 8, 9, 10, 11]⟩,
      ⟨some 96, .ia 28 46 2 (.t 94) (.t 95), none, [0, 1, 2, 3, 4, 5, 6, 7, 8, 9]⟩,
      ⟨some 97, .fa 46 1 1 1 (.t 96), none, [0, 1, 2, 3, 4, 5, 6, 7, 8, 9]⟩,
      ⟨some 98, .load 2 false 1 (.t 97), none, [0, 1, 2, 3, 4, 5, 6, 7, 8, 9]⟩,
      ⟨some 99, .bin false .neq 2 (.t 92) (.t 98), none, []⟩])
    (.cond (.t 99)
      (.seq
      (.region false [2] [
        ⟨some 2, .asg (.c (.bool false)), none, []⟩])
      .ret)
      .skip))))
  (.region false [3, 4, 5, 6, 10, 11, 12, 13, 19] [
    ⟨some 73, .mov (.t 13), none, []⟩,
    ⟨some 74, .bin false .add 3 (.t 73) (.c (.int .i64 1)), none, []⟩,
    ⟨some 13, .asg (.t 74), none, []⟩])))
def l10_0 : VC := .loop b10_0
/-- loop.example/g00539/laws.FnWindows -/
def v10 : VFun := {
  code :=
    (.seq
    (.region false [0] [
      ⟨some 2, .asg (.c (.bool false)), none, []⟩])
    (.seq
    (.seq
    (.region false [0, 16] [
      ⟨some 15, .mov (.t 0), none, []⟩,
      ⟨some 16, .call 38 [(.t 15)], none, []⟩])
    (.cond (.t 16)
      (.seq
      (.region false [2] [
        ⟨some 2, .asg (.c (.bool true)), none, []⟩])
      .ret)
      .skip))
    (.seq
    (.region false [0, 3, 4, 5, 19] [
      ⟨some 18, .mov (.t 0), none, []⟩,
      ⟨some 19, .call 39 [(.t 18)], none, []⟩,
      ⟨some 17, .mov (.t 19), none, []⟩,
      ⟨some 20, .ext (.t 17) 0, none, []⟩,
      ⟨some 21, .ext (.t 17) 1, none, []⟩,
      ⟨some 22, .ext (.t 17) 2, none, []⟩,
      ⟨some 4, .alloc 46 [(.val (.string (⟨#[]⟩ : ByteArray))), (.val (.int .i64 0))], none, []⟩,
      ⟨some 3, .asg (.t 20), none, []⟩,
      ⟨none, .store 46 2 (.t 4) (.t 21), none, []⟩,
      ⟨some 5, .asg (.t 22), none, []⟩])
    (.seq
    (.region false [0, 3, 4, 5, 6, 19] [
      ⟨some 23, .mov (.t 3), none, []⟩,
      ⟨some 24, .load 46 true 2 (.t 4), none, []⟩,
      ⟨some 25, .mov (.t 5), none, []⟩,
      ⟨some 26, .call 40 [(.t 23), (.t 24), (.t 25)], none, []⟩,
      ⟨some 6, .alloc 63 [(.val (.int .i64 0)), (.nl 2)], none, []⟩,
      ⟨none, .store 63 2 (.t 6) (.t 26), none, []⟩])
    (.seq
    (.region false [3, 4, 5, 6, 7, 8, 19, 29] [
      ⟨some 28, .mov (.t 0), none, []⟩,
      ⟨some 29, .call 41 [(.t 28)], none, []⟩,
      ⟨some 27, .mov (.t 29), none, []⟩,
      ⟨some 30, .ext (.t 27) 0, none, []⟩,
      ⟨some 31, .ext (.t 27) 1, none, []⟩,
      ⟨some 7, .asg (.t 30), none, []⟩,
      ⟨some 8, .asg (.t 31), none, []⟩])
    (.seq
    (.region false [3, 4, 5, 6, 7, 8, 9, 19, 29] [
      ⟨some 32, .mov (.t 7), none, []⟩,
      ⟨some 33, .mov (.t 8), none, []⟩,
      ⟨some 34, .call 42 [(.t 32), (.t 33)], none, []⟩,
      ⟨some 9, .alloc 36 [(.val (.int .i64 0)), (.val (.int .i64 0))], none, []⟩,
      ⟨none, .store 36 2 (.t 9) (.t 34), none, []⟩])
    (.seq
    (.seq
    (.region true [3, 4, 5, 6, 19, 50] [
      ⟨some 35, .fa 36 0 0 1 (.t 9), none, []⟩,
      ⟨some 36, .load 2 false 1 (.t 35), none, []⟩,
      ⟨some 37, .mov (.t 7), none, [0, 1]⟩,
      ⟨some 38, .mov (.t 8), none, [0, 1, 2]⟩,
      ⟨some 39, .call 43 [(.t 37), (.t 38)], none, [0, 1]⟩,
      ⟨some 40, .fld 36 0 0 1 false (.t 39), none, [0, 1]⟩,
      ⟨some 41, .bin false .neq 2 (.t 36) (.t 40), none, []⟩,
      ⟨some 42, .mov (.t 41), none, []⟩,
      ⟨some 43, .fa 36 1 1 1 (.t 9), some (42, false), []⟩,
      ⟨some 44, .load 2 false 1 (.t 43), some (42, false), []⟩,
      ⟨some 45, .mov (.t 7), some (42, false), [8, 9]⟩,
      ⟨some 46, .mov (.t 8), some (42, false), [8, 9, 10]⟩,
      ⟨some 47, .call 43 [(.t 45), (.t 46)], some (42, false), [8, 9]⟩,
      ⟨some 48, .fld 36 1 1 1 false (.t 47), some (42, false), [8, 9]⟩,
      ⟨some 49, .bin false .neq 2 (.t 44) (.t 48), some (42, false), []⟩,
      ⟨some 50, .pick (.t 42) (.c (.bool true)) (.t 49), none, []⟩])
    (.cond (.t 50)
      (.seq
      (.region false [2] [
        ⟨some 2, .asg (.c (.bool false)), none, []⟩])
      .ret)
      .skip))
    (.seq
    (.seq
    (.region false [3, 4, 5, 6, 19, 53] [
      ⟨some 51, .fa 63 0 0 1 (.t 6), none, []⟩,
      ⟨some 52, .load 2 false 1 (.t 51), none, []⟩,
      ⟨some 53, .bin false .neq 2 (.t 52) (.c (.int .i64 0)), none, []⟩])
    (.cond (.t 53)
      (.seq
      (.region true [2] [
        ⟨some 54, .mov (.t 3), none, []⟩,
        ⟨some 55, .load 46 true 2 (.t 4), none, [0]⟩,
        ⟨some 56, .mov (.t 5), none, [0, 1]⟩,
        ⟨some 57, .call 44 [(.t 54), (.t 55), (.t 56)], none, []⟩,
        ⟨some 58, .fld 63 0 0 1 false (.t 57), none, []⟩,
        ⟨some 59, .fa 63 0 0 1 (.t 6), none, [0, 1, 2, 3, 4]⟩,
        ⟨some 60, .load 2 false 1 (.t 59), none, [0, 1, 2, 3, 4]⟩,
        ⟨some 61, .bin false .eql 2 (.t 58) (.t 60), none, []⟩,
        ⟨some 2, .asg (.t 61), none, []⟩])
      .ret)
      .skip))
    (.seq
    (.region false [3, 4, 5, 6, 10, 19] [
      ⟨some 62, .fa 63 1 1 1 (.t 6), none, []⟩,
      ⟨some 63, .load 28 false 1 (.t 62), none, []⟩,
      ⟨some 64, .len false 28 (.t 63), none, []⟩,
      ⟨some 10, .asg (.t 64), none, []⟩])
    (.seq
    (.region false [3, 4, 5, 6, 10, 11, 19] [
      ⟨some 11, .asg (.c (.int .i64 0)), none, []⟩])
    (.seq
    (.region false [3, 4, 5, 6, 10, 11, 12, 19] [
      ⟨some 65, .fa 63 1 1 1 (.t 6), none, []⟩,
      ⟨some 66, .load 28 false 1 (.t 65), none, []⟩,
      ⟨some 67, .call 45 [(.t 66)], none, []⟩,
      ⟨some 12, .alloc 63 [(.val (.int .i64 0)), (.nl 2)], none, []⟩,
      ⟨none, .store 63 2 (.t 12) (.t 67), none, []⟩])
    (.seq
    (.seq
    (.region false [3, 4, 5, 6, 10, 11, 12, 13, 19] [
      ⟨some 13, .asg (.c (.int .i64 0)), none, []⟩])
    (.block 0
      l10_0))
    (.seq
    (.seq
    (.region false [3, 4, 5, 6, 10, 11, 14, 19] [
      ⟨some 14, .asg (.c (.int .i64 0)), none, []⟩])
    (.block 2
      l10_1))
    (.seq
    (.region true [2] [
      ⟨some 113, .mov (.t 11), none, []⟩,
      ⟨some 114, .bin false .eql 2 (.t 113) (.c (.int .i64 0)), none, []⟩,
      ⟨some 115, .mov (.t 114), none, []⟩,
      ⟨some 116, .mov (.t 10), some (115, true), []⟩,
      ⟨some 117, .bin false .gtr 3 (.t 116) (.c (.int .i64 0)), some (115, true), []⟩,
      ⟨some 118, .pick (.t 115) (.t 117) (.c (.bool false)), none, []⟩,
      ⟨some 119, .mov (.t 118), none, []⟩,
      ⟨some 120, .mov (.t 10), some (119, true), []⟩,
      ⟨some 121, .mov (.t 5), some (119, true), [7]⟩,
      ⟨some 122, .bin false .leq 2 (.t 120) (.t 121), some (119, true), []⟩,
      ⟨some 123, .pick (.t 119) (.t 122) (.c (.bool false)), none, []⟩,
      ⟨some 124, .mov (.t 123), none, []⟩,
      ⟨some 125, .fa 63 1 1 1 (.t 6), some (124, true), []⟩,
      ⟨some 126, .load 28 false 1 (.t 125), some (124, true), []⟩,
      ⟨some 127, .mov (.t 10), some (124, true), [12, 13]⟩,
      ⟨some 128, .bin false .sub 3 (.t 127) (.c (.int .i64 1)), some (124, true), [12, 13]⟩,
      ⟨some 129, .ia 28 46 2 (.t 126) (.t 128), some (124, true), []⟩,
      ⟨some 130, .load 46 true 2 (.t 129), some (124, true), []⟩,
      ⟨some 131, .load 46 true 2 (.t 4), some (124, true), [12, 13, 14, 15, 16, 17]⟩,
      ⟨some 132, .eqs false 46 [2, 1] (.t 130) (.t 131), some (124, true), []⟩,
      ⟨some 133, .pick (.t 124) (.t 132) (.c (.bool false)), none, []⟩,
      ⟨some 134, .mov (.t 133), none, []⟩,
      ⟨some 135, .mov (.t 10), some (134, true), []⟩,
      ⟨some 136, .mov (.t 5), some (134, true), [22]⟩,
      ⟨some 137, .bin false .eql 2 (.t 135) (.t 136), some (134, true), []⟩,
      ⟨some 138, .mov (.t 137), some (134, true), []⟩,
      ⟨some 139, .mov (.t 10), some (138, false), []⟩,
      ⟨some 140, .mov (.t 3), some (138, false), [26]⟩,
      ⟨some 141, .len false 28 (.t 140), some (138, false), [26]⟩,
      ⟨some 142, .bin false .add 3 (.t 141) (.c (.int .i64 1)), some (138, false), [26]⟩,
      ⟨some 143, .bin false .eql 3 (.t 139) (.t 142), some (138, false), []⟩,
      ⟨some 144, .pick (.t 138) (.c (.bool true)) (.t 143), some (134, true), []⟩,
      ⟨some 145, .pick (.t 134) (.t 144) (.c (.bool false)), none, []⟩,
      ⟨some 146, .mov (.t 145), none, []⟩,
      ⟨some 147, .fa 63 1 1 1 (.t 6), some (146, true), []⟩,
      ⟨some 148, .load 28 false 1 (.t 147), some (146, true), []⟩,
      ⟨some 149, .call 46 [(.t 148)], some (146, true), []⟩,
      ⟨some 150, .bin false .eql 2 (.t 149) (.c (.int .i64 0)), some (146, true), []⟩,
      ⟨some 151, .pick (.t 146) (.t 150) (.c (.bool false)), none, []⟩,
      ⟨some 2, .asg (.t 151), none, []⟩])
    .ret))))))))))))))
  modes := [.lend]
  rets := [⟨2, none⟩] }

/-- loop.example/g00539/laws.lwBig -/
def v38 : VFun := {
  code :=
    (.seq
    (.region false [0] [
      ⟨some 2, .asg (.c (.bool false)), none, []⟩])
    (.seq
    (.region false [2] [
      ⟨some 3, .mov (.t 0), none, []⟩,
      ⟨some 4, .len false 58 (.t 3), none, []⟩,
      ⟨some 5, .bin false .gtr 3 (.t 4) (.c (.int .i64 1048576)), none, []⟩,
      ⟨some 2, .asg (.t 5), none, []⟩])
    .ret))
  modes := [.lend]
  rets := [⟨2, none⟩] }

/-- loop.example/g00539/spec.DrawPushWeight -/
def v39 : VFun := {
  code :=
    (.seq
    (.region false [0, 3] [
      ⟨some 2, .asg (.n 2), none, []⟩,
      ⟨some 3, .alloc 46 [(.val (.string (⟨#[]⟩ : ByteArray))), (.val (.int .i64 0))], none, []⟩,
      ⟨some 4, .asg (.c (.int .i64 0)), none, []⟩])
    (.seq
    (.region false [3, 5, 7] [
      ⟨some 6, .mov (.t 0), none, []⟩,
      ⟨some 7, .call 102 [(.t 6)], none, []⟩,
      ⟨some 5, .asg (.t 7), none, []⟩])
    (.seq
    (.region false [2, 3, 4, 9] [
      ⟨some 8, .mov (.t 5), none, []⟩,
      ⟨some 9, .call 103 [(.t 8)], none, []⟩,
      ⟨some 10, .mov (.t 5), none, []⟩,
      ⟨some 11, .call 104 [(.t 10)], none, []⟩,
      ⟨some 12, .mov (.t 5), none, []⟩,
      ⟨some 13, .lit 172 2 1 3 [(.val (.int .i64 0))] [(0, (.c (.int .i64 1))), (1, (.c (.int .i64 5))), (2, (.c (.int .i64 0)))], none, []⟩,
      ⟨some 14, .call 105 [(.t 12), (.t 13)], none, []⟩,
      ⟨some 15, .build 46 [(.val (.string (⟨#[]⟩ : ByteArray))), (.val (.int .i64 0))] [(0, 0, 1, (.t 11)), (1, 1, 1, (.t 14))], none, []⟩,
      ⟨some 16, .mov (.t 5), none, []⟩,
      ⟨some 17, .lit 172 2 1 4 [(.val (.int .i64 0))] [(0, (.c (.int .i64 1))), (1, (.c (.int .i64 4))), (2, (.c (.int .i64 12))), (3, (.c (.int .i64 13)))], none, []⟩,
      ⟨some 18, .call 105 [(.t 16), (.t 17)], none, []⟩,
      ⟨some 2, .asg (.t 9), none, []⟩,
      ⟨none, .store 46 2 (.t 3) (.t 15), none, []⟩,
      ⟨some 4, .asg (.t 18), none, []⟩])
    .ret)))
  modes := [.lend]
  rets := [⟨2, none⟩, ⟨3, some (true, 2)⟩, ⟨4, none⟩] }

/-- loop.example/g00539/impl.PushWeight -/
def v40 : VFun := {
  code :=
    (.seq
    (.region false [0, 2, 4, 6] [
      ⟨some 4, .box 46 (.t 1), none, []⟩,
      ⟨some 6, .alloc 63 [(.val (.int .i64 0)), (.nl 2)], none, []⟩])
    (.seq
    (.seq
    (.region false [0, 2, 4, 6, 7] [
      ⟨some 10, .mov (.t 0), none, []⟩,
      ⟨some 11, .call 46 [(.t 10)], none, []⟩,
      ⟨some 7, .asg (.t 11), none, []⟩])
    (.seq
    (.region false [0, 2, 4, 6, 7, 13] [
      ⟨some 12, .mov (.t 7), none, []⟩,
      ⟨some 13, .bin false .neq 2 (.t 12) (.c (.int .i64 0)), none, []⟩])
    (.cond (.t 13)
      (.seq
      (.region false [6] [
        ⟨some 14, .mov (.t 7), none, []⟩,
        ⟨some 15, .build 63 [(.val (.int .i64 0)), (.nl 2)] [(0, 0, 1, (.t 14))], none, []⟩,
        ⟨none, .store 63 2 (.t 6) (.t 15), none, []⟩])
      .ret)
      .skip)))
    (.seq
    (.seq
    (.region false [0, 2, 4, 6, 8] [
      ⟨some 16, .load 46 true 2 (.t 4), none, []⟩,
      ⟨some 17, .lit 28 46 2 1 [(.val (.string (⟨#[]⟩ : ByteArray))), (.val (.int .i64 0))] [(0, (.t 16))], none, []⟩,
      ⟨some 18, .call 46 [(.t 17)], none, []⟩,
      ⟨some 8, .asg (.t 18), none, []⟩])
    (.seq
    (.region false [0, 2, 4, 6, 8, 20] [
      ⟨some 19, .mov (.t 8), none, []⟩,
      ⟨some 20, .bin false .neq 2 (.t 19) (.c (.int .i64 0)), none, []⟩])
    (.cond (.t 20)
      (.seq
      (.region false [6] [
        ⟨some 21, .mov (.t 8), none, []⟩,
        ⟨some 22, .build 63 [(.val (.int .i64 0)), (.nl 2)] [(0, 0, 1, (.t 21))], none, []⟩,
        ⟨none, .store 63 2 (.t 6) (.t 22), none, []⟩])
      .ret)
      .skip)))
    (.seq
    (.seq
    (.region false [0, 2, 4, 6, 25] [
      ⟨some 23, .mov (.t 2), none, []⟩,
      ⟨some 24, .call 93 [(.t 23), (.c (.int .i64 1)), (.c (.int .i64 12))], none, []⟩,
      ⟨some 25, .un .not (.t 24), none, []⟩])
    (.cond (.t 25)
      (.seq
      (.region false [6] [
        ⟨some 26, .build 63 [(.val (.int .i64 0)), (.nl 2)] [(0, 0, 1, (.c (.int .i64 3)))], none, []⟩,
        ⟨none, .store 63 2 (.t 6) (.t 26), none, []⟩])
      .ret)
      .skip))
    (.seq
    (.region true [2, 6, 9, 31] [
      ⟨some 27, .mov (.t 0), none, []⟩,
      ⟨some 28, .call 106 [(.t 27)], none, []⟩,
      ⟨some 29, .load 46 true 2 (.t 4), none, [0, 1]⟩,
      ⟨some 30, .lit 28 46 2 1 [(.val (.string (⟨#[]⟩ : ByteArray))), (.val (.int .i64 0))] [(0, (.t 29))], none, [0, 1]⟩,
      ⟨some 31, .app 28 46 2 24 (.t 28) (.t 30), none, []⟩,
      ⟨some 9, .asg (.t 31), none, []⟩])
    (.seq
    (.region false [6] [
      ⟨some 32, .mov (.t 9), none, []⟩,
      ⟨some 33, .mov (.t 9), none, []⟩,
      ⟨some 34, .len false 28 (.t 33), none, []⟩,
      ⟨some 35, .mov (.t 2), none, []⟩,
      ⟨some 36, .bin false .sub 3 (.t 34) (.t 35), none, []⟩,
      ⟨some 37, .mm true (.t 36) (.c (.int .i64 0)), none, []⟩,
      ⟨some 38, .cut 28 (some 46) 2 (.t 32) (some (.t 37)) none, none, []⟩,
      ⟨some 39, .call 106 [(.t 38)], none, []⟩,
      ⟨some 40, .build 63 [(.val (.int .i64 0)), (.nl 2)] [(0, 0, 1, (.c (.int .i64 0))), (1, 1, 1, (.t 39))], none, []⟩,
      ⟨none, .store 63 2 (.t 6) (.t 40), none, []⟩])
    .ret))))))
  modes := [.lend, .lend, .lend]
  rets := [⟨6, some (true, 2)⟩] }

/-- loop.example/g00539/spec.DrawAmountOf -/
def v41 : VFun := {
  code :=
    (.seq
    (.region false [0] [
      ⟨some 2, .asg (.n 2), none, []⟩,
      ⟨some 3, .asg (.c (.string (⟨#[]⟩ : ByteArray))), none, []⟩])
    (.seq
    (.region false [4, 6] [
      ⟨some 5, .mov (.t 0), none, []⟩,
      ⟨some 6, .call 102 [(.t 5)], none, []⟩,
      ⟨some 4, .asg (.t 6), none, []⟩])
    (.seq
    (.region false [2, 3, 8] [
      ⟨some 7, .mov (.t 4), none, []⟩,
      ⟨some 8, .call 103 [(.t 7)], none, []⟩,
      ⟨some 9, .mov (.t 4), none, []⟩,
      ⟨some 10, .call 104 [(.t 9)], none, []⟩,
      ⟨some 2, .asg (.t 8), none, []⟩,
      ⟨some 3, .asg (.t 10), none, []⟩])
    .ret)))
  modes := [.lend]
  rets := [⟨2, none⟩, ⟨3, none⟩] }

/-- loop.example/g00539/impl.AmountOf -/
def v42 : VFun := {
  code :=
    (.seq
    (.region false [0, 1, 4] [
      ⟨some 4, .alloc 36 [(.val (.int .i64 0)), (.val (.int .i64 0))], none, []⟩])
    (.seq
    (.seq
    (.region false [0, 1, 4, 5] [
      ⟨some 6, .mov (.t 0), none, []⟩,
      ⟨some 7, .call 46 [(.t 6)], none, []⟩,
      ⟨some 5, .asg (.t 7), none, []⟩])
    (.seq
    (.region false [0, 1, 4, 5, 9] [
      ⟨some 8, .mov (.t 5), none, []⟩,
      ⟨some 9, .bin false .neq 2 (.t 8) (.c (.int .i64 0)), none, []⟩])
    (.cond (.t 9)
      (.seq
      (.region false [4] [
        ⟨some 10, .mov (.t 5), none, []⟩,
        ⟨some 11, .build 36 [(.val (.int .i64 0)), (.val (.int .i64 0))] [(0, 0, 1, (.t 10))], none, []⟩,
        ⟨none, .store 36 2 (.t 4) (.t 11), none, []⟩])
      .ret)
      .skip)))
    (.seq
    (.region false [4] [
      ⟨some 12, .mov (.t 0), none, []⟩,
      ⟨some 13, .mov (.t 1), none, []⟩,
      ⟨some 14, .call 80 [(.t 12), (.t 13)], none, []⟩,
      ⟨some 15, .build 36 [(.val (.int .i64 0)), (.val (.int .i64 0))] [(0, 0, 1, (.c (.int .i64 0))), (1, 1, 1, (.t 14))], none, []⟩,
      ⟨none, .store 36 2 (.t 4) (.t 15), none, []⟩])
    .ret)))
  modes := [.lend, .lend]
  rets := [⟨4, some (true, 2)⟩] }

/-- loop.example/g00539/spec.AmountOf -/
def v43 : VFun := {
  code :=
    (.seq
    (.region false [0, 1, 4] [
      ⟨some 4, .alloc 36 [(.val (.int .i64 0)), (.val (.int .i64 0))], none, []⟩])
    (.seq
    (.seq
    (.region false [0, 1, 4, 5] [
      ⟨some 8, .mov (.t 0), none, []⟩,
      ⟨some 9, .call 107 [(.t 8)], none, []⟩,
      ⟨some 5, .asg (.t 9), none, []⟩])
    (.seq
    (.region false [0, 1, 4, 5, 11] [
      ⟨some 10, .mov (.t 5), none, []⟩,
      ⟨some 11, .bin false .neq 2 (.t 10) (.c (.int .i64 0)), none, []⟩])
    (.cond (.t 11)
      (.seq
      (.region false [4] [
        ⟨some 12, .mov (.t 5), none, []⟩,
        ⟨some 13, .build 36 [(.val (.int .i64 0)), (.val (.int .i64 0))] [(0, 0, 1, (.t 12))], none, []⟩,
        ⟨none, .store 36 2 (.t 4) (.t 13), none, []⟩])
      .ret)
      .skip)))
    (.seq
    (.region false [1, 4, 6, 15] [
      ⟨some 14, .mov (.t 0), none, []⟩,
      ⟨some 15, .call 108 [(.t 14)], none, []⟩,
      ⟨some 6, .asg (.t 15), none, []⟩])
    (.seq
    (.region false [4, 6, 7, 15] [
      ⟨some 16, .mov (.t 6), none, []⟩,
      ⟨some 17, .mov (.t 1), none, []⟩,
      ⟨some 18, .call 79 [(.t 16), (.t 17)], none, []⟩,
      ⟨some 7, .asg (.t 18), none, []⟩])
    (.seq
    (.seq
    (.region false [4, 6, 7, 15, 20] [
      ⟨some 19, .mov (.t 7), none, []⟩,
      ⟨some 20, .bin false .lss 3 (.t 19) (.c (.int .i64 0)), none, []⟩])
    (.cond (.t 20)
      (.seq
      (.region false [4] [
        ⟨some 21, .build 36 [(.val (.int .i64 0)), (.val (.int .i64 0))] [], none, []⟩,
        ⟨none, .store 36 2 (.t 4) (.t 21), none, []⟩])
      .ret)
      .skip))
    (.seq
    (.region false [4] [
      ⟨some 22, .mov (.t 6), none, []⟩,
      ⟨some 23, .mov (.t 7), none, []⟩,
      ⟨some 24, .ia 28 46 2 (.t 22) (.t 23), none, []⟩,
      ⟨some 25, .fa 46 1 1 1 (.t 24), none, []⟩,
      ⟨some 26, .load 2 false 1 (.t 25), none, []⟩,
      ⟨some 27, .build 36 [(.val (.int .i64 0)), (.val (.int .i64 0))] [(1, 1, 1, (.t 26))], none, []⟩,
      ⟨none, .store 36 2 (.t 4) (.t 27), none, []⟩])
    .ret))))))
  modes := [.lend, .lend]
  rets := [⟨4, some (true, 2)⟩] }

/-- loop.example/g00539/spec.PushWeight -/
def v44 : VFun := {
  code :=
    (.seq
    (.region false [0, 2, 4, 6] [
      ⟨some 4, .box 46 (.t 1), none, []⟩,
      ⟨some 6, .alloc 63 [(.val (.int .i64 0)), (.nl 2)], none, []⟩])
    (.seq
    (.seq
    (.region false [0, 2, 4, 6, 7] [
      ⟨some 9, .mov (.t 0), none, []⟩,
      ⟨some 10, .call 107 [(.t 9)], none, []⟩,
      ⟨some 7, .asg (.t 10), none, []⟩])
    (.seq
    (.region false [0, 2, 4, 6, 7, 12] [
      ⟨some 11, .mov (.t 7), none, []⟩,
      ⟨some 12, .bin false .neq 2 (.t 11) (.c (.int .i64 0)), none, []⟩])
    (.cond (.t 12)
      (.seq
      (.region false [6] [
        ⟨some 13, .mov (.t 7), none, []⟩,
        ⟨some 14, .build 63 [(.val (.int .i64 0)), (.nl 2)] [(0, 0, 1, (.t 13))], none, []⟩,
        ⟨none, .store 63 2 (.t 6) (.t 14), none, []⟩])
      .ret)
      .skip)))
    (.seq
    (.seq
    (.region false [0, 2, 4, 6, 8] [
      ⟨some 15, .call 109 [(.t 4)], none, []⟩,
      ⟨some 8, .asg (.t 15), none, []⟩])
    (.seq
    (.region false [0, 2, 4, 6, 8, 17] [
      ⟨some 16, .mov (.t 8), none, []⟩,
      ⟨some 17, .bin false .neq 2 (.t 16) (.c (.int .i64 0)), none, []⟩])
    (.cond (.t 17)
      (.seq
      (.region false [6] [
        ⟨some 18, .mov (.t 8), none, []⟩,
        ⟨some 19, .build 63 [(.val (.int .i64 0)), (.nl 2)] [(0, 0, 1, (.t 18))], none, []⟩,
        ⟨none, .store 63 2 (.t 6) (.t 19), none, []⟩])
      .ret)
      .skip)))
    (.seq
    (.seq
    (.region false [0, 2, 4, 6, 22] [
      ⟨some 20, .mov (.t 2), none, []⟩,
      ⟨some 21, .call 110 [(.t 20), (.c (.int .i64 1)), (.c (.int .i64 12))], none, []⟩,
      ⟨some 22, .un .not (.t 21), none, []⟩])
    (.cond (.t 22)
      (.seq
      (.region false [6] [
        ⟨some 23, .build 63 [(.val (.int .i64 0)), (.nl 2)] [(0, 0, 1, (.c (.int .i64 3)))], none, []⟩,
        ⟨none, .store 63 2 (.t 6) (.t 23), none, []⟩])
      .ret)
      .skip))
    (.seq
    (.region false [6] [
      ⟨some 24, .mov (.t 0), none, []⟩,
      ⟨some 25, .load 46 true 2 (.t 4), none, []⟩,
      ⟨some 26, .mov (.t 2), none, []⟩,
      ⟨some 27, .call 111 [(.t 24), (.t 25), (.t 26)], none, []⟩,
      ⟨some 28, .build 63 [(.val (.int .i64 0)), (.nl 2)] [(1, 1, 1, (.t 27))], none, []⟩,
      ⟨none, .store 63 2 (.t 6) (.t 28), none, []⟩])
    .ret)))))
  modes := [.lend, .lend, .lend]
  rets := [⟨6, some (true, 2)⟩] }

/-- loop.example/g00539/impl.MergeWeights -/
def v45 : VFun := {
  code :=
    (.seq
    (.region false [0, 2] [
      ⟨some 2, .alloc 63 [(.val (.int .i64 0)), (.nl 2)], none, []⟩])
    (.seq
    (.seq
    (.region false [0, 2, 3] [
      ⟨some 4, .mov (.t 0), none, []⟩,
      ⟨some 5, .call 46 [(.t 4)], none, []⟩,
      ⟨some 3, .asg (.t 5), none, []⟩])
    (.seq
    (.region false [0, 2, 3, 7] [
      ⟨some 6, .mov (.t 3), none, []⟩,
      ⟨some 7, .bin false .neq 2 (.t 6) (.c (.int .i64 0)), none, []⟩])
    (.cond (.t 7)
      (.seq
      (.region false [2] [
        ⟨some 8, .mov (.t 3), none, []⟩,
        ⟨some 9, .build 63 [(.val (.int .i64 0)), (.nl 2)] [(0, 0, 1, (.t 8))], none, []⟩,
        ⟨none, .store 63 2 (.t 2) (.t 9), none, []⟩])
      .ret)
      .skip)))
    (.seq
    (.region false [2] [
      ⟨some 10, .mov (.t 0), none, []⟩,
      ⟨some 11, .call 112 [(.t 10)], none, []⟩,
      ⟨some 12, .build 63 [(.val (.int .i64 0)), (.nl 2)] [(0, 0, 1, (.c (.int .i64 0))), (1, 1, 1, (.t 11))], none, []⟩,
      ⟨none, .store 63 2 (.t 2) (.t 12), none, []⟩])
    .ret)))
  modes := [.lend]
  rets := [⟨2, some (true, 2)⟩] }

def b46_0 : VC :=
  (.seq
  (.region false [8, 9, 10, 11] [
    ⟨some 11, .bin false .lss 3 (.t 10) (.t 9), none, []⟩])
  (.seq
  (.cond (.t 11)
    .skip
    (.exit 0))
  (.seq
  (.block 1
    (.seq
    (.region false [4, 8, 9, 10] [
      ⟨some 12, .ia 28 46 2 (.t 8) (.t 10), none, []⟩,
      ⟨some 13, .load 46 true 2 (.t 12), none, []⟩,
      ⟨some 4, .alloc 46 [(.val (.string (⟨#[]⟩ : ByteArray))), (.val (.int .i64 0))], none, []⟩,
      ⟨none, .store 46 2 (.t 4) (.t 13), none, []⟩])
    (.block 2
      (.seq
      (.region false [4, 8, 9, 10, 14] [
        ⟨some 15, .fa 46 0 0 1 (.t 4), none, []⟩,
        ⟨some 16, .load 9 false 1 (.t 15), none, []⟩,
        ⟨some 17, .call 113 [(.t 16)], none, []⟩,
        ⟨some 18, .un .not (.t 17), none, []⟩,
        ⟨some 14, .asg (.t 18), none, []⟩])
      (.cond (.t 14)
        (.seq
        (.region false [2] [
          ⟨some 2, .asg (.c (.int .i64 5)), none, []⟩])
        .ret)
        (.seq
        (.region false [8, 9, 10, 19] [
          ⟨some 20, .fa 46 1 1 1 (.t 4), none, []⟩,
          ⟨some 21, .load 2 false 1 (.t 20), none, []⟩,
          ⟨some 22, .call 93 [(.t 21), (.c (.int .i64 1)), (.c (.int .i64 9999))], none, []⟩,
          ⟨some 23, .un .not (.t 22), none, []⟩,
          ⟨some 19, .asg (.t 23), none, []⟩])
        (.cond (.t 19)
          (.seq
          (.region false [2] [
            ⟨some 2, .asg (.c (.int .i64 3)), none, []⟩])
          .ret)
          .skip)))))))
  (.region false [8, 9, 10] [
    ⟨some 24, .bin false .add 3 (.t 10) (.c (.int .i64 1)), none, []⟩,
    ⟨some 10, .mov (.t 24), none, []⟩]))))
def l46_0 : VC := .loop b46_0
/-- loop.example/g00539/impl.WindowFault -/
def v46 : VFun := {
  code :=
    (.seq
    (.region false [0] [
      ⟨some 2, .asg (.c (.int .i64 0)), none, []⟩])
    (.seq
    (.seq
    (.region false [0, 7] [
      ⟨some 5, .mov (.t 0), none, []⟩,
      ⟨some 6, .len false 28 (.t 5), none, []⟩,
      ⟨some 7, .bin false .gtr 3 (.t 6) (.c (.int .i64 12)), none, []⟩])
    (.cond (.t 7)
      (.seq
      (.region false [2] [
        ⟨some 2, .asg (.c (.int .i64 2)), none, []⟩])
      .ret)
      .skip))
    (.seq
    (.seq
    (.region false [8, 9, 10] [
      ⟨some 8, .mov (.t 0), none, []⟩,
      ⟨some 9, .len false 28 (.t 8), none, []⟩,
      ⟨some 10, .mov (.c (.int .i64 0)), none, []⟩])
    (.block 0
      l46_0))
    (.seq
    (.region false [2] [
      ⟨some 2, .asg (.c (.int .i64 0)), none, []⟩])
    .ret))))
  modes := [.lend]
  rets := [⟨2, none⟩] }

def b79_0 : VC :=
  (.seq
  (.seq
  (.region false [0, 1, 5, 9] [
    ⟨some 6, .mov (.t 5), none, []⟩,
    ⟨some 7, .mov (.t 0), none, []⟩,
    ⟨some 8, .len false 28 (.t 7), none, []⟩,
    ⟨some 9, .bin false .lss 3 (.t 6) (.t 8), none, []⟩])
  (.cond (.t 9)
    .skip
    (.exit 0)))
  (.seq
  (.block 1
    (.seq
    (.region false [0, 1, 5, 18] [
      ⟨some 12, .mov (.t 0), none, []⟩,
      ⟨some 13, .mov (.t 5), none, []⟩,
      ⟨some 14, .ia 28 46 2 (.t 12) (.t 13), none, []⟩,
      ⟨some 15, .fa 46 0 0 1 (.t 14), none, []⟩,
      ⟨some 16, .load 9 false 1 (.t 15), none, []⟩,
      ⟨some 17, .mov (.t 1), none, []⟩,
      ⟨some 18, .bin false .eql 9 (.t 16) (.t 17), none, []⟩])
    (.cond (.t 18)
      (.seq
      (.region false [4] [
        ⟨some 19, .mov (.t 5), none, []⟩,
        ⟨some 4, .asg (.t 19), none, []⟩])
      .ret)
      .skip)))
  (.region false [0, 1, 5] [
    ⟨some 10, .mov (.t 5), none, []⟩,
    ⟨some 11, .bin false .add 3 (.t 10) (.c (.int .i64 1)), none, []⟩,
    ⟨some 5, .asg (.t 11), none, []⟩])))
def l79_0 : VC := .loop b79_0
/-- loop.example/g00539/spec.l13At -/
def v79 : VFun := {
  code :=
    (.seq
    (.region false [0, 1] [
      ⟨some 4, .asg (.c (.int .i64 0)), none, []⟩])
    (.seq
    (.seq
    (.region false [0, 1, 5] [
      ⟨some 5, .asg (.c (.int .i64 0)), none, []⟩])
    (.block 0
      l79_0))
    (.seq
    (.region false [4] [
      ⟨some 4, .asg (.c (.int .i64 (-1))), none, []⟩])
    .ret)))
  modes := [.lend, .lend]
  rets := [⟨4, none⟩] }

def b80_0 : VC :=
  (.seq
  (.region false [1, 5, 8, 9, 10, 11] [
    ⟨some 11, .bin false .lss 3 (.t 10) (.t 9), none, []⟩])
  (.seq
  (.cond (.t 11)
    .skip
    (.exit 0))
  (.seq
  (.block 1
    (.seq
    (.region false [1, 5, 7, 8, 9, 10] [
      ⟨some 12, .ia 28 46 2 (.t 8) (.t 10), none, []⟩,
      ⟨some 13, .load 46 true 2 (.t 12), none, []⟩,
      ⟨some 7, .alloc 46 [(.val (.string (⟨#[]⟩ : ByteArray))), (.val (.int .i64 0))], none, []⟩,
      ⟨none, .store 46 2 (.t 7) (.t 13), none, []⟩])
    (.seq
    (.region false [1, 5, 7, 8, 9, 10, 17] [
      ⟨some 14, .fa 46 0 0 1 (.t 7), none, []⟩,
      ⟨some 15, .load 9 false 1 (.t 14), none, []⟩,
      ⟨some 16, .mov (.t 1), none, []⟩,
      ⟨some 17, .bin false .eql 9 (.t 15) (.t 16), none, []⟩])
    (.cond (.t 17)
      (.region false [1, 5, 8, 9, 10] [
        ⟨some 18, .mov (.t 5), none, []⟩,
        ⟨some 19, .fa 46 1 1 1 (.t 7), none, []⟩,
        ⟨some 20, .load 2 false 1 (.t 19), none, []⟩,
        ⟨some 21, .bin false .add 2 (.t 18) (.t 20), none, []⟩,
        ⟨some 5, .asg (.t 21), none, []⟩])
      .skip))))
  (.region false [1, 5, 8, 9, 10] [
    ⟨some 22, .bin false .add 3 (.t 10) (.c (.int .i64 1)), none, []⟩,
    ⟨some 10, .mov (.t 22), none, []⟩]))))
def l80_0 : VC := .loop b80_0
/-- loop.example/g00539/impl.amountOf -/
def v80 : VFun := {
  code :=
    (.seq
    (.region false [0, 1] [
      ⟨some 4, .asg (.c (.int .i64 0)), none, []⟩])
    (.seq
    (.region false [0, 1, 5] [
      ⟨some 5, .asg (.c (.int .i64 0)), none, []⟩])
    (.seq
    (.seq
    (.region false [1, 5, 8, 9, 10] [
      ⟨some 8, .mov (.t 0), none, []⟩,
      ⟨some 9, .len false 28 (.t 8), none, []⟩,
      ⟨some 10, .mov (.c (.int .i64 0)), none, []⟩])
    (.block 0
      l80_0))
    (.seq
    (.region false [4] [
      ⟨some 23, .mov (.t 5), none, []⟩,
      ⟨some 4, .asg (.t 23), none, []⟩])
    .ret))))
  modes := [.lend, .lend]
  rets := [⟨4, none⟩] }

/-- loop.example/g00539/impl.in -/
def v93 : VFun := {
  code :=
    (.seq
    (.region false [0, 1, 2] [
      ⟨some 6, .asg (.c (.bool false)), none, []⟩])
    (.seq
    (.region false [6] [
      ⟨some 7, .mov (.t 0), none, []⟩,
      ⟨some 8, .mov (.t 1), none, []⟩,
      ⟨some 9, .bin false .geq 2 (.t 7) (.t 8), none, []⟩,
      ⟨some 10, .mov (.t 9), none, []⟩,
      ⟨some 11, .mov (.t 0), some (10, true), []⟩,
      ⟨some 12, .mov (.t 2), some (10, true), []⟩,
      ⟨some 13, .bin false .leq 2 (.t 11) (.t 12), some (10, true), []⟩,
      ⟨some 14, .pick (.t 10) (.t 13) (.c (.bool false)), none, []⟩,
      ⟨some 6, .asg (.t 14), none, []⟩])
    .ret))
  modes := [.lend, .lend, .lend]
  rets := [⟨6, none⟩] }

/-- loop.example/g00539/impl.weightAt -/
def v94 : VFun := {
  code :=
    (.seq
    (.region false [0, 3] [
      ⟨some 3, .box 9 (.t 1), none, []⟩,
      ⟨some 4, .asg (.c (.int .i64 0)), none, []⟩])
    (.seq
    (.region false [4] [
      ⟨some 5, .mov (.t 0), none, []⟩,
      ⟨some 6, .fn 148 [] [(.t 3)], none, []⟩,
      ⟨some 7, .call 147 [(.t 5), (.t 6)], none, []⟩,
      ⟨some 4, .asg (.t 7), none, []⟩])
    .ret))
  modes := [.lend, .lend]
  rets := [⟨4, none⟩] }

/-- loop.example/g00539/spec.l1Source -/
def v102 : VFun := {
  code :=
    (.seq
    (.region false [0] [
      ⟨some 2, .asg (.c (.pointer none)), none, []⟩])
    (.seq
    (.region false [2, 5] [
      ⟨some 3, .mov (.t 0), none, []⟩,
      ⟨some 4, .build 176 [(.nl 1), (.val (.int .i64 0))] [(0, 0, 1, (.t 3))], none, []⟩,
      ⟨some 5, .box 176 (.t 4), none, []⟩,
      ⟨some 2, .asg (.t 5), none, []⟩])
    .ret))
  modes := [.lend]
  rets := [⟨2, none⟩] }

/-- loop.example/g00539/spec.l13Bent -/
def v103 : VFun := {
  code :=
    (.seq
    (.region false [0] [
      ⟨some 2, .asg (.n 2), none, []⟩])
    (.seq
    (.region false [0, 3, 5, 21, 24] [
      ⟨some 4, .mov (.t 0), none, []⟩,
      ⟨some 5, .call 153 [(.t 4)], none, []⟩,
      ⟨some 3, .asg (.t 5), none, []⟩])
    (.seq
    (.seq
    (.region false [0, 3, 5, 7, 21, 24] [
      ⟨some 6, .mov (.t 0), none, []⟩,
      ⟨some 7, .call 114 [(.t 6), (.c (.int .i64 12))], none, []⟩])
    (.block 0
      (.seq
      (.region false [0, 3, 5, 7, 8, 21, 24] [
        ⟨some 9, .bin false .eql 2 (.t 7) (.c (.int .i64 0)), none, []⟩,
        ⟨some 8, .asg (.t 9), none, []⟩])
      (.cond (.t 8)
        (.region true [0, 3, 5, 21, 24] [
          ⟨some 10, .mov (.t 3), none, []⟩,
          ⟨some 11, .lit 136 9 1 3 [(.val (.string (⟨#[]⟩ : ByteArray)))] [(0, (.c (.string (⟨#[]⟩ : ByteArray)))), (1, (.c (.string (⟨#[97, 32, 98]⟩ : ByteArray)))), (2, (.c (.string (⟨#[111, 107]⟩ : ByteArray))))], none, [0]⟩,
          ⟨some 12, .mov (.t 0), none, [0, 1]⟩,
          ⟨some 13, .call 114 [(.t 12), (.c (.int .i64 3))], none, [0, 1]⟩,
          ⟨some 14, .ia 136 9 1 (.t 11) (.t 13), none, [0]⟩,
          ⟨some 15, .load 9 false 1 (.t 14), none, [0]⟩,
          ⟨some 16, .mov (.t 0), none, [0, 1, 2, 3, 4, 5]⟩,
          ⟨some 17, .lit 172 2 1 3 [(.val (.int .i64 0))] [(0, (.c (.int .i64 0))), (1, (.c (.int .i64 1))), (2, (.c (.int .i64 10000)))], none, [0, 1, 2, 3, 4, 5, 6]⟩,
          ⟨some 18, .call 105 [(.t 16), (.t 17)], none, [0, 1, 4, 5]⟩,
          ⟨some 19, .build 46 [(.val (.string (⟨#[]⟩ : ByteArray))), (.val (.int .i64 0))] [(0, 0, 1, (.t 15)), (1, 1, 1, (.t 18))], none, [0]⟩,
          ⟨some 20, .lit 28 46 2 1 [(.val (.string (⟨#[]⟩ : ByteArray))), (.val (.int .i64 0))] [(0, (.t 19))], none, [0]⟩,
          ⟨some 21, .app 28 46 2 24 (.t 10) (.t 20), none, []⟩,
          ⟨some 3, .asg (.t 21), none, []⟩])
        (.seq
        (.region false [0, 3, 5, 21, 22, 24] [
          ⟨some 23, .bin false .eql 2 (.t 7) (.c (.int .i64 1)), none, []⟩,
          ⟨some 22, .asg (.t 23), none, []⟩])
        (.cond (.t 22)
          (.region false [0, 3, 5, 21, 24] [
            ⟨some 24, .mk 28 46 2 24 [(.val (.string (⟨#[]⟩ : ByteArray))), (.val (.int .i64 0))] (.c (.int .i64 13)) (.c (.int .i64 13)), none, []⟩,
            ⟨some 3, .asg (.t 24), none, []⟩])
          .skip))))))
    (.seq
    (.region false [0, 2, 3, 5, 21, 24] [
      ⟨some 25, .mov (.t 3), none, []⟩,
      ⟨some 2, .asg (.t 25), none, []⟩])
    .ret))))
  modes := [.io]
  rets := [⟨2, none⟩] }

/-- loop.example/g00539/spec.l13Worker -/
def v104 : VFun := {
  code :=
    (.seq
    (.region false [0] [
      ⟨some 2, .asg (.c (.string (⟨#[]⟩ : ByteArray))), none, []⟩])
    (.seq
    (.region false [0, 2] [
      ⟨some 3, .lit 136 9 1 4 [(.val (.string (⟨#[]⟩ : ByteArray)))] [(0, (.c (.string (⟨#[98, 111, 98]⟩ : ByteArray)))), (1, (.c (.string (⟨#[97, 110, 110]⟩ : ByteArray)))), (2, (.c (.string (⟨#[101, 118, 101]⟩ : ByteArray)))), (3, (.c (.string (⟨#[120, 49]⟩ : ByteArray))))], none, []⟩,
      ⟨some 4, .mov (.t 0), none, []⟩,
      ⟨some 5, .call 114 [(.t 4), (.c (.int .i64 4))], none, []⟩,
      ⟨some 6, .ia 136 9 1 (.t 3) (.t 5), none, []⟩,
      ⟨some 7, .load 9 false 1 (.t 6), none, []⟩,
      ⟨some 2, .asg (.t 7), none, []⟩])
    .ret))
  modes := [.io]
  rets := [⟨2, none⟩] }

/-- loop.example/g00539/spec.l1Pick -/
def v105 : VFun := {
  code :=
    (.seq
    (.region false [0, 1] [
      ⟨some 4, .asg (.c (.int .i64 0)), none, []⟩])
    (.seq
    (.region false [0, 4] [
      ⟨some 5, .mov (.t 1), none, []⟩,
      ⟨some 6, .mov (.t 0), none, []⟩,
      ⟨some 7, .mov (.t 1), none, []⟩,
      ⟨some 8, .len false 172 (.t 7), none, []⟩,
      ⟨some 9, .call 114 [(.t 6), (.t 8)], none, []⟩,
      ⟨some 10, .ia 172 2 1 (.t 5) (.t 9), none, []⟩,
      ⟨some 11, .load 2 false 1 (.t 10), none, []⟩,
      ⟨some 4, .asg (.t 11), none, []⟩])
    .ret))
  modes := [.io, .lend]
  rets := [⟨4, none⟩] }

def b107_0 : VC :=
  (.seq
  (.seq
  (.region false [0, 3, 11] [
    ⟨some 8, .mov (.t 3), none, []⟩,
    ⟨some 9, .mov (.t 0), none, []⟩,
    ⟨some 10, .len false 28 (.t 9), none, []⟩,
    ⟨some 11, .bin false .lss 3 (.t 8) (.t 10), none, []⟩])
  (.cond (.t 11)
    .skip
    (.exit 0)))
  (.seq
  (.block 1
    (.seq
    (.region false [0, 3, 4] [
      ⟨some 14, .mov (.t 0), none, []⟩,
      ⟨some 15, .mov (.t 3), none, []⟩,
      ⟨some 16, .ia 28 46 2 (.t 14) (.t 15), none, []⟩,
      ⟨some 17, .call 109 [(.t 16)], none, []⟩,
      ⟨some 4, .asg (.t 17), none, []⟩])
    (.seq
    (.region false [0, 3, 4, 19] [
      ⟨some 18, .mov (.t 4), none, []⟩,
      ⟨some 19, .bin false .neq 2 (.t 18) (.c (.int .i64 0)), none, []⟩])
    (.cond (.t 19)
      (.seq
      (.region false [2] [
        ⟨some 20, .mov (.t 4), none, []⟩,
        ⟨some 2, .asg (.t 20), none, []⟩])
      .ret)
      .skip))))
  (.region false [0, 3] [
    ⟨some 12, .mov (.t 3), none, []⟩,
    ⟨some 13, .bin false .add 3 (.t 12) (.c (.int .i64 1)), none, []⟩,
    ⟨some 3, .asg (.t 13), none, []⟩])))
def l107_0 : VC := .loop b107_0
/-- loop.example/g00539/spec.l13Fault -/
def v107 : VFun := {
  code :=
    (.seq
    (.region false [0] [
      ⟨some 2, .asg (.c (.int .i64 0)), none, []⟩])
    (.seq
    (.seq
    (.region false [0, 7] [
      ⟨some 5, .mov (.t 0), none, []⟩,
      ⟨some 6, .len false 28 (.t 5), none, []⟩,
      ⟨some 7, .bin false .gtr 3 (.t 6) (.c (.int .i64 12)), none, []⟩])
    (.cond (.t 7)
      (.seq
      (.region false [2] [
        ⟨some 2, .asg (.c (.int .i64 2)), none, []⟩])
      .ret)
      .skip))
    (.seq
    (.seq
    (.region false [0, 3] [
      ⟨some 3, .asg (.c (.int .i64 0)), none, []⟩])
    (.block 0
      l107_0))
    (.seq
    (.region false [2] [
      ⟨some 2, .asg (.c (.int .i64 0)), none, []⟩])
    .ret))))
  modes := [.lend]
  rets := [⟨2, none⟩] }

def b108_0 : VC :=
  (.seq
  (.seq
  (.region false [0, 3, 4, 6, 10, 43] [
    ⟨some 7, .mov (.t 4), none, []⟩,
    ⟨some 8, .mov (.t 0), none, []⟩,
    ⟨some 9, .len false 28 (.t 8), none, []⟩,
    ⟨some 10, .bin false .lss 3 (.t 7) (.t 9), none, []⟩])
  (.cond (.t 10)
    .skip
    (.exit 0)))
  (.seq
  (.block 1
    (.seq
    (.region false [0, 3, 4, 5, 6, 43] [
      ⟨some 13, .mov (.t 3), none, []⟩,
      ⟨some 14, .mov (.t 0), none, []⟩,
      ⟨some 15, .mov (.t 4), none, []⟩,
      ⟨some 16, .ia 28 46 2 (.t 14) (.t 15), none, []⟩,
      ⟨some 17, .fa 46 0 0 1 (.t 16), none, []⟩,
      ⟨some 18, .load 9 false 1 (.t 17), none, []⟩,
      ⟨some 19, .call 79 [(.t 13), (.t 18)], none, []⟩,
      ⟨some 5, .asg (.t 19), none, []⟩])
    (.seq
    (.region false [0, 3, 4, 5, 6, 21, 43] [
      ⟨some 20, .mov (.t 5), none, []⟩,
      ⟨some 21, .bin false .geq 3 (.t 20) (.c (.int .i64 0)), none, []⟩])
    (.cond (.t 21)
      (.region true [0, 3, 4, 6, 43] [
        ⟨some 22, .mov (.t 3), none, []⟩,
        ⟨some 23, .mov (.t 5), none, [0]⟩,
        ⟨some 24, .mov (.t 3), none, [0, 1]⟩,
        ⟨some 25, .mov (.t 5), none, [0, 1, 2]⟩,
        ⟨some 26, .ia 28 46 2 (.t 24) (.t 25), none, [0, 1]⟩,
        ⟨some 27, .fa 46 1 1 1 (.t 26), none, [0, 1]⟩,
        ⟨some 28, .load 2 false 1 (.t 27), none, [0, 1]⟩,
        ⟨some 29, .mov (.t 0), none, [0, 1, 2, 3, 4, 5, 6]⟩,
        ⟨some 30, .mov (.t 4), none, [0, 1, 2, 3, 4, 5, 6, 7]⟩,
        ⟨some 31, .ia 28 46 2 (.t 29) (.t 30), none, [0, 1, 2, 3, 4, 5, 6]⟩,
        ⟨some 32, .fa 46 1 1 1 (.t 31), none, [0, 1, 2, 3, 4, 5, 6]⟩,
        ⟨some 33, .load 2 false 1 (.t 32), none, [0, 1, 2, 3, 4, 5, 6]⟩,
        ⟨some 34, .bin false .add 2 (.t 28) (.t 33), none, [0, 1]⟩,
        ⟨some 35, .ia 28 46 2 (.t 22) (.t 23), none, []⟩,
        ⟨some 36, .fa 46 1 1 1 (.t 35), none, []⟩,
        ⟨none, .store 2 1 (.t 36) (.t 34), none, []⟩])
      (.region false [0, 3, 4, 6, 43] [
        ⟨some 37, .mov (.t 3), none, []⟩,
        ⟨some 38, .mov (.t 0), none, []⟩,
        ⟨some 39, .mov (.t 4), none, []⟩,
        ⟨some 40, .ia 28 46 2 (.t 38) (.t 39), none, []⟩,
        ⟨some 41, .load 46 true 2 (.t 40), none, []⟩,
        ⟨some 42, .lit 28 46 2 1 [(.val (.string (⟨#[]⟩ : ByteArray))), (.val (.int .i64 0))] [(0, (.t 41))], none, []⟩,
        ⟨some 43, .app 28 46 2 24 (.t 37) (.t 42), none, []⟩,
        ⟨some 3, .asg (.t 43), none, []⟩])))))
  (.region false [0, 3, 4, 6, 43] [
    ⟨some 11, .mov (.t 4), none, []⟩,
    ⟨some 12, .bin false .add 3 (.t 11) (.c (.int .i64 1)), none, []⟩,
    ⟨some 4, .asg (.t 12), none, []⟩])))
def l108_0 : VC := .loop b108_0
/-- loop.example/g00539/spec.l13Merge -/
def v108 : VFun := {
  code :=
    (.seq
    (.region false [0] [
      ⟨some 2, .asg (.n 2), none, []⟩])
    (.seq
    (.region false [0, 3, 6, 43] [
      ⟨some 6, .lit 28 46 2 0 [(.val (.string (⟨#[]⟩ : ByteArray))), (.val (.int .i64 0))] [], none, []⟩,
      ⟨some 3, .asg (.t 6), none, []⟩])
    (.seq
    (.seq
    (.region false [0, 3, 4, 6, 43] [
      ⟨some 4, .asg (.c (.int .i64 0)), none, []⟩])
    (.block 0
      l108_0))
    (.seq
    (.region false [2, 3, 6, 43] [
      ⟨some 44, .mov (.t 3), none, []⟩,
      ⟨some 2, .asg (.t 44), none, []⟩])
    .ret))))
  modes := [.lend]
  rets := [⟨2, none⟩] }

/-- loop.example/g00539/spec.l13One -/
def v109 : VFun := {
  code :=
    (.seq
    (.region false [0] [
      ⟨some 2, .asg (.c (.int .i64 0)), none, []⟩])
    (.seq
    (.seq
    (.region false [0, 15] [
      ⟨some 3, .mov (.t 0), none, []⟩,
      ⟨some 4, .nilc (.t 3), none, []⟩,
      ⟨some 5, .fa 46 0 0 1 (.t 4), none, []⟩,
      ⟨some 6, .load 9 false 1 (.t 5), none, []⟩,
      ⟨some 7, .bin false .eql 9 (.t 6) (.c (.string (⟨#[]⟩ : ByteArray))), none, []⟩,
      ⟨some 8, .mov (.t 7), none, []⟩,
      ⟨some 9, .mov (.t 0), some (8, false), []⟩,
      ⟨some 10, .nilc (.t 9), some (8, false), []⟩,
      ⟨some 11, .fa 46 0 0 1 (.t 10), some (8, false), []⟩,
      ⟨some 12, .load 9 false 1 (.t 11), some (8, false), []⟩,
      ⟨some 13, .call 154 [(.t 12)], some (8, false), []⟩,
      ⟨some 14, .un .not (.t 13), some (8, false), []⟩,
      ⟨some 15, .pick (.t 8) (.c (.bool true)) (.t 14), none, []⟩])
    (.cond (.t 15)
      (.seq
      (.region false [2] [
        ⟨some 2, .asg (.c (.int .i64 5)), none, []⟩])
      .ret)
      .skip))
    (.seq
    (.seq
    (.region false [21] [
      ⟨some 16, .mov (.t 0), none, []⟩,
      ⟨some 17, .nilc (.t 16), none, []⟩,
      ⟨some 18, .fa 46 1 1 1 (.t 17), none, []⟩,
      ⟨some 19, .load 2 false 1 (.t 18), none, []⟩,
      ⟨some 20, .call 110 [(.t 19), (.c (.int .i64 1)), (.c (.int .i64 9999))], none, []⟩,
      ⟨some 21, .un .not (.t 20), none, []⟩])
    (.cond (.t 21)
      (.seq
      (.region false [2] [
        ⟨some 2, .asg (.c (.int .i64 3)), none, []⟩])
      .ret)
      .skip))
    (.seq
    (.region false [2] [
      ⟨some 2, .asg (.c (.int .i64 0)), none, []⟩])
    .ret))))
  modes := [.lend]
  rets := [⟨2, none⟩] }

/-- loop.example/g00539/spec.l1In -/
def v110 : VFun := {
  code :=
    (.seq
    (.region false [0, 1, 2] [
      ⟨some 6, .asg (.c (.bool false)), none, []⟩])
    (.seq
    (.region false [6] [
      ⟨some 7, .mov (.t 0), none, []⟩,
      ⟨some 8, .mov (.t 1), none, []⟩,
      ⟨some 9, .bin false .geq 2 (.t 7) (.t 8), none, []⟩,
      ⟨some 10, .mov (.t 9), none, []⟩,
      ⟨some 11, .mov (.t 0), some (10, true), []⟩,
      ⟨some 12, .mov (.t 2), some (10, true), []⟩,
      ⟨some 13, .bin false .leq 2 (.t 11) (.t 12), some (10, true), []⟩,
      ⟨some 14, .pick (.t 10) (.t 13) (.c (.bool false)), none, []⟩,
      ⟨some 6, .asg (.t 14), none, []⟩])
    .ret))
  modes := [.lend, .lend, .lend]
  rets := [⟨6, none⟩] }

def b111_0 : VC :=
  (.seq
  (.seq
  (.region false [2, 7, 13, 17] [
    ⟨some 14, .mov (.t 7), none, []⟩,
    ⟨some 15, .len false 28 (.t 14), none, []⟩,
    ⟨some 16, .mov (.t 2), none, []⟩,
    ⟨some 17, .bin false .gtr 2 (.t 15) (.t 16), none, []⟩])
  (.cond (.t 17)
    .skip
    (.exit 0)))
  (.block 1
    (.region false [2, 7, 13] [
      ⟨some 18, .mov (.t 7), none, []⟩,
      ⟨some 19, .cut 28 (some 46) 2 (.t 18) (some (.c (.int .i64 1))) none, none, []⟩,
      ⟨some 7, .asg (.t 19), none, []⟩])))
def l111_0 : VC := .loop b111_0
/-- loop.example/g00539/spec.l13Push -/
def v111 : VFun := {
  code :=
    (.seq
    (.region false [0, 2, 4] [
      ⟨some 4, .box 46 (.t 1), none, []⟩,
      ⟨some 6, .asg (.n 2), none, []⟩])
    (.seq
    (.region true [2, 7, 13] [
      ⟨some 8, .lit 28 46 2 0 [(.val (.string (⟨#[]⟩ : ByteArray))), (.val (.int .i64 0))] [], none, []⟩,
      ⟨some 9, .mov (.t 0), none, [0]⟩,
      ⟨some 10, .app 28 46 2 24 (.t 8) (.t 9), none, []⟩,
      ⟨some 11, .load 46 true 2 (.t 4), none, [0, 1, 2]⟩,
      ⟨some 12, .lit 28 46 2 1 [(.val (.string (⟨#[]⟩ : ByteArray))), (.val (.int .i64 0))] [(0, (.t 11))], none, [0, 1, 2]⟩,
      ⟨some 13, .app 28 46 2 24 (.t 10) (.t 12), none, []⟩,
      ⟨some 7, .asg (.t 13), none, []⟩])
    (.seq
    (.block 0
      l111_0)
    (.seq
    (.region false [6, 22] [
      ⟨some 20, .lit 28 46 2 0 [(.val (.string (⟨#[]⟩ : ByteArray))), (.val (.int .i64 0))] [], none, []⟩,
      ⟨some 21, .mov (.t 7), none, []⟩,
      ⟨some 22, .app 28 46 2 24 (.t 20) (.t 21), none, []⟩,
      ⟨some 6, .asg (.t 22), none, []⟩])
    .ret))))
  modes := [.lend, .lend, .lend]
  rets := [⟨6, none⟩] }

def b112_0 : VC :=
  (.seq
  (.region false [3, 7, 8, 9, 10, 11, 33] [
    ⟨some 11, .bin false .lss 3 (.t 10) (.t 9), none, []⟩])
  (.seq
  (.cond (.t 11)
    .skip
    (.exit 0))
  (.seq
  (.block 1
    (.seq
    (.region false [3, 5, 7, 8, 9, 10, 33] [
      ⟨some 12, .ia 28 46 2 (.t 8) (.t 10), none, []⟩,
      ⟨some 13, .load 46 true 2 (.t 12), none, []⟩,
      ⟨some 5, .alloc 46 [(.val (.string (⟨#[]⟩ : ByteArray))), (.val (.int .i64 0))], none, []⟩,
      ⟨none, .store 46 2 (.t 5) (.t 13), none, []⟩])
    (.seq
    (.region false [3, 5, 6, 7, 8, 9, 10, 33] [
      ⟨some 14, .mov (.t 3), none, []⟩,
      ⟨some 15, .fa 46 0 0 1 (.t 5), none, []⟩,
      ⟨some 16, .load 9 false 1 (.t 15), none, []⟩,
      ⟨some 17, .call 94 [(.t 14), (.t 16)], none, []⟩,
      ⟨some 6, .asg (.t 17), none, []⟩])
    (.seq
    (.region false [3, 5, 6, 7, 8, 9, 10, 19, 33] [
      ⟨some 18, .mov (.t 6), none, []⟩,
      ⟨some 19, .bin false .geq 3 (.t 18) (.c (.int .i64 0)), none, []⟩])
    (.cond (.t 19)
      (.region true [3, 7, 8, 9, 10, 33] [
        ⟨some 20, .mov (.t 3), none, []⟩,
        ⟨some 21, .mov (.t 6), none, [0]⟩,
        ⟨some 22, .ia 28 46 2 (.t 20) (.t 21), none, []⟩,
        ⟨some 23, .fa 46 1 1 1 (.t 22), none, []⟩,
        ⟨some 24, .load 2 false 1 (.t 23), none, []⟩,
        ⟨some 25, .fa 46 1 1 1 (.t 5), none, [0, 1, 2, 3, 4]⟩,
        ⟨some 26, .load 2 false 1 (.t 25), none, [0, 1, 2, 3, 4]⟩,
        ⟨some 27, .bin false .add 2 (.t 24) (.t 26), none, []⟩,
        ⟨some 28, .ia 28 46 2 (.t 20) (.t 21), none, []⟩,
        ⟨some 29, .fa 46 1 1 1 (.t 28), none, []⟩,
        ⟨none, .store 2 1 (.t 29) (.t 27), none, []⟩])
      (.region false [3, 7, 8, 9, 10, 33] [
        ⟨some 30, .mov (.t 3), none, []⟩,
        ⟨some 31, .load 46 true 2 (.t 5), none, []⟩,
        ⟨some 32, .lit 28 46 2 1 [(.val (.string (⟨#[]⟩ : ByteArray))), (.val (.int .i64 0))] [(0, (.t 31))], none, []⟩,
        ⟨some 33, .app 28 46 2 24 (.t 30) (.t 32), none, []⟩,
        ⟨some 3, .asg (.t 33), none, []⟩]))))))
  (.region false [3, 7, 8, 9, 10, 33] [
    ⟨some 34, .bin false .add 3 (.t 10) (.c (.int .i64 1)), none, []⟩,
    ⟨some 10, .mov (.t 34), none, []⟩]))))
def l112_0 : VC := .loop b112_0
/-- loop.example/g00539/impl.merged -/
def v112 : VFun := {
  code :=
    (.seq
    (.region false [0] [
      ⟨some 2, .asg (.n 2), none, []⟩])
    (.seq
    (.region false [0, 3, 7, 33] [
      ⟨some 7, .lit 28 46 2 0 [(.val (.string (⟨#[]⟩ : ByteArray))), (.val (.int .i64 0))] [], none, []⟩,
      ⟨some 3, .asg (.t 7), none, []⟩])
    (.seq
    (.seq
    (.region false [3, 7, 8, 9, 10, 33] [
      ⟨some 8, .mov (.t 0), none, []⟩,
      ⟨some 9, .len false 28 (.t 8), none, []⟩,
      ⟨some 10, .mov (.c (.int .i64 0)), none, []⟩])
    (.block 0
      l112_0))
    (.seq
    (.region false [2, 3, 7, 33] [
      ⟨some 35, .mov (.t 3), none, []⟩,
      ⟨some 2, .asg (.t 35), none, []⟩])
    .ret))))
  modes := [.lend]
  rets := [⟨2, none⟩] }

/-- loop.example/g00539/impl.workerOk -/
def v113 : VFun := {
  code :=
    (.seq
    (.region false [0] [
      ⟨some 2, .asg (.c (.bool false)), none, []⟩])
    (.seq
    (.region false [2] [
      ⟨some 3, .mov (.t 0), none, []⟩,
      ⟨some 4, .bin false .neq 9 (.t 3) (.c (.string (⟨#[]⟩ : ByteArray))), none, []⟩,
      ⟨some 5, .mov (.t 4), none, []⟩,
      ⟨some 6, .mov (.t 0), some (5, true), []⟩,
      ⟨some 7, .call 155 [(.t 6)], some (5, true), []⟩,
      ⟨some 8, .pick (.t 5) (.t 7) (.c (.bool false)), none, []⟩,
      ⟨some 2, .asg (.t 8), none, []⟩])
    .ret))
  modes := [.lend]
  rets := [⟨2, none⟩] }

/-- loop.example/g00539/spec.l1Next -/
def v114 : VFun := {
  code :=
    (.seq
    (.region false [0, 1] [
      ⟨some 4, .asg (.c (.int .i64 0)), none, []⟩])
    (.seq
    (.region false [0, 1] [
      ⟨some 8, .mov (.t 0), none, []⟩,
      ⟨some 9, .mov (.t 0), none, []⟩,
      ⟨some 10, .nilc (.t 9), none, []⟩,
      ⟨some 11, .fa 176 1 1 1 (.t 10), none, []⟩,
      ⟨some 12, .load 2 false 1 (.t 11), none, []⟩,
      ⟨some 13, .bin false .add 2 (.t 12) (.c (.int .i64 1)), none, []⟩,
      ⟨some 14, .nilc (.t 8), none, []⟩,
      ⟨some 15, .fa 176 1 1 1 (.t 14), none, []⟩,
      ⟨none, .store 2 1 (.t 15) (.t 13), none, []⟩])
    (.seq
    (.seq
    (.region false [0, 1, 17] [
      ⟨some 16, .mov (.t 1), none, []⟩,
      ⟨some 17, .bin false .lss 2 (.t 16) (.c (.int .i64 1)), none, []⟩])
    (.cond (.t 17)
      (.seq
      (.region false [0, 4] [
        ⟨some 4, .asg (.c (.int .i64 0)), none, []⟩])
      .ret)
      .skip))
    (.seq
    (.region false [0, 1, 5] [
      ⟨some 18, .mov (.t 0), none, []⟩,
      ⟨some 19, .nilc (.t 18), none, []⟩,
      ⟨some 20, .fa 176 1 1 1 (.t 19), none, []⟩,
      ⟨some 21, .load 2 false 1 (.t 20), none, []⟩,
      ⟨some 22, .bin false .sub 2 (.t 21) (.c (.int .i64 1)), none, []⟩,
      ⟨some 5, .asg (.t 22), none, []⟩])
    (.seq
    (.region false [0, 1, 5, 6] [
      ⟨some 23, .mov (.t 0), none, []⟩,
      ⟨some 24, .nilc (.t 23), none, []⟩,
      ⟨some 25, .fa 176 0 0 1 (.t 24), none, []⟩,
      ⟨some 26, .load 58 false 1 (.t 25), none, []⟩,
      ⟨some 27, .len false 58 (.t 26), none, []⟩,
      ⟨some 6, .asg (.t 27), none, []⟩])
    (.seq
    (.seq
    (.region false [0, 1, 5, 6, 29] [
      ⟨some 28, .mov (.t 6), none, []⟩,
      ⟨some 29, .bin false .eql 2 (.t 28) (.c (.int .i64 0)), none, []⟩])
    (.cond (.t 29)
      (.seq
      (.region false [0, 4] [
        ⟨some 30, .mov (.t 5), none, []⟩,
        ⟨some 31, .bin false .mul 2 (.t 30) (.c (.int .i64 7)), none, []⟩,
        ⟨some 32, .mov (.t 1), none, []⟩,
        ⟨some 33, .bin false .rem 2 (.t 31) (.t 32), none, []⟩,
        ⟨some 4, .asg (.t 33), none, []⟩])
      .ret)
      .skip))
    (.seq
    (.region true [0, 1, 5, 6, 7] [
      ⟨some 34, .mov (.t 0), none, []⟩,
      ⟨some 35, .nilc (.t 34), none, []⟩,
      ⟨some 36, .fa 176 0 0 1 (.t 35), none, []⟩,
      ⟨some 37, .load 58 false 1 (.t 36), none, []⟩,
      ⟨some 38, .mov (.t 5), none, [0, 1, 2, 3]⟩,
      ⟨some 39, .mov (.t 6), none, [0, 1, 2, 3, 4]⟩,
      ⟨some 40, .bin false .rem 2 (.t 38) (.t 39), none, [0, 1, 2, 3]⟩,
      ⟨some 41, .ia 58 5 1 (.t 37) (.t 40), none, []⟩,
      ⟨some 42, .load 5 false 1 (.t 41), none, []⟩,
      ⟨some 43, .conv 5 2 .i64 (.t 42), none, []⟩,
      ⟨some 44, .mov (.t 5), none, [0, 1, 2, 3, 4, 5, 6, 7, 8, 9]⟩,
      ⟨some 45, .mov (.t 6), none, [0, 1, 2, 3, 4, 5, 6, 7, 8, 9, 10]⟩,
      ⟨some 46, .bin false .quo 2 (.t 44) (.t 45), none, [0, 1, 2, 3, 4, 5, 6, 7, 8, 9]⟩,
      ⟨some 47, .bin false .mul 2 (.t 46) (.c (.int .i64 37)), none, [0, 1, 2, 3, 4, 5, 6, 7, 8, 9]⟩,
      ⟨some 48, .bin false .add 2 (.t 43) (.t 47), none, []⟩,
      ⟨some 7, .asg (.t 48), none, []⟩])
    (.seq
    (.seq
    (.region false [0, 1, 5, 6, 7, 50] [
      ⟨some 49, .mov (.t 1), none, []⟩,
      ⟨some 50, .bin false .gtr 2 (.t 49) (.c (.int .i64 200)), none, []⟩])
    (.cond (.t 50)
      (.region true [0, 1, 7] [
        ⟨some 51, .mov (.t 7), none, []⟩,
        ⟨some 52, .bin false .mul 2 (.t 51) (.c (.int .i64 251)), none, []⟩,
        ⟨some 53, .mov (.t 0), none, [0, 1]⟩,
        ⟨some 54, .nilc (.t 53), none, [0, 1]⟩,
        ⟨some 55, .fa 176 0 0 1 (.t 54), none, [0, 1]⟩,
        ⟨some 56, .load 58 false 1 (.t 55), none, [0, 1]⟩,
        ⟨some 57, .mov (.t 5), none, [0, 1, 2, 3, 4, 5]⟩,
        ⟨some 58, .bin false .add 2 (.t 57) (.c (.int .i64 1)), none, [0, 1, 2, 3, 4, 5]⟩,
        ⟨some 59, .mov (.t 6), none, [0, 1, 2, 3, 4, 5, 6, 7]⟩,
        ⟨some 60, .bin false .rem 2 (.t 58) (.t 59), none, [0, 1, 2, 3, 4, 5]⟩,
        ⟨some 61, .ia 58 5 1 (.t 56) (.t 60), none, [0, 1]⟩,
        ⟨some 62, .load 5 false 1 (.t 61), none, [0, 1]⟩,
        ⟨some 63, .conv 5 2 .i64 (.t 62), none, [0, 1]⟩,
        ⟨some 64, .bin false .mul 2 (.t 63) (.c (.int .i64 13)), none, [0, 1]⟩,
        ⟨some 65, .bin false .add 2 (.t 52) (.t 64), none, []⟩,
        ⟨some 66, .mov (.t 5), none, [0, 1, 2, 3, 4, 5, 6, 7, 8, 9, 10, 11, 12, 13, 14]⟩,
        ⟨some 67, .bin false .add 2 (.t 65) (.t 66), none, []⟩,
        ⟨some 7, .asg (.t 67), none, []⟩])
      .skip))
    (.seq
    (.region false [0, 4] [
      ⟨some 68, .mov (.t 7), none, []⟩,
      ⟨some 69, .mov (.t 1), none, []⟩,
      ⟨some 70, .bin false .rem 2 (.t 68) (.t 69), none, []⟩,
      ⟨some 4, .asg (.t 70), none, []⟩])
    .ret)))))))))
  modes := [.io, .lend]
  rets := [⟨4, none⟩] }

def b147_0 : VC :=
  (.seq
  (.region false [0, 1, 7, 8, 9] [
    ⟨some 9, .bin false .lss 3 (.t 8) (.t 7), none, []⟩])
  (.seq
  (.cond (.t 9)
    .skip
    (.exit 0))
  (.seq
  (.block 1
    (.seq
    (.region false [0, 1, 5, 7, 8] [
      ⟨some 10, .mov (.t 8), none, []⟩,
      ⟨some 5, .asg (.t 10), none, []⟩])
    (.seq
    (.region false [0, 1, 5, 7, 8, 16] [
      ⟨some 11, .mov (.t 1), none, []⟩,
      ⟨some 12, .mov (.t 0), none, []⟩,
      ⟨some 13, .mov (.t 5), none, []⟩,
      ⟨some 14, .ia 28 46 2 (.t 12) (.t 13), none, []⟩,
      ⟨some 15, .load 46 true 2 (.t 14), none, []⟩,
      ⟨some 16, .callv (.t 11) [(.t 15)], none, []⟩])
    (.cond (.t 16)
      (.seq
      (.region false [4] [
        ⟨some 17, .mov (.t 5), none, []⟩,
        ⟨some 4, .asg (.t 17), none, []⟩])
      .ret)
      .skip))))
  (.region false [0, 1, 7, 8] [
    ⟨some 18, .bin false .add 3 (.t 8) (.c (.int .i64 1)), none, []⟩,
    ⟨some 8, .mov (.t 18), none, []⟩]))))
def l147_0 : VC := .loop b147_0
/-- slices.IndexFunc[[]loop.example/g00539/impl.Weight,loop.example/g00539/impl.Weight] -/
def v147 : VFun := {
  code :=
    (.seq
    (.region false [0, 1] [
      ⟨some 4, .asg (.c (.int .i64 0)), none, []⟩])
    (.seq
    (.seq
    (.region false [0, 1, 7, 8] [
      ⟨some 6, .mov (.t 0), none, []⟩,
      ⟨some 7, .len false 28 (.t 6), none, []⟩,
      ⟨some 8, .mov (.c (.int .i64 0)), none, []⟩])
    (.block 0
      l147_0))
    (.seq
    (.region false [4] [
      ⟨some 4, .asg (.c (.int .i64 (-1))), none, []⟩])
    .ret)))
  modes := [.lend, .lend]
  rets := [⟨4, none⟩] }

/-- loop.example/g00539/impl.weightAt$1 -/
def v148 : VFun := {
  code :=
    (.seq
    (.region false [1, 2] [
      ⟨some 2, .box 46 (.t 0), none, []⟩,
      ⟨some 3, .asg (.c (.bool false)), none, []⟩])
    (.seq
    (.region false [3] [
      ⟨some 4, .fa 46 0 0 1 (.t 2), none, []⟩,
      ⟨some 5, .load 9 false 1 (.t 4), none, []⟩,
      ⟨some 6, .load 9 false 1 (.t 1), none, []⟩,
      ⟨some 7, .bin false .eql 9 (.t 5) (.t 6), none, []⟩,
      ⟨some 3, .asg (.t 7), none, []⟩])
    .ret))
  modes := [.lend, .lend]
  rets := [⟨3, none⟩] }

def b153_0 : VC :=
  (.seq
  (.seq
  (.region false [0, 3, 4, 5, 9, 20] [
    ⟨some 8, .mov (.t 4), none, []⟩,
    ⟨some 9, .bin false .gtr 2 (.t 8) (.c (.int .i64 0)), none, []⟩])
  (.cond (.t 9)
    .skip
    (.exit 0)))
  (.seq
  (.block 1
    (.region false [0, 3, 4, 5, 20] [
      ⟨some 12, .mov (.t 3), none, []⟩,
      ⟨some 13, .mov (.t 0), none, []⟩,
      ⟨some 14, .call 104 [(.t 13)], none, []⟩,
      ⟨some 15, .mov (.t 0), none, []⟩,
      ⟨some 16, .lit 172 2 1 5 [(.val (.int .i64 0))] [(0, (.c (.int .i64 1))), (1, (.c (.int .i64 2))), (2, (.c (.int .i64 3))), (3, (.c (.int .i64 7))), (4, (.c (.int .i64 9999)))], none, []⟩,
      ⟨some 17, .call 105 [(.t 15), (.t 16)], none, []⟩,
      ⟨some 18, .build 46 [(.val (.string (⟨#[]⟩ : ByteArray))), (.val (.int .i64 0))] [(0, 0, 1, (.t 14)), (1, 1, 1, (.t 17))], none, []⟩,
      ⟨some 19, .lit 28 46 2 1 [(.val (.string (⟨#[]⟩ : ByteArray))), (.val (.int .i64 0))] [(0, (.t 18))], none, []⟩,
      ⟨some 20, .app 28 46 2 24 (.t 12) (.t 19), none, []⟩,
      ⟨some 3, .asg (.t 20), none, []⟩]))
  (.region false [0, 3, 4, 5, 20] [
    ⟨some 10, .mov (.t 4), none, []⟩,
    ⟨some 11, .bin false .sub 2 (.t 10) (.c (.int .i64 1)), none, []⟩,
    ⟨some 4, .asg (.t 11), none, []⟩])))
def l153_0 : VC := .loop b153_0
/-- loop.example/g00539/spec.l13Draw -/
def v153 : VFun := {
  code :=
    (.seq
    (.region false [0] [
      ⟨some 2, .asg (.n 2), none, []⟩])
    (.seq
    (.region false [0, 3, 5, 20] [
      ⟨some 5, .lit 28 46 2 0 [(.val (.string (⟨#[]⟩ : ByteArray))), (.val (.int .i64 0))] [], none, []⟩,
      ⟨some 3, .asg (.t 5), none, []⟩])
    (.seq
    (.seq
    (.region false [0, 3, 4, 5, 20] [
      ⟨some 6, .mov (.t 0), none, []⟩,
      ⟨some 7, .call 114 [(.t 6), (.c (.int .i64 8))], none, []⟩,
      ⟨some 4, .asg (.t 7), none, []⟩])
    (.block 0
      l153_0))
    (.seq
    (.region false [0, 2, 3, 5, 20] [
      ⟨some 21, .mov (.t 3), none, []⟩,
      ⟨some 2, .asg (.t 21), none, []⟩])
    .ret))))
  modes := [.io]
  rets := [⟨2, none⟩] }

def b154_0 : VC :=
  (.seq
  (.seq
  (.region false [0, 3, 7] [
    ⟨some 4, .mov (.t 3), none, []⟩,
    ⟨some 5, .mov (.t 0), none, []⟩,
    ⟨some 6, .len true 9 (.t 5), none, []⟩,
    ⟨some 7, .bin false .lss 3 (.t 4) (.t 6), none, []⟩])
  (.cond (.t 7)
    .skip
    (.exit 0)))
  (.seq
  (.block 1
    (.seq
    (.region false [0, 3, 14] [
      ⟨some 10, .mov (.t 0), none, []⟩,
      ⟨some 11, .mov (.t 3), none, []⟩,
      ⟨some 12, .idx 9 (.t 10) (.t 11), none, []⟩,
      ⟨some 13, .call 171 [(.t 12)], none, []⟩,
      ⟨some 14, .un .not (.t 13), none, []⟩])
    (.cond (.t 14)
      (.seq
      (.region false [2] [
        ⟨some 2, .asg (.c (.bool false)), none, []⟩])
      .ret)
      .skip)))
  (.region false [0, 3] [
    ⟨some 8, .mov (.t 3), none, []⟩,
    ⟨some 9, .bin false .add 3 (.t 8) (.c (.int .i64 1)), none, []⟩,
    ⟨some 3, .asg (.t 9), none, []⟩])))
def l154_0 : VC := .loop b154_0
/-- loop.example/g00539/spec.l9Arg -/
def v154 : VFun := {
  code :=
    (.seq
    (.region false [0] [
      ⟨some 2, .asg (.c (.bool false)), none, []⟩])
    (.seq
    (.seq
    (.region false [0, 3] [
      ⟨some 3, .asg (.c (.int .i64 0)), none, []⟩])
    (.block 0
      l154_0))
    (.seq
    (.region false [2] [
      ⟨some 15, .mov (.t 0), none, []⟩,
      ⟨some 16, .len true 9 (.t 15), none, []⟩,
      ⟨some 17, .bin false .leq 3 (.t 16) (.c (.int .i64 12)), none, []⟩,
      ⟨some 2, .asg (.t 17), none, []⟩])
    .ret)))
  modes := [.lend]
  rets := [⟨2, none⟩] }

/-- loop.example/g00539/impl.argOk -/
def v155 : VFun := {
  code :=
    (.seq
    (.region false [0] [
      ⟨some 2, .asg (.c (.bool false)), none, []⟩])
    (.seq
    (.region false [2] [
      ⟨some 3, .mov (.t 0), none, []⟩,
      ⟨some 4, .len true 9 (.t 3), none, []⟩,
      ⟨some 5, .bin false .leq 3 (.t 4) (.c (.int .i64 12)), none, []⟩,
      ⟨some 6, .mov (.t 5), none, []⟩,
      ⟨some 7, .mov (.t 0), some (6, true), []⟩,
      ⟨some 8, .call 172 [(.t 7), (.c (.string (⟨#[97, 98, 99, 100, 101, 102, 103, 104, 105, 106, 107, 108, 109, 110, 111, 112, 113, 114, 115, 116, 117, 118, 119, 120, 121, 122, 65, 66, 67, 68, 69, 70, 71, 72, 73, 74, 75, 76, 77, 78, 79, 80, 81, 82, 83, 84, 85, 86, 87, 88, 89, 90, 48, 49, 50, 51, 52, 53, 54, 55, 56, 57]⟩ : ByteArray)))], some (6, true), []⟩,
      ⟨some 9, .bin false .eql 9 (.t 8) (.c (.string (⟨#[]⟩ : ByteArray))), some (6, true), []⟩,
      ⟨some 10, .pick (.t 6) (.t 9) (.c (.bool false)), none, []⟩,
      ⟨some 2, .asg (.t 10), none, []⟩])
    .ret))
  modes := [.lend]
  rets := [⟨2, none⟩] }

/-- loop.example/g00539/spec.l9Letter -/
def v171 : VFun := {
  code :=
    (.seq
    (.region false [0] [
      ⟨some 2, .asg (.c (.bool false)), none, []⟩])
    (.seq
    (.region false [2] [
      ⟨some 3, .mov (.t 0), none, []⟩,
      ⟨some 4, .bin false .geq 5 (.t 3) (.c (.int .u8 97)), none, []⟩,
      ⟨some 5, .mov (.t 4), none, []⟩,
      ⟨some 6, .mov (.t 0), some (5, true), []⟩,
      ⟨some 7, .bin false .leq 5 (.t 6) (.c (.int .u8 122)), some (5, true), []⟩,
      ⟨some 8, .pick (.t 5) (.t 7) (.c (.bool false)), none, []⟩,
      ⟨some 9, .mov (.t 8), none, []⟩,
      ⟨some 10, .mov (.t 0), some (9, false), []⟩,
      ⟨some 11, .bin false .geq 5 (.t 10) (.c (.int .u8 65)), some (9, false), []⟩,
      ⟨some 12, .mov (.t 11), some (9, false), []⟩,
      ⟨some 13, .mov (.t 0), some (12, true), []⟩,
      ⟨some 14, .bin false .leq 5 (.t 13) (.c (.int .u8 90)), some (12, true), []⟩,
      ⟨some 15, .pick (.t 12) (.t 14) (.c (.bool false)), some (9, false), []⟩,
      ⟨some 16, .pick (.t 9) (.c (.bool true)) (.t 15), none, []⟩,
      ⟨some 17, .mov (.t 16), none, []⟩,
      ⟨some 18, .mov (.t 0), some (17, false), []⟩,
      ⟨some 19, .bin false .geq 5 (.t 18) (.c (.int .u8 48)), some (17, false), []⟩,
      ⟨some 20, .mov (.t 19), some (17, false), []⟩,
      ⟨some 21, .mov (.t 0), some (20, true), []⟩,
      ⟨some 22, .bin false .leq 5 (.t 21) (.c (.int .u8 57)), some (20, true), []⟩,
      ⟨some 23, .pick (.t 20) (.t 22) (.c (.bool false)), some (17, false), []⟩,
      ⟨some 24, .pick (.t 17) (.c (.bool true)) (.t 23), none, []⟩,
      ⟨some 2, .asg (.t 24), none, []⟩])
    .ret))
  modes := [.lend]
  rets := [⟨2, none⟩] }

def tab : List (Nat × VFun) := [(10, v10), (38, v38), (39, v39), (40, v40), (41, v41), (42, v42), (43, v43), (44, v44), (45, v45), (46, v46), (79, v79), (80, v80), (93, v93), (94, v94), (102, v102), (103, v103), (104, v104), (105, v105), (107, v107), (108, v108), (109, v109), (110, v110), (111, v111), (112, v112), (113, v113), (114, v114), (147, v147), (148, v148), (153, v153), (154, v154), (155, v155), (171, v171)]
def F (f : FuncId) : Option VFun := getA none (tab.map fun x => (x.1, some x.2)) f
theorem tab_ok : tab.all (fun x => matchFun Tryd.prog x.1 x.2) = true := by kernel_rfl
theorem F_mem {f : FuncId} {fn : VFun} : ∀ {l : List (Nat × VFun)}, getA none (l.map fun x => (x.1, some x.2)) f = some fn → (f, fn) ∈ l
  | [], h => by simp [getA] at h
  | (k, v) :: l, h => by
    simp only [List.map_cons, getA] at h
    split at h
    · rename_i e
      injection h with h
      subst e; subst h
      exact List.mem_cons_self ..
    · exact List.mem_cons_of_mem _ (F_mem h)
theorem F_ok (f : FuncId) (fn : VFun) (h : F f = some fn) : matchFun Tryd.prog f fn = true := List.all_eq_true.1 tab_ok _ (F_mem h)
end Go.Proofs.YtfmkbpiobddhdaaDoor.Windows
